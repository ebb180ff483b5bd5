/- Joined by a program of this session (pack.py) out of: BaseOx Odp Odmr Odnr Odq Ods3 Odsr -/
import Derived.Test.YtcdcpnhlmgmnkaaDoorKot6
import Derived.Test.YtcdcpnhlmgmnkaaDoorKot11
import Derived.Test.YtcdcpnhlmgmnkaaDoorKot12
section
/- What the print of OddsTells takes as given. -/
end
section
/- The document's part: two numbers multiplied, by a third one, bit by bit. -/
namespace Go.Proofs.YtcdcpnhlmgmnkaaDoor.Odd
open Go.RowKit Go.Proofs.YtcdcpnhlmgmnkaaDoor.Base Go.Proofs.YtcdcpnhlmgmnkaaDoor.Podr Go.Proofs.YtcdcpnhlmgmnkaaDoorW.PrintWords Go.Proofs.YtcdcpnhlmgmnkaaDoorW.PrintLast Go.Proofs.YtcdcpnhlmgmnkaaDoorW.PrintMore
set_option linter.unusedSimpArgs false
set_option linter.unusedVariables false
theorem divmod_of {n q r b : Nat} (hb : 0 < b) (h : n = b * q + r) (hr : r < b) : n / b = q ∧ n % b = r := by
  subst h
  exact ⟨by rw [Nat.mul_add_div hb, Nat.div_eq_of_lt hr, Nat.add_zero], by rw [Nat.mul_add_mod, Nat.mod_eq_of_lt hr]⟩
theorem dbl_div {X b : Nat} (hb : 0 < b) : (2 * X) / b = 2 * (X / b) + (if b ≤ 2 * (X % b) then 1 else 0) ∧ (2 * X) % b = 2 * (X % b) - (if b ≤ 2 * (X % b) then b else 0) := by
  have h := Nat.div_add_mod X b
  have hl := Nat.mod_lt X hb
  by_cases c : b ≤ 2 * (X % b)
  · rw [if_pos c, if_pos c]
    refine divmod_of hb ?_ (by omega)
    rw [Nat.mul_add, Nat.mul_left_comm, Nat.mul_one]
    omega
  · rw [if_neg c, if_neg c]
    refine divmod_of hb ?_ (by omega)
    rw [Nat.add_zero, Nat.mul_left_comm]
    omega
theorem add_div {X c b : Nat} (hb : 0 < b) : (X + c) / b = X / b + c / b + (if b ≤ X % b + c % b then 1 else 0) ∧ (X + c) % b = X % b + c % b - (if b ≤ X % b + c % b then b else 0) := by
  have h := Nat.div_add_mod X b
  have h' := Nat.div_add_mod c b
  have hl := Nat.mod_lt X hb
  have hl' := Nat.mod_lt c hb
  by_cases d : b ≤ X % b + c % b
  · rw [if_pos d, if_pos d]
    refine divmod_of hb ?_ (by omega)
    rw [Nat.mul_add, Nat.mul_add, Nat.mul_one]
    omega
  · rw [if_neg d, if_neg d]
    refine divmod_of hb ?_ (by omega)
    rw [Nat.add_zero, Nat.mul_add]
    omega
theorem wrap_dv {a b : Nat} (h : a < 18446744073709551616) : IntKind.u64.wrap (Int.tdiv (a : Int) (b : Int)) = ((a / b : Nat) : Int) := by
  have := Nat.div_le_self a b
  rw [tdiv_nat, wrap_u (Int.natCast_nonneg _) (by omega)]
theorem part_l0 {a b by_ : Nat} (ha : a < 18446744073709551616) (hb : b < 18446744073709551616) (hy : 0 < by_) (hy64 : by_ < 18446744073709551616) :
    ∀ n : Nat, n ≤ 64 → Tells (fun k => joustref32_part.l0 k (a : Int) (b : Int) (by_ : Int) ((a / 2 ^ n * b / by_ % 18446744073709551616 : Nat) : Int) ((a / 2 ^ n * b % by_ : Nat) : Int) ((n : Int) - 1))
      (((a * b / by_ % 18446744073709551616 : Nat) : Int), ((a * b % by_ : Nat) : Int))
  | 0, _ => by
    refine Tells.succ (g := fun _ => some _) (fun k => by simp only [joustref32_part.l0]; rw [if_neg (by omega)]) ?_
    rw [Nat.pow_zero, Nat.div_one]
    exact Tells.const _
  | n + 1, hn => by
    have ih := part_l0 ha hb hy hy64 n (by omega)
    have hA : a / 2 ^ n = 2 * (a / 2 ^ (n + 1)) + a / 2 ^ n % 2 := by
      rw [Nat.pow_succ, ← Nat.div_div_eq_div_mul]
      omega
    have hX : a / 2 ^ n * b = 2 * (a / 2 ^ (n + 1) * b) + a / 2 ^ n % 2 * b := by
      conv => lhs; rw [hA]
      rw [Nat.add_mul, Nat.mul_assoc]
    have wn : IntKind.u64.wrap (((n + 1 : Nat) : Int) - 1) = (n : Int) := by rw [wrap_u (by omega) (by omega)]; omega
    have wi : wrap64 (((n + 1 : Nat) : Int) - 1 - 1) = (n : Int) - 1 := by rw [wrap_i (by omega) (by omega)]; omega
    have wsh : shr .u64 (a : Int) (n : Int) = ((a / 2 ^ n : Nat) : Int) := shr_n (by omega)
    generalize hx : a / 2 ^ (n + 1) * b = X at *
    obtain ⟨d1, d2⟩ := dbl_div (X := X) hy
    have hl := Nat.mod_lt X hy
    have hb2 := Nat.mod_lt b hy
    have hbd := Nat.div_le_self b by_
    -- behind the doubling
    have hj : Tells (fun k => joustref32_part.j1 k (a : Int) (b : Int) (by_ : Int) ((2 * X / by_ % 18446744073709551616 : Nat) : Int) ((2 * X % by_ : Nat) : Int) (((n + 1 : Nat) : Int) - 1)) (((a * b / by_ % 18446744073709551616 : Nat) : Int), ((a * b % by_ : Nat) : Int)) := by
      have hm : Int.tmod ((a / 2 ^ n : Nat) : Int) 2 = ((a / 2 ^ n % 2 : Nat) : Int) := tmod_nat _ 2
      have hr := Nat.mod_lt (2 * X) hy
      refine Tells.succ (fun k => by simp only [joustref32_part.j1, wn, wi, wsh, hm]; rw [if_pos (by omega)]) ?_
      rcases Nat.mod_two_eq_zero_or_one (a / 2 ^ n) with h0 | h0
      · rw [h0] at hX ⊢
        refine Tells.neg (by decide) ?_
        rw [Nat.zero_mul, Nat.add_zero] at hX
        rw [hX] at ih
        exact ih
      · rw [h0] at hX ⊢
        rw [Nat.one_mul] at hX
        refine Tells.pos rfl (Tells.neg (by omega) ?_)
        rw [hX] at ih
        obtain ⟨s1, s2⟩ := add_div (X := 2 * X) (c := b) hy
        rw [tmod_nat, wrap_dv hb]
        have w1 : IntKind.u64.wrap ((by_ : Int) - ((b % by_ : Nat) : Int)) = ((by_ - b % by_ : Nat) : Int) := by rw [wrap_u (by omega) (by omega)]; omega
        rw [w1]
        by_cases c : by_ ≤ 2 * X % by_ + b % by_
        · rw [if_pos c] at s1 s2
          refine Tells.pos (by omega) ?_
          refine Tells.congr (fun k => ?_) ih
          rw [s1, s2]
          congr 1
          · simp only [IntKind.wrap_u64]; omega
          · simp only [IntKind.wrap_u64]; omega
        · rw [if_neg c] at s1 s2
          refine Tells.neg (by omega) ?_
          refine Tells.congr (fun k => ?_) ih
          rw [s1, s2]
          congr 1
          · simp only [IntKind.wrap_u64]; omega
          · simp only [IntKind.wrap_u64]; omega
    have w2 : IntKind.u64.wrap ((by_ : Int) - ((X % by_ : Nat) : Int)) = ((by_ - X % by_ : Nat) : Int) := by rw [wrap_u (by omega) (by omega)]; omega
    refine Tells.succ (fun k => by simp only [joustref32_part.l0, w2]; rw [if_pos (by omega)]) ?_
    by_cases c : by_ ≤ 2 * (X % by_)
    · rw [if_pos c] at d1 d2
      refine Tells.pos (by omega) (Tells.congr (fun k => ?_) hj)
      rw [d1, d2]
      congr 1
      · simp only [IntKind.wrap_u64]; omega
      · simp only [IntKind.wrap_u64]; omega
    · rw [if_neg c] at d1 d2
      refine Tells.neg (by omega) (Tells.congr (fun k => ?_) hj)
      rw [d1, d2]
      congr 1
      · simp only [IntKind.wrap_u64]; omega
      · simp only [IntKind.wrap_u64]; omega
theorem half_bd {x y : Nat} (hx : x < 4294967296) (hy : y < 4294967296) : x * y ≤ 18446744065119617025 := by
  have : x * y ≤ 4294967295 * 4294967295 := Nat.mul_le_mul (by omega) (by omega)
  omega
theorem words_f {a b : Nat} (ha : a < 18446744073709551616) (hb : b < 18446744073709551616) : joustref32_words.f (a : Int) (b : Int) = some (((a * b / 18446744073709551616 : Nat) : Int), ((a * b % 18446744073709551616 : Nat) : Int)) := by
  have e1 : IntKind.u64.wrap (Int.tdiv (a : Int) 4294967296) = ((a / 4294967296 : Nat) : Int) := wrap_dv (b := 4294967296) ha
  have e2 : IntKind.u64.wrap (Int.tdiv (b : Int) 4294967296) = ((b / 4294967296 : Nat) : Int) := wrap_dv (b := 4294967296) hb
  have e3 : Int.tmod (a : Int) 4294967296 = ((a % 4294967296 : Nat) : Int) := tmod_nat a 4294967296
  have e4 : Int.tmod (b : Int) 4294967296 = ((b % 4294967296 : Nat) : Int) := tmod_nat b 4294967296
  have hx : a / 4294967296 < 4294967296 := by omega
  have hz : b / 4294967296 < 4294967296 := by omega
  have hy : a % 4294967296 < 4294967296 := by omega
  have hw : b % 4294967296 < 4294967296 := by omega
  have hA := Nat.div_add_mod a 4294967296
  have hB := Nat.div_add_mod b 4294967296
  have hab : a * b = a / 4294967296 * (b / 4294967296) * 18446744073709551616 + (a / 4294967296 * (b % 4294967296) + a % 4294967296 * (b / 4294967296)) * 4294967296 + a % 4294967296 * (b % 4294967296) := by
    conv => lhs; rw [← hA, ← hB]
    generalize a / 4294967296 = x
    generalize b / 4294967296 = z
    generalize a % 4294967296 = y
    generalize b % 4294967296 = w
    rw [Nat.add_mul, Nat.mul_add, Nat.mul_add, Nat.mul_mul_mul_comm, Nat.mul_assoc 4294967296 x w, Nat.mul_left_comm y 4294967296 z]
    omega
  have hlt : a * b < 340282366920938463463374607431768211456 := by
    have : a * b ≤ 18446744073709551615 * 18446744073709551615 := Nat.mul_le_mul (by omega) (by omega)
    omega
  have b1 := half_bd hx hz
  have b2 := half_bd hx hw
  have b3 := half_bd hy hz
  have b4 := half_bd hy hw
  rw [hab] at hlt
  unfold joustref32_words.f
  simp only [e1, e2, e3, e4, ← Int.natCast_mul]
  rw [hab]
  generalize a / 4294967296 * (b / 4294967296) = P at *
  generalize a / 4294967296 * (b % 4294967296) = Q at *
  generalize a % 4294967296 * (b / 4294967296) = R at *
  generalize a % 4294967296 * (b % 4294967296) = L at *
  clear hab hA hB e1 e2 e3 e4 ha hb hx hz hy hw
  have k1 : IntKind.u64.wrap (L : Int) = (L : Int) := wrap_u (by omega) (by omega)
  have k2 : IntKind.u64.wrap (Int.tdiv (L : Int) 4294967296) = ((L / 4294967296 : Nat) : Int) := wrap_dv (b := 4294967296) (by omega)
  have k3 : IntKind.u64.wrap (Q : Int) = (Q : Int) := wrap_u (by omega) (by omega)
  have k4 : IntKind.u64.wrap ((Q : Int) + ((L / 4294967296 : Nat) : Int)) = ((Q + L / 4294967296 : Nat) : Int) := by rw [wrap_u (by omega) (by omega)]; omega
  have k5 : IntKind.u64.wrap (Int.tdiv ((Q + L / 4294967296 : Nat) : Int) 4294967296) = (((Q + L / 4294967296) / 4294967296 : Nat) : Int) := wrap_dv (b := 4294967296) (by omega)
  have k6 : Int.tmod ((Q + L / 4294967296 : Nat) : Int) 4294967296 = (((Q + L / 4294967296) % 4294967296 : Nat) : Int) := tmod_nat _ 4294967296
  have k7 : IntKind.u64.wrap (R : Int) = (R : Int) := wrap_u (by omega) (by omega)
  have k8 : IntKind.u64.wrap ((R : Int) + (((Q + L / 4294967296) % 4294967296 : Nat) : Int)) = ((R + (Q + L / 4294967296) % 4294967296 : Nat) : Int) := by rw [wrap_u (by omega) (by omega)]; omega
  have k9 : IntKind.u64.wrap (Int.tdiv ((R + (Q + L / 4294967296) % 4294967296 : Nat) : Int) 4294967296) = (((R + (Q + L / 4294967296) % 4294967296) / 4294967296 : Nat) : Int) := wrap_dv (b := 4294967296) (by omega)
  have k10 : Int.tmod ((R + (Q + L / 4294967296) % 4294967296 : Nat) : Int) 4294967296 = (((R + (Q + L / 4294967296) % 4294967296) % 4294967296 : Nat) : Int) := tmod_nat _ 4294967296
  have k11 : IntKind.u64.wrap (P : Int) = (P : Int) := wrap_u (by omega) (by omega)
  have k12 : Int.tmod (L : Int) 4294967296 = ((L % 4294967296 : Nat) : Int) := tmod_nat _ 4294967296
  simp only [k1, k2, k3, k4, k5, k6, k7, k8, k9, k10, k11, k12]
  congr 2
  · simp only [IntKind.wrap_u64]; omega
  · simp only [IntKind.wrap_u64]; omega
/-! ### digits -/
theorem one_digit : ∀ i : Fin 10, (⟨#[48, 49, 50, 51, 52, 53, 54, 55, 56, 57]⟩ : ByteArray).extract i.val (i.val + 1) = ⟨[UInt8.ofNat (48 + i.val)].toArray⟩ := by decide +kernel
theorem dec_step {n : Nat} (h : ¬ n < 10) : Lib.decDigits n = Lib.decDigits (n / 10) ++ [UInt8.ofNat (48 + n % 10)] := by
  rw [Lib.decDigits, dif_neg h]
theorem dec_len : ∀ (n : Nat), n < 18446744073709551616 → (Lib.decDigits n).length ≤ 20 := by
  intro n h
  rw [Lib.decDigits_length]
  by_cases h0 : n < 10
  · rw [Lib.nDigits_small h0]; omega
  · have := Lib.numDigits_eq n (by omega) h
    split at this <;> omega
theorem digits_ev : ∀ n : Nat, n < 18446744073709551616 → Tells (fun k => joustref32_digits.f k (n : Int)) ⟨(Lib.decDigits n).toArray⟩ := by
  intro n
  induction n using Nat.strongRecOn with
  | _ n ih =>
    intro h
    have e1 : Int.tmod (n : Int) 10 = ((n % 10 : Nat) : Int) := tmod_nat n 10
    have e2 : IntKind.u64.wrap (((n % 10 : Nat) : Int) + 1) = ((n % 10 + 1 : Nat) : Int) := by rw [wrap_u (by omega) (by omega)]; omega
    have e3 : IntKind.u64.wrap (Int.tdiv (n : Int) 10) = ((n / 10 : Nat) : Int) := wrap_dv (b := 10) h
    have e4 := one_digit ⟨n % 10, by omega⟩
    simp only at e4
    by_cases c : n < 10
    · refine Tells.succ (g := fun _ => some ⟨(Lib.decDigits n).toArray⟩) (fun k => ?_) (Tells.const _)
      simp only [joustref32_digits.f, e1, e2, Int.toNat_natCast, e4]
      rw [if_pos (by omega), if_pos (by omega), if_pos (by omega), if_pos (by omega), Lib.decDigits_one c, Nat.mod_eq_of_lt c]
    · have h2 := ih (n / 10) (by omega) (by omega)
      have hl := dec_len (n / 10) (by omega)
      refine Tells.succ (fun k => by simp only [joustref32_digits.f, e1, e2, e3, Int.toNat_natCast, e4]; rw [if_pos (by omega), if_pos (by omega), if_pos (by omega), if_neg (by omega)]) ?_
      refine Tells.bind h2 (Tells.of fun _ => ?_)
      rw [if_pos (by simp [ba_size]; omega), dec_step c]
      congr 1
end Go.Proofs.YtcdcpnhlmgmnkaaDoor.Odd
end
section
/- How many sets there are: the document's, row by row. -/
namespace Go.Proofs.YtcdcpnhlmgmnkaaDoor.Odd
open Go.RowKit Go.Proofs.YtcdcpnhlmgmnkaaDoor.Base Go.Proofs.YtcdcpnhlmgmnkaaDoor.Podd Go.Proofs.YtcdcpnhlmgmnkaaDoor.Podr Go.Proofs.YtcdcpnhlmgmnkaaDoorW.PrintWords Go.Proofs.YtcdcpnhlmgmnkaaDoorW.PrintLast

/-! ### the document's: row by row -/
def row (i m : Nat) : List Int := (List.range m).map fun j => ((C i j : Nat) : Int)
theorem row_len (i m : Nat) : (row i m).length = m := by simp [row]
theorem row_rd (i m j : Nat) (h : j < m) : rd (row i m) (j : Int) = ((C i j : Nat) : Int) := by simp [rd, row, h]
theorem row_snoc (i m : Nat) : row i m ++ [((C i m : Nat) : Int)] = row i (m + 1) := by simp [row, List.range_succ]
theorem ref_l1 (n k : Int) (v : Int) (i : Nat) (hi : 1 ≤ i) (hi60 : i ≤ 60) (hl : Tells (fun f => joustref32_sets.l0 f n k (row i (i + 1)) ((i : Int) + 1)) v) : ∀ (d m : Nat), m + d = i → 1 ≤ m →
    Tells (fun f => joustref32_sets.l1 f n k (row (i - 1) i) (i : Int) (row i m) (m : Int)) v
  | 0, m, hm, _ => by
    obtain rfl : m = i := by omega
    refine Tells.succ (g := fun f => joustref32_sets.l0 f n k (row m (m + 1)) ((m : Int) + 1)) (fun f => ?_) hl
    simp only [joustref32_sets.l1, Int.lt_irrefl, if_false, row_len, show m < 17592186044416 by omega, if_true, wrap_i (show -9223372036854775808 ≤ (m : Int) + 1 by omega) (by omega)]
    rw [← row_snoc, C_self]
    rfl
  | d + 1, m, hm, h1 => by
    have ih := ref_l1 n k v i hi hi60 hl d (m + 1) (by omega) (by omega)
    refine Tells.succ (fun f => ?_) ih
    have e1 : wrap64 ((m : Int) - 1) = ((m - 1 : Nat) : Int) := by rw [wrap_i (by omega) (by omega)]; omega
    have e2 : wrap64 ((m : Int) + 1) = ((m + 1 : Nat) : Int) := by rw [wrap_i (by omega) (by omega)]; omega
    have b1 := C_le60 (n := i - 1) (by omega) (m - 1)
    have b2 := C_le60 (n := i - 1) (by omega) m
    have e3 : IntKind.u64.wrap (((C (i - 1) (m - 1) : Nat) : Int) + ((C (i - 1) m : Nat) : Int)) = ((C i m : Nat) : Int) := by
      rw [wrap_u (by omega) (by omega)]
      obtain ⟨i', rfl⟩ : ∃ i', i = i' + 1 := ⟨i - 1, by omega⟩
      obtain ⟨m', rfl⟩ : ∃ m', m = m' + 1 := ⟨m - 1, by omega⟩
      simp [C]
    simp only [joustref32_sets.l1, e1, e2, row_len, row_rd (i - 1) i (m - 1) (by omega), row_rd (i - 1) i m (by omega), e3, row_snoc]
    rw [if_pos (by omega), if_pos (by omega), if_pos (by omega), if_pos (by omega), if_pos (by omega), if_pos (by omega)]
theorem ref_l0 (n k : Nat) (hn : n ≤ 60) (hk : k ≤ n) : ∀ (d i : Nat), i + d = n →
    Tells (fun f => joustref32_sets.l0 f (n : Int) (k : Int) (row i (i + 1)) ((i : Int) + 1)) ((C n k : Nat) : Int)
  | 0, i, hi => by
    obtain rfl : i = n := by omega
    refine Tells.succ (g := fun _ => some ((C i k : Nat) : Int)) (fun f => ?_) (Tells.const _)
    simp only [joustref32_sets.l0, row_len, row_rd i (i + 1) k (by omega)]
    rw [if_neg (by omega), if_pos (by omega), if_pos (by omega)]
  | d + 1, i, hi => by
    have ih := ref_l0 n k hn hk d (i + 1) (by omega)
    have h := ref_l1 n k _ (i + 1) (by omega) (by omega) ih i 1 (by omega) (by omega)
    refine Tells.succ (fun f => ?_) h
    simp only [joustref32_sets.l0]
    rw [if_pos (by omega)]
    simp [row, C_zero]
theorem ref_sets_ev {n : Int} (h0 : 0 ≤ n) (h1 : n ≤ 60) (k : Int) : Tells (fun f => joustref32_sets.f f n k) (Cz n k) := by
  obtain ⟨n, rfl⟩ := Int.eq_ofNat_of_zero_le h0
  by_cases c : k < 0
  · rw [Cz_neg c]
    refine Tells.succ (g := fun _ => some 0) (fun f => ?_) (Tells.const 0)
    unfold joustref32_sets.f
    rw [if_pos c]
    rfl
  · obtain ⟨k, rfl⟩ := Int.eq_ofNat_of_zero_le (show 0 ≤ k by omega)
    rw [Cz_nat]
    by_cases d : n < k
    · rw [C_gt _ _ d]
      refine Tells.succ (g := fun _ => some 0) (fun f => ?_) (Tells.const 0)
      unfold joustref32_sets.f
      rw [if_neg c, show decide ((k : Int) > (n : Int)) = true by simp; omega]
      rfl
    · refine Tells.succ (fun f => ?_) (ref_l0 n k (by omega) (by omega) n 0 (by omega))
      unfold joustref32_sets.f
      rw [if_neg c, show decide ((k : Int) > (n : Int)) = false by simp; omega]
      simp [joustref32_sets.j0, row, C_zero]
end Go.Proofs.YtcdcpnhlmgmnkaaDoor.Odd
end
section
/- What the chances' calls tell, in plain words: divisor, Make, Exactly, Least, of the code and of the document. -/
namespace Go.Proofs.YtcdcpnhlmgmnkaaDoor.Odd
open Go.RowKit Go.Proofs.YtcdcpnhlmgmnkaaDoor.Base Go.Proofs.YtcdcpnhlmgmnkaaDoor.Podd Go.Proofs.YtcdcpnhlmgmnkaaDoor.Podr Go.Proofs.YtcdcpnhlmgmnkaaDoorW.PrintWords Go.Proofs.YtcdcpnhlmgmnkaaDoorW.PrintLast Go.Proofs.YtcdcpnhlmgmnkaaDoorW.PrintMore
set_option linter.unusedSimpArgs false
set_option linter.unusedVariables false

theorem ref_divisor_ev : ∀ (b a : Nat), Tells (fun k => joustref32_divisor.f k (a : Int) (b : Int)) ((Nat.gcd a b : Nat) : Int) := by
  intro b
  induction b using Nat.strongRecOn with
  | _ b ih =>
    intro a
    by_cases hb : b = 0
    · subst hb
      refine Tells.succ (g := fun _ => some (a : Int)) (fun k => ?_) (by rw [Nat.gcd_zero_right]; exact Tells.const _)
      simp [joustref32_divisor.f, joustref32_divisor.l0]
    · have h := ih (a % b) (Nat.mod_lt _ (by omega)) b
      rw [gcd_step] at h
      refine Tells.succ (fun k => ?_) h
      simp only [joustref32_divisor.f, joustref32_divisor.l0, tmod_nat]
      rw [if_pos (by omega), if_neg (by omega)]
theorem ref_Make_ev {num den : Int} (h0 : 0 ≤ num) (h1 : 0 ≤ den) (h2 : den < 18446744073709551616) : Tells (fun k => joustref32_Make.f k num den) (makeV num den) := by
  obtain ⟨num, rfl⟩ := Int.eq_ofNat_of_zero_le h0
  obtain ⟨den, rfl⟩ := Int.eq_ofNat_of_zero_le h1
  unfold makeV
  by_cases c : (den : Int) = 0
  · rw [if_pos c]; exact Tells.of fun k => by unfold joustref32_Make.f; rw [if_pos c]
  · rw [if_neg c]
    by_cases d : (num : Int) > (den : Int)
    · rw [if_pos d]; exact Tells.of fun k => by unfold joustref32_Make.f; rw [if_neg c, if_pos d]
    · rw [if_neg d]
      refine Tells.congr (fun k => by unfold joustref32_Make.f; rw [if_neg c, if_neg d]) (Tells.bind (ref_divisor_ev den num) (Tells.of fun k => ?_))
      have b1 : num / Nat.gcd num den ≤ num := Nat.div_le_self _ _
      have b2 : den / Nat.gcd num den ≤ den := Nat.div_le_self _ _
      rw [if_neg (make_aux (by omega)), tdiv_nat, tdiv_nat, wrap_u (Int.natCast_nonneg _) (Int.lt_of_le_of_lt (Int.ofNat_le.2 b1) (by omega)), wrap_u (Int.natCast_nonneg _) (Int.lt_of_le_of_lt (Int.ofNat_le.2 b2) h2)]
      simp

end Go.Proofs.YtcdcpnhlmgmnkaaDoor.Odd
end
section
/- A chance's text, its opposite, what is more: the code's and the document's. -/
namespace Go.Proofs.YtcdcpnhlmgmnkaaDoor.Odd
open Go.RowKit Go.Proofs.YtcdcpnhlmgmnkaaDoor.Base Go.Proofs.YtcdcpnhlmgmnkaaDoor.Podd Go.Proofs.YtcdcpnhlmgmnkaaDoor.Podr Go.Proofs.YtcdcpnhlmgmnkaaDoorW.PrintWords Go.Proofs.YtcdcpnhlmgmnkaaDoorW.PrintLast Go.Proofs.YtcdcpnhlmgmnkaaDoorW.PrintMore
set_option linter.unusedSimpArgs false
set_option linter.unusedVariables false
theorem ref_may_ev (n d : Nat) : Tells (fun k => joustref32_May.f k (n : Int) (d : Int)) (decide (MayQ n d)) := by
  unfold joustref32_May.f
  by_cases h1 : 0 < d
  · refine Tells.pos (by omega) ?_
    by_cases h2 : n ≤ d
    · refine Tells.pos (by omega) (Tells.bind (ref_divisor_ev d n) (Tells.of fun _ => ?_))
      by_cases h3 : Nat.gcd n d = 1
      · rw [decide_eq_true (show MayQ n d from ⟨h1, h2, h3⟩), h3]
        rfl
      · rw [decide_eq_false (show ¬ MayQ n d from fun h => h3 h.2.2)]
        exact congrArg some (beq_eq_false_iff_ne.mpr (by omega))
    · rw [decide_eq_false (show ¬ MayQ n d from fun h => h2 h.2.1)]
      exact Tells.neg (by omega) (Tells.const _)
  · rw [decide_eq_false (show ¬ MayQ n d from fun h => h1 h.1)]
    exact Tells.neg (by omega) (Tells.const _)
theorem ref_not_ev {n d : Nat} (h64 : d < 18446744073709551616) : Tells (fun k => joustref32_Not.f k (n : Int) (d : Int)) (notV n d) := by
  unfold joustref32_Not.f notV
  have hm := ref_may_ev n d
  by_cases h : MayQ n d
  · rw [decide_eq_true h] at hm
    have h2 := h.2.1
    have ws : IntKind.u64.wrap ((d : Int) - (n : Int)) = ((d - n : Nat) : Int) := by rw [wrap_u (by omega) (by omega)]; omega
    rw [if_pos h, ws]
    have hk := ref_Make_ev (num := ((d - n : Nat) : Int)) (den := (d : Int)) (by omega) (by omega) (by omega)
    rw [makeV_may (mayQ_not h)] at hk
    exact Tells.bind hm (Tells.pos rfl (Tells.bind hk (Tells.of fun _ => rfl)))
  · rw [decide_eq_false h] at hm
    rw [if_neg h]
    exact Tells.bind hm (Tells.neg (by decide) (Tells.const _))
theorem ref_order_ev {an ad bn bd : Nat} (h1 : an < 18446744073709551616) (h2 : ad < 18446744073709551616) (h3 : bn < 18446744073709551616) (h4 : bd < 18446744073709551616) :
    Tells (fun k => joustref32_order.f k (an : Int) (ad : Int) (bn : Int) (bd : Int)) (cmpV (an * bd) (bn * ad)) := by
  unfold joustref32_order.f
  refine Tells.bind (Tells.of fun _ => words_f h1 h4) (Tells.bind (Tells.of fun _ => words_f h3 h2) ?_)
  generalize an * bd = X
  generalize bn * ad = Y
  have jt : ∀ x5 x6 x7 x8 : Int, Tells (fun k => joustref32_order.j0 k x5 x6 x7 x8 true) (-1) := fun x5 x6 x7 x8 =>
    Tells.succ (g := fun _ => some (-1)) (fun k => by simp only [joustref32_order.j0, if_true]) (Tells.const _)
  have jf : ¬ X < Y → Tells (fun k => joustref32_order.j0 k ((X / 18446744073709551616 : Nat) : Int) ((X % 18446744073709551616 : Nat) : Int) ((Y / 18446744073709551616 : Nat) : Int) ((Y % 18446744073709551616 : Nat) : Int) false) (cmpV X Y) := by
    intro hn
    refine Tells.succ (fun k => by simp only [joustref32_order.j0]; rw [if_neg (by decide)]) ?_
    unfold cmpV
    rw [if_neg hn]
    by_cases c1 : Y / 18446744073709551616 < X / 18446744073709551616
    · rw [show (if Y < X then (1 : Int) else 0) = 1 from if_pos (by omega)]
      exact Tells.pos (by omega) (Tells.const _)
    · refine Tells.neg (by omega) ?_
      by_cases c2 : Y % 18446744073709551616 < X % 18446744073709551616
      · rw [show (if Y < X then (1 : Int) else 0) = 1 from if_pos (by omega)]
        exact Tells.pos (by omega) (Tells.const _)
      · rw [show (if Y < X then (1 : Int) else 0) = 0 from if_neg (by omega)]
        exact Tells.neg (by omega) (Tells.const _)
  by_cases c1 : X / 18446744073709551616 < Y / 18446744073709551616
  · rw [show cmpV X Y = -1 by unfold cmpV; rw [if_pos (by omega)]]
    exact Tells.pos (by omega) (jt _ _ _ _)
  · refine Tells.neg (by omega) ?_
    by_cases c2 : X / 18446744073709551616 = Y / 18446744073709551616
    · refine Tells.pos (by omega) ?_
      by_cases c3 : X % 18446744073709551616 < Y % 18446744073709551616
      · rw [decide_eq_true (by omega), show cmpV X Y = -1 by unfold cmpV; rw [if_pos (by omega)]]
        exact jt _ _ _ _
      · rw [decide_eq_false (by omega)]
        exact jf (by omega)
    · exact Tells.neg (by omega) (jf (by omega))
theorem ref_compare_ev {an ad bn bd : Nat} (h1 : an < 18446744073709551616) (h2 : ad < 18446744073709551616) (h3 : bn < 18446744073709551616) (h4 : bd < 18446744073709551616) : Tells (fun k => joustref32_Compare.f k (an : Int) (ad : Int) (bn : Int) (bd : Int)) (cmpIV an ad bn bd) := by
  unfold joustref32_Compare.f cmpIV
  have m1 := ref_may_ev an ad
  have m2 := ref_may_ev bn bd
  by_cases ha : MayQ an ad
  · rw [decide_eq_true ha] at m1
    refine Tells.bind m1 (Tells.pos rfl (Tells.bind m2 ?_))
    by_cases hb : MayQ bn bd
    · rw [decide_eq_true hb, if_pos ⟨ha, hb⟩]
      exact Tells.pos rfl (Tells.bind (ref_order_ev h1 h2 h3 h4) (Tells.of fun _ => rfl))
    · rw [decide_eq_false hb, if_neg (fun h => hb h.2)]
      exact Tells.neg (by decide) (Tells.const _)
  · rw [decide_eq_false ha] at m1
    rw [if_neg (fun h => ha h.1)]
    exact Tells.bind m1 (Tells.neg (by decide) (Tells.const _))
end Go.Proofs.YtcdcpnhlmgmnkaaDoor.Odd
end
section
/- A chance's text: the code's and the document's. -/
namespace Go.Proofs.YtcdcpnhlmgmnkaaDoor.Odd
open Go.RowKit Go.Proofs.YtcdcpnhlmgmnkaaDoor.Base Go.Proofs.YtcdcpnhlmgmnkaaDoor.Podd Go.Proofs.YtcdcpnhlmgmnkaaDoor.Podr Go.Proofs.YtcdcpnhlmgmnkaaDoorW.PrintWords Go.Proofs.YtcdcpnhlmgmnkaaDoorW.PrintLast Go.Proofs.YtcdcpnhlmgmnkaaDoorW.PrintMore
set_option linter.unusedSimpArgs false
set_option linter.unusedVariables false
def num (n : Nat) : ByteArray := ⟨(Lib.decDigits n).toArray⟩
theorem num_size (n : Nat) (h : n < 18446744073709551616) : 1 ≤ (num n).size ∧ (num n).size ≤ 20 := by
  have h1 : (num n).size = (Lib.decDigits n).length := ba_size _
  have h2 := dec_len n h
  have h3 : (Lib.decDigits n).length ≠ 0 := by
    rw [Lib.decDigits_length]
    by_cases h0 : n < 10
    · rw [Lib.nDigits_small h0]; decide
    · rw [Lib.nDigits_big h0]; omega
  omega
/-- hundredths as a text -/
def hund (v : Nat) : ByteArray := ((num (v / 100) ++ (⟨#[46]⟩ : ByteArray)) ++ ((num (100 + v % 100)).extract 1 (num (100 + v % 100)).size)) ++ (⟨#[37]⟩ : ByteArray)
def textV (n d : Nat) : ByteArray := if MayQ n d then hund (n * 10000 / d % 18446744073709551616) else ⟨#[]⟩
theorem ext_size (v : Nat) : ((num (100 + v % 100)).extract 1 (num (100 + v % 100)).size).size ≤ 20 := by
  have := num_size (100 + v % 100) (by omega)
  rw [ByteArray.size_extract, Nat.min_self]
  omega
theorem one_size (c : UInt8) : (⟨#[c]⟩ : ByteArray).size = 1 := rfl
theorem fmt_f {n : Nat} (h : n < 18446744073709551616) : strconv_FormatUint.f (n : Int) 10 = some (num n) := by
  unfold strconv_FormatUint.f
  rw [if_pos ⟨⟨by omega, by omega⟩, rfl⟩, Int.toNat_natCast]
  rfl
theorem text_ev {n d : Nat} (h64 : d < 18446744073709551616) : Tells (fun k => odds_Text.f k (n : Int) (d : Int)) (textV n d) := by
  unfold odds_Text.f textV
  have hm := may_ev n d
  by_cases h : MayQ n d
  · rw [decide_eq_true h] at hm
    rw [if_pos h]
    have hn : n < 18446744073709551616 := by have := h.2.1; omega
    refine Tells.bind hm (Tells.pos rfl (Tells.bind (Tells.of fun _ => times_f (a := n) (b := 10000) hn (by decide)) (Tells.bind (by_ev (mul_lt64 hn (by decide)) h.1 h64) ?_)))
    have hv : n * 10000 / d % 18446744073709551616 < 18446744073709551616 := Nat.mod_lt _ (by decide)
    generalize n * 10000 / d % 18446744073709551616 = v at *
    have w1 : IntKind.u64.wrap (Int.tdiv (v : Int) 100) = ((v / 100 : Nat) : Int) := wrap_dv (b := 100) hv
    have w2 : Int.tmod (v : Int) 100 = ((v % 100 : Nat) : Int) := tmod_nat v 100
    have w3 : IntKind.u64.wrap (100 + ((v % 100 : Nat) : Int)) = ((100 + v % 100 : Nat) : Int) := by rw [wrap_u (by omega) (by omega)]; omega
    simp only [w1, w2, w3]
    have s1 := num_size (v / 100) (by omega)
    have s2 := num_size (100 + v % 100) (by omega)
    have s3 := ext_size v
    refine Tells.bind (Tells.of fun _ => fmt_f (n := v / 100) (by omega)) (Tells.pos (by omega) (Tells.bind (Tells.of fun _ => fmt_f (n := 100 + v % 100) (by omega)) (Tells.pos (by omega) (Tells.pos ?_ (Tells.pos ?_ (Tells.const _))))))
    · rw [ByteArray.size_append, one_size]; omega
    · rw [ByteArray.size_append, ByteArray.size_append, one_size]; omega
  · rw [decide_eq_false h] at hm
    rw [if_neg h]
    exact Tells.bind hm (Tells.neg (by decide) (Tells.const _))
theorem ref_text_ev {n d : Nat} (h64 : d < 18446744073709551616) : Tells (fun k => joustref32_Text.f k (n : Int) (d : Int)) (textV n d) := by
  unfold joustref32_Text.f textV
  have hm := ref_may_ev n d
  by_cases h : MayQ n d
  · rw [decide_eq_true h] at hm
    rw [if_pos h]
    have hn : n < 18446744073709551616 := by have := h.2.1; omega
    have hp := part_l0 (a := 10000) (b := n) (by_ := d) (by decide) hn h.1 h64 64 (by decide)
    rw [show 10000 / 2 ^ 64 = 0 by decide, Nat.zero_mul, Nat.zero_div, Nat.zero_mod, Nat.zero_mod, Nat.mul_comm 10000 n] at hp
    refine Tells.bind hm (Tells.pos rfl (Tells.bind (a := (((n * 10000 / d % 18446744073709551616 : Nat) : Int), ((n * 10000 % d : Nat) : Int))) hp ?_))
    have hv : n * 10000 / d % 18446744073709551616 < 18446744073709551616 := Nat.mod_lt _ (by decide)
    generalize n * 10000 / d % 18446744073709551616 = v at *
    have w1 : IntKind.u64.wrap (Int.tdiv (v : Int) 100) = ((v / 100 : Nat) : Int) := wrap_dv (b := 100) hv
    have w2 : Int.tmod (v : Int) 100 = ((v % 100 : Nat) : Int) := tmod_nat v 100
    have w3 : IntKind.u64.wrap (100 + ((v % 100 : Nat) : Int)) = ((100 + v % 100 : Nat) : Int) := by rw [wrap_u (by omega) (by omega)]; omega
    simp only [w1, w2, w3]
    have s1 := num_size (v / 100) (by omega)
    have s2 := num_size (100 + v % 100) (by omega)
    have s3 := ext_size v
    refine Tells.bind (digits_ev (v / 100) (by omega)) (Tells.pos (show (num (v / 100)).size + 1 ≤ _ by omega) (Tells.bind (digits_ev (100 + v % 100) (by omega)) (Tells.pos (show 1 ≤ ((num (100 + v % 100)).size : Int) by omega) (Tells.pos (show (num (v / 100) ++ (⟨#[46]⟩ : ByteArray)).size + ((num (100 + v % 100)).extract 1 (num (100 + v % 100)).size).size ≤ _ from ?_) (Tells.pos (show ((num (v / 100) ++ (⟨#[46]⟩ : ByteArray)) ++ ((num (100 + v % 100)).extract 1 (num (100 + v % 100)).size)).size + 1 ≤ _ from ?_) (Tells.const _))))))
    · rw [ByteArray.size_append, one_size]; omega
    · rw [ByteArray.size_append, ByteArray.size_append, one_size]; omega
  · rw [decide_eq_false h] at hm
    rw [if_neg h]
    exact Tells.bind hm (Tells.neg (by decide) (Tells.const _))
end Go.Proofs.YtcdcpnhlmgmnkaaDoor.Odd
end
section
/- Sum: the document's tells what the code's does. -/
namespace Go.Proofs.YtcdcpnhlmgmnkaaDoor.Odd
open Go.RowKit Go.Proofs.YtcdcpnhlmgmnkaaDoor.Base Go.Proofs.YtcdcpnhlmgmnkaaDoor.Podr Go.Proofs.YtcdcpnhlmgmnkaaDoorW.PrintWords Go.Proofs.YtcdcpnhlmgmnkaaDoorW.PrintLast Go.Proofs.YtcdcpnhlmgmnkaaDoorW.PrintMore
set_option linter.unusedSimpArgs false
set_option linter.unusedVariables false
theorem part_ev {a b y : Nat} (ha : a < 18446744073709551616) (hb : b < 18446744073709551616) (hy : 0 < y) (hy64 : y < 18446744073709551616) :
    Tells (fun k => joustref32_part.f k (a : Int) (b : Int) (y : Int)) (((a * b / y % 18446744073709551616 : Nat) : Int), ((a * b % y : Nat) : Int)) := by
  have hp := part_l0 ha hb hy hy64 64 (by decide)
  rw [Nat.div_eq_of_lt (show a < 2 ^ 64 from ha), Nat.zero_mul, Nat.zero_div, Nat.zero_mod, Nat.zero_mod] at hp
  exact hp
theorem rsum_j2 {an ad bn bd : Nat} (ha : MayQ an ad) (hb : MayQ bn bd) (h64a : ad < 18446744073709551616) (h64b : bd < 18446744073709551616) (hc : ¬ (bd - bn) * ad < an * bd) (hd : ¬ 9223372036854775807 < sD an ad bn bd) :
    Tells (fun k => joustref32_Sum.j2 k ((bd / sG ad bd : Nat) : Int) ((ad / sG ad bd : Nat) : Int) ((sR an ad bn bd : Nat) : Int) ((sD an ad bn bd : Nat) : Int) false (an : Int) (ad : Int) (bn : Int) (bd : Int)) (((sN an ad bn bd / sR an ad bn bd : Nat) : Int), ((sD an ad bn bd : Nat) : Int), 0) := by
  obtain ⟨a', b', e, m, P⟩ := parts (an := an) (ad := ad) (bn := bn) (bd := bd) ha.1
  obtain ⟨hr1, hr2⟩ := room ha hb hc P
  have la := ha.2.1
  have lb := hb.2.1
  have hg : 0 < sG ad bd := sG_pos ha.1
  have hr : 0 < sR an ad bn bd := sR_pos ha.1
  have hgl : sG ad bd ≤ ad := Nat.le_of_dvd ha.1 (Nat.gcd_dvd_left _ _)
  have hrl : sR an ad bn bd ≤ sG ad bd := Nat.le_of_dvd hg sR_dvd_G
  have d1 := Nat.div_le_self bd (sG ad bd)
  have d2 := Nat.div_le_self ad (sG ad bd)
  have p1 := part_ev (a := an) (b := bd / sG ad bd) (by omega) (by omega) hr (by omega)
  have p2 := part_ev (a := bn) (b := ad / sG ad bd) (by omega) (by omega) hr (by omega)
  obtain ⟨s1, s2⟩ := add_div (X := an * (bd / sG ad bd)) (c := bn * (ad / sG ad bd)) hr
  have hN : an * (bd / sG ad bd) + bn * (ad / sG ad bd) = sN an ad bn bd := rfl
  rw [hN] at s1 s2
  have hz : sN an ad bn bd % sR an ad bn bd = 0 := Nat.mod_eq_zero_of_dvd sR_dvd_N
  have hm : sN an ad bn bd / sR an ad bn bd ≤ sD an ad bn bd := by rw [P.qq]; exact hr2
  have l1 := Nat.mod_lt (an * (bd / sG ad bd)) hr
  have l2 := Nat.mod_lt (bn * (ad / sG ad bd)) hr
  generalize an * (bd / sG ad bd) = X at *
  generalize bn * (ad / sG ad bd) = Y at *
  generalize sR an ad bn bd = r at *
  generalize sD an ad bn bd = D at *
  generalize sN an ad bn bd = M at *
  refine Tells.succ (fun k => by simp only [joustref32_Sum.j2]; rw [if_neg (by decide)]) (Tells.bind p1 (Tells.bind p2 ?_))
  have w1 : IntKind.u64.wrap ((r : Int) - ((Y % r : Nat) : Int)) = ((r - Y % r : Nat) : Int) := by rw [wrap_u (by omega) (by omega)]; omega
  rw [w1]
  generalize X / r = A at *
  generalize Y / r = B at *
  by_cases c : 0 < X % r
  · have c2 : r ≤ X % r + Y % r := by
      by_cases c3 : r ≤ X % r + Y % r
      · exact c3
      · rw [if_neg c3] at s2; omega
    rw [if_pos c2] at s1 s2
    have e : IntKind.u64.wrap (IntKind.u64.wrap (((A % 18446744073709551616 : Nat) : Int) + ((B % 18446744073709551616 : Nat) : Int)) + 1) = ((M / r : Nat) : Int) := by
      rw [s1] at hm
      rw [s1, Nat.mod_eq_of_lt (show A < 18446744073709551616 by omega), Nat.mod_eq_of_lt (show B < 18446744073709551616 by omega), wrap_u (a := (A : Int) + (B : Int)) (by omega) (by omega), wrap_u (by omega) (by omega)]
      omega
    refine Tells.pos (by omega) (Tells.pos (by omega) (Tells.of fun _ => ?_))
    rw [e]
  · have c2 : ¬ r ≤ X % r + Y % r := by omega
    rw [if_neg c2] at s1 s2
    have e : IntKind.u64.wrap (((A % 18446744073709551616 : Nat) : Int) + ((B % 18446744073709551616 : Nat) : Int)) = ((M / r : Nat) : Int) := by
      rw [s1] at hm
      rw [s1, Nat.mod_eq_of_lt (show A < 18446744073709551616 by omega), Nat.mod_eq_of_lt (show B < 18446744073709551616 by omega), wrap_u (by omega) (by omega)]
      omega
    refine Tells.neg (by omega) (Tells.of fun _ => ?_)
    rw [e]
theorem ref_sum_ev {an ad bn bd : Nat} (h1 : an < 18446744073709551616) (h64a : ad < 18446744073709551616) (h3 : bn < 18446744073709551616) (h64b : bd < 18446744073709551616) :
    Tells (fun k => joustref32_Sum.f k (an : Int) (ad : Int) (bn : Int) (bd : Int)) (sumV an ad bn bd) := by
  unfold joustref32_Sum.f sumV
  have m1 := ref_may_ev an ad
  have m2 := ref_may_ev bn bd
  have hj : Tells (fun k => joustref32_Sum.j0 k true (an : Int) (ad : Int) (bn : Int) (bd : Int)) (0, 0, 2) :=
    Tells.succ (g := fun _ => some (0, 0, 2)) (fun k => by simp only [joustref32_Sum.j0, if_true]) (Tells.const _)
  by_cases ha : MayQ an ad
  · rw [decide_eq_true ha] at m1
    refine Tells.bind m1 (Tells.pos rfl (Tells.bind m2 ?_))
    by_cases hb : MayQ bn bd
    · rw [decide_eq_true hb, if_neg (show ¬ ¬ (MayQ an ad ∧ MayQ bn bd) from fun k => k ⟨ha, hb⟩)]
      have la := ha.2.1
      have lb := hb.2.1
      have ws : IntKind.u64.wrap ((bd : Int) - (bn : Int)) = ((bd - bn : Nat) : Int) := by rw [wrap_u (by omega) (by omega)]; omega
      refine Tells.succ (fun k => by simp only [joustref32_Sum.j0, ws]; rw [if_neg (by decide)]) ?_
      refine Tells.bind (ref_order_ev (an := an) (ad := ad) (bn := bd - bn) (bd := bd) h1 h64a (by omega) h64b) ?_
      by_cases hc : (bd - bn) * ad < an * bd
      · rw [if_pos hc]
        exact Tells.pos (cmpV_pos.2 hc) (Tells.const _)
      · rw [if_neg hc]
        refine Tells.neg (fun h => hc (cmpV_pos.1 h)) (Tells.bind (ref_divisor_ev bd ad) ?_)
        have hg : 0 < sG ad bd := sG_pos ha.1
        have hr : 0 < sR an ad bn bd := sR_pos ha.1
        have hgl : sG ad bd ≤ ad := Nat.le_of_dvd ha.1 (Nat.gcd_dvd_left _ _)
        have d1 := Nat.div_le_self bd (sG ad bd)
        have d2 := Nat.div_le_self ad (sG ad bd)
        have d3 := Nat.div_le_self bd (sR an ad bn bd)
        show Tells (fun k => if ((sG ad bd : Nat) : Int) = 0 then _ else _) _
        refine Tells.neg (by omega) ?_
        simp only [show Nat.gcd ad bd = sG ad bd from rfl, wrap_dv h64a, wrap_dv h64b]
        have p1 := part_ev (a := an) (b := bd / sG ad bd) h1 (by omega) hg (by omega)
        have p2 := part_ev (a := bn) (b := ad / sG ad bd) h3 (by omega) hg (by omega)
        obtain ⟨s1, s2⟩ := add_div (X := an * (bd / sG ad bd)) (c := bn * (ad / sG ad bd)) hg
        rw [show an * (bd / sG ad bd) + bn * (ad / sG ad bd) = sN an ad bn bd from rfl] at s2
        have l1 := Nat.mod_lt (an * (bd / sG ad bd)) hg
        have l2 := Nat.mod_lt (bn * (ad / sG ad bd)) hg
        refine Tells.bind p1 (Tells.bind p2 ?_)
        have hj1 : Tells (fun k => joustref32_Sum.j1 k ((sG ad bd : Nat) : Int) ((bd / sG ad bd : Nat) : Int) ((ad / sG ad bd : Nat) : Int) ((sN an ad bn bd % sG ad bd : Nat) : Int) (an : Int) (ad : Int) (bn : Int) (bd : Int))
            (if 9223372036854775807 < sD an ad bn bd then (0, 0, 3) else (((sN an ad bn bd / sR an ad bn bd : Nat) : Int), ((sD an ad bn bd : Nat) : Int), 0)) := by
          refine Tells.succ (fun k => by simp only [joustref32_Sum.j1]; rfl) (Tells.bind (ref_divisor_ev (sN an ad bn bd % sG ad bd) (sG ad bd)) ?_)
          show Tells (fun k => if ((sR an ad bn bd : Nat) : Int) = 0 then _ else _) _
          refine Tells.neg (by omega) ?_
          simp only [show Nat.gcd (sG ad bd) (sN an ad bn bd % sG ad bd) = sR an ad bn bd from rfl, wrap_dv h64b]
          refine Tells.bind (Tells.of fun _ => words_f (a := ad / sG ad bd) (b := bd / sR an ad bn bd) (by omega) (by omega)) ?_
          rw [show ad / sG ad bd * (bd / sR an ad bn bd) = sD an ad bn bd from rfl]
          have hlim : ∀ x15 : Int, Tells (fun k => joustref32_Sum.j2 k ((bd / sG ad bd : Nat) : Int) ((ad / sG ad bd : Nat) : Int) ((sR an ad bn bd : Nat) : Int) x15 true (an : Int) (ad : Int) (bn : Int) (bd : Int)) (0, 0, 3) := fun _ =>
            Tells.succ (g := fun _ => some (0, 0, 3)) (fun k => by simp only [joustref32_Sum.j2, if_true]) (Tells.const _)
          by_cases hd : 9223372036854775807 < sD an ad bn bd
          · rw [if_pos hd]
            by_cases h0 : 0 < sD an ad bn bd / 18446744073709551616
            · exact Tells.pos (by omega) (hlim _)
            · refine Tells.neg (by omega) ?_
              rw [decide_eq_true (by omega)]
              exact hlim _
          · rw [if_neg hd]
            refine Tells.neg (by omega) ?_
            rw [decide_eq_false (by omega), Nat.mod_eq_of_lt (show sD an ad bn bd < 18446744073709551616 by omega)]
            exact rsum_j2 ha hb h64a h64b hc hd
        generalize an * (bd / sG ad bd) % sG ad bd = u at *
        generalize bn * (ad / sG ad bd) % sG ad bd = v at *
        have w1 : IntKind.u64.wrap (((sG ad bd : Nat) : Int) - (v : Int)) = ((sG ad bd - v : Nat) : Int) := by rw [wrap_u (by omega) (by omega)]; omega
        simp only [w1]
        by_cases c : sG ad bd ≤ u + v
        · rw [if_pos c] at s2
          refine Tells.pos (by omega) (Tells.congr (fun k => ?_) hj1)
          rw [s2, wrap_u (by omega) (by omega), show ((u : Int) - ((sG ad bd - v : Nat) : Int)) = ((u + v - sG ad bd : Nat) : Int) by omega]
        · rw [if_neg c] at s2
          refine Tells.neg (by omega) (Tells.congr (fun k => ?_) hj1)
          rw [s2, wrap_u (by omega) (by omega), show ((u : Int) + (v : Int)) = ((u + v - 0 : Nat) : Int) by omega]
    · rw [decide_eq_false hb, if_pos (show ¬ (MayQ an ad ∧ MayQ bn bd) from fun h => hb h.2)]
      exact hj
  · rw [decide_eq_false ha] at m1
    rw [if_pos (show ¬ (MayQ an ad ∧ MayQ bn bd) from fun h => ha h.1)]
    exact Tells.bind m1 (Tells.neg (by decide) hj)
end Go.Proofs.YtcdcpnhlmgmnkaaDoor.Odd
end
