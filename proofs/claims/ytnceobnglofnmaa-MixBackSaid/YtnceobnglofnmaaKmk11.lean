/- Joined by a program of this session (pack.py) out of: Mxq Mxo Mxr Mxu Mxv Mxw Mxx BaseMz -/
import Derived.Test.YtnceobnglofnmaaKmk4
import Derived.Test.YtnceobnglofnmaaKmk7
import Derived.Test.YtnceobnglofnmaaKmk8
import Derived.Test.YtnceobnglofnmaaKmk9
import Derived.Test.YtnceobnglofnmaaKmk10
section
/- A number below n is told: the first draw that may be taken comes. -/
namespace Go.Proofs.Ytnceobnglofnmaa.Base
open Go Go.RowKit Go.Proofs.YtnceobnglofnmaaW.PrintWords Go.Proofs.Ytnceobnglofnmaa.Pmxa Go.Proofs.Ytnceobnglofnmaa.Pmxl

theorem lives_tells : Tells (fun k => joustlaw27_lives.f k) true := Tells.mono (fun k => joustlaw27_lives.mono k) (k0 := 20) (by kernel_rfl)

theorem below_l_at (D : Nat) : ∀ (k : Nat) (s a n wh : Int), D < k → (∀ j, j < D → ¬ draw s (au a j) < wh) → draw s (au a D) < wh → below_l k s a n wh = some (Int.tmod (draw s (au a D)) n, au a (D + 1), 0) := by
  induction D with
  | zero =>
    intro k s a n wh hk _ hd
    obtain ⟨k, rfl⟩ : ∃ m, k = m + 1 := ⟨k - 1, by omega⟩
    simp only [below_l]
    rw [if_pos (show draw s a < wh from hd)]
    rfl
  | succ D ih =>
    intro k s a n wh hk hb hd
    obtain ⟨k, rfl⟩ : ∃ m, k = m + 1 := ⟨k - 1, by omega⟩
    simp only [below_l]
    rw [if_neg (show ¬ draw s a < wh from hb 0 (by omega)), ih k s _ n wh (by omega) (fun j hj => by rw [au_next]; exact hb (j + 1) (by omega)) (by rw [au_next]; exact hd), au_next, au_next]
theorem first_of (D : Nat) (s a wh : Int) (h : draw s (au a D) < wh) : ∃ E, E ≤ D ∧ (∀ j, j < E → ¬ draw s (au a j) < wh) ∧ draw s (au a E) < wh := by
  induction D using Nat.strongRecOn with
  | ind D ih =>
    by_cases hx : ∃ j, j < D ∧ draw s (au a j) < wh
    · obtain ⟨j, hj, hd⟩ := hx
      obtain ⟨E, hE, hr⟩ := ih j hj hd
      exact ⟨E, by omega, hr⟩
    · exact ⟨D, Nat.le_refl _, fun j hj hd => hx ⟨j, hj, hd⟩, h⟩
theorem whole_two (n : Nat) (h0 : n ≠ 0) (hn : n < 18446744073709551616) : 2 ≤ whole (n : Int) ∧ whole (n : Int) < 18446744073709551616 := by
  unfold whole
  have e : (18446744073709551615 : Int) % (n : Int) = ((18446744073709551615 % n : Nat) : Int) := rfl
  rw [e, IntKind.wrap_u64]
  have h1 := Nat.div_add_mod 18446744073709551615 n
  have h2 : 18446744073709551615 % n < n := Nat.mod_lt _ (by omega)
  have h3 : 1 ≤ 18446744073709551615 / n := (Nat.le_div_iff_mul_le (by omega)).2 (by omega)
  have h4 : n * 1 ≤ n * (18446744073709551615 / n) := Nat.mul_le_mul_left n h3
  generalize n * (18446744073709551615 / n) = q at h1 h4
  generalize 18446744073709551615 % n = r at h1 h2 ⊢
  by_cases hn1 : n = 1
  · omega
  · omega
theorem draw_pos (s a : Nat) : 0 ≤ draw (s : Int) (a : Int) := by rw [draw_nat]; omega
/-- The first draw that may be taken comes before the last but one of all. -/
theorem below_first (s a n : Nat) (hs : s < 18446744073709551616) (ha : a < 18446744073709551616) (h0 : n ≠ 0) (hn : n < 18446744073709551616) :
    ∃ D, D < 18446744073709551615 ∧ (∀ j, j < D → ¬ draw s (au a j) < whole n) ∧ draw s (au a D) < whole n := by
  obtain ⟨D0, hD0, e0⟩ := drawn_0 s a hs ha
  obtain ⟨D1, hD1, e1⟩ := drawn_1 s a hs ha
  have hw := (whole_two n h0 hn).1
  have hne : D0 ≠ D1 := by
    rintro rfl
    rw [e0] at e1
    exact absurd e1 (by decide)
  by_cases hlt : D0 < D1
  · obtain ⟨E, hE, hb, hd⟩ := first_of D0 s a (whole n) (by rw [e0]; omega)
    exact ⟨E, by omega, hb, hd⟩
  · obtain ⟨E, hE, hb, hd⟩ := first_of D1 s a (whole n) (by rw [e1]; omega)
    exact ⟨E, by omega, hb, hd⟩
theorem below_at {D : Nat} {s a n : Int} (h0 : n ≠ 0) (hb : ∀ j, j < D → ¬ draw s (au a j) < whole n) (hd : draw s (au a D) < whole n) :
    Tells (fun k => mix_Below.f k s a n) (Int.tmod (draw s (au a D)) n, au a (D + 1), 0) :=
  ⟨D + 1, fun k hk => by show mix_Below.f k s a n = _; unfold mix_Below.f; rw [if_neg h0, below_l_at D k s a n _ (by omega) hb hd]⟩
end Go.Proofs.Ytnceobnglofnmaa.Base
end
section
/- Lists of the mixing: 0 to n - 1; what is left; the same numbers; one number taken out. -/
namespace Go.Proofs.Ytnceobnglofnmaa.Base
open Go Go.RowKit Go.Proofs.YtnceobnglofnmaaW.PrintWords Go.Proofs.Ytnceobnglofnmaa.Pmxa Go.Proofs.Ytnceobnglofnmaa.Pmxb

def iota (n : Nat) : List Int := (List.range n).map fun i : Nat => (i : Int)
theorem iota_len (n : Nat) : (iota n).length = n := by simp [iota]
theorem iota_succ (n : Nat) : iota (n + 1) = iota n ++ [(n : Int)] := by simp [iota, List.range_succ]
theorem iota_mem {n : Nat} {x : Int} : x ∈ iota n ↔ 0 ≤ x ∧ x < n := by
  simp only [iota, List.mem_map, List.mem_range]
  constructor
  · rintro ⟨i, hi, rfl⟩; omega
  · rintro ⟨h0, h1⟩; exact ⟨x.toNat, by omega, by omega⟩
theorem iota_lt (n : Nat) : (iota n).Pairwise (· < ·) := by
  simp only [iota, List.pairwise_map]
  exact List.pairwise_lt_range.imp (fun h => by omega)
theorem rd_nat (l : List Int) (j : Nat) : rd l (j : Int) = l.getD j 0 := by simp [rd]
theorem rd_get {l : List Int} {j : Nat} (h : j < l.length) : rd l (j : Int) = l[j] := by rw [rd_nat]; simp [h]
theorem w64 {j : Nat} {n : Nat} (h : j < n) (hn : n ≤ 4611686018427387904) : wrap64 ((j : Int) + 1) = ((j + 1 : Nat) : Int) := by
  rw [wrap_i (by omega) (by omega)]; omega

theorem all_loop (n : Nat) (hn : n ≤ 1000) (d : Nat) : ∀ j, j + d = n → Tells (fun k => mix_all.l0 k (iota j ++ List.replicate d 0) n j) (iota n) := by
  induction d with
  | zero =>
    intro j hj
    obtain rfl : j = n := by omega
    refine Tells.succ (fun k => by rw [mix_all.l0]) (Tells.neg (by omega) ?_)
    simp only [List.replicate_zero, List.append_nil]
    exact Tells.const _
  | succ d ih =>
    intro j hj
    refine Tells.succ (fun k => by rw [mix_all.l0]) (Tells.pos (by omega) (Tells.pos (by omega) (Tells.pos (by simp [iota_len]; omega) ?_)))
    rw [w64 (n := n) (by omega) (by omega)]
    have e : (iota j ++ List.replicate (d + 1) (0 : Int)).set ((j : Int)).toNat (j : Int) = iota (j + 1) ++ List.replicate d 0 := by
      rw [Int.toNat_natCast, List.set_append_right _ _ (by rw [iota_len]; exact Nat.le_refl _), iota_len, Nat.sub_self, List.replicate_succ, List.set_cons_zero, iota_succ, List.append_assoc]
      rfl
    rw [e]
    exact ih (j + 1) (by omega)
theorem all_tells (n : Nat) (hn : n ≤ 1000) : Tells (fun k => mix_all.f k n) (iota n) := by
  refine Tells.congr (fun k => by unfold mix_all.f; rfl) (Tells.pos (by omega) (Tells.pos (by omega) ?_))
  refine Tells.bind (g := fun y k => _) (Tells.const _) ?_
  have := all_loop n hn n 0 (by omega)
  simpa [iota] using this

theorem ints_loop (a b : List Int) (ha : a.length ≤ 17592186044416) (h : a.length = b.length) (d : Nat) : ∀ j, j + d = a.length → a.take j = b.take j → Tells (fun k => joustref27_Ints.l0 k a b j) (decide (a = b)) := by
  induction d with
  | zero =>
    intro j hj ht
    refine Tells.succ (fun k => by rw [joustref27_Ints.l0]) (Tells.neg (by omega) ?_)
    rw [List.take_of_length_le (by omega), List.take_of_length_le (by omega)] at ht
    simp only [ht, decide_true]
    exact Tells.const _
  | succ d ih =>
    intro j hj ht
    have h1 : j < a.length := by omega
    have h2 : j < b.length := by omega
    refine Tells.succ (fun k => by rw [joustref27_Ints.l0]) (Tells.pos (by omega) (Tells.pos (by omega) (Tells.pos (by omega) ?_)))
    rw [rd_get h1, rd_get h2]
    by_cases e : a[j] = b[j]
    · refine Tells.pos e ?_
      rw [w64 (n := a.length) (by omega) (by omega)]
      exact ih (j + 1) (by omega) (by rw [List.take_succ_eq_append_getElem h1, List.take_succ_eq_append_getElem h2, ht, e])
    · refine Tells.neg e ?_
      have : a ≠ b := by rintro rfl; exact e rfl
      simp only [this, decide_false]
      exact Tells.const _
theorem ints_tells (a b : List Int) (ha : a.length ≤ 17592186044416) : Tells (fun k => joustref27_Ints.f k a b) (decide (a = b)) := by
  refine Tells.congr (fun k => by unfold joustref27_Ints.f; rfl) ?_
  by_cases h : a.length = b.length
  · exact Tells.pos (by omega) (ints_loop a b ha h a.length 0 (by omega) rfl)
  · refine Tells.neg (by omega) ?_
    have : a ≠ b := by rintro rfl; exact h rfl
    simp only [this, decide_false]
    exact Tells.const _
theorem ints_same (a : List Int) (ha : a.length ≤ 17592186044416) : Tells (fun k => joustref27_Ints.f k a a) true := by
  have := ints_tells a a ha
  simpa using this

theorem without_told (l : List Int) (j : Nat) (hj : j < l.length) (hl : l.length ≤ 1000) : joustref27_without.f l j = some (l.eraseIdx j) := by
  unfold joustref27_without.f
  rw [w64 (n := l.length) hj (by omega), if_pos (by omega), if_pos (by omega), if_pos (by simp only [List.length_nil, List.length_take]; omega)]
  simp only [Option.bind_some]
  rw [if_pos (by omega), if_pos (by omega), if_pos (by simp only [List.nil_append, List.length_take, List.length_drop]; omega), List.eraseIdx_eq_take_drop_succ]
  simp
end Go.Proofs.Ytnceobnglofnmaa.Base
end
section
/- The document's mixing is the program's; what is left; an order of either is the same, and has each number once. -/
namespace Go.Proofs.Ytnceobnglofnmaa.Base
open Go Go.RowKit Go.Proofs.YtnceobnglofnmaaW.PrintWords Go.Proofs.Ytnceobnglofnmaa.Pmxa Go.Proofs.Ytnceobnglofnmaa.Pmxb

theorem ref_mix (n : Nat) : joustref27_Mix.f (n : Int) = some (MixV (n : Int)) := by
  have hm : ∀ x : Nat, x % 18446744073709551616 < 18446744073709551616 := fun x => Nat.mod_lt _ (Nat.zero_lt_succ _)
  have e1 : IntKind.u64.wrap ((n : Int) + 11400714819323198485) = (((n + 11400714819323198485) % 18446744073709551616 : Nat) : Int) := by rw [IntKind.wrap_u64]; omega
  have e2 : ∀ a c : Nat, IntKind.u64.wrap ((a : Int) * (c : Int)) = ((a * c % 18446744073709551616 : Nat) : Int) := fun a c => by rw [IntKind.wrap_u64, ← Int.natCast_mul]; rfl
  have eF : ∀ a : Nat, IntKind.u64.wrap ((a : Int) * 13787848793156543929) = ((a * 13787848793156543929 % 18446744073709551616 : Nat) : Int) := fun a => e2 a 13787848793156543929
  have eS : ∀ a : Nat, IntKind.u64.wrap ((a : Int) * 10723151780598845931) = ((a * 10723151780598845931 % 18446744073709551616 : Nat) : Int) := fun a => e2 a 10723151780598845931
  have t : ∀ X c : Nat, X < 18446744073709551616 → IntKind.u64.wrap (Int.tdiv (X : Int) (c : Int)) = (X : Int) / (c : Int) := fun X c hX => by
    rw [IntKind.wrap_u64, Int.tdiv_eq_ediv_of_nonneg (by omega)]
    have h2 : X / c ≤ X := Nat.div_le_self _ _
    have e : (X : Int) / (c : Int) = ((X / c : Nat) : Int) := rfl
    rw [e]
    generalize X / c = q at h2 ⊢
    omega
  have t30 : ∀ X : Nat, X < 18446744073709551616 → IntKind.u64.wrap (Int.tdiv (X : Int) 1073741824) = (X : Int) / 1073741824 := fun X hX => t X 1073741824 hX
  have t27 : ∀ X : Nat, X < 18446744073709551616 → IntKind.u64.wrap (Int.tdiv (X : Int) 134217728) = (X : Int) / 134217728 := fun X hX => t X 134217728 hX
  have t31 : ∀ X : Nat, X < 18446744073709551616 → IntKind.u64.wrap (Int.tdiv (X : Int) 2147483648) = (X : Int) / 2147483648 := fun X hX => t X 2147483648 hX
  have s30 : ∀ X : Nat, X < 18446744073709551616 → Go.bits .xor .u64 (X : Int) ((X : Int) / 1073741824) = (xs 30 X : Int) := fun X hX => shift_nat X 30 hX
  have s27 : ∀ X : Nat, X < 18446744073709551616 → Go.bits .xor .u64 (X : Int) ((X : Int) / 134217728) = (xs 27 X : Int) := fun X hX => shift_nat X 27 hX
  have s31 : ∀ X : Nat, X < 18446744073709551616 → Go.bits .xor .u64 (X : Int) ((X : Int) / 2147483648) = (xs 31 X : Int) := fun X hX => shift_nat X 31 hX
  rw [mixV_nat]
  unfold joustref27_Mix.f mixN m3 m2 m1
  simp only [e1]
  rw [t30 _ (hm _), s30 _ (hm _), eF, t27 _ (hm _), s27 _ (hm _), eS, t31 _ (hm _), s31 _ (hm _)]
theorem ref_mix_wrap (z : Int) : joustref27_Mix.f (IntKind.u64.wrap z) = some (MixV (IntKind.u64.wrap z)) := by
  have hn : (((IntKind.u64.wrap z).toNat : Nat) : Int) = IntKind.u64.wrap z := Int.toNat_of_nonneg (by rw [IntKind.wrap_u64]; omega)
  have h := ref_mix (IntKind.u64.wrap z).toNat
  rw [hn] at h
  exact h
theorem whole_ref (n : Nat) : IntKind.u64.wrap (IntKind.u64.wrap (Int.tdiv 18446744073709551615 (n : Int)) * n) = whole n := by
  unfold whole
  rw [Int.tdiv_eq_ediv_of_nonneg (by decide)]
  have e1 : (18446744073709551615 : Int) / (n : Int) = ((18446744073709551615 / n : Nat) : Int) := rfl
  have e2 : (18446744073709551615 : Int) % (n : Int) = ((18446744073709551615 % n : Nat) : Int) := rfl
  have h1 := Nat.div_add_mod 18446744073709551615 n
  have h2 : 18446744073709551615 / n ≤ 18446744073709551615 := Nat.div_le_self _ _
  have e3 : ∀ q : Nat, q ≤ 18446744073709551615 → IntKind.u64.wrap (q : Int) = (q : Int) := fun q hq => by rw [IntKind.wrap_u64]; omega
  rw [e1, e2, e3 _ h2, ← Int.natCast_mul, Nat.mul_comm]
  clear e1 e2 e3 h2
  generalize n * (18446744073709551615 / n) = q at h1 ⊢
  generalize 18446744073709551615 % n = r at h1 ⊢
  rw [IntKind.wrap_u64, IntKind.wrap_u64]
  omega
theorem ref_below_loop (D : Nat) : ∀ (k : Nat) (s a n wh : Int), n ≠ 0 → D < k → (∀ j, j < D → ¬ draw s (au a j) < wh) → draw s (au a D) < wh → joustref27_Below.l0 k s a n wh = some (Int.tmod (draw s (au a D)) n, au a (D + 1), 0) := by
  induction D with
  | zero =>
    intro k s a n wh hn hk _ hd
    obtain ⟨k, rfl⟩ : ∃ m, k = m + 1 := ⟨k - 1, by omega⟩
    rw [joustref27_Below.l0, ref_mix_wrap]
    simp only [Option.bind_some]
    exact (if_pos (show draw s a < wh from hd)).trans (if_neg hn)
  | succ D ih =>
    intro k s a n wh hn hk hb hd
    obtain ⟨k, rfl⟩ : ∃ m, k = m + 1 := ⟨k - 1, by omega⟩
    rw [joustref27_Below.l0, ref_mix_wrap]
    simp only [Option.bind_some]
    refine (if_neg (show ¬ draw s a < wh from hb 0 (by omega))).trans ?_
    rw [ih k s _ n wh hn (by omega) (fun j hj => by rw [au_next]; exact hb (j + 1) (by omega)) (by rw [au_next]; exact hd), au_next, au_next]
theorem ref_below_at {D : Nat} {s a : Int} {n : Nat} (h0 : n ≠ 0) (hb : ∀ j, j < D → ¬ draw s (au a j) < whole n) (hd : draw s (au a D) < whole n) :
    Tells (fun k => joustref27_Below.f k s a n) (Int.tmod (draw s (au a D)) n, au a (D + 1), 0) :=
  ⟨D + 1, fun k hk => by show joustref27_Below.f k s a n = _; unfold joustref27_Below.f; rw [if_neg (by omega), whole_ref n, ref_below_loop D k s a n _ (by omega) (by omega) hb hd]⟩
/-- A number below n, of either. -/
theorem both_below (s a n : Nat) (hs : s < 18446744073709551616) (ha : a < 18446744073709551616) (h0 : n ≠ 0) (hn : n < 18446744073709551616) :
    ∃ v b : Nat, v < n ∧ b < 18446744073709551616 ∧ Tells (fun k => mix_Below.f k s a n) ((v : Int), (b : Int), 0) ∧ Tells (fun k => joustref27_Below.f k s a n) ((v : Int), (b : Int), 0) := by
  obtain ⟨D, _, hb, hd⟩ := below_first s a n hs ha h0 hn
  have hdp : 0 ≤ draw (s : Int) (au (a : Int) D) := by rw [au_nat a D ha]; exact draw_pos _ _
  obtain ⟨m, hm⟩ := Int.eq_ofNat_of_zero_le hdp
  refine ⟨m % n, (a + (D + 1)) % 18446744073709551616, Nat.mod_lt _ (by omega), Nat.mod_lt _ (Nat.zero_lt_succ _), ?_, ?_⟩
  · have := below_at (n := (n : Int)) (by omega) hb hd
    rw [au_nat a (D + 1) ha, hm, Int.tmod_eq_emod_of_nonneg (by omega)] at this
    exact this
  · have := ref_below_at h0 hb hd
    rw [au_nat a (D + 1) ha, hm, Int.tmod_eq_emod_of_nonneg (by omega)] at this
    exact this

theorem left_in (n : Int) (ord acc : List Int) (x : Int) (ho : ord.length ≤ 17592186044416) (r : List Int) (d : Nat) : ∀ (j : Nat) (fl : Bool), j + d = ord.length →
    Tells (fun k => if (fl || (ord.drop j).any (· == x)) = true then joustref27_left.l0 k n ord acc (wrap64 (x + 1)) else (if acc.length < 17592186044416 then joustref27_left.l0 k n ord (acc ++ [x]) (wrap64 (x + 1)) else none)) r →
    Tells (fun k => joustref27_left.l1 k n ord acc x fl j) r := by
  induction d with
  | zero =>
    intro j fl hj h
    refine Tells.succ (fun k => by rw [joustref27_left.l1]) (Tells.neg (by omega) ?_)
    rw [List.drop_of_length_le (by omega)] at h
    simpa using h
  | succ d ih =>
    intro j fl hj h
    have hlt : j < ord.length := by omega
    refine Tells.succ (fun k => by rw [joustref27_left.l1]) (Tells.pos (by omega) ?_)
    rw [w64 (n := ord.length) hlt (by omega), rd_get hlt]
    cases fl with
    | true => exact Tells.pos rfl (ih (j + 1) true (by omega) (by simpa using h))
    | false =>
      refine Tells.neg (by decide) (Tells.pos (by omega) (ih (j + 1) _ (by omega) ?_))
      rw [List.drop_eq_getElem_cons hlt, List.any_cons, Bool.false_or] at h
      exact h
theorem left_loop (n : Nat) (hn : n ≤ 1000) (ord : List Int) (ho : ord.length ≤ 17592186044416) (d : Nat) : ∀ j, j + d = n →
    Tells (fun k => joustref27_left.l0 k n ord ((iota j).filter fun x => !(ord.any (· == x))) j) ((iota n).filter fun x => !(ord.any (· == x))) := by
  induction d with
  | zero =>
    intro j hj
    obtain rfl : j = n := by omega
    exact Tells.succ (fun k => by rw [joustref27_left.l0]) (Tells.neg (by omega) (Tells.const _))
  | succ d ih =>
    intro j hj
    refine Tells.succ (fun k => by rw [joustref27_left.l0]) (Tells.pos (by omega) ?_)
    have h2 := ih (j + 1) (by omega)
    refine left_in n ord _ j ho _ ord.length 0 false (by omega) ?_
    rw [w64 (n := n) (by omega) (by omega), List.drop_zero, Bool.false_or]
    rw [iota_succ, List.filter_append] at h2
    cases hc : ord.any (· == (j : Int)) with
    | true =>
      refine Tells.pos rfl ?_
      simpa [hc] using h2
    | false =>
      refine Tells.neg (by decide) (Tells.pos ?_ ?_)
      · have := List.length_filter_le (fun x => !(ord.any (· == x))) (iota j)
        rw [iota_len] at this
        omega
      · simpa [hc] using h2
theorem left_tells (n : Nat) (hn : n ≤ 1000) (ord : List Int) (ho : ord.length ≤ 17592186044416) :
    Tells (fun k => joustref27_left.f k n ord) ((iota n).filter fun x => !(ord.any (· == x))) := by
  refine Tells.congr (fun k => by unfold joustref27_left.f; rfl) ?_
  have := left_loop n hn ord ho n 0 (by omega)
  simpa [iota] using this
theorem left_nil (n : Nat) (hn : n ≤ 1000) : Tells (fun k => joustref27_left.f k n []) (iota n) := by
  have := left_tells n hn [] (by simp)
  have e : (iota n).filter (fun _ => true) = iota n := List.filter_eq_self.2 (fun _ _ => rfl)
  simpa [e] using this
end Go.Proofs.Ytnceobnglofnmaa.Base
end
section
/- Orders and their lots: an order of either text is the same, and has each number once; lots by taking out, one by one. -/
namespace Go.Proofs.Ytnceobnglofnmaa.Base
open Go Go.RowKit Go.Proofs.YtnceobnglofnmaaW.PrintWords Go.Proofs.Ytnceobnglofnmaa.Pmxa Go.Proofs.Ytnceobnglofnmaa.Pmxb

theorem order_loop (s : Nat) (hs : s < 18446744073709551616) (i : Nat) : ∀ (l : List Int) (at_ : Nat), (i = 0 ∨ i < l.length) → l.length ≤ 1000 → at_ < 18446744073709551616 →
    ∃ r : List Int, r.Perm l ∧ Tells (fun k => mix_Order.l0 k s l at_ i) (r, 0) ∧ Tells (fun k => joustref27_Order.l1 k s l at_ i) (r, 0) := by
  induction i with
  | zero =>
    intro l at_ _ _ _
    exact ⟨l, List.Perm.refl _, Tells.succ (fun k => by rw [mix_Order.l0]) (Tells.neg (by omega) (Tells.const _)), Tells.succ (fun k => by rw [joustref27_Order.l1]) (Tells.neg (by omega) (Tells.const _))⟩
  | succ i ih =>
    intro l at_ hi hl ha
    have hlt : i + 1 < l.length := by omega
    obtain ⟨v, b, hv, hb, t1, t2⟩ := both_below s at_ (i + 2) hs ha (by omega) (by omega)
    have hvl : v < l.length := by omega
    obtain ⟨r, hr, h1, h2⟩ := ih ((l.set (i + 1) l[v]).set v l[i + 1]) b (by simp only [List.length_set]; omega) (by simp only [List.length_set]; omega) hb
    have hw : wrap64 (((i + 1 : Nat) : Int) - 1) = (i : Int) := by rw [wrap_i (by omega) (by omega)]; omega
    refine ⟨r, hr.trans (List.set_set_perm hlt hvl), ?_, ?_⟩
    · refine Tells.succ (fun k => by rw [mix_Order.l0]) (Tells.pos (by omega) ?_)
      have e : IntKind.u64.wrap (IntKind.u64.wrap ((i + 1 : Nat) : Int) + 1) = ((i + 2 : Nat) : Int) := by rw [IntKind.wrap_u64, IntKind.wrap_u64]; omega
      rw [e]
      refine Tells.bind (g := fun bt k => _) t1 (Tells.pos (by omega) (Tells.pos (by omega) (Tells.pos (by omega) (Tells.pos (by omega) ?_))))
      dsimp only
      rw [rd_get hvl, rd_get hlt, hw, Int.toNat_natCast, Int.toNat_natCast]
      exact h1
    · refine Tells.succ (fun k => by rw [joustref27_Order.l1]) (Tells.pos (by omega) ?_)
      have e : IntKind.u64.wrap (wrap64 (((i + 1 : Nat) : Int) + 1)) = ((i + 2 : Nat) : Int) := by rw [wrap_i (by omega) (by omega), IntKind.wrap_u64]; omega
      rw [e]
      refine Tells.bind (g := fun bt k => _) t2 (Tells.pos (by omega) (Tells.pos (by omega) (Tells.pos (by omega) (Tells.pos (by omega) ?_))))
      dsimp only
      rw [rd_get hvl, rd_get hlt, hw, Int.toNat_natCast, Int.toNat_natCast]
      exact h2
theorem order_build (s : Int) (n : Nat) (hn : n ≤ 1000) (r : List Int × Int) (h : Tells (fun k => joustref27_Order.l1 k s (iota n) 0 (wrap64 ((n : Int) - 1))) r) (d : Nat) : ∀ j, j + d = n →
    Tells (fun k => joustref27_Order.l0 k s n (iota j) j) r := by
  induction d with
  | zero =>
    intro j hj
    obtain rfl : j = n := by omega
    exact Tells.succ (fun k => by rw [joustref27_Order.l0]) (Tells.neg (by omega) h)
  | succ d ih =>
    intro j hj
    refine Tells.succ (fun k => by rw [joustref27_Order.l0]) (Tells.pos (by omega) (Tells.pos (by rw [iota_len]; omega) ?_))
    rw [w64 (n := n) (by omega) (by omega), ← iota_succ]
    exact ih (j + 1) (by omega)
theorem order_tells (s n : Nat) (hs : s < 18446744073709551616) (hn : n ≤ 1000) :
    ∃ r : List Int, r.Perm (iota n) ∧ Tells (fun k => mix_Order.f k s n) (r, 0) ∧ Tells (fun k => joustref27_Order.f k s n) (r, 0) := by
  have key : ∃ r : List Int, r.Perm (iota n) ∧ Tells (fun k => mix_Order.l0 k s (iota n) 0 (wrap64 ((n : Int) - 1))) (r, 0) ∧ Tells (fun k => joustref27_Order.l1 k s (iota n) 0 (wrap64 ((n : Int) - 1))) (r, 0) := by
    cases n with
    | zero =>
      have e : wrap64 (((0 : Nat) : Int) - 1) = -1 := by unfold wrap64; omega
      rw [e]
      exact ⟨_, List.Perm.refl _, Tells.succ (fun k => by rw [mix_Order.l0]) (Tells.neg (by omega) (Tells.const _)), Tells.succ (fun k => by rw [joustref27_Order.l1]) (Tells.neg (by omega) (Tells.const _))⟩
    | succ i =>
      have e : wrap64 (((i + 1 : Nat) : Int) - 1) = (i : Int) := by rw [wrap_i (by omega) (by omega)]; omega
      rw [e]
      exact order_loop s hs i (iota (i + 1)) 0 (by rw [iota_len]; omega) (by rw [iota_len]; omega) (by omega)
  obtain ⟨r, hr, h1, h2⟩ := key
  have hd : decide ((n : Int) > 1000) = false := decide_eq_false (by omega)
  refine ⟨r, hr, ?_, ?_⟩
  · refine Tells.congr (fun k => by unfold mix_Order.f; rfl) (Tells.neg (by omega) ?_)
    rw [hd]
    refine Tells.succ (fun k => by rw [mix_Order.j0]) (Tells.neg (by decide) ?_)
    exact Tells.bind (g := fun bt k => _) (all_tells n hn) h1
  · refine Tells.congr (fun k => by unfold joustref27_Order.f; rfl) (Tells.neg (by omega) ?_)
    rw [hd]
    refine Tells.succ (fun k => by rw [joustref27_Order.j0]) (Tells.neg (by decide) ?_)
    exact order_build s n hn _ h2 n 0 (by omega)
/-! ### lots, by taking out -/
def lotsS : List Int → List Int → Option (List Int)
  | [], _ => some []
  | x :: xs, left => if x ∈ left then (lotsS xs (left.erase x)).map fun l => ((left.idxOf x : Nat) : Int) :: l else none
def ofS : List Int → List Int → Option (List Int)
  | [], _ => some []
  | x :: xs, left => if 0 ≤ x ∧ x < (left.length : Int) then (ofS xs (left.eraseIdx x.toNat)).map fun l => left.getD x.toNat 0 :: l else none
theorem erase_at {L : List Int} {x : Int} : ∀ {i : Nat} (h : i < L.length), L[i] = x → (∀ k (hk : k < i), L[k] ≠ x) → L.erase x = L.eraseIdx i ∧ L.idxOf x = i := by
  induction L with
  | nil => intro i h; simp at h
  | cons a L ih =>
    intro i h hx hk
    cases i with
    | zero =>
      simp only [List.getElem_cons_zero] at hx
      subst hx
      simp
    | succ i =>
      have h0 := hk 0 (by omega)
      simp only [List.getElem_cons_zero] at h0
      obtain ⟨e1, e2⟩ := ih (i := i) (by simpa using h) (by simpa using hx) (fun k hk' => by simpa using hk (k + 1) (by omega))
      refine ⟨?_, ?_⟩
      · rw [List.erase_cons_tail (by simpa using h0), e1, List.eraseIdx_cons_succ]
      · have hb : (a == x) = false := beq_eq_false_iff_ne.2 h0
        rw [List.idxOf_cons, e2, hb]
        rfl
theorem idx_at {L : List Int} {x : Int} (h : x ∈ L) : ∃ h : L.idxOf x < L.length, L[L.idxOf x] = x ∧ L.erase x = L.eraseIdx (L.idxOf x) := by
  have hl := List.idxOf_lt_length_iff.2 h
  refine ⟨hl, List.getElem_idxOf hl, ?_⟩
  induction L with
  | nil => cases h
  | cons a L ih =>
    by_cases e : a = x
    · subst e; simp
    · have hm : x ∈ L := by rcases List.mem_cons.1 h with h | h; exact absurd h.symm e; exact h
      have hb : (a == x) = false := beq_eq_false_iff_ne.2 e
      rw [List.erase_cons_tail (by simpa using e), List.idxOf_cons, ih hm (List.idxOf_lt_length_iff.2 hm), hb]
      rfl
theorem lots_perm : ∀ (xs left ls : List Int), lotsS xs left = some ls → xs.length = left.length → xs.Perm left := by
  intro xs
  induction xs with
  | nil =>
    intro left ls _ hl
    have : left = [] := List.length_eq_zero_iff.1 hl.symm
    rw [this]
  | cons x xs ih =>
    intro left ls h hl
    simp only [lotsS] at h
    split at h
    · rename_i hm
      obtain ⟨l, h1, _⟩ := Option.map_eq_some_iff.1 h
      refine List.cons_perm_iff_perm_erase.2 ⟨hm, ih _ l h1 ?_⟩
      rw [List.length_erase_of_mem hm]
      simp only [List.length_cons] at hl
      omega
    · cases h
theorem lots_of_perm : ∀ (xs left : List Int), xs.Perm left → ∃ ls, lotsS xs left = some ls ∧ ls.length = xs.length := by
  intro xs
  induction xs with
  | nil => intro left _; exact ⟨[], rfl, rfl⟩
  | cons x xs ih =>
    intro left h
    obtain ⟨hm, hp⟩ := List.cons_perm_iff_perm_erase.1 h
    obtain ⟨ls, h1, h2⟩ := ih _ hp
    exact ⟨_, by simp only [lotsS]; rw [if_pos hm, h1]; rfl, by simp [h2]⟩
theorem perm_of_all : ∀ (A B : List Int), A.Nodup → B.length = A.length → (∀ a ∈ A, a ∈ B) → B.Perm A := by
  intro A
  induction A with
  | nil =>
    intro B _ hl _
    rw [List.length_eq_zero_iff.1 hl]
  | cons a A ih =>
    intro B hn hl hm
    obtain ⟨hna, hnA⟩ := List.nodup_cons.1 hn
    have ha := hm a List.mem_cons_self
    refine (List.perm_cons_erase ha).trans (List.Perm.cons a (ih _ hnA ?_ (fun x hx => ?_)))
    · rw [List.length_erase_of_mem ha]
      simp only [List.length_cons] at hl
      omega
    · have hne : x ≠ a := by rintro rfl; exact hna hx
      exact (List.mem_erase_of_ne hne).2 (hm x (List.mem_cons_of_mem _ hx))
theorem of_lots : ∀ (xs left ls : List Int), lotsS xs left = some ls → ofS ls left = some xs := by
  intro xs
  induction xs with
  | nil => intro left ls h; simp only [lotsS, Option.some.injEq] at h; subst h; rfl
  | cons x xs ih =>
    intro left ls h
    simp only [lotsS] at h
    split at h
    · rename_i hm
      obtain ⟨l, h1, rfl⟩ := Option.map_eq_some_iff.1 h
      obtain ⟨hlt, hx, he⟩ := idx_at hm
      simp only [ofS]
      rw [if_pos ⟨by omega, by omega⟩, Int.toNat_natCast, ← he, ih _ _ h1]
      simp [hlt, hx]
    · cases h
theorem lots_of : ∀ (xs left ls : List Int), left.Nodup → ofS xs left = some ls → lotsS ls left = some xs := by
  intro xs
  induction xs with
  | nil => intro left ls _ h; simp only [ofS, Option.some.injEq] at h; subst h; rfl
  | cons x xs ih =>
    intro left ls hn h
    simp only [ofS] at h
    split at h
    · rename_i hb
      obtain ⟨l, h1, rfl⟩ := Option.map_eq_some_iff.1 h
      have hlt : x.toNat < left.length := by omega
      have hg : left.getD x.toNat 0 = left[x.toNat] := by simp [hlt]
      obtain ⟨e1, e2⟩ := erase_at (x := left[x.toNat]) hlt rfl (fun k hk e => by
        have := List.pairwise_iff_getElem.1 hn k x.toNat (by omega) hlt hk
        exact this e)
      have hm : left[x.toNat] ∈ left := List.getElem_mem hlt
      simp only [lotsS]
      rw [hg, if_pos hm, e1, e2, ih _ _ (hn.sublist (List.eraseIdx_sublist _ _)) h1, Option.map_some, Int.toNat_of_nonneg hb.1]
    · cases h
theorem of_len : ∀ (xs left ls : List Int), ofS xs left = some ls → ls.length = xs.length := by
  intro xs
  induction xs with
  | nil => intro left ls h; simp only [ofS, Option.some.injEq] at h; subst h; rfl
  | cons x xs ih =>
    intro left ls h
    simp only [ofS] at h
    split at h
    · obtain ⟨l, h1, rfl⟩ := Option.map_eq_some_iff.1 h
      simp [ih _ _ h1]
    · cases h
theorem iota_nodup (n : Nat) : (iota n).Nodup := (iota_lt n).imp (fun h => by omega)
end Go.Proofs.Ytnceobnglofnmaa.Base
end
section
/- Lots and Of, loop by loop, of either text: taking out, one by one. -/
namespace Go.Proofs.Ytnceobnglofnmaa.Base
open Go Go.RowKit Go.Proofs.YtnceobnglofnmaaW.PrintWords Go.Proofs.Ytnceobnglofnmaa.Pmxa Go.Proofs.Ytnceobnglofnmaa.Pmxb

set_option linter.unusedVariables false
theorem less_told (a b : Int) : cmp_Less_int.f a b = some (decide (a < b)) := by
  unfold cmp_Less_int.f cmp_isNaN_int.f
  simp
theorem bs_loop (L : List Int) (x : Int) (hL : L.length ≤ 1000) (hS : L.Pairwise (· < ·)) (d : Nat) : ∀ i j : Nat, j - i ≤ d → i ≤ j → j ≤ L.length → (∀ k (hk : k < i) (hl : k < L.length), L[k] < x) → (∀ k (hk : j ≤ k) (hl : k < L.length), x ≤ L[k]) →
    ∃ p : Nat, Tells (fun k => slices_BinarySearch_int_int.l0 k L x L.length i j) ((p : Int), decide (p < L.length ∧ L.getD p 0 = x)) ∧ (∀ k (hk : k < p) (hl : k < L.length), L[k] < x) ∧ (∀ k (hk : p ≤ k) (hl : k < L.length), x ≤ L[k]) := by
  induction d with
  | zero =>
    intro i j hd hij hj hlo hhi
    obtain rfl : i = j := by omega
    refine ⟨i, ?_, hlo, hhi⟩
    refine Tells.succ (fun k => by rw [slices_BinarySearch_int_int.l0]) (Tells.neg (by omega) ?_)
    by_cases hlt : i < L.length
    · refine Tells.pos (by omega) (Tells.pos (by omega) (Tells.pos (by omega) ?_))
      rw [rd_nat]
      by_cases he : L.getD i 0 = x
      · refine Tells.pos he ?_
        rw [decide_eq_true ⟨hlt, he⟩]
        exact Tells.const _
      · refine Tells.neg he ?_
        rw [decide_eq_false (fun h => he h.2)]
        refine Tells.of fun k => ?_
        simp [slices_isNaN_int.f]
    · refine Tells.neg (by omega) ?_
      rw [decide_eq_false (fun h => hlt h.1)]
      exact Tells.const _
  | succ d ih =>
    intro i j hd hij hj hlo hhi
    by_cases hlt : i < j
    · have hm : wrap64 (IntKind.u64.wrap (wrap64 ((i : Int) + (j : Int))) / 2) = (((i + j) / 2 : Nat) : Int) := by
        rw [wrap_i (a := (i : Int) + (j : Int)) (by omega) (by omega), IntKind.wrap_u64, wrap_i (by omega) (by omega)]
        omega
      obtain ⟨m, hm'⟩ : ∃ m, (i + j) / 2 = m := ⟨_, rfl⟩
      have hmi : i ≤ m ∧ m < j := by omega
      have hml : m < L.length := by omega
      have hstep : ∀ r, Tells (fun k => (cmp_Less_int.f (rd L m) x).bind fun t => if t = true then slices_BinarySearch_int_int.l0 k L x L.length (wrap64 ((m : Int) + 1)) j else slices_BinarySearch_int_int.l0 k L x L.length i m) r → Tells (fun k => slices_BinarySearch_int_int.l0 k L x L.length i j) r := by
        intro r h
        refine Tells.succ (fun k => by rw [slices_BinarySearch_int_int.l0]) (Tells.pos (by omega) ?_)
        rw [hm, hm']
        exact Tells.pos (by omega) (Tells.pos (by omega) h)
      rw [less_told, rd_get hml] at hstep
      by_cases hx : L[m] < x
      · obtain ⟨p, h1, h2⟩ := ih (m + 1) j (by omega) (by omega) hj (fun k hk hl => by
          by_cases e : k = m
          · subst e; exact hx
          · exact Int.lt_trans (List.pairwise_iff_getElem.1 hS k m hl hml (by omega)) hx) hhi
        refine ⟨p, hstep _ ?_, h2⟩
        rw [decide_eq_true hx, w64 (n := L.length) hml (by omega)]
        exact Tells.bind (f := fun _ => some true) (g := fun t k => _) (Tells.const _) (Tells.pos rfl h1)
      · obtain ⟨p, h1, h2⟩ := ih i m (by omega) (by omega) (by omega) hlo (fun k hk hl => by
          by_cases e : k = m
          · subst e; omega
          · have := List.pairwise_iff_getElem.1 hS m k hml hl (by omega)
            omega)
        refine ⟨p, hstep _ ?_, h2⟩
        rw [decide_eq_false hx]
        exact Tells.bind (f := fun _ => some false) (g := fun t k => _) (Tells.const _) (Tells.neg (by decide) h1)
    · exact ih i j (by omega) hij hj hlo hhi
/-- A number is found where it is; one that is none is not. -/
theorem bs_tells (L : List Int) (x : Int) (hL : L.length ≤ 1000) (hS : L.Pairwise (· < ·)) :
    (x ∈ L → Tells (fun k => slices_BinarySearch_int_int.f k L x) ((L.idxOf x : Nat), true)) ∧ (x ∉ L → ∃ p : Int, Tells (fun k => slices_BinarySearch_int_int.f k L x) (p, false)) := by
  obtain ⟨p, h, hlo, hhi⟩ := bs_loop L x hL hS L.length 0 L.length (by omega) (by omega) (Nat.le_refl _) (fun k hk => absurd hk (by omega)) (fun k hk hl => absurd hl (by omega))
  have h' : Tells (fun k => slices_BinarySearch_int_int.f k L x) ((p : Int), decide (p < L.length ∧ L.getD p 0 = x)) := Tells.congr (fun k => by unfold slices_BinarySearch_int_int.f; rfl) h
  constructor
  · intro hm
    obtain ⟨q, hq, rfl⟩ := List.getElem_of_mem hm
    have hpq : p = q := by
      by_cases h1 : q < p
      · exact absurd (hlo q h1 hq) (by omega)
      · by_cases h2 : p < q
        · have h3 := hhi p (Nat.le_refl _) (by omega)
          have h4 := List.pairwise_iff_getElem.1 hS p q (by omega) hq h2
          omega
        · omega
    subst hpq
    have e := (erase_at (L := L) (x := L[p]) hq rfl (fun k hk => by have := hlo k hk (by omega); omega)).2
    rw [decide_eq_true ⟨hq, by simp [hq]⟩] at h'
    rw [e]
    exact h'
  · intro hm
    have : ¬ (p < L.length ∧ L.getD p 0 = x) := by
      rintro ⟨h1, h2⟩
      apply hm
      rw [← h2]
      simp [h1]
    rw [decide_eq_false this] at h'
    exact ⟨_, h'⟩

def tell (acc : List Int) : Option (List Int) → List Int × Int
  | some ls => (acc ++ ls, 0)
  | none => ([], 2)
theorem set_snoc (acc : List Int) (d : Nat) (v : Int) (j : Nat) (hj : acc.length = j) : (acc ++ List.replicate (d + 1) (0 : Int)).set ((j : Int)).toNat v = (acc ++ [v]) ++ List.replicate d 0 := by
  rw [Int.toNat_natCast, List.set_append_right _ _ (by omega), hj, Nat.sub_self, List.replicate_succ, List.set_cons_zero, List.append_assoc]
  rfl
theorem lots_loop (l : List Int) (hl : l.length ≤ 1000) (d : Nat) : ∀ (j : Nat) (left acc : List Int), j + d = l.length → acc.length = j → left.length ≤ 1000 → left.Pairwise (· < ·) →
    Tells (fun k => mix_Lots.l0 k left (acc ++ List.replicate d 0) l l.length j) (tell acc (lotsS (l.drop j) left)) := by
  induction d with
  | zero =>
    intro j left acc hj ha _ _
    refine Tells.succ (fun k => by rw [mix_Lots.l0]) (Tells.neg (by omega) ?_)
    rw [List.drop_of_length_le (by omega)]
    simp only [lotsS, tell, List.replicate_zero, List.append_nil]
    exact Tells.const _
  | succ d ih =>
    intro j left acc hj ha hll hS
    have hlt : j < l.length := by omega
    obtain ⟨b1, b2⟩ := bs_tells left l[j] hll hS
    refine Tells.succ (fun k => by rw [mix_Lots.l0]) (Tells.pos (by omega) (Tells.pos (by omega) (Tells.pos (by omega) ?_)))
    rw [rd_get hlt, List.drop_eq_getElem_cons hlt]
    by_cases hm : l[j] ∈ left
    · obtain ⟨h1, h2, h3⟩ := idx_at hm
      refine Tells.bind (g := fun bt k => _) (b1 hm) (Tells.pos rfl (Tells.pos (by omega) (Tells.pos (by simp only; omega) (Tells.pos (by simp; omega) ?_))))
      simp only [lotsS]
      rw [if_pos hm, Int.toNat_natCast, ← h3, set_snoc acc d _ j ha, w64 (n := l.length) hlt (by omega)]
      have := ih (j + 1) (left.erase l[j]) (acc ++ [((left.idxOf l[j] : Nat) : Int)]) (by omega) (by simp [ha]) (by rw [List.length_erase_of_mem hm]; omega) (hS.sublist List.erase_sublist)
      cases hr : lotsS (l.drop (j + 1)) (left.erase l[j]) with
      | none => rw [hr] at this; exact this
      | some ls => rw [hr] at this; simpa [tell] using this
    · obtain ⟨p, hp⟩ := b2 hm
      refine Tells.bind (g := fun bt k => _) hp (Tells.neg (by simp) ?_)
      simp only [lotsS]
      rw [if_neg hm]
      exact Tells.const _
theorem lots_tells (l : List Int) (hl : l.length ≤ 1000) : Tells (fun k => mix_Lots.f k l) (tell [] (lotsS l (iota l.length))) := by
  refine Tells.congr (fun k => by unfold mix_Lots.f; rfl) (Tells.neg (by omega) ?_)
  refine Tells.bind (g := fun y k => _) (all_tells l.length hl) (Tells.pos (by omega) (Tells.pos (by omega) ?_))
  have := lots_loop l hl l.length 0 (iota l.length) [] (by omega) rfl (by rw [iota_len]; exact hl) (iota_lt _)
  simpa using this
theorem of_loop (l : List Int) (hl : l.length ≤ 1000) (d : Nat) : ∀ (j : Nat) (left acc : List Int), j + d = l.length → acc.length = j → left.length ≤ 1000 →
    Tells (fun k => mix_Of.l0 k left (acc ++ List.replicate d 0) l l.length j) (tell acc (ofS (l.drop j) left)) := by
  induction d with
  | zero =>
    intro j left acc hj ha _
    refine Tells.succ (fun k => by rw [mix_Of.l0]) (Tells.neg (by omega) ?_)
    rw [List.drop_of_length_le (by omega)]
    simp only [ofS, tell, List.replicate_zero, List.append_nil]
    exact Tells.const _
  | succ d ih =>
    intro j left acc hj ha hll
    have hlt : j < l.length := by omega
    refine Tells.succ (fun k => by rw [mix_Of.l0]) (Tells.pos (by omega) (Tells.pos (by omega) (Tells.pos (by omega) ?_)))
    rw [rd_get hlt, List.drop_eq_getElem_cons hlt]
    simp only [ofS]
    by_cases h0 : l[j] < 0
    · rw [if_neg (by omega)]
      exact Tells.pos h0 (Tells.const _)
    · refine Tells.neg h0 ?_
      by_cases h1 : l[j] ≥ (left.length : Int)
      · rw [if_neg (by omega)]
        exact Tells.pos h1 (Tells.const _)
      · refine Tells.neg h1 (Tells.pos (by omega) (Tells.pos (by omega) (Tells.pos (by simp; omega) ?_)))
        rw [if_pos (by omega), set_snoc acc d _ j ha, w64 (n := l.length) hlt (by omega)]
        have := ih (j + 1) (left.eraseIdx l[j].toNat) (acc ++ [rd left l[j]]) (by omega) (by simp [ha]) (by rw [List.length_eraseIdx]; split <;> omega)
        cases hr : ofS (l.drop (j + 1)) (left.eraseIdx l[j].toNat) with
        | none => rw [hr] at this; exact this
        | some ls => rw [hr] at this; simpa [tell, rd] using this
theorem of_tells (l : List Int) (hl : l.length ≤ 1000) : Tells (fun k => mix_Of.f k l) (tell [] (ofS l (iota l.length))) := by
  refine Tells.congr (fun k => by unfold mix_Of.f; rfl) (Tells.neg (by omega) ?_)
  refine Tells.bind (g := fun y k => _) (all_tells l.length hl) (Tells.pos (by omega) (Tells.pos (by omega) ?_))
  have := of_loop l hl l.length 0 (iota l.length) [] (by omega) rfl (by rw [iota_len]; exact hl)
  simpa using this
end Go.Proofs.Ytnceobnglofnmaa.Base
end
section
/- Seeds and commitments of either text are the same. -/
namespace Go.Proofs.Ytnceobnglofnmaa.Base
open Go Go.RowKit Go.Proofs.YtnceobnglofnmaaW.PrintWords Go.Proofs.Ytnceobnglofnmaa.Pmxa Go.Proofs.Ytnceobnglofnmaa.Pmxb

end Go.Proofs.Ytnceobnglofnmaa.Base
end
section
/- The document's lots and orders are the program's; a script of either is the same. -/
namespace Go.Proofs.Ytnceobnglofnmaa.Base
open Go Go.RowKit Go.Proofs.YtnceobnglofnmaaW.PrintWords Go.Proofs.Ytnceobnglofnmaa.Pmxa Go.Proofs.Ytnceobnglofnmaa.Pmxb
set_option linter.unusedVariables false

theorem ref_search (l left acc : List Int) (n : Int) (j p : Nat) (hj : j < l.length) (hp : p < left.length) (hl : left.length ≤ 1000) (ha : acc.length ≤ 1000) (he : left[p] = l[j]) (hne : ∀ k (hk : k < p), left[k] ≠ l[j]) (r : List Int × Int)
    (h : Tells (fun k => joustref27_Lots.l0 k l n (left.eraseIdx p) (acc ++ [(p : Int)]) (wrap64 ((j : Int) + 1))) r) (d : Nat) : ∀ m : Nat, m + d = p → Tells (fun k => joustref27_Lots.l1 k l n left acc j m) r := by
  induction d with
  | zero =>
    intro m hm
    obtain rfl : m = p := by omega
    refine Tells.succ (fun k => by rw [joustref27_Lots.l1]) (Tells.pos (by omega) (Tells.pos (by omega) (Tells.pos (by omega) (Tells.pos (by omega) (Tells.pos (by rw [rd_get hp, rd_get hj, he]) (Tells.pos (by omega) ?_))))))
    rw [without_told left m hp hl]
    exact Tells.bind (f := fun _ => some (left.eraseIdx m)) (g := fun t k => _) (Tells.const _) h
  | succ d ih =>
    intro m hm
    have hml : m < left.length := by omega
    refine Tells.succ (fun k => by rw [joustref27_Lots.l1]) (Tells.pos (by omega) (Tells.pos (by omega) (Tells.pos (by omega) (Tells.pos (by omega) (Tells.neg (by rw [rd_get hml, rd_get hj]; exact hne m (by omega)) ?_)))))
    rw [w64 (n := left.length) hml (by omega)]
    exact ih (m + 1) (by omega)
theorem ref_lots_loop (l : List Int) (hl : l.length ≤ 1000) (d : Nat) : ∀ (j : Nat) (left acc ls : List Int), j + d = l.length → acc.length = j → left.length ≤ 1000 → left.Nodup → lotsS (l.drop j) left = some ls →
    Tells (fun k => joustref27_Lots.l0 k l l.length left acc j) (acc ++ ls, 0) := by
  induction d with
  | zero =>
    intro j left acc ls hj ha _ _ h
    rw [List.drop_of_length_le (by omega)] at h
    simp only [lotsS, Option.some.injEq] at h
    subst h
    refine Tells.succ (fun k => by rw [joustref27_Lots.l0]) (Tells.neg (by omega) ?_)
    rw [List.append_nil]
    exact Tells.const _
  | succ d ih =>
    intro j left acc ls hj ha hll hn h
    have hlt : j < l.length := by omega
    rw [List.drop_eq_getElem_cons hlt] at h
    simp only [lotsS] at h
    split at h
    · rename_i hm
      obtain ⟨ls', h1, rfl⟩ := Option.map_eq_some_iff.1 h
      obtain ⟨hi, hx, he⟩ := idx_at hm
      refine Tells.succ (fun k => by rw [joustref27_Lots.l0]) (Tells.pos (by omega) ?_)
      refine ref_search l left acc l.length j (left.idxOf l[j]) hlt hi hll (by omega) hx (fun k hk e => ?_) _ ?_ (left.idxOf l[j]) 0 (by omega)
      · have := List.pairwise_iff_getElem.1 hn k (left.idxOf l[j]) (by omega) hi hk
        exact this (e.trans hx.symm)
      · rw [w64 (n := l.length) hlt (by omega), ← he]
        have := ih (j + 1) (left.erase l[j]) (acc ++ [((left.idxOf l[j] : Nat) : Int)]) ls' (by omega) (by simp [ha]) (by rw [List.length_erase_of_mem hm]; omega) (hn.erase _) h1
        simpa using this
    · cases h
theorem ref_lots_tells (l : List Int) (hl : l.length ≤ 1000) : Tells (fun k => joustref27_Lots.f k l) (tell [] (lotsS l (iota l.length))) := by
  refine Tells.congr (fun k => by unfold joustref27_Lots.f; rfl) (Tells.neg (by omega) ?_)
  refine Tells.bind (g := fun t k => _) (left_tells l.length hl l (by omega)) ?_
  by_cases hall : ∀ x ∈ iota l.length, x ∈ l
  · have hf : (iota l.length).filter (fun x => !(l.any (· == x))) = [] := by
      rw [List.filter_eq_nil_iff]
      intro x hx
      simpa using hall x hx
    have hp := perm_of_all (iota l.length) l (iota_nodup _) (by rw [iota_len]) hall
    obtain ⟨ls, h1, _⟩ := lots_of_perm l _ hp
    have h2 := ref_lots_loop l hl l.length 0 (iota l.length) [] ls (by omega) rfl (by rw [iota_len]; exact hl) (iota_nodup _) h1
    rw [hf, h1]
    refine Tells.succ (fun k => by rw [joustref27_Lots.j0]) (Tells.neg (by simp) ?_)
    exact Tells.bind (g := fun t k => _) (left_nil l.length hl) h2
  · have hnone : lotsS l (iota l.length) = none := by
      cases hr : lotsS l (iota l.length) with
      | none => rfl
      | some ls =>
        have hp := lots_perm l _ ls hr (by rw [iota_len])
        exact absurd (fun x hx => hp.mem_iff.2 hx) hall
    have hf : ¬ (iota l.length).filter (fun x => !(l.any (· == x))) = [] := by
      rw [List.filter_eq_nil_iff]
      intro h
      apply hall
      intro x hx
      have := h x hx
      simpa using this
    have hd : decide ((((iota l.length).filter (fun x => !(l.any (· == x)))).length : Int) > 0) = true := decide_eq_true (by have := List.length_pos_iff.2 hf; omega)
    rw [hd, hnone]
    simp only [tell]
    exact Tells.succ (fun k => by rw [joustref27_Lots.j0]) (Tells.pos rfl (Tells.const _))
/-- The lots of an order that was made, of either text. -/
theorem made_lots (n : Nat) (hn : n ≤ 1000) (r : List Int) (hr : r.Perm (iota n)) : ∃ ls : List Int, ls.length = n ∧ lotsS r (iota n) = some ls ∧ Tells (fun k => mix_Lots.f k r) (ls, 0) ∧ Tells (fun k => joustref27_Lots.f k r) (ls, 0) := by
  have hl : r.length = n := by rw [hr.length_eq, iota_len]
  obtain ⟨ls, h1, h2⟩ := lots_of_perm r _ hr
  have t1 := lots_tells r (by omega)
  have t2 := ref_lots_tells r (by omega)
  rw [hl, h1] at t1 t2
  exact ⟨ls, by omega, h1, t1, t2⟩
end Go.Proofs.Ytnceobnglofnmaa.Base
end
section
/- What the statements of the mixing take as given. -/
end
