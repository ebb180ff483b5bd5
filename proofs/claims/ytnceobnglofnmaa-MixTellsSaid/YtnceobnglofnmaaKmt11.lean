/- Joined by a program of this session (pack.py) out of: Mxq Mxo Mxr Mxu Mxw BaseMz -/
import Derived.Test.YtnceobnglofnmaaKmt4
import Derived.Test.YtnceobnglofnmaaKmt7
import Derived.Test.YtnceobnglofnmaaKmt8
import Derived.Test.YtnceobnglofnmaaKmt9
import Derived.Test.YtnceobnglofnmaaKmt10
section
/- A number below n is told: the first draw that may be taken comes. -/
namespace Go.Proofs.Ytnceobnglofnmaa.Base
open Go Go.RowKit Go.Proofs.YtnceobnglofnmaaW.PrintWords Go.Proofs.Ytnceobnglofnmaa.Pmxa Go.Proofs.Ytnceobnglofnmaa.Pmxl

theorem lives_tells : Tells (fun k => joustlaw27_lives.f k) true := Tells.mono (fun k => joustlaw27_lives.mono k) (k0 := 20) (by kernel_rfl)

theorem below_l_at (D : Nat) : ∀ (k : Nat) (s a n wh : Int), D < k → (∀ j, j < D → ¬ draw s (au a j) < wh) → draw s (au a D) < wh → below_l k s a n wh = some (Int.tmod (draw s (au a D)) n, au a (D + 1), 0) := by
  induction D with
  | zero =>
    intro k s a n wh hk _ hd
    obtain ⟨k, rfl⟩ : ∃ m, k = m + 1 := ⟨k - 1, by omega⟩
    simp only [below_l]
    rw [if_pos (show draw s a < wh from hd)]
    rfl
  | succ D ih =>
    intro k s a n wh hk hb hd
    obtain ⟨k, rfl⟩ : ∃ m, k = m + 1 := ⟨k - 1, by omega⟩
    simp only [below_l]
    rw [if_neg (show ¬ draw s a < wh from hb 0 (by omega)), ih k s _ n wh (by omega) (fun j hj => by rw [au_next]; exact hb (j + 1) (by omega)) (by rw [au_next]; exact hd), au_next, au_next]
theorem first_of (D : Nat) (s a wh : Int) (h : draw s (au a D) < wh) : ∃ E, E ≤ D ∧ (∀ j, j < E → ¬ draw s (au a j) < wh) ∧ draw s (au a E) < wh := by
  induction D using Nat.strongRecOn with
  | ind D ih =>
    by_cases hx : ∃ j, j < D ∧ draw s (au a j) < wh
    · obtain ⟨j, hj, hd⟩ := hx
      obtain ⟨E, hE, hr⟩ := ih j hj hd
      exact ⟨E, by omega, hr⟩
    · exact ⟨D, Nat.le_refl _, fun j hj hd => hx ⟨j, hj, hd⟩, h⟩
theorem whole_two (n : Nat) (h0 : n ≠ 0) (hn : n < 18446744073709551616) : 2 ≤ whole (n : Int) ∧ whole (n : Int) < 18446744073709551616 := by
  unfold whole
  have e : (18446744073709551615 : Int) % (n : Int) = ((18446744073709551615 % n : Nat) : Int) := rfl
  rw [e, IntKind.wrap_u64]
  have h1 := Nat.div_add_mod 18446744073709551615 n
  have h2 : 18446744073709551615 % n < n := Nat.mod_lt _ (by omega)
  have h3 : 1 ≤ 18446744073709551615 / n := (Nat.le_div_iff_mul_le (by omega)).2 (by omega)
  have h4 : n * 1 ≤ n * (18446744073709551615 / n) := Nat.mul_le_mul_left n h3
  generalize n * (18446744073709551615 / n) = q at h1 h4
  generalize 18446744073709551615 % n = r at h1 h2 ⊢
  by_cases hn1 : n = 1
  · omega
  · omega
theorem draw_pos (s a : Nat) : 0 ≤ draw (s : Int) (a : Int) := by rw [draw_nat]; omega
/-- The first draw that may be taken comes before the last but one of all. -/
theorem below_first (s a n : Nat) (hs : s < 18446744073709551616) (ha : a < 18446744073709551616) (h0 : n ≠ 0) (hn : n < 18446744073709551616) :
    ∃ D, D < 18446744073709551615 ∧ (∀ j, j < D → ¬ draw s (au a j) < whole n) ∧ draw s (au a D) < whole n := by
  obtain ⟨D0, hD0, e0⟩ := drawn_0 s a hs ha
  obtain ⟨D1, hD1, e1⟩ := drawn_1 s a hs ha
  have hw := (whole_two n h0 hn).1
  have hne : D0 ≠ D1 := by
    rintro rfl
    rw [e0] at e1
    exact absurd e1 (by decide)
  by_cases hlt : D0 < D1
  · obtain ⟨E, hE, hb, hd⟩ := first_of D0 s a (whole n) (by rw [e0]; omega)
    exact ⟨E, by omega, hb, hd⟩
  · obtain ⟨E, hE, hb, hd⟩ := first_of D1 s a (whole n) (by rw [e1]; omega)
    exact ⟨E, by omega, hb, hd⟩
theorem below_at {D : Nat} {s a n : Int} (h0 : n ≠ 0) (hb : ∀ j, j < D → ¬ draw s (au a j) < whole n) (hd : draw s (au a D) < whole n) :
    Tells (fun k => mix_Below.f k s a n) (Int.tmod (draw s (au a D)) n, au a (D + 1), 0) :=
  ⟨D + 1, fun k hk => by show mix_Below.f k s a n = _; unfold mix_Below.f; rw [if_neg h0, below_l_at D k s a n _ (by omega) hb hd]⟩
theorem below_zero (s a : Int) : Tells (fun k => mix_Below.f k s a 0) (0, 0, 2) := Tells.of fun k => by show mix_Below.f k s a 0 = _; unfold mix_Below.f; rw [if_pos rfl]
end Go.Proofs.Ytnceobnglofnmaa.Base
end
section
/- Lists of the mixing: 0 to n - 1; what is left; the same numbers; one number taken out. -/
namespace Go.Proofs.Ytnceobnglofnmaa.Base
open Go Go.RowKit Go.Proofs.YtnceobnglofnmaaW.PrintWords Go.Proofs.Ytnceobnglofnmaa.Pmxa Go.Proofs.Ytnceobnglofnmaa.Pmxb

def iota (n : Nat) : List Int := (List.range n).map fun i : Nat => (i : Int)
theorem iota_len (n : Nat) : (iota n).length = n := by simp [iota]
theorem iota_succ (n : Nat) : iota (n + 1) = iota n ++ [(n : Int)] := by simp [iota, List.range_succ]
theorem rd_nat (l : List Int) (j : Nat) : rd l (j : Int) = l.getD j 0 := by simp [rd]
theorem rd_get {l : List Int} {j : Nat} (h : j < l.length) : rd l (j : Int) = l[j] := by rw [rd_nat]; simp [h]
theorem w64 {j : Nat} {n : Nat} (h : j < n) (hn : n ≤ 4611686018427387904) : wrap64 ((j : Int) + 1) = ((j + 1 : Nat) : Int) := by
  rw [wrap_i (by omega) (by omega)]; omega

theorem all_loop (n : Nat) (hn : n ≤ 1000) (d : Nat) : ∀ j, j + d = n → Tells (fun k => mix_all.l0 k (iota j ++ List.replicate d 0) n j) (iota n) := by
  induction d with
  | zero =>
    intro j hj
    obtain rfl : j = n := by omega
    refine Tells.succ (fun k => by rw [mix_all.l0]) (Tells.neg (by omega) ?_)
    simp only [List.replicate_zero, List.append_nil]
    exact Tells.const _
  | succ d ih =>
    intro j hj
    refine Tells.succ (fun k => by rw [mix_all.l0]) (Tells.pos (by omega) (Tells.pos (by omega) (Tells.pos (by simp [iota_len]; omega) ?_)))
    rw [w64 (n := n) (by omega) (by omega)]
    have e : (iota j ++ List.replicate (d + 1) (0 : Int)).set ((j : Int)).toNat (j : Int) = iota (j + 1) ++ List.replicate d 0 := by
      rw [Int.toNat_natCast, List.set_append_right _ _ (by rw [iota_len]; exact Nat.le_refl _), iota_len, Nat.sub_self, List.replicate_succ, List.set_cons_zero, iota_succ, List.append_assoc]
      rfl
    rw [e]
    exact ih (j + 1) (by omega)
theorem all_tells (n : Nat) (hn : n ≤ 1000) : Tells (fun k => mix_all.f k n) (iota n) := by
  refine Tells.congr (fun k => by unfold mix_all.f; rfl) (Tells.pos (by omega) (Tells.pos (by omega) ?_))
  refine Tells.bind (g := fun y k => _) (Tells.const _) ?_
  have := all_loop n hn n 0 (by omega)
  simpa [iota] using this

theorem ints_loop (a b : List Int) (ha : a.length ≤ 17592186044416) (h : a.length = b.length) (d : Nat) : ∀ j, j + d = a.length → a.take j = b.take j → Tells (fun k => joustref27_Ints.l0 k a b j) (decide (a = b)) := by
  induction d with
  | zero =>
    intro j hj ht
    refine Tells.succ (fun k => by rw [joustref27_Ints.l0]) (Tells.neg (by omega) ?_)
    rw [List.take_of_length_le (by omega), List.take_of_length_le (by omega)] at ht
    simp only [ht, decide_true]
    exact Tells.const _
  | succ d ih =>
    intro j hj ht
    have h1 : j < a.length := by omega
    have h2 : j < b.length := by omega
    refine Tells.succ (fun k => by rw [joustref27_Ints.l0]) (Tells.pos (by omega) (Tells.pos (by omega) (Tells.pos (by omega) ?_)))
    rw [rd_get h1, rd_get h2]
    by_cases e : a[j] = b[j]
    · refine Tells.pos e ?_
      rw [w64 (n := a.length) (by omega) (by omega)]
      exact ih (j + 1) (by omega) (by rw [List.take_succ_eq_append_getElem h1, List.take_succ_eq_append_getElem h2, ht, e])
    · refine Tells.neg e ?_
      have : a ≠ b := by rintro rfl; exact e rfl
      simp only [this, decide_false]
      exact Tells.const _
theorem ints_tells (a b : List Int) (ha : a.length ≤ 17592186044416) : Tells (fun k => joustref27_Ints.f k a b) (decide (a = b)) := by
  refine Tells.congr (fun k => by unfold joustref27_Ints.f; rfl) ?_
  by_cases h : a.length = b.length
  · exact Tells.pos (by omega) (ints_loop a b ha h a.length 0 (by omega) rfl)
  · refine Tells.neg (by omega) ?_
    have : a ≠ b := by rintro rfl; exact h rfl
    simp only [this, decide_false]
    exact Tells.const _
theorem ints_same (a : List Int) (ha : a.length ≤ 17592186044416) : Tells (fun k => joustref27_Ints.f k a a) true := by
  have := ints_tells a a ha
  simpa using this

end Go.Proofs.Ytnceobnglofnmaa.Base
end
section
/- The document's mixing is the program's; what is left; an order of either is the same, and has each number once. -/
namespace Go.Proofs.Ytnceobnglofnmaa.Base
open Go Go.RowKit Go.Proofs.YtnceobnglofnmaaW.PrintWords Go.Proofs.Ytnceobnglofnmaa.Pmxa Go.Proofs.Ytnceobnglofnmaa.Pmxb

theorem ref_mix (n : Nat) : joustref27_Mix.f (n : Int) = some (MixV (n : Int)) := by
  have hm : ∀ x : Nat, x % 18446744073709551616 < 18446744073709551616 := fun x => Nat.mod_lt _ (Nat.zero_lt_succ _)
  have e1 : IntKind.u64.wrap ((n : Int) + 11400714819323198485) = (((n + 11400714819323198485) % 18446744073709551616 : Nat) : Int) := by rw [IntKind.wrap_u64]; omega
  have e2 : ∀ a c : Nat, IntKind.u64.wrap ((a : Int) * (c : Int)) = ((a * c % 18446744073709551616 : Nat) : Int) := fun a c => by rw [IntKind.wrap_u64, ← Int.natCast_mul]; rfl
  have eF : ∀ a : Nat, IntKind.u64.wrap ((a : Int) * 13787848793156543929) = ((a * 13787848793156543929 % 18446744073709551616 : Nat) : Int) := fun a => e2 a 13787848793156543929
  have eS : ∀ a : Nat, IntKind.u64.wrap ((a : Int) * 10723151780598845931) = ((a * 10723151780598845931 % 18446744073709551616 : Nat) : Int) := fun a => e2 a 10723151780598845931
  have t : ∀ X c : Nat, X < 18446744073709551616 → IntKind.u64.wrap (Int.tdiv (X : Int) (c : Int)) = (X : Int) / (c : Int) := fun X c hX => by
    rw [IntKind.wrap_u64, Int.tdiv_eq_ediv_of_nonneg (by omega)]
    have h2 : X / c ≤ X := Nat.div_le_self _ _
    have e : (X : Int) / (c : Int) = ((X / c : Nat) : Int) := rfl
    rw [e]
    generalize X / c = q at h2 ⊢
    omega
  have t30 : ∀ X : Nat, X < 18446744073709551616 → IntKind.u64.wrap (Int.tdiv (X : Int) 1073741824) = (X : Int) / 1073741824 := fun X hX => t X 1073741824 hX
  have t27 : ∀ X : Nat, X < 18446744073709551616 → IntKind.u64.wrap (Int.tdiv (X : Int) 134217728) = (X : Int) / 134217728 := fun X hX => t X 134217728 hX
  have t31 : ∀ X : Nat, X < 18446744073709551616 → IntKind.u64.wrap (Int.tdiv (X : Int) 2147483648) = (X : Int) / 2147483648 := fun X hX => t X 2147483648 hX
  have s30 : ∀ X : Nat, X < 18446744073709551616 → Go.bits .xor .u64 (X : Int) ((X : Int) / 1073741824) = (xs 30 X : Int) := fun X hX => shift_nat X 30 hX
  have s27 : ∀ X : Nat, X < 18446744073709551616 → Go.bits .xor .u64 (X : Int) ((X : Int) / 134217728) = (xs 27 X : Int) := fun X hX => shift_nat X 27 hX
  have s31 : ∀ X : Nat, X < 18446744073709551616 → Go.bits .xor .u64 (X : Int) ((X : Int) / 2147483648) = (xs 31 X : Int) := fun X hX => shift_nat X 31 hX
  rw [mixV_nat]
  unfold joustref27_Mix.f mixN m3 m2 m1
  simp only [e1]
  rw [t30 _ (hm _), s30 _ (hm _), eF, t27 _ (hm _), s27 _ (hm _), eS, t31 _ (hm _), s31 _ (hm _)]
theorem ref_mix_wrap (z : Int) : joustref27_Mix.f (IntKind.u64.wrap z) = some (MixV (IntKind.u64.wrap z)) := by
  have hn : (((IntKind.u64.wrap z).toNat : Nat) : Int) = IntKind.u64.wrap z := Int.toNat_of_nonneg (by rw [IntKind.wrap_u64]; omega)
  have h := ref_mix (IntKind.u64.wrap z).toNat
  rw [hn] at h
  exact h
theorem bind3 {α : Type} {f : Int → Option Int} {a b c d : Int} {g : Int → Option α} (h1 : f a = some b) (h2 : f b = some c) (h3 : f c = some d) : ((f a).bind fun x => (f x).bind fun y => (f y).bind g) = g d := by
  simp only [h1, h2, h3, Option.bind_some]
theorem ref_mix_mix (n : Nat) : joustref27_Mix.f (MixV (n : Int)) = some (MixV (MixV (n : Int))) := by
  have h := ref_mix (mixN n)
  rw [← mixV_nat] at h
  exact h
theorem ref_mix_mix_mix (n : Nat) : joustref27_Mix.f (MixV (MixV (n : Int))) = some (MixV (MixV (MixV (n : Int)))) := by
  have h := ref_mix_mix (mixN n)
  rw [← mixV_nat] at h
  exact h
theorem ref_commit_ne (n : Nat) (h : (n : Int) ≠ 0) : joustref27_Commit.f (n : Int) = some (MixV (MixV (MixV (n : Int))), 0) := by
  unfold joustref27_Commit.f
  rw [if_neg h]
  exact bind3 (ref_mix n) (ref_mix_mix n) (ref_mix_mix_mix n)
theorem commit_0 : mix_Commit.f 0 = some (0, 2) := rfl
theorem ref_commit_0 : joustref27_Commit.f 0 = some (0, 2) := rfl
theorem commit_ne {x : Int} (h : x ≠ 0) : mix_Commit.f x = some (MixV (MixV (MixV x)), 0) := by
  unfold mix_Commit.f
  rw [if_neg h]
  exact bind3 (mix_V _) (mix_V _) (mix_V _)
theorem whole_ref (n : Nat) : IntKind.u64.wrap (IntKind.u64.wrap (Int.tdiv 18446744073709551615 (n : Int)) * n) = whole n := by
  unfold whole
  rw [Int.tdiv_eq_ediv_of_nonneg (by decide)]
  have e1 : (18446744073709551615 : Int) / (n : Int) = ((18446744073709551615 / n : Nat) : Int) := rfl
  have e2 : (18446744073709551615 : Int) % (n : Int) = ((18446744073709551615 % n : Nat) : Int) := rfl
  have h1 := Nat.div_add_mod 18446744073709551615 n
  have h2 : 18446744073709551615 / n ≤ 18446744073709551615 := Nat.div_le_self _ _
  have e3 : ∀ q : Nat, q ≤ 18446744073709551615 → IntKind.u64.wrap (q : Int) = (q : Int) := fun q hq => by rw [IntKind.wrap_u64]; omega
  rw [e1, e2, e3 _ h2, ← Int.natCast_mul, Nat.mul_comm]
  clear e1 e2 e3 h2
  generalize n * (18446744073709551615 / n) = q at h1 ⊢
  generalize 18446744073709551615 % n = r at h1 ⊢
  rw [IntKind.wrap_u64, IntKind.wrap_u64]
  omega
theorem ref_below_loop (D : Nat) : ∀ (k : Nat) (s a n wh : Int), n ≠ 0 → D < k → (∀ j, j < D → ¬ draw s (au a j) < wh) → draw s (au a D) < wh → joustref27_Below.l0 k s a n wh = some (Int.tmod (draw s (au a D)) n, au a (D + 1), 0) := by
  induction D with
  | zero =>
    intro k s a n wh hn hk _ hd
    obtain ⟨k, rfl⟩ : ∃ m, k = m + 1 := ⟨k - 1, by omega⟩
    rw [joustref27_Below.l0, ref_mix_wrap]
    simp only [Option.bind_some]
    exact (if_pos (show draw s a < wh from hd)).trans (if_neg hn)
  | succ D ih =>
    intro k s a n wh hn hk hb hd
    obtain ⟨k, rfl⟩ : ∃ m, k = m + 1 := ⟨k - 1, by omega⟩
    rw [joustref27_Below.l0, ref_mix_wrap]
    simp only [Option.bind_some]
    refine (if_neg (show ¬ draw s a < wh from hb 0 (by omega))).trans ?_
    rw [ih k s _ n wh hn (by omega) (fun j hj => by rw [au_next]; exact hb (j + 1) (by omega)) (by rw [au_next]; exact hd), au_next, au_next]
theorem ref_below_at {D : Nat} {s a : Int} {n : Nat} (h0 : n ≠ 0) (hb : ∀ j, j < D → ¬ draw s (au a j) < whole n) (hd : draw s (au a D) < whole n) :
    Tells (fun k => joustref27_Below.f k s a n) (Int.tmod (draw s (au a D)) n, au a (D + 1), 0) :=
  ⟨D + 1, fun k hk => by show joustref27_Below.f k s a n = _; unfold joustref27_Below.f; rw [if_neg (by omega), whole_ref n, ref_below_loop D k s a n _ (by omega) (by omega) hb hd]⟩
theorem ref_below_zero (s a : Int) : Tells (fun k => joustref27_Below.f k s a 0) (0, 0, 2) := Tells.of fun k => by show joustref27_Below.f k s a 0 = _; unfold joustref27_Below.f; rw [if_pos rfl]
/-- A number below n, of either. -/
theorem both_below (s a n : Nat) (hs : s < 18446744073709551616) (ha : a < 18446744073709551616) (h0 : n ≠ 0) (hn : n < 18446744073709551616) :
    ∃ v b : Nat, v < n ∧ b < 18446744073709551616 ∧ Tells (fun k => mix_Below.f k s a n) ((v : Int), (b : Int), 0) ∧ Tells (fun k => joustref27_Below.f k s a n) ((v : Int), (b : Int), 0) := by
  obtain ⟨D, _, hb, hd⟩ := below_first s a n hs ha h0 hn
  have hdp : 0 ≤ draw (s : Int) (au (a : Int) D) := by rw [au_nat a D ha]; exact draw_pos _ _
  obtain ⟨m, hm⟩ := Int.eq_ofNat_of_zero_le hdp
  refine ⟨m % n, (a + (D + 1)) % 18446744073709551616, Nat.mod_lt _ (by omega), Nat.mod_lt _ (Nat.zero_lt_succ _), ?_, ?_⟩
  · have := below_at (n := (n : Int)) (by omega) hb hd
    rw [au_nat a (D + 1) ha, hm, Int.tmod_eq_emod_of_nonneg (by omega)] at this
    exact this
  · have := ref_below_at h0 hb hd
    rw [au_nat a (D + 1) ha, hm, Int.tmod_eq_emod_of_nonneg (by omega)] at this
    exact this

end Go.Proofs.Ytnceobnglofnmaa.Base
end
section
/- Orders and their lots: an order of either text is the same, and has each number once; lots by taking out, one by one. -/
namespace Go.Proofs.Ytnceobnglofnmaa.Base
open Go Go.RowKit Go.Proofs.YtnceobnglofnmaaW.PrintWords Go.Proofs.Ytnceobnglofnmaa.Pmxa Go.Proofs.Ytnceobnglofnmaa.Pmxb

theorem order_loop (s : Nat) (hs : s < 18446744073709551616) (i : Nat) : ∀ (l : List Int) (at_ : Nat), (i = 0 ∨ i < l.length) → l.length ≤ 1000 → at_ < 18446744073709551616 →
    ∃ r : List Int, r.Perm l ∧ Tells (fun k => mix_Order.l0 k s l at_ i) (r, 0) ∧ Tells (fun k => joustref27_Order.l1 k s l at_ i) (r, 0) := by
  induction i with
  | zero =>
    intro l at_ _ _ _
    exact ⟨l, List.Perm.refl _, Tells.succ (fun k => by rw [mix_Order.l0]) (Tells.neg (by omega) (Tells.const _)), Tells.succ (fun k => by rw [joustref27_Order.l1]) (Tells.neg (by omega) (Tells.const _))⟩
  | succ i ih =>
    intro l at_ hi hl ha
    have hlt : i + 1 < l.length := by omega
    obtain ⟨v, b, hv, hb, t1, t2⟩ := both_below s at_ (i + 2) hs ha (by omega) (by omega)
    have hvl : v < l.length := by omega
    obtain ⟨r, hr, h1, h2⟩ := ih ((l.set (i + 1) l[v]).set v l[i + 1]) b (by simp only [List.length_set]; omega) (by simp only [List.length_set]; omega) hb
    have hw : wrap64 (((i + 1 : Nat) : Int) - 1) = (i : Int) := by rw [wrap_i (by omega) (by omega)]; omega
    refine ⟨r, hr.trans (List.set_set_perm hlt hvl), ?_, ?_⟩
    · refine Tells.succ (fun k => by rw [mix_Order.l0]) (Tells.pos (by omega) ?_)
      have e : IntKind.u64.wrap (IntKind.u64.wrap ((i + 1 : Nat) : Int) + 1) = ((i + 2 : Nat) : Int) := by rw [IntKind.wrap_u64, IntKind.wrap_u64]; omega
      rw [e]
      refine Tells.bind (g := fun bt k => _) t1 (Tells.pos (by omega) (Tells.pos (by omega) (Tells.pos (by omega) (Tells.pos (by omega) ?_))))
      dsimp only
      rw [rd_get hvl, rd_get hlt, hw, Int.toNat_natCast, Int.toNat_natCast]
      exact h1
    · refine Tells.succ (fun k => by rw [joustref27_Order.l1]) (Tells.pos (by omega) ?_)
      have e : IntKind.u64.wrap (wrap64 (((i + 1 : Nat) : Int) + 1)) = ((i + 2 : Nat) : Int) := by rw [wrap_i (by omega) (by omega), IntKind.wrap_u64]; omega
      rw [e]
      refine Tells.bind (g := fun bt k => _) t2 (Tells.pos (by omega) (Tells.pos (by omega) (Tells.pos (by omega) (Tells.pos (by omega) ?_))))
      dsimp only
      rw [rd_get hvl, rd_get hlt, hw, Int.toNat_natCast, Int.toNat_natCast]
      exact h2
theorem order_build (s : Int) (n : Nat) (hn : n ≤ 1000) (r : List Int × Int) (h : Tells (fun k => joustref27_Order.l1 k s (iota n) 0 (wrap64 ((n : Int) - 1))) r) (d : Nat) : ∀ j, j + d = n →
    Tells (fun k => joustref27_Order.l0 k s n (iota j) j) r := by
  induction d with
  | zero =>
    intro j hj
    obtain rfl : j = n := by omega
    exact Tells.succ (fun k => by rw [joustref27_Order.l0]) (Tells.neg (by omega) h)
  | succ d ih =>
    intro j hj
    refine Tells.succ (fun k => by rw [joustref27_Order.l0]) (Tells.pos (by omega) (Tells.pos (by rw [iota_len]; omega) ?_))
    rw [w64 (n := n) (by omega) (by omega), ← iota_succ]
    exact ih (j + 1) (by omega)
theorem order_tells (s n : Nat) (hs : s < 18446744073709551616) (hn : n ≤ 1000) :
    ∃ r : List Int, r.Perm (iota n) ∧ Tells (fun k => mix_Order.f k s n) (r, 0) ∧ Tells (fun k => joustref27_Order.f k s n) (r, 0) := by
  have key : ∃ r : List Int, r.Perm (iota n) ∧ Tells (fun k => mix_Order.l0 k s (iota n) 0 (wrap64 ((n : Int) - 1))) (r, 0) ∧ Tells (fun k => joustref27_Order.l1 k s (iota n) 0 (wrap64 ((n : Int) - 1))) (r, 0) := by
    cases n with
    | zero =>
      have e : wrap64 (((0 : Nat) : Int) - 1) = -1 := by unfold wrap64; omega
      rw [e]
      exact ⟨_, List.Perm.refl _, Tells.succ (fun k => by rw [mix_Order.l0]) (Tells.neg (by omega) (Tells.const _)), Tells.succ (fun k => by rw [joustref27_Order.l1]) (Tells.neg (by omega) (Tells.const _))⟩
    | succ i =>
      have e : wrap64 (((i + 1 : Nat) : Int) - 1) = (i : Int) := by rw [wrap_i (by omega) (by omega)]; omega
      rw [e]
      exact order_loop s hs i (iota (i + 1)) 0 (by rw [iota_len]; omega) (by rw [iota_len]; omega) (by omega)
  obtain ⟨r, hr, h1, h2⟩ := key
  have hd : decide ((n : Int) > 1000) = false := decide_eq_false (by omega)
  refine ⟨r, hr, ?_, ?_⟩
  · refine Tells.congr (fun k => by unfold mix_Order.f; rfl) (Tells.neg (by omega) ?_)
    rw [hd]
    refine Tells.succ (fun k => by rw [mix_Order.j0]) (Tells.neg (by decide) ?_)
    exact Tells.bind (g := fun bt k => _) (all_tells n hn) h1
  · refine Tells.congr (fun k => by unfold joustref27_Order.f; rfl) (Tells.neg (by omega) ?_)
    rw [hd]
    refine Tells.succ (fun k => by rw [joustref27_Order.j0]) (Tells.neg (by decide) ?_)
    exact order_build s n hn _ h2 n 0 (by omega)
theorem order_err (s n : Int) (h : n < 0 ∨ 1000 < n) : Tells (fun k => mix_Order.f k s n) ([], 2) ∧ Tells (fun k => joustref27_Order.f k s n) ([], 2) := by
  have j1 : Tells (fun k => mix_Order.j0 k s n true) ([], 2) := Tells.succ (fun k => by rw [mix_Order.j0]) (Tells.pos rfl (Tells.const _))
  have j2 : Tells (fun k => joustref27_Order.j0 k s n true) ([], 2) := Tells.succ (fun k => by rw [joustref27_Order.j0]) (Tells.pos rfl (Tells.const _))
  constructor
  · refine Tells.congr (fun k => by unfold mix_Order.f; rfl) ?_
    by_cases h0 : n < 0
    · exact Tells.pos h0 j1
    · refine Tells.neg h0 ?_
      rw [decide_eq_true (show n > 1000 by omega)]
      exact j1
  · refine Tells.congr (fun k => by unfold joustref27_Order.f; rfl) ?_
    by_cases h0 : n < 0
    · exact Tells.pos h0 j2
    · refine Tells.neg h0 ?_
      rw [decide_eq_true (show n > 1000 by omega)]
      exact j2

/-! ### lots, by taking out -/
end Go.Proofs.Ytnceobnglofnmaa.Base
end
section
/- Seeds and commitments of either text are the same. -/
namespace Go.Proofs.Ytnceobnglofnmaa.Base
open Go Go.RowKit Go.Proofs.YtnceobnglofnmaaW.PrintWords Go.Proofs.Ytnceobnglofnmaa.Pmxa Go.Proofs.Ytnceobnglofnmaa.Pmxb

def com (x : Int) : Int := MixV (MixV (MixV x))
def sd (x y : Int) : Int := MixV (Go.bits .xor .u64 (MixV x) (MixV (MixV y)))
theorem seed_refused {c0 c1 x y : Int} (h : x = 0 ∨ y = 0 ∨ c0 = c1) : Tells (fun k => mix_Seed.f k c0 c1 x y) (0, 2) := by
  have hj : Tells (fun k => mix_Seed.j0 k true c0 c1 x y) (0, 2) := Tells.succ (fun k => by rw [mix_Seed.j0]) (Tells.pos rfl (Tells.const _))
  refine Tells.congr (fun k => by unfold mix_Seed.f; rfl) ?_
  by_cases hx : x = 0
  · exact Tells.pos hx hj
  · refine Tells.neg hx ?_
    by_cases hy : y = 0
    · exact Tells.pos hy hj
    · refine Tells.neg hy ?_
      have hc : (c0 == c1) = true := by
        rcases h with h | h | h
        · exact absurd h hx
        · exact absurd h hy
        · exact beq_iff_eq.2 h
      simp only [hc]
      exact hj
theorem seed_told {c0 c1 x y : Int} (hx : x ≠ 0) (hy : y ≠ 0) (hc : c0 ≠ c1) {r : Int × Int}
    (hr : r = if com x = c0 then (if com y = c1 then (sd x y, 0) else (0, 9)) else (0, 9)) : Tells (fun k => mix_Seed.f k c0 c1 x y) r := by
  refine Tells.congr (fun k => by unfold mix_Seed.f; rfl) (Tells.neg hx (Tells.neg hy ?_))
  have hcb : (c0 == c1) = false := beq_eq_false_iff_ne.2 hc
  simp only [hcb]
  refine Tells.succ (fun k => by rw [mix_Seed.j0]) (Tells.neg (by decide) ?_)
  refine Tells.succ (fun k => by rw [mix_Seed.l0]) (Tells.pos (by decide) (Tells.pos rfl ?_))
  simp only [commit_ne hx, Option.bind_some]
  by_cases h0 : com x = c0
  · rw [if_pos h0] at hr
    refine Tells.pos h0 ?_
    refine Tells.succ (fun k => by rw [show wrap64 (0 + 1) = 1 from by unfold wrap64; omega, mix_Seed.l0]) (Tells.pos (by decide) (Tells.neg (by decide) (Tells.pos rfl ?_)))
    simp only [commit_ne hy, Option.bind_some]
    by_cases h1 : com y = c1
    · rw [if_pos h1] at hr
      subst hr
      refine Tells.pos h1 ?_
      refine Tells.succ (fun k => by rw [show wrap64 (1 + 1) = 2 from by unfold wrap64; omega, mix_Seed.l0]) (Tells.neg (by decide) ?_)
      exact Tells.of fun k => rfl
    · rw [if_neg h1] at hr
      subst hr
      exact Tells.neg h1 (Tells.const _)
  · rw [if_neg h0] at hr
    subst hr
    exact Tells.neg h0 (Tells.const _)
theorem xor_nat (x y : Nat) : ∃ z : Nat, Go.bits .xor .u64 (MixV (x : Int)) (MixV (MixV (y : Int))) = (z : Int) := by
  rw [mixV_nat, mixV_nat, mixV_nat, bits_xor_u64_nat _ _ (mixN_lt _) (mixN_lt _)]
  exact ⟨_, rfl⟩
theorem ref_xor (x y : Nat) : joustref27_Mix.f (Go.bits .xor .u64 (MixV (x : Int)) (MixV (MixV (y : Int)))) = some (sd x y) := by
  obtain ⟨z, hz⟩ := xor_nat x y
  have h := ref_mix z
  rw [← hz] at h
  exact h
theorem bind4 {α : Type} {f : Int → Option Int} {g : Int → Int → Int} {a b xa yb yz d : Int} {h : Int → Option α} (h1 : f a = some xa) (h2 : f b = some yb) (h3 : f yb = some yz) (h4 : f (g xa yz) = some d) :
    ((f a).bind fun x => (f b).bind fun y => (f y).bind fun z => (f (g x z)).bind h) = h d := by
  simp only [h1, h2, h3, h4, Option.bind_some]
theorem ref_seed_refused {c0 c1 x y : Int} (h : x = 0 ∨ y = 0 ∨ c0 = c1) : Tells (fun k => joustref27_Seed.f k c0 c1 x y) (0, 2) := by
  have hj : Tells (fun k => joustref27_Seed.j0 k true c0 c1 x y) (0, 2) := Tells.succ (fun k => by rw [joustref27_Seed.j0]) (Tells.pos rfl (Tells.const _))
  refine Tells.congr (fun k => by unfold joustref27_Seed.f; rfl) ?_
  by_cases hx : x = 0
  · exact Tells.pos hx hj
  · refine Tells.neg hx ?_
    by_cases hy : y = 0
    · exact Tells.pos hy hj
    · refine Tells.neg hy ?_
      have hc : (c0 == c1) = true := by
        rcases h with h | h | h
        · exact absurd h hx
        · exact absurd h hy
        · exact beq_iff_eq.2 h
      simp only [hc]
      exact hj
theorem ref_seed_told {c0 c1 : Int} {x y : Nat} (hx : (x : Int) ≠ 0) (hy : (y : Int) ≠ 0) (hc : c0 ≠ c1) {r : Int × Int}
    (hr : r = if com x = c0 then (if com y = c1 then (sd x y, 0) else (0, 9)) else (0, 9)) : Tells (fun k => joustref27_Seed.f k c0 c1 x y) r := by
  refine Tells.congr (fun k => by unfold joustref27_Seed.f; rfl) (Tells.neg hx (Tells.neg hy ?_))
  have hcb : (c0 == c1) = false := beq_eq_false_iff_ne.2 hc
  simp only [hcb]
  refine Tells.succ (fun k => by rw [joustref27_Seed.j0]) (Tells.neg (by decide) ?_)
  refine Tells.succ (fun k => by rw [joustref27_Seed.l0]) (Tells.pos (by decide) (Tells.pos rfl ?_))
  simp only [ref_commit_ne x hx, Option.bind_some]
  by_cases h0 : com x = c0
  · rw [if_pos h0] at hr
    refine Tells.pos h0 ?_
    refine Tells.succ (fun k => by rw [show wrap64 (0 + 1) = 1 from by unfold wrap64; omega, joustref27_Seed.l0]) (Tells.pos (by decide) (Tells.neg (by decide) (Tells.pos rfl ?_)))
    simp only [ref_commit_ne y hy, Option.bind_some]
    by_cases h1 : com y = c1
    · rw [if_pos h1] at hr
      subst hr
      refine Tells.pos h1 ?_
      refine Tells.succ (fun k => by rw [show wrap64 (1 + 1) = 2 from by unfold wrap64; omega, joustref27_Seed.l0]) (Tells.neg (by decide) ?_)
      exact Tells.of fun k => bind4 (g := fun a c => Go.bits .xor .u64 a c) (h := fun d => some (d, (0 : Int))) (ref_mix x) (ref_mix y) (ref_mix_mix y) (ref_xor x y)
    · rw [if_neg h1] at hr
      subst hr
      exact Tells.neg h1 (Tells.const _)
  · rw [if_neg h0] at hr
    subst hr
    exact Tells.neg h0 (Tells.const _)
theorem mix_V2 (x : Int) : mix_Mix.f x = some (MixV x) := by
  have h0 := mix_V x
  cases h : mix_Mix.f x with
  | none => rw [h] at h0; cases h0
  | some y => rw [h] at h0; exact h0
/-- Of any two commitments and secrets either text tells the same. -/
theorem both_seed (c0 c1 x y : Nat) : ∃ r : Int × Int, Tells (fun k => mix_Seed.f k c0 c1 x y) r ∧ Tells (fun k => joustref27_Seed.f k c0 c1 x y) r := by
  by_cases h : (x : Int) = 0 ∨ (y : Int) = 0 ∨ (c0 : Int) = c1
  · exact ⟨_, seed_refused h, ref_seed_refused h⟩
  · have hx : (x : Int) ≠ 0 := fun e => h (.inl e)
    have hy : (y : Int) ≠ 0 := fun e => h (.inr (.inl e))
    have hc : (c0 : Int) ≠ c1 := fun e => h (.inr (.inr e))
    exact ⟨_, seed_told hx hy hc rfl, ref_seed_told hx hy hc rfl⟩
theorem both_commit (n : Nat) : ∃ r : Int × Int, mix_Commit.f n = some r ∧ joustref27_Commit.f n = some r := by
  by_cases h : (n : Int) = 0
  · rw [h]; exact ⟨_, commit_0, ref_commit_0⟩
  · exact ⟨_, commit_ne h, ref_commit_ne n h⟩
theorem both_below_all (s a n : Nat) (hs : s < 18446744073709551616) (ha : a < 18446744073709551616) (hn : n < 18446744073709551616) :
    ∃ r : Int × Int × Int, Tells (fun k => mix_Below.f k s a n) r ∧ Tells (fun k => joustref27_Below.f k s a n) r := by
  by_cases h : n = 0
  · subst h; exact ⟨_, below_zero s a, ref_below_zero s a⟩
  · obtain ⟨v, b, _, _, h1, h2⟩ := both_below s a n hs ha h hn
    exact ⟨_, h1, h2⟩
theorem both_order (s : Nat) (n : Int) (hs : s < 18446744073709551616) : ∃ r : List Int × Int, r.1.length ≤ 1000 ∧ Tells (fun k => mix_Order.f k s n) r ∧ Tells (fun k => joustref27_Order.f k s n) r := by
  by_cases h : n < 0 ∨ 1000 < n
  · exact ⟨_, by simp, (order_err s n h).1, (order_err s n h).2⟩
  · obtain ⟨m, rfl⟩ := Int.eq_ofNat_of_zero_le (show 0 ≤ n by omega)
    obtain ⟨r, hr, h1, h2⟩ := order_tells s m hs (by omega)
    refine ⟨_, ?_, h1, h2⟩
    have := hr.length_eq
    rw [iota_len] at this
    show r.length ≤ 1000
    omega
end Go.Proofs.Ytnceobnglofnmaa.Base
end
section
/- What the statements of the mixing take as given. -/
end
