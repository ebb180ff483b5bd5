/- Joined by a program of this session (pack.py) out of: Mxq Mxo Mxr Mxu Mxw -/
import Derived.Test.YtnceobnglofnmaaKmps4
import Derived.Test.YtnceobnglofnmaaKmps6
import Derived.Test.YtnceobnglofnmaaKmps7
import Derived.Test.YtnceobnglofnmaaKmps9
section
/- A number below n is told: the first draw that may be taken comes. -/
namespace Go.Proofs.Ytnceobnglofnmaa.Base
open Go Go.RowKit Go.Proofs.YtnceobnglofnmaaW.PrintWords Go.Proofs.Ytnceobnglofnmaa.Pmxa Go.Proofs.Ytnceobnglofnmaa.Pmxl

theorem below_l_at (D : Nat) : ∀ (k : Nat) (s a n wh : Int), D < k → (∀ j, j < D → ¬ draw s (au a j) < wh) → draw s (au a D) < wh → below_l k s a n wh = some (Int.tmod (draw s (au a D)) n, au a (D + 1), 0) := by
  induction D with
  | zero =>
    intro k s a n wh hk _ hd
    obtain ⟨k, rfl⟩ : ∃ m, k = m + 1 := ⟨k - 1, by omega⟩
    simp only [below_l]
    rw [if_pos (show draw s a < wh from hd)]
    rfl
  | succ D ih =>
    intro k s a n wh hk hb hd
    obtain ⟨k, rfl⟩ : ∃ m, k = m + 1 := ⟨k - 1, by omega⟩
    simp only [below_l]
    rw [if_neg (show ¬ draw s a < wh from hb 0 (by omega)), ih k s _ n wh (by omega) (fun j hj => by rw [au_next]; exact hb (j + 1) (by omega)) (by rw [au_next]; exact hd), au_next, au_next]
theorem first_of (D : Nat) (s a wh : Int) (h : draw s (au a D) < wh) : ∃ E, E ≤ D ∧ (∀ j, j < E → ¬ draw s (au a j) < wh) ∧ draw s (au a E) < wh := by
  induction D using Nat.strongRecOn with
  | ind D ih =>
    by_cases hx : ∃ j, j < D ∧ draw s (au a j) < wh
    · obtain ⟨j, hj, hd⟩ := hx
      obtain ⟨E, hE, hr⟩ := ih j hj hd
      exact ⟨E, by omega, hr⟩
    · exact ⟨D, Nat.le_refl _, fun j hj hd => hx ⟨j, hj, hd⟩, h⟩
theorem whole_two (n : Nat) (h0 : n ≠ 0) (hn : n < 18446744073709551616) : 2 ≤ whole (n : Int) ∧ whole (n : Int) < 18446744073709551616 := by
  unfold whole
  have e : (18446744073709551615 : Int) % (n : Int) = ((18446744073709551615 % n : Nat) : Int) := rfl
  rw [e, IntKind.wrap_u64]
  have h1 := Nat.div_add_mod 18446744073709551615 n
  have h2 : 18446744073709551615 % n < n := Nat.mod_lt _ (by omega)
  have h3 : 1 ≤ 18446744073709551615 / n := (Nat.le_div_iff_mul_le (by omega)).2 (by omega)
  have h4 : n * 1 ≤ n * (18446744073709551615 / n) := Nat.mul_le_mul_left n h3
  generalize n * (18446744073709551615 / n) = q at h1 h4
  generalize 18446744073709551615 % n = r at h1 h2 ⊢
  by_cases hn1 : n = 1
  · omega
  · omega
theorem draw_pos (s a : Nat) : 0 ≤ draw (s : Int) (a : Int) := by rw [draw_nat]; omega
/-- The first draw that may be taken comes before the last but one of all. -/
theorem below_first (s a n : Nat) (hs : s < 18446744073709551616) (ha : a < 18446744073709551616) (h0 : n ≠ 0) (hn : n < 18446744073709551616) :
    ∃ D, D < 18446744073709551615 ∧ (∀ j, j < D → ¬ draw s (au a j) < whole n) ∧ draw s (au a D) < whole n := by
  obtain ⟨D0, hD0, e0⟩ := drawn_0 s a hs ha
  obtain ⟨D1, hD1, e1⟩ := drawn_1 s a hs ha
  have hw := (whole_two n h0 hn).1
  have hne : D0 ≠ D1 := by
    rintro rfl
    rw [e0] at e1
    exact absurd e1 (by decide)
  by_cases hlt : D0 < D1
  · obtain ⟨E, hE, hb, hd⟩ := first_of D0 s a (whole n) (by rw [e0]; omega)
    exact ⟨E, by omega, hb, hd⟩
  · obtain ⟨E, hE, hb, hd⟩ := first_of D1 s a (whole n) (by rw [e1]; omega)
    exact ⟨E, by omega, hb, hd⟩
theorem below_at {D : Nat} {s a n : Int} (h0 : n ≠ 0) (hb : ∀ j, j < D → ¬ draw s (au a j) < whole n) (hd : draw s (au a D) < whole n) :
    Tells (fun k => mix_Below.f k s a n) (Int.tmod (draw s (au a D)) n, au a (D + 1), 0) :=
  ⟨D + 1, fun k hk => by show mix_Below.f k s a n = _; unfold mix_Below.f; rw [if_neg h0, below_l_at D k s a n _ (by omega) hb hd]⟩
end Go.Proofs.Ytnceobnglofnmaa.Base
end
section
/- Lists of the mixing: 0 to n - 1; what is left; the same numbers; one number taken out. -/
namespace Go.Proofs.Ytnceobnglofnmaa.Base
open Go Go.RowKit Go.Proofs.YtnceobnglofnmaaW.PrintWords Go.Proofs.Ytnceobnglofnmaa.Pmxa Go.Proofs.Ytnceobnglofnmaa.Pmxb

end Go.Proofs.Ytnceobnglofnmaa.Base
end
section
/- The document's mixing is the program's; what is left; an order of either is the same, and has each number once. -/
namespace Go.Proofs.Ytnceobnglofnmaa.Base
open Go Go.RowKit Go.Proofs.YtnceobnglofnmaaW.PrintWords Go.Proofs.Ytnceobnglofnmaa.Pmxa Go.Proofs.Ytnceobnglofnmaa.Pmxb

theorem ref_mix (n : Nat) : joustref27_Mix.f (n : Int) = some (MixV (n : Int)) := by
  have hm : ∀ x : Nat, x % 18446744073709551616 < 18446744073709551616 := fun x => Nat.mod_lt _ (Nat.zero_lt_succ _)
  have e1 : IntKind.u64.wrap ((n : Int) + 11400714819323198485) = (((n + 11400714819323198485) % 18446744073709551616 : Nat) : Int) := by rw [IntKind.wrap_u64]; omega
  have e2 : ∀ a c : Nat, IntKind.u64.wrap ((a : Int) * (c : Int)) = ((a * c % 18446744073709551616 : Nat) : Int) := fun a c => by rw [IntKind.wrap_u64, ← Int.natCast_mul]; rfl
  have eF : ∀ a : Nat, IntKind.u64.wrap ((a : Int) * 13787848793156543929) = ((a * 13787848793156543929 % 18446744073709551616 : Nat) : Int) := fun a => e2 a 13787848793156543929
  have eS : ∀ a : Nat, IntKind.u64.wrap ((a : Int) * 10723151780598845931) = ((a * 10723151780598845931 % 18446744073709551616 : Nat) : Int) := fun a => e2 a 10723151780598845931
  have t : ∀ X c : Nat, X < 18446744073709551616 → IntKind.u64.wrap (Int.tdiv (X : Int) (c : Int)) = (X : Int) / (c : Int) := fun X c hX => by
    rw [IntKind.wrap_u64, Int.tdiv_eq_ediv_of_nonneg (by omega)]
    have h2 : X / c ≤ X := Nat.div_le_self _ _
    have e : (X : Int) / (c : Int) = ((X / c : Nat) : Int) := rfl
    rw [e]
    generalize X / c = q at h2 ⊢
    omega
  have t30 : ∀ X : Nat, X < 18446744073709551616 → IntKind.u64.wrap (Int.tdiv (X : Int) 1073741824) = (X : Int) / 1073741824 := fun X hX => t X 1073741824 hX
  have t27 : ∀ X : Nat, X < 18446744073709551616 → IntKind.u64.wrap (Int.tdiv (X : Int) 134217728) = (X : Int) / 134217728 := fun X hX => t X 134217728 hX
  have t31 : ∀ X : Nat, X < 18446744073709551616 → IntKind.u64.wrap (Int.tdiv (X : Int) 2147483648) = (X : Int) / 2147483648 := fun X hX => t X 2147483648 hX
  have s30 : ∀ X : Nat, X < 18446744073709551616 → Go.bits .xor .u64 (X : Int) ((X : Int) / 1073741824) = (xs 30 X : Int) := fun X hX => shift_nat X 30 hX
  have s27 : ∀ X : Nat, X < 18446744073709551616 → Go.bits .xor .u64 (X : Int) ((X : Int) / 134217728) = (xs 27 X : Int) := fun X hX => shift_nat X 27 hX
  have s31 : ∀ X : Nat, X < 18446744073709551616 → Go.bits .xor .u64 (X : Int) ((X : Int) / 2147483648) = (xs 31 X : Int) := fun X hX => shift_nat X 31 hX
  rw [mixV_nat]
  unfold joustref27_Mix.f mixN m3 m2 m1
  simp only [e1]
  rw [t30 _ (hm _), s30 _ (hm _), eF, t27 _ (hm _), s27 _ (hm _), eS, t31 _ (hm _), s31 _ (hm _)]
theorem ref_mix_wrap (z : Int) : joustref27_Mix.f (IntKind.u64.wrap z) = some (MixV (IntKind.u64.wrap z)) := by
  have hn : (((IntKind.u64.wrap z).toNat : Nat) : Int) = IntKind.u64.wrap z := Int.toNat_of_nonneg (by rw [IntKind.wrap_u64]; omega)
  have h := ref_mix (IntKind.u64.wrap z).toNat
  rw [hn] at h
  exact h
theorem whole_ref (n : Nat) : IntKind.u64.wrap (IntKind.u64.wrap (Int.tdiv 18446744073709551615 (n : Int)) * n) = whole n := by
  unfold whole
  rw [Int.tdiv_eq_ediv_of_nonneg (by decide)]
  have e1 : (18446744073709551615 : Int) / (n : Int) = ((18446744073709551615 / n : Nat) : Int) := rfl
  have e2 : (18446744073709551615 : Int) % (n : Int) = ((18446744073709551615 % n : Nat) : Int) := rfl
  have h1 := Nat.div_add_mod 18446744073709551615 n
  have h2 : 18446744073709551615 / n ≤ 18446744073709551615 := Nat.div_le_self _ _
  have e3 : ∀ q : Nat, q ≤ 18446744073709551615 → IntKind.u64.wrap (q : Int) = (q : Int) := fun q hq => by rw [IntKind.wrap_u64]; omega
  rw [e1, e2, e3 _ h2, ← Int.natCast_mul, Nat.mul_comm]
  clear e1 e2 e3 h2
  generalize n * (18446744073709551615 / n) = q at h1 ⊢
  generalize 18446744073709551615 % n = r at h1 ⊢
  rw [IntKind.wrap_u64, IntKind.wrap_u64]
  omega
theorem ref_below_loop (D : Nat) : ∀ (k : Nat) (s a n wh : Int), n ≠ 0 → D < k → (∀ j, j < D → ¬ draw s (au a j) < wh) → draw s (au a D) < wh → joustref27_Below.l0 k s a n wh = some (Int.tmod (draw s (au a D)) n, au a (D + 1), 0) := by
  induction D with
  | zero =>
    intro k s a n wh hn hk _ hd
    obtain ⟨k, rfl⟩ : ∃ m, k = m + 1 := ⟨k - 1, by omega⟩
    rw [joustref27_Below.l0, ref_mix_wrap]
    simp only [Option.bind_some]
    exact (if_pos (show draw s a < wh from hd)).trans (if_neg hn)
  | succ D ih =>
    intro k s a n wh hn hk hb hd
    obtain ⟨k, rfl⟩ : ∃ m, k = m + 1 := ⟨k - 1, by omega⟩
    rw [joustref27_Below.l0, ref_mix_wrap]
    simp only [Option.bind_some]
    refine (if_neg (show ¬ draw s a < wh from hb 0 (by omega))).trans ?_
    rw [ih k s _ n wh hn (by omega) (fun j hj => by rw [au_next]; exact hb (j + 1) (by omega)) (by rw [au_next]; exact hd), au_next, au_next]
theorem ref_below_at {D : Nat} {s a : Int} {n : Nat} (h0 : n ≠ 0) (hb : ∀ j, j < D → ¬ draw s (au a j) < whole n) (hd : draw s (au a D) < whole n) :
    Tells (fun k => joustref27_Below.f k s a n) (Int.tmod (draw s (au a D)) n, au a (D + 1), 0) :=
  ⟨D + 1, fun k hk => by show joustref27_Below.f k s a n = _; unfold joustref27_Below.f; rw [if_neg (by omega), whole_ref n, ref_below_loop D k s a n _ (by omega) (by omega) hb hd]⟩
/-- A number below n, of either. -/
theorem both_below (s a n : Nat) (hs : s < 18446744073709551616) (ha : a < 18446744073709551616) (h0 : n ≠ 0) (hn : n < 18446744073709551616) :
    ∃ v b : Nat, v < n ∧ b < 18446744073709551616 ∧ Tells (fun k => mix_Below.f k s a n) ((v : Int), (b : Int), 0) ∧ Tells (fun k => joustref27_Below.f k s a n) ((v : Int), (b : Int), 0) := by
  obtain ⟨D, _, hb, hd⟩ := below_first s a n hs ha h0 hn
  have hdp : 0 ≤ draw (s : Int) (au (a : Int) D) := by rw [au_nat a D ha]; exact draw_pos _ _
  obtain ⟨m, hm⟩ := Int.eq_ofNat_of_zero_le hdp
  refine ⟨m % n, (a + (D + 1)) % 18446744073709551616, Nat.mod_lt _ (by omega), Nat.mod_lt _ (Nat.zero_lt_succ _), ?_, ?_⟩
  · have := below_at (n := (n : Int)) (by omega) hb hd
    rw [au_nat a (D + 1) ha, hm, Int.tmod_eq_emod_of_nonneg (by omega)] at this
    exact this
  · have := ref_below_at h0 hb hd
    rw [au_nat a (D + 1) ha, hm, Int.tmod_eq_emod_of_nonneg (by omega)] at this
    exact this

end Go.Proofs.Ytnceobnglofnmaa.Base
end
section
/- Orders and their lots: an order of either text is the same, and has each number once; lots by taking out, one by one. -/
namespace Go.Proofs.Ytnceobnglofnmaa.Base
open Go Go.RowKit Go.Proofs.YtnceobnglofnmaaW.PrintWords Go.Proofs.Ytnceobnglofnmaa.Pmxa Go.Proofs.Ytnceobnglofnmaa.Pmxb

/-! ### lots, by taking out -/
end Go.Proofs.Ytnceobnglofnmaa.Base
end
section
/- Seeds and commitments of either text are the same. -/
namespace Go.Proofs.Ytnceobnglofnmaa.Base
open Go Go.RowKit Go.Proofs.YtnceobnglofnmaaW.PrintWords Go.Proofs.Ytnceobnglofnmaa.Pmxa Go.Proofs.Ytnceobnglofnmaa.Pmxb

def sd (x y : Int) : Int := MixV (Go.bits .xor .u64 (MixV x) (MixV (MixV y)))
theorem mix_V2 (x : Int) : mix_Mix.f x = some (MixV x) := by
  have h0 := mix_V x
  cases h : mix_Mix.f x with
  | none => rw [h] at h0; cases h0
  | some y => rw [h] at h0; exact h0
end Go.Proofs.Ytnceobnglofnmaa.Base
end
