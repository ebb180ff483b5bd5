/- Joined by a program of this session (pack.py) out of: BaseMz Mxq -/
import Derived.Test.YtnceobnglofnmaaKmw4
import Derived.Test.YtnceobnglofnmaaKmw6
import Derived.Test.YtnceobnglofnmaaKmw8
import Derived.Test.YtnceobnglofnmaaKmw9
section
/- What the statements of the mixing take as given. -/
end
section
/- A number below n is told: the first draw that may be taken comes. -/
namespace Go.Proofs.Ytnceobnglofnmaa.Base
open Go Go.RowKit Go.Proofs.YtnceobnglofnmaaW.PrintWords Go.Proofs.Ytnceobnglofnmaa.Pmxa Go.Proofs.Ytnceobnglofnmaa.Pmxl

theorem lives_tells : Tells (fun k => joustlaw27_lives.f k) true := Tells.mono (fun k => joustlaw27_lives.mono k) (k0 := 20) (by kernel_rfl)

theorem below_l_at (D : Nat) : ∀ (k : Nat) (s a n wh : Int), D < k → (∀ j, j < D → ¬ draw s (au a j) < wh) → draw s (au a D) < wh → below_l k s a n wh = some (Int.tmod (draw s (au a D)) n, au a (D + 1), 0) := by
  induction D with
  | zero =>
    intro k s a n wh hk _ hd
    obtain ⟨k, rfl⟩ : ∃ m, k = m + 1 := ⟨k - 1, by omega⟩
    simp only [below_l]
    rw [if_pos (show draw s a < wh from hd)]
    rfl
  | succ D ih =>
    intro k s a n wh hk hb hd
    obtain ⟨k, rfl⟩ : ∃ m, k = m + 1 := ⟨k - 1, by omega⟩
    simp only [below_l]
    rw [if_neg (show ¬ draw s a < wh from hb 0 (by omega)), ih k s _ n wh (by omega) (fun j hj => by rw [au_next]; exact hb (j + 1) (by omega)) (by rw [au_next]; exact hd), au_next, au_next]
theorem first_of (D : Nat) (s a wh : Int) (h : draw s (au a D) < wh) : ∃ E, E ≤ D ∧ (∀ j, j < E → ¬ draw s (au a j) < wh) ∧ draw s (au a E) < wh := by
  induction D using Nat.strongRecOn with
  | ind D ih =>
    by_cases hx : ∃ j, j < D ∧ draw s (au a j) < wh
    · obtain ⟨j, hj, hd⟩ := hx
      obtain ⟨E, hE, hr⟩ := ih j hj hd
      exact ⟨E, by omega, hr⟩
    · exact ⟨D, Nat.le_refl _, fun j hj hd => hx ⟨j, hj, hd⟩, h⟩
theorem whole_two (n : Nat) (h0 : n ≠ 0) (hn : n < 18446744073709551616) : 2 ≤ whole (n : Int) ∧ whole (n : Int) < 18446744073709551616 := by
  unfold whole
  have e : (18446744073709551615 : Int) % (n : Int) = ((18446744073709551615 % n : Nat) : Int) := rfl
  rw [e, IntKind.wrap_u64]
  have h1 := Nat.div_add_mod 18446744073709551615 n
  have h2 : 18446744073709551615 % n < n := Nat.mod_lt _ (by omega)
  have h3 : 1 ≤ 18446744073709551615 / n := (Nat.le_div_iff_mul_le (by omega)).2 (by omega)
  have h4 : n * 1 ≤ n * (18446744073709551615 / n) := Nat.mul_le_mul_left n h3
  generalize n * (18446744073709551615 / n) = q at h1 h4
  generalize 18446744073709551615 % n = r at h1 h2 ⊢
  by_cases hn1 : n = 1
  · omega
  · omega
theorem draw_pos (s a : Nat) : 0 ≤ draw (s : Int) (a : Int) := by rw [draw_nat]; omega
/-- The first draw that may be taken comes before the last but one of all. -/
theorem below_first (s a n : Nat) (hs : s < 18446744073709551616) (ha : a < 18446744073709551616) (h0 : n ≠ 0) (hn : n < 18446744073709551616) :
    ∃ D, D < 18446744073709551615 ∧ (∀ j, j < D → ¬ draw s (au a j) < whole n) ∧ draw s (au a D) < whole n := by
  obtain ⟨D0, hD0, e0⟩ := drawn_0 s a hs ha
  obtain ⟨D1, hD1, e1⟩ := drawn_1 s a hs ha
  have hw := (whole_two n h0 hn).1
  have hne : D0 ≠ D1 := by
    rintro rfl
    rw [e0] at e1
    exact absurd e1 (by decide)
  by_cases hlt : D0 < D1
  · obtain ⟨E, hE, hb, hd⟩ := first_of D0 s a (whole n) (by rw [e0]; omega)
    exact ⟨E, by omega, hb, hd⟩
  · obtain ⟨E, hE, hb, hd⟩ := first_of D1 s a (whole n) (by rw [e1]; omega)
    exact ⟨E, by omega, hb, hd⟩
theorem below_at {D : Nat} {s a n : Int} (h0 : n ≠ 0) (hb : ∀ j, j < D → ¬ draw s (au a j) < whole n) (hd : draw s (au a D) < whole n) :
    Tells (fun k => mix_Below.f k s a n) (Int.tmod (draw s (au a D)) n, au a (D + 1), 0) :=
  ⟨D + 1, fun k hk => by show mix_Below.f k s a n = _; unfold mix_Below.f; rw [if_neg h0, below_l_at D k s a n _ (by omega) hb hd]⟩
theorem below_zero (s a : Int) : Tells (fun k => mix_Below.f k s a 0) (0, 0, 2) := Tells.of fun k => by show mix_Below.f k s a 0 = _; unfold mix_Below.f; rw [if_pos rfl]
end Go.Proofs.Ytnceobnglofnmaa.Base
end
