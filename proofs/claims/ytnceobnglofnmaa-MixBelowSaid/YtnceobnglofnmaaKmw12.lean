/- Joined by a program of this session (pack.py) out of: PureMixBelow -/
import Derived.Test.YtnceobnglofnmaaKmw10
import Derived.Test.YtnceobnglofnmaaKmw11
section
/- A number below n is below n, its draw is the first one that may be taken; from one draw later on it is the same: for every seed, every place, every n. -/
namespace Go.Proofs.Ytnceobnglofnmaa.Pure
open Go.RowKit Go.Proofs.Ytnceobnglofnmaa.Base Go.Proofs.Ytnceobnglofnmaa.Pmxw Go.Proofs.Ytnceobnglofnmaa.Pmxl Go.Proofs.YtnceobnglofnmaaW.PrintWords Go.Proofs.YtnceobnglofnmaaW.PrintLast

theorem lives_bind : Tells (fun k => (joustlaw27_lives.f k).bind fun t => some t) true := Tells.bind (g := fun t _ => some t) lives_tells (Tells.const true)
theorem wf_u64 {z : Int} (h : (Lit.int .u64 z).wf = true) : ∃ n : Nat, z = (n : Int) ∧ n < 18446744073709551616 := by
  simp [Lit.wf, IntKind.min, IntKind.max, IntKind.signed, IntKind.bits] at h
  exact ⟨z.toNat, by omega, by omega⟩
theorem MixBelow : joustlaw27_MixBelow.Pure := by
  intro s a n hs_ ha_ hn_
  obtain ⟨s, rfl, hs⟩ := wf_u64 hs_
  obtain ⟨a, rfl, ha⟩ := wf_u64 ha_
  obtain ⟨n, rfl, hn⟩ := wf_u64 hn_
  clear hs_ ha_ hn_
  refine Tells.exists (f := fun k => joustlaw27_MixBelow.f k s a n) ?_
  by_cases h0 : n = 0
  · subst h0
    refine Tells.bind (f := fun k => mix_Below.f k s a 0) (g := fun bt k => _) (below_zero s a) ?_
    exact Tells.pos rfl (Tells.pos rfl (Tells.pos rfl (Tells.pos rfl lives_bind)))
  · obtain ⟨D, hD, hb, hd⟩ := below_first s a n hs ha h0 hn
    have hn0 : (n : Int) ≠ 0 := by omega
    refine Tells.bind (f := fun k => mix_Below.f k s a n) (g := fun bt k => _) (below_at hn0 hb hd) ?_
    have hdp : 0 ≤ draw (s : Int) (au (a : Int) D) := by rw [au_nat a D ha]; exact draw_pos _ _
    have hv : Int.tmod (draw (s : Int) (au (a : Int) D)) n < n := by
      rw [Int.tmod_eq_emod_of_nonneg hdp]
      exact Int.emod_lt_of_pos _ (by omega)
    have hx : au (a : Int) (D + 1) = (((a + (D + 1)) % 18446744073709551616 : Nat) : Int) := au_nat a (D + 1) ha
    have hne : (au (a : Int) (D + 1) == (a : Int)) = false := by
      rw [hx, beq_eq_false_iff_ne]
      omega
    refine Tells.neg hn0 (Tells.pos rfl (Tells.neg (by simpa using hv) ?_))
    simp only [hne]
    refine Tells.succ (fun k => by rw [joustlaw27_MixBelow.j0]) (Tells.neg (by decide) ?_)
    by_cases hD0 : D = 0
    · subst hD0
      refine Tells.pos ?_ lives_bind
      rw [hx, IntKind.wrap_u64]
      omega
    · refine Tells.neg ?_ ?_
      · rw [hx, IntKind.wrap_u64]
        omega
      · obtain ⟨E, rfl⟩ : ∃ E, D = E + 1 := ⟨D - 1, by omega⟩
        have hb2 : ∀ j, j < E → ¬ draw (s : Int) (au (IntKind.u64.wrap ((a : Int) + 1)) j) < whole n := fun j hj => by rw [au_next]; exact hb (j + 1) (by omega)
        have hd2 : draw (s : Int) (au (IntKind.u64.wrap ((a : Int) + 1)) E) < whole n := by rw [au_next]; exact hd
        have h2 := below_at hn0 hb2 hd2
        rw [au_next, au_next] at h2
        refine Tells.bind (f := fun k => mix_Below.f k s (IntKind.u64.wrap ((a : Int) + 1)) n) (g := fun bt k => _) h2 ?_
        exact Tells.pos rfl (Tells.pos rfl (Tells.pos rfl lives_bind))
end Go.Proofs.Ytnceobnglofnmaa.Pure
end
