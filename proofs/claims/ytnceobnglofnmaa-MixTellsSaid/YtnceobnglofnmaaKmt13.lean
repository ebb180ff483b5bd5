/- Joined by a program of this session (pack.py) out of: PureMixTells -/
import Derived.Test.YtnceobnglofnmaaKmt11
import Derived.Test.YtnceobnglofnmaaKmt12
section
/- Any number mixed, a commitment, a seed, a number below another, an order of at most 60 or of too many are the document's: the plain law. -/
namespace Go.Proofs.Ytnceobnglofnmaa.Pure
open Go.RowKit Go.Proofs.Ytnceobnglofnmaa.Base Go.Proofs.Ytnceobnglofnmaa.Pmxt Go.Proofs.Ytnceobnglofnmaa.Pmxa Go.Proofs.Ytnceobnglofnmaa.Pmxb Go.Proofs.Ytnceobnglofnmaa.Pmxl Go.Proofs.YtnceobnglofnmaaW.PrintWords Go.Proofs.YtnceobnglofnmaaW.PrintLast

theorem lives_bind : Tells (fun k => (joustlaw27_lives.f k).bind fun t => some t) true := Tells.bind (g := fun t _ => some t) lives_tells (Tells.const true)
theorem MixTells_tells (n c0 c1 x y s a b : Nat) (m : Int) (hs : s < 18446744073709551616) (ha : a < 18446744073709551616) (hb : b < 18446744073709551616) :
    Tells (fun k => joustlaw27_MixTells.f k n c0 c1 x y s a b m) true := by
  have main : Tells (fun k => joustlaw27_MixTells.j0 k n s a b m false c0 c1 x y) true := by
    refine Tells.succ (fun k => by rw [joustlaw27_MixTells.j0]) (Tells.neg (by decide) ?_)
    obtain ⟨r1, e1, e2⟩ := both_commit n
    obtain ⟨r2, s1, s2⟩ := both_seed c0 c1 x y
    refine Tells.bind (f := fun _ => mix_Commit.f n) (g := fun bt k => _) (Tells.of fun _ => e1) (Tells.bind (f := fun _ => joustref27_Commit.f n) (g := fun bt k => _) (Tells.of fun _ => e2) ?_)
    refine Tells.bind (g := fun bt k => _) s1 (Tells.bind (g := fun bt k => _) s2 ?_)
    refine Tells.bind (f := fun _ => mix_Mix.f n) (g := fun bt k => _) (Tells.of fun _ => mix_V2 n) (Tells.bind (f := fun _ => joustref27_Mix.f n) (g := fun bt k => _) (Tells.of fun _ => ref_mix n) ?_)
    refine Tells.pos rfl (Tells.pos rfl (Tells.pos rfl (Tells.pos rfl ?_)))
    have hne : (r2.2 != r2.2) = false := by simp
    simp only [hne]
    refine Tells.succ (fun k => by rw [joustlaw27_MixTells.j1]) (Tells.neg (by decide) ?_)
    obtain ⟨r3, b1, b2⟩ := both_below_all s a b hs ha hb
    refine Tells.bind (g := fun bt k => _) b1 (Tells.bind (g := fun bt k => _) b2 (Tells.pos rfl (Tells.pos rfl ?_)))
    have hne : (r3.2.2 != r3.2.2) = false := by simp
    simp only [hne]
    refine Tells.succ (fun k => by rw [joustlaw27_MixTells.j2]) (Tells.neg (by decide) ?_)
    obtain ⟨r4, hl, o1, o2⟩ := both_order s m hs
    refine Tells.bind (g := fun bt k => _) o1 (Tells.bind (g := fun bt k => _) o2 ?_)
    exact Tells.bind (g := fun bt k => _) (ints_same r4.1 (by omega)) (Tells.pos rfl (Tells.pos rfl lives_bind))
  refine Tells.congr (fun k => by unfold joustlaw27_MixTells.f; rfl) ?_
  by_cases h : m > 60
  · refine Tells.pos h ?_
    by_cases h2 : m ≤ 1000
    · rw [decide_eq_true h2]
      exact Tells.succ (fun k => by rw [joustlaw27_MixTells.j0]) (Tells.pos rfl lives_bind)
    · rw [decide_eq_false h2]
      exact main
  · exact Tells.neg h main
theorem wf_u64 {z : Int} (h : (Lit.int .u64 z).wf = true) : ∃ n : Nat, z = (n : Int) ∧ n < 18446744073709551616 := by
  simp [Lit.wf, IntKind.min, IntKind.max, IntKind.signed, IntKind.bits] at h
  exact ⟨z.toNat, by omega, by omega⟩
theorem MixTells_walk (n c0 c1 x y s a b m : Int) (w : World) (hn : (Lit.int .u64 n).wf = true) (h0 : (Lit.int .u64 c0).wf = true) (h1 : (Lit.int .u64 c1).wf = true) (hx : (Lit.int .u64 x).wf = true) (hy : (Lit.int .u64 y).wf = true)
    (hs : (Lit.int .u64 s).wf = true) (ha : (Lit.int .u64 a).wf = true) (hb : (Lit.int .u64 b).wf = true) (_hm : (Lit.int .i64 m).wf = true) :
    Calls Try.prog 10 #[.int .u64 n, .agg #[.int .u64 c0, .int .u64 c1], .agg #[.int .u64 x, .int .u64 y], .int .u64 s, .int .u64 a, .int .u64 b, .int .i64 m] w fun e w' => e = .returned (.bool true) ∧ Below w.heap.size w w' := by
  obtain ⟨n, rfl, _⟩ := wf_u64 hn
  obtain ⟨c0, rfl, _⟩ := wf_u64 h0
  obtain ⟨c1, rfl, _⟩ := wf_u64 h1
  obtain ⟨x, rfl, _⟩ := wf_u64 hx
  obtain ⟨y, rfl, _⟩ := wf_u64 hy
  obtain ⟨s, rfl, hs'⟩ := wf_u64 hs
  obtain ⟨a, rfl, ha'⟩ := wf_u64 ha
  obtain ⟨b, rfl, hb'⟩ := wf_u64 hb
  obtain ⟨k, h⟩ := (MixTells_tells n c0 c1 x y s a b m hs' ha' hb').exists
  exact joustlaw27_MixTells.calls k n c0 c1 x y s a b m true w h
end Go.Proofs.Ytnceobnglofnmaa.Pure
end
