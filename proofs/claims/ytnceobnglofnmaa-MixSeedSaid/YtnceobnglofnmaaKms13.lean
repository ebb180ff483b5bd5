/- Joined by a program of this session (pack.py) out of: PureMixSeed -/
import Derived.Test.YtnceobnglofnmaaKms11
import Derived.Test.YtnceobnglofnmaaKms12
section
/- The commitments of two secrets lead to a seed, turned about, too; with another secret it is refused; two that are alike are: the plain law. -/
namespace Go.Proofs.Ytnceobnglofnmaa.Pure
open Go.RowKit Go.Proofs.Ytnceobnglofnmaa.Base Go.Proofs.Ytnceobnglofnmaa.Pmxs Go.Proofs.Ytnceobnglofnmaa.Pmxa Go.Proofs.Ytnceobnglofnmaa.Pmxl Go.Proofs.YtnceobnglofnmaaW.PrintWords Go.Proofs.YtnceobnglofnmaaW.PrintLast

theorem lives_bind : Tells (fun k => (joustlaw27_lives.f k).bind fun t => some t) true := Tells.bind (g := fun t _ => some t) lives_tells (Tells.const true)
def com (x : Int) : Int := MixV (MixV (MixV x))
theorem commit_0 : mix_Commit.f 0 = some (0, 2) := rfl
theorem commit_ne {x : Int} (h : x ≠ 0) : mix_Commit.f x = some (com x, 0) := by
  unfold mix_Commit.f
  rw [if_neg h]
  rfl
theorem com_inj {a b : Nat} (ha : a < 18446744073709551616) (hb : b < 18446744073709551616) (h : com a = com b) : a = b := by
  unfold com at h
  rw [mixV_nat, mixV_nat, mixV_nat, mixV_nat, mixV_nat, mixV_nat] at h
  exact mixN_inj ha hb (mixN_inj (mixN_lt _) (mixN_lt _) (mixN_inj (mixN_lt _) (mixN_lt _) (Int.ofNat.inj h)))
def sd (x y : Int) : Int := MixV (Go.bits .xor .u64 (MixV x) (MixV (MixV y)))
theorem seed_refused {c0 c1 x y : Int} (h : x = 0 ∨ y = 0 ∨ c0 = c1) : Tells (fun k => mix_Seed.f k c0 c1 x y) (0, 2) := by
  have hj : Tells (fun k => mix_Seed.j0 k true c0 c1 x y) (0, 2) := Tells.succ (fun k => by rw [mix_Seed.j0]) (Tells.pos rfl (Tells.const _))
  refine Tells.congr (fun k => by unfold mix_Seed.f; rfl) ?_
  by_cases hx : x = 0
  · exact Tells.pos hx hj
  · refine Tells.neg hx ?_
    by_cases hy : y = 0
    · exact Tells.pos hy hj
    · refine Tells.neg hy ?_
      have hc : (c0 == c1) = true := by
        rcases h with h | h | h
        · exact absurd h hx
        · exact absurd h hy
        · exact beq_iff_eq.2 h
      simp only [hc]
      exact hj
theorem seed_told {c0 c1 x y : Int} (hx : x ≠ 0) (hy : y ≠ 0) (hc : c0 ≠ c1) {r : Int × Int}
    (hr : r = if com x = c0 then (if com y = c1 then (sd x y, 0) else (0, 9)) else (0, 9)) : Tells (fun k => mix_Seed.f k c0 c1 x y) r := by
  refine Tells.congr (fun k => by unfold mix_Seed.f; rfl) (Tells.neg hx (Tells.neg hy ?_))
  have hcb : (c0 == c1) = false := beq_eq_false_iff_ne.2 hc
  simp only [hcb]
  refine Tells.succ (fun k => by rw [mix_Seed.j0]) (Tells.neg (by decide) ?_)
  refine Tells.succ (fun k => by rw [mix_Seed.l0]) (Tells.pos (by decide) (Tells.pos rfl ?_))
  simp only [commit_ne hx, Option.bind_some]
  by_cases h0 : com x = c0
  · rw [if_pos h0] at hr
    refine Tells.pos h0 ?_
    refine Tells.succ (fun k => by rw [show wrap64 (0 + 1) = 1 from by unfold wrap64; omega, mix_Seed.l0]) (Tells.pos (by decide) (Tells.neg (by decide) (Tells.pos rfl ?_)))
    simp only [commit_ne hy, Option.bind_some]
    by_cases h1 : com y = c1
    · rw [if_pos h1] at hr
      subst hr
      refine Tells.pos h1 ?_
      refine Tells.succ (fun k => by rw [show wrap64 (1 + 1) = 2 from by unfold wrap64; omega, mix_Seed.l0]) (Tells.neg (by decide) ?_)
      exact Tells.of fun k => rfl
    · rw [if_neg h1] at hr
      subst hr
      exact Tells.neg h1 (Tells.const _)
  · rw [if_neg h0] at hr
    subst hr
    exact Tells.neg h0 (Tells.const _)
theorem com_ne {a b : Nat} (ha : a < 18446744073709551616) (hb : b < 18446744073709551616) (h : a ≠ b) : com a ≠ com b := fun e => h (com_inj ha hb e)
theorem MixSeed_tells (a b o : Nat) (ha : a < 18446744073709551616) (hb : b < 18446744073709551616) (ho : o < 18446744073709551616) : Tells (fun k => joustlaw27_MixSeed.f k a b o) true := by
  refine Tells.congr (fun k => by unfold joustlaw27_MixSeed.f; rfl) ?_
  by_cases ha0 : (a : Int) = 0
  · by_cases hb0 : (b : Int) = 0
    · simp only [ha0, hb0, commit_0, Option.bind_some]
      exact Tells.neg (by decide) (Tells.succ (fun k => by rw [joustlaw27_MixSeed.j0]) (Tells.pos (by first | exact True.intro | exact rfl | decide) (Tells.pos (by first | exact True.intro | exact rfl | decide) lives_bind)))
    · simp only [ha0, commit_0, commit_ne hb0, Option.bind_some]
      exact Tells.neg (by decide) (Tells.succ (fun k => by rw [joustlaw27_MixSeed.j0]) (Tells.pos (by first | exact True.intro | exact rfl | decide) (Tells.pos (by first | exact True.intro | exact rfl | decide) lives_bind)))
  by_cases hb0 : (b : Int) = 0
  · simp only [hb0, commit_0, commit_ne ha0, Option.bind_some]
    exact Tells.pos (by first | exact True.intro | exact rfl | decide) (Tells.succ (fun k => by rw [joustlaw27_MixSeed.j0]) (Tells.pos (by first | exact True.intro | exact rfl | decide) (Tells.neg ha0 (Tells.pos (by first | exact True.intro | exact rfl | decide) lives_bind))))
  simp only [commit_ne ha0, commit_ne hb0, Option.bind_some]
  refine Tells.pos (by first | exact True.intro | exact rfl | decide) (Tells.succ (fun k => by rw [joustlaw27_MixSeed.j0]) (Tells.neg (by decide) ?_))
  by_cases hab : a = b
  · subst hab
    exact Tells.bind (g := fun bt k => _) (seed_refused (.inr (.inr rfl))) (Tells.pos (by first | exact True.intro | exact rfl | decide) (Tells.pos (by first | exact True.intro | exact rfl | decide) (Tells.pos (by first | exact True.intro | exact rfl | decide) lives_bind)))
  have hc := com_ne ha hb hab
  have hm : (MixV a == MixV b) = false := by
    rw [beq_eq_false_iff_ne, mixV_nat, mixV_nat]
    exact fun e => hab (mixN_inj ha hb (Int.ofNat.inj e))
  refine Tells.bind (g := fun bt k => _) (seed_told ha0 hb0 hc (r := (sd a b, 0)) (by rw [if_pos rfl, if_pos rfl])) ?_
  refine Tells.neg (by omega) (Tells.pos (by first | exact True.intro | exact rfl | decide) (Tells.neg hc ?_))
  simp only [mix_V, Option.bind_some, hm]
  refine Tells.succ (fun k => by rw [joustlaw27_MixSeed.j1]) (Tells.neg (by decide) ?_)
  refine Tells.bind (g := fun bt k => _) (seed_told hb0 ha0 (Ne.symm hc) (r := (sd b a, 0)) (by rw [if_pos rfl, if_pos rfl])) ?_
  refine Tells.bind (g := fun bt k => _) (seed_told ha0 hb0 hc (r := (sd a b, 0)) (by rw [if_pos rfl, if_pos rfl])) ?_
  by_cases ho0 : (o : Int) = 0
  · refine Tells.bind (g := fun bt k => _) (seed_refused (.inr (.inl ho0))) ?_
    exact Tells.pos ho0 (Tells.pos (by first | exact True.intro | exact rfl | decide) (Tells.pos (by first | exact True.intro | exact rfl | decide) (Tells.pos (by first | exact True.intro | exact rfl | decide) (Tells.pos (by first | exact True.intro | exact rfl | decide) lives_bind))))
  · by_cases hob : (o : Int) = b
    · refine Tells.bind (g := fun bt k => _) (seed_told ha0 ho0 hc (r := (sd a o, 0)) (by rw [if_pos rfl, if_pos (by rw [hob])])) ?_
      exact Tells.neg ho0 (Tells.pos hob (Tells.pos (by first | exact True.intro | exact rfl | decide) (Tells.pos (by first | exact True.intro | exact rfl | decide) (Tells.pos (by first | exact True.intro | exact rfl | decide) (Tells.pos (by first | exact True.intro | exact rfl | decide) lives_bind)))))
    · refine Tells.bind (g := fun bt k => _) (seed_told ha0 ho0 hc (r := (0, 9)) (by rw [if_pos rfl, if_neg (com_ne ho hb (by omega))])) ?_
      exact Tells.neg ho0 (Tells.neg hob (Tells.pos (by first | exact True.intro | exact rfl | decide) (Tells.pos (by first | exact True.intro | exact rfl | decide) (Tells.pos (by first | exact True.intro | exact rfl | decide) (Tells.pos (by first | exact True.intro | exact rfl | decide) lives_bind)))))
theorem wf_u64 {z : Int} (h : (Lit.int .u64 z).wf = true) : ∃ n : Nat, z = (n : Int) ∧ n < 18446744073709551616 := by
  simp [Lit.wf, IntKind.min, IntKind.max, IntKind.signed, IntKind.bits] at h
  exact ⟨z.toNat, by omega, by omega⟩
theorem MixSeed_walk (a b o : Int) (w : World) (ha : (Lit.int .u64 a).wf = true) (hb : (Lit.int .u64 b).wf = true) (ho : (Lit.int .u64 o).wf = true) :
    Calls Try.prog 11 #[.agg #[.int .u64 a, .int .u64 b], .int .u64 o] w fun e w' => e = .returned (.bool true) ∧ Below w.heap.size w w' := by
  obtain ⟨a, rfl, ha⟩ := wf_u64 ha
  obtain ⟨b, rfl, hb⟩ := wf_u64 hb
  obtain ⟨o, rfl, ho⟩ := wf_u64 ho
  obtain ⟨k, h⟩ := (MixSeed_tells a b o (by omega) (by omega) (by omega)).exists
  exact joustlaw27_MixSeed.calls k a b o true w h
end Go.Proofs.Ytnceobnglofnmaa.Pure
end
