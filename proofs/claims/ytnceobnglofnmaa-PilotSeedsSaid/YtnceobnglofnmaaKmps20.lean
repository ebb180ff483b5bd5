/- Joined by a program of this session (pack.py) out of: PurePilotSeeds WalkPilotSeeds -/
import Derived.Test.YtnceobnglofnmaaKmps10
import Derived.Test.YtnceobnglofnmaaKmps12
import Derived.Test.YtnceobnglofnmaaKmps19
section
/- The random one chooses by its seed and how many options there are alone; behind it its seed is mixed: the plain law. -/
namespace Go.Proofs.Ytnceobnglofnmaa.Pure
open Go.RowKit Go.Proofs.Ytnceobnglofnmaa.Base Go.Proofs.Ytnceobnglofnmaa.Pmxa Go.Proofs.Ytnceobnglofnmaa.Ppia Go.Proofs.Ytnceobnglofnmaa.Ppic Go.Proofs.Ytnceobnglofnmaa.Ppit Go.Proofs.YtnceobnglofnmaaW.PrintWords Go.Proofs.YtnceobnglofnmaaW.PrintLast
theorem lives33 : Tells (fun k => Ppil.joustlaw33_lives.f k) true := Tells.mono Ppil.joustlaw33_lives.mono (k0 := 8) (by kernel_rfl)
theorem lives33_bind : Tells (fun k => (Ppil.joustlaw33_lives.f k).bind fun t => some t) true := Tells.bind (g := fun t _ => some t) lives33 (Tells.const true)
theorem great33 (l0_0 : List (S123)) (a0_1 a0_2 a0_3 a0_4 a0_5 a0_6 : Int) (l0_7 : List (S133)) : ∃ b, joustlaw33_great.f l0_0 a0_1 a0_2 a0_3 a0_4 a0_5 a0_6 l0_7 = some b := by
  unfold joustlaw33_great.f
  split
  · exact ⟨_, rfl⟩
  · exact ⟨_, rfl⟩
theorem choose_random (s n : Nat) (v b : Int) (hw : IntKind.u64.wrap (n : Int) = (n : Int)) (hb : Tells (fun k => mix_Below.f k s 0 n) (v, b, 0)) (h0 : n ≠ 0) (l1_0 : List (S123)) (a1_1 a1_2 a1_3 a1_4 a1_5 a1_6 : Int) (l1_7 : List (S133)) (hn : l1_7.length = n) :
    Tells (fun k => pilot_Choose.f k 2 s l1_0 a1_1 a1_2 a1_3 a1_4 a1_5 a1_6 l1_7) (wrap64 v, 2, MixV (s : Int), 0) := by
  subst hn
  refine Tells.congr (g := fun k => ((mix_Below.f k s 0 l1_7.length).bind fun bt => some (wrap64 bt.1, MixV (s : Int))).bind fun t => some (t.1, 2, t.2, 0)) (fun k => by unfold pilot_Choose.f pilot_random_choose.f; rw [if_neg h0, if_neg (by decide), if_neg (by decide), if_pos rfl, hw]; simp only [mix_V2, Option.bind_some]) ?_
  exact Tells.bind (g := fun (t : Int × Int) _ => some (t.1, (2 : Int), t.2, (0 : Int))) (a := (wrap64 v, MixV (s : Int))) (Tells.bind (g := fun bt _ => some (wrap64 bt.1, MixV (s : Int))) hb (Tells.const _)) (Tells.const _)
section
variable (l0_0 : List (S123)) (a0_1 a0_2 a0_3 a0_4 a0_5 a0_6 : Int) (l0_7 : List (S133)) (l1_0 : List (S123)) (a1_1 a1_2 a1_3 a1_4 a1_5 a1_6 : Int) (l1_7 : List (S133)) (s : Nat)
theorem PilotSeeds_tells (hs : s < 18446744073709551616) (hl : l0_7.length < 18446744073709551616) :
    Tells (fun k => joustlaw33_PilotSeeds.f k l0_0 a0_1 a0_2 a0_3 a0_4 a0_5 a0_6 l0_7 l1_0 a1_1 a1_2 a1_3 a1_4 a1_5 a1_6 l1_7 s) true := by
  have skip : Tells (fun k => joustlaw33_PilotSeeds.j0 k s true l0_0 a0_1 a0_2 a0_3 a0_4 a0_5 a0_6 l0_7 l1_0 a1_1 a1_2 a1_3 a1_4 a1_5 a1_6 l1_7) true :=
    Tells.succ (fun k => by rw [joustlaw33_PilotSeeds.j0]) (Tells.pos rfl lives33_bind)
  have main : l0_7.length ≠ 0 → Tells (fun k => joustlaw33_PilotSeeds.j0 k s false l0_0 a0_1 a0_2 a0_3 a0_4 a0_5 a0_6 l0_7 l1_0 a1_1 a1_2 a1_3 a1_4 a1_5 a1_6 l1_7) true := by
    intro h0
    have hw : IntKind.u64.wrap (l0_7.length : Int) = (l0_7.length : Int) := wrap_u (by omega) (by omega)
    obtain ⟨v, b, _, _, hb1, hb2⟩ := both_below s 0 l0_7.length hs (by omega) h0 hl
    refine Tells.succ (fun k => by rw [joustlaw33_PilotSeeds.j0, hw]) (Tells.neg (by decide) ?_)
    refine Tells.bind (g := fun bt k => _) (choose_random s l0_7.length v b hw hb1 h0 l0_0 a0_1 a0_2 a0_3 a0_4 a0_5 a0_6 l0_7 rfl) ?_
    refine Tells.bind (g := fun bt k => _) hb2 (Tells.pos rfl (Tells.pos rfl (Tells.pos rfl ?_)))
    rw [ref_mix s]
    refine Tells.bind (f := fun _ => some (MixV (s : Int))) (g := fun bt k => _) (Tells.const _) (Tells.pos rfl ?_)
    refine Tells.succ (fun k => by rw [joustlaw33_PilotSeeds.j1]) (Tells.neg (by simp) ?_)
    refine Tells.bind (g := fun bt k => _) (choose_random s l0_7.length v b hw hb1 h0 l1_0 a1_1 a1_2 a1_3 a1_4 a1_5 a1_6 l0_7 rfl) ?_
    exact Tells.pos rfl (Tells.pos rfl (Tells.pos (by simp) lives33_bind))
  obtain ⟨b1, hb1⟩ := great33 l0_0 a0_1 a0_2 a0_3 a0_4 a0_5 a0_6 l0_7
  obtain ⟨b2, hb2⟩ := great33 l1_0 a1_1 a1_2 a1_3 a1_4 a1_5 a1_6 l1_7
  unfold joustlaw33_PilotSeeds.f
  rw [hb1, hb2]
  simp only [Option.bind_some]
  by_cases h1 : b1 = true
  · exact Tells.pos h1 skip
  refine Tells.neg h1 ?_
  by_cases h2 : b2 = true
  · exact Tells.pos h2 skip
  refine Tells.neg h2 ?_
  by_cases h0 : l0_7.length = 0
  · rw [show ((l0_7.length : Int) == 0) = true by rw [h0]; rfl]; exact skip
  · rw [show ((l0_7.length : Int) == 0) = false from beq_eq_false_iff_ne.2 (by omega)]; exact main h0
end
end Go.Proofs.Ytnceobnglofnmaa.Pure
end
section
/- PilotSeeds: the walk out of the printed contract. -/
namespace Go.Proofs.Ytnceobnglofnmaa.Pure
open Go.RowKit Go.Proofs.Ytnceobnglofnmaa.Base Go.Proofs.YtnceobnglofnmaaW.PrintWords Go.Proofs.YtnceobnglofnmaaW.PrintLast Go.Proofs.Ytnceobnglofnmaa.Ppia Go.Proofs.Ytnceobnglofnmaa.Ppit
set_option linter.unusedVariables false
theorem PilotSeeds_walk (A0_0 : Option Addr) (c0_0 : Nat) (l0_0 : List (S123)) (a0_1_0 : Int) (a0_1_1 : Int) (a0_2 : Int) (a0_3 : Int) (a0_4 : Int) (a0_5 : Int) (A0_6 : Option Addr) (c0_6 : Nat) (l0_6 : List (S133)) (A1_0 : Option Addr) (c1_0 : Nat) (l1_0 : List (S123)) (a1_1_0 : Int) (a1_1_1 : Int) (a1_2 : Int) (a1_3 : Int) (a1_4 : Int) (a1_5 : Int) (A1_6 : Option Addr) (c1_6 : Nat) (l1_6 : List (S133)) (a2 : Int) (w : World)
    (hc0_0 : l0_0.length ≤ c0_0) (hr0_0 : Kd.C (k123) w A0_0 l0_0.length l0_0) (hw0_0 : (l0_0.length * Try.prog.bytesOf 123 ≤ reachBytes ∧ l0_0.length ≤ maxLen ∧ ∀ y ∈ l0_0, Opens.ok123 y)) (hw0_1_0 : (Lit.int .i64 a0_1_0).wf = true) (hw0_1_1 : (Lit.int .i64 a0_1_1).wf = true) (hw0_2 : (Lit.int .u8 a0_2).wf = true) (hw0_3 : (Lit.int .i64 a0_3).wf = true) (hw0_4 : (Lit.int .u8 a0_4).wf = true) (hw0_5 : (Lit.int .u8 a0_5).wf = true) (hc0_6 : l0_6.length ≤ c0_6) (hr0_6 : Kd.C (k133) w A0_6 l0_6.length l0_6) (hw0_6 : (l0_6.length * Try.prog.bytesOf 133 ≤ reachBytes ∧ l0_6.length ≤ maxLen ∧ ∀ y ∈ l0_6, Opens.ok133 y)) (hc1_0 : l1_0.length ≤ c1_0) (hr1_0 : Kd.C (k123) w A1_0 l1_0.length l1_0) (hw1_0 : (l1_0.length * Try.prog.bytesOf 123 ≤ reachBytes ∧ l1_0.length ≤ maxLen ∧ ∀ y ∈ l1_0, Opens.ok123 y)) (hw1_1_0 : (Lit.int .i64 a1_1_0).wf = true) (hw1_1_1 : (Lit.int .i64 a1_1_1).wf = true) (hw1_2 : (Lit.int .u8 a1_2).wf = true) (hw1_3 : (Lit.int .i64 a1_3).wf = true) (hw1_4 : (Lit.int .u8 a1_4).wf = true) (hw1_5 : (Lit.int .u8 a1_5).wf = true) (hc1_6 : l1_6.length ≤ c1_6) (hr1_6 : Kd.C (k133) w A1_6 l1_6.length l1_6) (hw1_6 : (l1_6.length * Try.prog.bytesOf 133 ≤ reachBytes ∧ l1_6.length ≤ maxLen ∧ ∀ y ∈ l1_6, Opens.ok133 y)) (hw2 : (Lit.int .u64 a2).wf = true) :
    Calls Try.prog 14 #[.agg #[.slice A0_0 l0_0.length c0_0, .int .i64 a0_1_0, .int .i64 a0_1_1, .int .u8 a0_2, .int .i64 a0_3, .int .u8 a0_4, .int .u8 a0_5, .slice A0_6 l0_6.length c0_6], .agg #[.slice A1_0 l1_0.length c1_0, .int .i64 a1_1_0, .int .i64 a1_1_1, .int .u8 a1_2, .int .i64 a1_3, .int .u8 a1_4, .int .u8 a1_5, .slice A1_6 l1_6.length c1_6], .int .u64 a2] w fun e w' => e = .returned (.bool true) ∧ Below w.heap.size w w' := by
  have len_lt : ∀ {n b : Nat}, n * b ≤ reachBytes → decide (8 ≤ b) = true → n < 18446744073709551616 := fun {n b} h hb => by
    have := Nat.mul_le_mul_left n (of_decide_eq_true hb)
    unfold reachBytes at h
    omega
  obtain ⟨s, rfl, hs⟩ : ∃ n : Nat, a2 = (n : Int) ∧ n < 18446744073709551616 := by
    simp [Lit.wf, IntKind.min, IntKind.max, IntKind.signed, IntKind.bits] at hw2
    exact ⟨a2.toNat, by omega, by omega⟩
  obtain ⟨k, h⟩ := (PilotSeeds_tells l0_0 a0_1_0 a0_1_1 a0_2 a0_3 a0_4 a0_5 l0_6 l1_0 a1_1_0 a1_1_1 a1_2 a1_3 a1_4 a1_5 l1_6 s hs (len_lt hw0_6.1 (by kernel_rfl))).exists
  exact Ppit.joustlaw33_PilotSeeds.calls k A0_0 c0_0 l0_0 a0_1_0 a0_1_1 a0_2 a0_3 a0_4 a0_5 A0_6 c0_6 l0_6 A1_0 c1_0 l1_0 a1_1_0 a1_1_1 a1_2 a1_3 a1_4 a1_5 A1_6 c1_6 l1_6 _ true w hr0_0 hc0_0 hr0_6 hc0_6 hr1_0 hc1_0 hr1_6 hc1_6 h
end Go.Proofs.Ytnceobnglofnmaa.Pure
end
