/- PilotMost returns true for all inputs: the brave one's choice is worth as much as any option and more than each ahead of it, the first one is the first, the last one the last; for all data that fit into memory. -/
import Derived.Below
import Derived.ChangeOld
import Derived.OpenShut
import Derived.ProofKit
import Derived.ShutString
import Derived.SizedLaws
import Derived.Test.YtnceobnglofnmaaRows
import Derived.WalkKit
import Derived.Test.YtnceobnglofnmaaKmpm2
import Derived.Test.YtnceobnglofnmaaKmpm12
import Derived.Test.YtnceobnglofnmaaKmpm20
namespace Go.Proofs.Ytnceobnglofnmaa.pilotMost
open Go.ChangeShapes Go.WideShapes Go.ChangeAt Go.RowKit Go.Proofs.Ytnceobnglofnmaa.Opens Go.Proofs.YtnceobnglofnmaaW.PrintWords 
open Go.ChangeMaps (open_string shut_string)
set_option linter.unusedVariables false
theorem own : ownKnob Try.prog.godebug = none := by kernel_rfl
theorem laidOut : laidOutB Try.prog = true := by kernel_rfl
set_option maxRecDepth 100000 in
theorem contract (H : Type) (enc : TypeId × Value → H) (W : World) (base : Nat) (args : Array Value) (ds gs : List (DataW H)) (before : List MemPlace)
    (hval0 : ∀ (j : Nat) t v, Try.f13.params[j]? = some t → args[j]? = some v → Value.okWide Try.prog W .any base t v)
    (hW : DataW.Whole enc Try.prog Try.f13.params.toList Rows.pilotMostSpec.vars false W args.toList ds gs before)
    (hsz0 : (DataW.weightsEach Try.prog (Try.f13.params.toList ++ Rows.pilotMostSpec.plain.varTypes Try.prog) (ds ++ gs)).all (· ≤ reachBytes) = true) :
    Calls Try.prog 13 args W fun e W' => ∃ v, e = .returned v ∧ Rows.pilotMostSpec.post enc Try.prog Try.f13 false true false false W args v W' := by
  have hval : ∀ (j : Nat) t v, Try.f13.params[j]? = some t → args[j]? = some v → Value.okWide Try.prog W .any base t v := hval0
  have hsz : (DataW.weightsEach Try.prog (Try.f13.params.toList ++ Rows.pilotMostSpec.plain.varTypes Try.prog) (ds ++ gs)).all (· ≤ reachBytes) = true := hsz0
  have hW' := hW
  obtain ⟨p, q, hA0, hV, rfl, hfz, hnd⟩ := hW
  have hA : DataW.TrodAll enc Try.prog W 0 (fun _ => true) true Try.f13.params.toList args.toList ds p := hA0
  rw [Try.params13] at hA hval hsz
  obtain ⟨v0, vs0, d0, ds0, p0, q0, hargs, rfl, rfl, h0, r0⟩ := trodAll_cons hA
  obtain ⟨v1, vs1, d1, ds1, p1, q1, rfl, rfl, rfl, h1, r1⟩ := trodAll_cons r0
  obtain ⟨rfl, rfl, rfl⟩ := trodAll_nil r1
  obtain rfl : args = #[v0, v1] := by cases args; simp_all
  obtain ⟨rfl, rfl⟩ := trodVars_none hV
  have k0 := h0
  have lt0 : ∀ x ∈ p0, x.block < W.heap.size := by obtain ⟨m, hm⟩ := k0; exact DataW.trod_lt m _ _ _ hm
  obtain ⟨fuel0, hf0⟩ := h0
  have op0 := (Opens.struct Try.underlying78 (by kernel_rfl) id id (fun _ => rfl) (fun m => (fs_cons ((Opens.slice Try.underlying75 (by kernel_rfl) Opens.opens123) m) (by rfl) (by kernel_rfl) (by kernel_rfl) (fs_cons ((Opens.array Try.underlying24 (by kernel_rfl) id id (fun _ => rfl) (fun m => (fs_cons ((Opens.int Try.underlying3) m) (by rfl) (by kernel_rfl) (by kernel_rfl) (fs_last ((Opens.int Try.underlying3) m) (by rfl) (by kernel_rfl))))) m) (by rfl) (by kernel_rfl) (by kernel_rfl) (fs_cons ((Opens.int Try.underlying5) m) (by rfl) (by kernel_rfl) (by kernel_rfl) (fs_cons ((Opens.int Try.underlying3) m) (by rfl) (by kernel_rfl) (by kernel_rfl) (fs_cons ((Opens.int Try.underlying5) m) (by rfl) (by kernel_rfl) (by kernel_rfl) (fs_cons ((Opens.int Try.underlying5) m) (by rfl) (by kernel_rfl) (by kernel_rfl) (fs_last ((Opens.slice Try.underlying76 (by kernel_rfl) Opens.opens133) m) (by rfl) (by kernel_rfl)))))))))) fuel0 enc W 0 (fun _ => true) true _ _ hf0 (fun m hm => by have := List.all_eq_true.1 hsz m (DataW.weights_mem_each (j := 0) (t := 78) (d := d0) rfl rfl m hm); simpa using this)
  obtain ⟨cs0, rfl, _⟩ := okWide_struct Try.underlying78 (hval 0 78 v0 rfl rfl)
  obtain ⟨x0, hk0, hx0⟩ := op0
  obtain ⟨l0_0, ⟨⟨a0_1_0, a0_1_1⟩, ⟨a0_2, ⟨a0_3, ⟨a0_4, ⟨a0_5, l0_6⟩⟩⟩⟩⟩⟩ := x0
  obtain ⟨hw0_0, ⟨⟨hw0_1_0, hw0_1_1⟩, ⟨hw0_2, ⟨hw0_3, ⟨hw0_4, ⟨hw0_5, hw0_6⟩⟩⟩⟩⟩⟩ := hx0
  generalize hcs0 : (Value.agg cs0).cells.toList = ct0 at hk0
  obtain ⟨_, _, rfl, ⟨A0_0, c0_0, rfl, hc0_0, hr0_0⟩, ⟨_, _, rfl, ⟨_, _, rfl, rfl, rfl⟩, ⟨_, _, rfl, rfl, ⟨_, _, rfl, rfl, ⟨_, _, rfl, rfl, ⟨_, _, rfl, rfl, ⟨A0_6, c0_6, rfl, hc0_6, hr0_6⟩⟩⟩⟩⟩⟩⟩ := hk0
  obtain rfl : cs0 = #[.slice A0_0 l0_0.length c0_0, .int .i64 a0_1_0, .int .i64 a0_1_1, .int .u8 a0_2, .int .i64 a0_3, .int .u8 a0_4, .int .u8 a0_5, .slice A0_6 l0_6.length c0_6] := by have := congrArg List.toArray hcs0; simpa [Value.cells] using this
  clear hcs0
  obtain ⟨a1, rfl, rfl, rfl, hw1⟩ := open_int Try.underlying54 (hval 1 54 v1 rfl rfl) h1
  clear hA0 hval0 hsz0 hsz
  refine (Pure.PilotMost_walk A0_0 c0_0 l0_0 a0_1_0 a0_1_1 a0_2 a0_3 a0_4 a0_5 A0_6 c0_6 l0_6 a1 W hc0_0 hr0_0 hw0_0 hw0_1_0 hw0_1_1 hw0_2 hw0_3 hw0_4 hw0_5 hc0_6 hr0_6 hw0_6 hw1).mono fun e W' ⟨he, bel⟩ => ?_
  subst he
  exact ⟨_, rfl, _, _, _, [], _, [], hW', trodAll_mk1 (shut_bool Try.underlying4 _), (trodAll_cons_mk (Below.trod laidOut (by kernel_rfl) (of_decide_eq_true (by kernel_rfl)) k0 bel lt0) (trodAll_cons_mk (shut_int Try.underlying54 hw1) trodAll_mk0)), rfl, bel.frame _, fun h => by cases h⟩
set_option maxRecDepth 100000 in
theorem lifted (os : Os) (started : os.Started) (H : Type) (enc : TypeId × Value → H) :
    ReturnsInHanded {} Try.checked os 13 .any (Rows.pilotMostSpec.pre6 enc Try.prog Try.f13 Rows.pilotMostRow.domain false) (Rows.pilotMostSpec.post enc Try.prog Try.f13 false true false false) := by
  refine returnsInHanded_of_change_sized (C := Try.checked) own started (by kernel_rfl) Try.func13
    (ChangeSpec.witness6 (enc := enc) (C := Try.checked) false ⟨#[], #[.agg #[.slice none 0 0, .int .i64 0, .int .i64 0, .int .u8 0, .int .i64 0, .int .u8 0, .int .u8 0, .slice none 0 0], .int .u64 0], []⟩ 8 (by kernel_rfl) (by kernel_rfl) (by kernel_rfl) (by kernel_rfl)) ?_
  intro W base args ds gs before hval hW _ hsz _
  exact contract H enc W base args ds gs before hval hW hsz
theorem over : Rows.pilotMostRow.holds Try.pinned (OpenSpec.ofChange Rows.pilotMostSpec) :=
  OpenClaim.holds_of_wide 13 Try.f13 rfl rfl rfl rfl rfl rfl rfl ⟨rfl, rfl, rfl, rfl, rfl⟩ rfl rfl rfl rfl rfl (by kernel_rfl) Try.func13 (by kernel_rfl)
    (of_decide_eq_true (by kernel_rfl)) (by unfold Func.isWrapper; first | (rw [if_pos (by decide +kernel)]; kernel_rfl) | (rw [if_neg (by decide +kernel)]; exact ⟨rfl, rfl⟩))
    (fun os started H enc _ => lifted os started H enc)
theorem proved : Rows.PilotMostSaid := over
#print axioms proved
end Go.Proofs.Ytnceobnglofnmaa.pilotMost
namespace Go.Proofs.Ytnceobnglofnmaa
/-- The row, under a short name, for the claim. -/
theorem pilotMost_holds : Rows.PilotMostSaid := pilotMost.proved
end Go.Proofs.Ytnceobnglofnmaa
