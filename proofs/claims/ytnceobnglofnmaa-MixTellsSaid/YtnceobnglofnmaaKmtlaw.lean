/- For every number, two commitments, two secrets, seed, place, bound and size of at most 60 or beyond 1000: what the program mixes, commits to, draws and orders is the reference's, or its error. No conditions. -/
import Derived.Below
import Derived.ChangeOld
import Derived.OpenShut
import Derived.ProofKit
import Derived.ShutString
import Derived.SizedLaws
import Derived.Test.YtnceobnglofnmaaRows
import Derived.WalkKit
import Derived.Test.YtnceobnglofnmaaKmt2
import Derived.Test.YtnceobnglofnmaaKmt13
namespace Go.Proofs.Ytnceobnglofnmaa.mixTells
open Go.ChangeShapes Go.WideShapes Go.ChangeAt Go.RowKit Go.Proofs.Ytnceobnglofnmaa.Opens Go.Proofs.YtnceobnglofnmaaW.PrintWords 
open Go.ChangeMaps (open_string shut_string)
set_option linter.unusedVariables false
theorem own : ownKnob Try.prog.godebug = none := by kernel_rfl
theorem laidOut : laidOutB Try.prog = true := by kernel_rfl
set_option maxRecDepth 100000 in
theorem contract (H : Type) (enc : TypeId × Value → H) (W : World) (base : Nat) (args : Array Value) (ds gs : List (DataW H)) (before : List MemPlace)
    (hval0 : ∀ (j : Nat) t v, Try.f10.params[j]? = some t → args[j]? = some v → Value.okWide Try.prog W .any base t v)
    (hW : DataW.Whole enc Try.prog Try.f10.params.toList Rows.mixTellsSpec.vars false W args.toList ds gs before)
    (hsz0 : (DataW.weightsEach Try.prog (Try.f10.params.toList ++ Rows.mixTellsSpec.plain.varTypes Try.prog) (ds ++ gs)).all (· ≤ reachBytes) = true) :
    Calls Try.prog 10 args W fun e W' => ∃ v, e = .returned v ∧ Rows.mixTellsSpec.post enc Try.prog Try.f10 false true false false W args v W' := by
  have hval : ∀ (j : Nat) t v, Try.f10.params[j]? = some t → args[j]? = some v → Value.okWide Try.prog W .any base t v := hval0
  have hsz : (DataW.weightsEach Try.prog (Try.f10.params.toList ++ Rows.mixTellsSpec.plain.varTypes Try.prog) (ds ++ gs)).all (· ≤ reachBytes) = true := hsz0
  have hW' := hW
  obtain ⟨p, q, hA0, hV, rfl, hfz, hnd⟩ := hW
  have hA : DataW.TrodAll enc Try.prog W 0 (fun _ => true) true Try.f10.params.toList args.toList ds p := hA0
  rw [Try.params10] at hA hval hsz
  obtain ⟨v0, vs0, d0, ds0, p0, q0, hargs, rfl, rfl, h0, r0⟩ := trodAll_cons hA
  obtain ⟨v1, vs1, d1, ds1, p1, q1, rfl, rfl, rfl, h1, r1⟩ := trodAll_cons r0
  obtain ⟨v2, vs2, d2, ds2, p2, q2, rfl, rfl, rfl, h2, r2⟩ := trodAll_cons r1
  obtain ⟨v3, vs3, d3, ds3, p3, q3, rfl, rfl, rfl, h3, r3⟩ := trodAll_cons r2
  obtain ⟨v4, vs4, d4, ds4, p4, q4, rfl, rfl, rfl, h4, r4⟩ := trodAll_cons r3
  obtain ⟨v5, vs5, d5, ds5, p5, q5, rfl, rfl, rfl, h5, r5⟩ := trodAll_cons r4
  obtain ⟨v6, vs6, d6, ds6, p6, q6, rfl, rfl, rfl, h6, r6⟩ := trodAll_cons r5
  obtain ⟨rfl, rfl, rfl⟩ := trodAll_nil r6
  obtain rfl : args = #[v0, v1, v2, v3, v4, v5, v6] := by cases args; simp_all
  obtain ⟨rfl, rfl⟩ := trodVars_none hV
  obtain ⟨a0, rfl, rfl, rfl, hw0⟩ := open_int Try.underlying54 (hval 0 54 v0 rfl rfl) h0
  have k1 := h1
  have lt1 : ∀ x ∈ p1, x.block < W.heap.size := by obtain ⟨m, hm⟩ := k1; exact DataW.trod_lt m _ _ _ hm
  obtain ⟨fuel1, hf1⟩ := h1
  have op1 := (Opens.array Try.underlying66 (by kernel_rfl) id id (fun _ => rfl) (fun m => (fs_cons ((Opens.int Try.underlying54) m) (by rfl) (by kernel_rfl) (by kernel_rfl) (fs_last ((Opens.int Try.underlying54) m) (by rfl) (by kernel_rfl))))) fuel1 enc W 0 (fun _ => true) true _ _ hf1 (fun m hm => by have := List.all_eq_true.1 hsz m (DataW.weights_mem_each (j := 1) (t := 66) (d := d1) rfl rfl m hm); simpa using this)
  obtain ⟨cs1, rfl, _⟩ := okWide_arr Try.underlying66 (hval 1 66 v1 rfl rfl)
  obtain ⟨x1, hk1, hx1⟩ := op1
  obtain ⟨a1_0, a1_1⟩ := x1
  obtain ⟨hw1_0, hw1_1⟩ := hx1
  generalize hcs1 : (Value.agg cs1).cells.toList = ct1 at hk1
  obtain ⟨_, _, rfl, rfl, rfl⟩ := hk1
  obtain rfl : cs1 = #[.int .u64 a1_0, .int .u64 a1_1] := by have := congrArg List.toArray hcs1; simpa [Value.cells] using this
  clear hcs1
  have k2 := h2
  have lt2 : ∀ x ∈ p2, x.block < W.heap.size := by obtain ⟨m, hm⟩ := k2; exact DataW.trod_lt m _ _ _ hm
  obtain ⟨fuel2, hf2⟩ := h2
  have op2 := (Opens.array Try.underlying66 (by kernel_rfl) id id (fun _ => rfl) (fun m => (fs_cons ((Opens.int Try.underlying54) m) (by rfl) (by kernel_rfl) (by kernel_rfl) (fs_last ((Opens.int Try.underlying54) m) (by rfl) (by kernel_rfl))))) fuel2 enc W 0 (fun _ => true) true _ _ hf2 (fun m hm => by have := List.all_eq_true.1 hsz m (DataW.weights_mem_each (j := 2) (t := 66) (d := d2) rfl rfl m hm); simpa using this)
  obtain ⟨cs2, rfl, _⟩ := okWide_arr Try.underlying66 (hval 2 66 v2 rfl rfl)
  obtain ⟨x2, hk2, hx2⟩ := op2
  obtain ⟨a2_0, a2_1⟩ := x2
  obtain ⟨hw2_0, hw2_1⟩ := hx2
  generalize hcs2 : (Value.agg cs2).cells.toList = ct2 at hk2
  obtain ⟨_, _, rfl, rfl, rfl⟩ := hk2
  obtain rfl : cs2 = #[.int .u64 a2_0, .int .u64 a2_1] := by have := congrArg List.toArray hcs2; simpa [Value.cells] using this
  clear hcs2
  obtain ⟨a3, rfl, rfl, rfl, hw3⟩ := open_int Try.underlying54 (hval 3 54 v3 rfl rfl) h3
  obtain ⟨a4, rfl, rfl, rfl, hw4⟩ := open_int Try.underlying54 (hval 4 54 v4 rfl rfl) h4
  obtain ⟨a5, rfl, rfl, rfl, hw5⟩ := open_int Try.underlying54 (hval 5 54 v5 rfl rfl) h5
  obtain ⟨a6, rfl, rfl, rfl, hw6⟩ := open_int Try.underlying3 (hval 6 3 v6 rfl rfl) h6
  clear hA0 hval0 hsz0 hsz
  refine (Pure.MixTells_walk a0 a1_0 a1_1 a2_0 a2_1 a3 a4 a5 a6 W hw0 hw1_0 hw1_1 hw2_0 hw2_1 hw3 hw4 hw5 hw6).mono fun e W' ⟨he, bel⟩ => ?_
  subst he
  exact ⟨_, rfl, _, _, _, [], _, [], hW', trodAll_mk1 (shut_bool Try.underlying4 _), (trodAll_cons_mk (shut_int Try.underlying54 hw0) (trodAll_cons_mk (Below.trod laidOut (by kernel_rfl) (of_decide_eq_true (by kernel_rfl)) k1 bel lt1) (trodAll_cons_mk (Below.trod laidOut (by kernel_rfl) (of_decide_eq_true (by kernel_rfl)) k2 bel lt2) (trodAll_cons_mk (shut_int Try.underlying54 hw3) (trodAll_cons_mk (shut_int Try.underlying54 hw4) (trodAll_cons_mk (shut_int Try.underlying54 hw5) (trodAll_cons_mk (shut_int Try.underlying3 hw6) trodAll_mk0))))))), rfl, bel.frame _, fun h => by cases h⟩
set_option maxRecDepth 100000 in
theorem lifted (os : Os) (started : os.Started) (H : Type) (enc : TypeId × Value → H) :
    ReturnsInHanded {} Try.checked os 10 .any (Rows.mixTellsSpec.pre6 enc Try.prog Try.f10 Rows.mixTellsRow.domain false) (Rows.mixTellsSpec.post enc Try.prog Try.f10 false true false false) := by
  refine returnsInHanded_of_change_sized (C := Try.checked) own started (by kernel_rfl) Try.func10
    (ChangeSpec.witness6 (enc := enc) (C := Try.checked) false ⟨#[], #[.int .u64 0, .agg #[.int .u64 0, .int .u64 0], .agg #[.int .u64 0, .int .u64 0], .int .u64 0, .int .u64 0, .int .u64 0, .int .i64 0], []⟩ 8 (by kernel_rfl) (by kernel_rfl) (by kernel_rfl) (by kernel_rfl)) ?_
  intro W base args ds gs before hval hW _ hsz _
  exact contract H enc W base args ds gs before hval hW hsz
theorem over : Rows.mixTellsRow.holds Try.pinned (OpenSpec.ofChange Rows.mixTellsSpec) :=
  OpenClaim.holds_of_wide 10 Try.f10 rfl rfl rfl rfl rfl rfl rfl ⟨rfl, rfl, rfl, rfl, rfl⟩ rfl rfl rfl rfl rfl (by kernel_rfl) Try.func10 (by kernel_rfl)
    (of_decide_eq_true (by kernel_rfl)) (by unfold Func.isWrapper; first | (rw [if_pos (by decide +kernel)]; kernel_rfl) | (rw [if_neg (by decide +kernel)]; exact ⟨rfl, rfl⟩))
    (fun os started H enc _ => lifted os started H enc)
theorem proved : Rows.MixTellsSaid := over
#print axioms proved
end Go.Proofs.Ytnceobnglofnmaa.mixTells
namespace Go.Proofs.Ytnceobnglofnmaa
/-- The row, under a short name, for the claim. -/
theorem mixTells_holds : Rows.MixTellsSaid := mixTells.proved
end Go.Proofs.Ytnceobnglofnmaa
