/- For every list (of at most 60 numbers, or of more than 1000), seed and two sizes: its lots, the order whose lots it is, and the script of the seed are the reference's, or its error, and what came in reads as before. No conditions. -/
import Derived.Below
import Derived.ChangeOld
import Derived.OpenShut
import Derived.ProofKit
import Derived.ShutString
import Derived.SizedLaws
import Derived.Test.YtnceobnglofnmaaRows
import Derived.WalkKit
import Derived.Test.YtnceobnglofnmaaKmo2
import Derived.Test.YtnceobnglofnmaaKmo13
namespace Go.Proofs.Ytnceobnglofnmaa.mixLots
open Go.ChangeShapes Go.WideShapes Go.ChangeAt Go.RowKit Go.Proofs.Ytnceobnglofnmaa.Opens Go.Proofs.YtnceobnglofnmaaW.PrintWords 
open Go.ChangeMaps (open_string shut_string)
set_option linter.unusedVariables false
theorem own : ownKnob Try.prog.godebug = none := by kernel_rfl
theorem laidOut : laidOutB Try.prog = true := by kernel_rfl
set_option maxRecDepth 100000 in
theorem contract (H : Type) (enc : TypeId × Value → H) (W : World) (base : Nat) (args : Array Value) (ds gs : List (DataW H)) (before : List MemPlace)
    (hval0 : ∀ (j : Nat) t v, Try.f12.params[j]? = some t → args[j]? = some v → Value.okWide Try.prog W .any base t v)
    (hW : DataW.Whole enc Try.prog Try.f12.params.toList Rows.mixLotsSpec.vars false W args.toList ds gs before)
    (hsz0 : (DataW.weightsEach Try.prog (Try.f12.params.toList ++ Rows.mixLotsSpec.plain.varTypes Try.prog) (ds ++ gs)).all (· ≤ reachBytes) = true) :
    Calls Try.prog 12 args W fun e W' => ∃ v, e = .returned v ∧ Rows.mixLotsSpec.post enc Try.prog Try.f12 false true false false W args v W' := by
  have hval : ∀ (j : Nat) t v, Try.f12.params[j]? = some t → args[j]? = some v → Value.okWide Try.prog W .any base t v := hval0
  have hsz : (DataW.weightsEach Try.prog (Try.f12.params.toList ++ Rows.mixLotsSpec.plain.varTypes Try.prog) (ds ++ gs)).all (· ≤ reachBytes) = true := hsz0
  have hW' := hW
  obtain ⟨p, q, hA0, hV, rfl, hfz, hnd⟩ := hW
  have hA : DataW.TrodAll enc Try.prog W 0 (fun _ => true) true Try.f12.params.toList args.toList ds p := hA0
  rw [Try.params12] at hA hval hsz
  obtain ⟨v0, vs0, d0, ds0, p0, q0, hargs, rfl, rfl, h0, r0⟩ := trodAll_cons hA
  obtain ⟨v1, vs1, d1, ds1, p1, q1, rfl, rfl, rfl, h1, r1⟩ := trodAll_cons r0
  obtain ⟨v2, vs2, d2, ds2, p2, q2, rfl, rfl, rfl, h2, r2⟩ := trodAll_cons r1
  obtain ⟨rfl, rfl, rfl⟩ := trodAll_nil r2
  obtain rfl : args = #[v0, v1, v2] := by cases args; simp_all
  obtain ⟨rfl, rfl⟩ := trodVars_none hV
  have k0 := h0
  have lt0 : ∀ x ∈ p0, x.block < W.heap.size := by obtain ⟨m, hm⟩ := k0; exact DataW.trod_lt m _ _ _ hm
  obtain ⟨fuel0, hf0⟩ := h0
  have op0 := (Opens.slice Try.underlying53 (by kernel_rfl) (Opens.int Try.underlying3)) fuel0 enc W 0 (fun _ => true) true _ _ hf0 (fun m hm => by have := List.all_eq_true.1 hsz m (DataW.weights_mem_each (j := 0) (t := 53) (d := d0) rfl rfl m hm); simpa using this)
  obtain ⟨b0, len0, cap0, rfl⟩ := okWide_slice Try.underlying53 (hval 0 53 v0 rfl rfl)
  obtain ⟨l0, ⟨A0, c0, he0, hc0, hr0⟩, hw0⟩ := op0
  have he0' : b0 = A0 ∧ len0 = l0.length ∧ cap0 = c0 := by simpa [Value.cells] using he0
  obtain ⟨rfl, rfl, rfl⟩ := he0'
  obtain ⟨a1, rfl, rfl, rfl, hw1⟩ := open_int Try.underlying54 (hval 1 54 v1 rfl rfl) h1
  have k2 := h2
  have lt2 : ∀ x ∈ p2, x.block < W.heap.size := by obtain ⟨m, hm⟩ := k2; exact DataW.trod_lt m _ _ _ hm
  obtain ⟨fuel2, hf2⟩ := h2
  have op2 := (Opens.array Try.underlying24 (by kernel_rfl) id id (fun _ => rfl) (fun m => (fs_cons ((Opens.int Try.underlying3) m) (by rfl) (by kernel_rfl) (by kernel_rfl) (fs_last ((Opens.int Try.underlying3) m) (by rfl) (by kernel_rfl))))) fuel2 enc W 0 (fun _ => true) true _ _ hf2 (fun m hm => by have := List.all_eq_true.1 hsz m (DataW.weights_mem_each (j := 2) (t := 24) (d := d2) rfl rfl m hm); simpa using this)
  obtain ⟨cs2, rfl, _⟩ := okWide_arr Try.underlying24 (hval 2 24 v2 rfl rfl)
  obtain ⟨x2, hk2, hx2⟩ := op2
  obtain ⟨a2_0, a2_1⟩ := x2
  obtain ⟨hw2_0, hw2_1⟩ := hx2
  generalize hcs2 : (Value.agg cs2).cells.toList = ct2 at hk2
  obtain ⟨_, _, rfl, rfl, rfl⟩ := hk2
  obtain rfl : cs2 = #[.int .i64 a2_0, .int .i64 a2_1] := by have := congrArg List.toArray hcs2; simpa [Value.cells] using this
  clear hcs2
  clear hA0 hval0 hsz0 hsz
  refine (Pure.MixLots_walk b0 cap0 l0 a1 a2_0 a2_1 W hc0 hr0 hw0 hw1 hw2_0 hw2_1).mono fun e W' ⟨he, bel⟩ => ?_
  subst he
  exact ⟨_, rfl, _, _, _, [], _, [], hW', trodAll_mk1 (shut_bool Try.underlying4 _), (trodAll_cons_mk (Below.trod laidOut (by kernel_rfl) (of_decide_eq_true (by kernel_rfl)) k0 bel lt0) (trodAll_cons_mk (shut_int Try.underlying54 hw1) (trodAll_cons_mk (Below.trod laidOut (by kernel_rfl) (of_decide_eq_true (by kernel_rfl)) k2 bel lt2) trodAll_mk0))), rfl, bel.frame _, fun h => by cases h⟩
set_option maxRecDepth 100000 in
theorem lifted (os : Os) (started : os.Started) (H : Type) (enc : TypeId × Value → H) :
    ReturnsInHanded {} Try.checked os 12 .any (Rows.mixLotsSpec.pre6 enc Try.prog Try.f12 Rows.mixLotsRow.domain false) (Rows.mixLotsSpec.post enc Try.prog Try.f12 false true false false) := by
  refine returnsInHanded_of_change_sized (C := Try.checked) own started (by kernel_rfl) Try.func12
    (ChangeSpec.witness6 (enc := enc) (C := Try.checked) false ⟨#[], #[.slice none 0 0, .int .u64 0, .agg #[.int .i64 0, .int .i64 0]], []⟩ 8 (by kernel_rfl) (by kernel_rfl) (by kernel_rfl) (by kernel_rfl)) ?_
  intro W base args ds gs before hval hW _ hsz _
  exact contract H enc W base args ds gs before hval hW hsz
theorem over : Rows.mixLotsRow.holds Try.pinned (OpenSpec.ofChange Rows.mixLotsSpec) :=
  OpenClaim.holds_of_wide 12 Try.f12 rfl rfl rfl rfl rfl rfl rfl ⟨rfl, rfl, rfl, rfl, rfl⟩ rfl rfl rfl rfl rfl (by kernel_rfl) Try.func12 (by kernel_rfl)
    (of_decide_eq_true (by kernel_rfl)) (by unfold Func.isWrapper; first | (rw [if_pos (by decide +kernel)]; kernel_rfl) | (rw [if_neg (by decide +kernel)]; exact ⟨rfl, rfl⟩))
    (fun os started H enc _ => lifted os started H enc)
theorem proved : Rows.MixLotsSaid := over
#print axioms proved
end Go.Proofs.Ytnceobnglofnmaa.mixLots
namespace Go.Proofs.Ytnceobnglofnmaa
/-- The row, under a short name, for the claim. -/
theorem mixLots_holds : Rows.MixLotsSaid := mixLots.proved
end Go.Proofs.Ytnceobnglofnmaa
