/- MightAuras: without an aura that is up a piece has its own attack and its boost; with one more up no piece has less; for every input. -/
import Derived.Below
import Derived.ChangeOld
import Derived.OpenShut
import Derived.ProofKit
import Derived.ShutString
import Derived.SizedLaws
import Derived.Test.YtlldpdhajddmiaaRows
import Derived.WalkKit
import Derived.Test.YtlldpdhajddmiaaKmau2
import Derived.Test.YtlldpdhajddmiaaKmau15
namespace Go.Proofs.Ytlldpdhajddmiaa.mightAuras
open Go.ChangeShapes Go.WideShapes Go.ChangeAt Go.RowKit Go.Proofs.Ytlldpdhajddmiaa.Opens Go.Proofs.YtlldpdhajddmiaaW.PrintWords 
open Go.ChangeMaps (open_string shut_string)
set_option linter.unusedVariables false
theorem own : ownKnob Try.prog.godebug = none := by kernel_rfl
theorem laidOut : laidOutB Try.prog = true := by kernel_rfl
set_option maxRecDepth 100000 in
theorem contract (H : Type) (enc : TypeId × Value → H) (W : World) (base : Nat) (args : Array Value) (ds gs : List (DataW H)) (before : List MemPlace)
    (hval0 : ∀ (j : Nat) t v, Try.f4.params[j]? = some t → args[j]? = some v → Value.okWide Try.prog W .any base t v)
    (hW : DataW.Whole enc Try.prog Try.f4.params.toList Rows.mightAurasSpec.vars false W args.toList ds gs before)
    (hsz0 : (DataW.weightsEach Try.prog (Try.f4.params.toList ++ Rows.mightAurasSpec.plain.varTypes Try.prog) (ds ++ gs)).all (· ≤ reachBytes) = true) :
    Calls Try.prog 4 args W fun e W' => ∃ v, e = .returned v ∧ Rows.mightAurasSpec.post enc Try.prog Try.f4 false true false false W args v W' := by
  have hval : ∀ (j : Nat) t v, Try.f4.params[j]? = some t → args[j]? = some v → Value.okWide Try.prog W .any base t v := hval0
  have hsz : (DataW.weightsEach Try.prog (Try.f4.params.toList ++ Rows.mightAurasSpec.plain.varTypes Try.prog) (ds ++ gs)).all (· ≤ reachBytes) = true := hsz0
  have hW' := hW
  obtain ⟨p, q, hA0, hV, rfl, hfz, hnd⟩ := hW
  have hA : DataW.TrodAll enc Try.prog W 0 (fun _ => true) true Try.f4.params.toList args.toList ds p := hA0
  rw [Try.params4] at hA hval hsz
  obtain ⟨v0, vs0, d0, ds0, p0, q0, hargs, rfl, rfl, h0, r0⟩ := trodAll_cons hA
  obtain ⟨v1, vs1, d1, ds1, p1, q1, rfl, rfl, rfl, h1, r1⟩ := trodAll_cons r0
  obtain ⟨v2, vs2, d2, ds2, p2, q2, rfl, rfl, rfl, h2, r2⟩ := trodAll_cons r1
  obtain ⟨rfl, rfl, rfl⟩ := trodAll_nil r2
  obtain rfl : args = #[v0, v1, v2] := by cases args; simp_all
  obtain ⟨rfl, rfl⟩ := trodVars_none hV
  have k0 := h0
  have lt0 : ∀ x ∈ p0, x.block < W.heap.size := by obtain ⟨m, hm⟩ := k0; exact DataW.trod_lt m _ _ _ hm
  obtain ⟨fuel0, hf0⟩ := h0
  have op0 := (Opens.struct Try.underlying28 (by kernel_rfl) id id (fun _ => rfl) (fun m => (fs_cons ((Opens.slice Try.underlying22 (by kernel_rfl) Opens.opens97) m) (by rfl) (by kernel_rfl) (by kernel_rfl) (fs_cons ((Opens.slice Try.underlying23 (by kernel_rfl) Opens.opens35) m) (by rfl) (by kernel_rfl) (by kernel_rfl) (fs_cons ((Opens.array Try.underlying24 (by kernel_rfl) id id (fun _ => rfl) (fun m => (fs_cons ((Opens.int Try.underlying3) m) (by rfl) (by kernel_rfl) (by kernel_rfl) (fs_last ((Opens.int Try.underlying3) m) (by rfl) (by kernel_rfl))))) m) (by rfl) (by kernel_rfl) (by kernel_rfl) (fs_cons ((Opens.int Try.underlying3) m) (by rfl) (by kernel_rfl) (by kernel_rfl) (fs_cons ((Opens.int Try.underlying5) m) (by rfl) (by kernel_rfl) (by kernel_rfl) (fs_cons ((Opens.int Try.underlying3) m) (by rfl) (by kernel_rfl) (by kernel_rfl) (fs_cons ((Opens.slice Try.underlying25 (by kernel_rfl) Opens.opens58) m) (by rfl) (by kernel_rfl) (by kernel_rfl) (fs_last ((Opens.array Try.underlying26 (by kernel_rfl) id id (fun _ => rfl) (fun m => (fs_cons ((Opens.bool Try.underlying4) m) (by rfl) (by kernel_rfl) (by kernel_rfl) (fs_last ((Opens.bool Try.underlying4) m) (by rfl) (by kernel_rfl))))) m) (by rfl) (by kernel_rfl))))))))))) fuel0 enc W 0 (fun _ => true) true _ _ hf0 (fun m hm => by have := List.all_eq_true.1 hsz m (DataW.weights_mem_each (j := 0) (t := 28) (d := d0) rfl rfl m hm); simpa using this)
  obtain ⟨cs0, rfl, _⟩ := okWide_struct Try.underlying28 (hval 0 28 v0 rfl rfl)
  obtain ⟨x0, hk0, hx0⟩ := op0
  obtain ⟨l0_0, ⟨l0_1, ⟨⟨a0_2_0, a0_2_1⟩, ⟨a0_3, ⟨a0_4, ⟨a0_5, ⟨l0_6, ⟨a0_7_0, a0_7_1⟩⟩⟩⟩⟩⟩⟩⟩ := x0
  obtain ⟨hw0_0, ⟨hw0_1, ⟨⟨hw0_2_0, hw0_2_1⟩, ⟨hw0_3, ⟨hw0_4, ⟨hw0_5, ⟨hw0_6, ⟨hw0_7_0, hw0_7_1⟩⟩⟩⟩⟩⟩⟩⟩ := hx0
  generalize hcs0 : (Value.agg cs0).cells.toList = ct0 at hk0
  obtain ⟨_, _, rfl, ⟨A0_0, c0_0, rfl, hc0_0, hr0_0⟩, ⟨_, _, rfl, ⟨A0_1, c0_1, rfl, hc0_1, hr0_1⟩, ⟨_, _, rfl, ⟨_, _, rfl, rfl, rfl⟩, ⟨_, _, rfl, rfl, ⟨_, _, rfl, rfl, ⟨_, _, rfl, rfl, ⟨_, _, rfl, ⟨A0_6, c0_6, rfl, hc0_6, hr0_6⟩, ⟨_, _, rfl, rfl, rfl⟩⟩⟩⟩⟩⟩⟩⟩ := hk0
  obtain rfl : cs0 = #[.slice A0_0 l0_0.length c0_0, .slice A0_1 l0_1.length c0_1, .int .i64 a0_2_0, .int .i64 a0_2_1, .int .i64 a0_3, .int .u8 a0_4, .int .i64 a0_5, .slice A0_6 l0_6.length c0_6, .bool a0_7_0, .bool a0_7_1] := by have := congrArg List.toArray hcs0; simpa [Value.cells] using this
  clear hcs0
  obtain ⟨a1, rfl, rfl, rfl, hw1⟩ := open_int Try.underlying3 (hval 1 3 v1 rfl rfl) h1
  obtain ⟨a2, rfl, rfl, rfl, hw2⟩ := open_int Try.underlying3 (hval 2 3 v2 rfl rfl) h2
  clear hA0 hval0 hsz0 hsz
  refine (Pure.MightAuras_walk A0_0 c0_0 l0_0 A0_1 c0_1 l0_1 a0_2_0 a0_2_1 a0_3 a0_4 a0_5 A0_6 c0_6 l0_6 a0_7_0 a0_7_1 a1 a2 W hc0_0 hr0_0 hw0_0 hc0_1 hr0_1 hw0_1 hw0_2_0 hw0_2_1 hw0_3 hw0_4 hw0_5 hc0_6 hr0_6 hw0_6 hw1 hw2).mono fun e W' ⟨he, bel⟩ => ?_
  subst he
  exact ⟨_, rfl, _, _, _, [], _, [], hW', trodAll_mk1 (shut_bool Try.underlying4 _), (trodAll_cons_mk (Below.trod laidOut (by kernel_rfl) (of_decide_eq_true (by kernel_rfl)) k0 bel lt0) (trodAll_cons_mk (shut_int Try.underlying3 hw1) (trodAll_cons_mk (shut_int Try.underlying3 hw2) trodAll_mk0))), rfl, bel.frame _, fun h => by cases h⟩
set_option maxRecDepth 100000 in
theorem lifted (os : Os) (started : os.Started) (H : Type) (enc : TypeId × Value → H) :
    ReturnsInHanded {} Try.checked os 4 .any (Rows.mightAurasSpec.pre6 enc Try.prog Try.f4 Rows.mightAurasRow.domain false) (Rows.mightAurasSpec.post enc Try.prog Try.f4 false true false false) := by
  refine returnsInHanded_of_change_sized (C := Try.checked) own started (by kernel_rfl) Try.func4
    (ChangeSpec.witness6 (enc := enc) (C := Try.checked) false ⟨#[], #[.agg #[.slice none 0 0, .slice none 0 0, .int .i64 0, .int .i64 0, .int .i64 0, .int .u8 0, .int .i64 0, .slice none 0 0, .bool false, .bool false], .int .i64 0, .int .i64 0], []⟩ 8 (by kernel_rfl) (by kernel_rfl) (by kernel_rfl) (by kernel_rfl)) ?_
  intro W base args ds gs before hval hW _ hsz _
  exact contract H enc W base args ds gs before hval hW hsz
theorem over : Rows.mightAurasRow.holds Try.pinned (OpenSpec.ofChange Rows.mightAurasSpec) :=
  OpenClaim.holds_of_wide 4 Try.f4 rfl rfl rfl rfl rfl rfl rfl ⟨rfl, rfl, rfl, rfl, rfl⟩ rfl rfl rfl rfl rfl (by kernel_rfl) Try.func4 (by kernel_rfl)
    (of_decide_eq_true (by kernel_rfl)) (by unfold Func.isWrapper; first | (rw [if_pos (by decide +kernel)]; kernel_rfl) | (rw [if_neg (by decide +kernel)]; exact ⟨rfl, rfl⟩))
    (fun os started H enc _ => lifted os started H enc)
theorem proved : Rows.MightAurasSaid := over
#print axioms proved
end Go.Proofs.Ytlldpdhajddmiaa.mightAuras
namespace Go.Proofs.Ytlldpdhajddmiaa
/-- The row, under a short name, for the claim. -/
theorem mightAuras_holds : Rows.MightAurasSaid := mightAuras.proved
end Go.Proofs.Ytlldpdhajddmiaa
