/- Joined by a program of this session (pack.py) out of: PureMightSides WalkMightSides -/
import Derived.Test.YtlldpdhajddmiaaKmsd12
import Derived.Test.YtlldpdhajddmiaaKmsd13
section
/- MightSides, in plain words. -/
namespace Go.Proofs.Ytlldpdhajddmiaa.Pure
open Go.RowKit Go.Proofs.Ytlldpdhajddmiaa.Base Go.Proofs.Ytlldpdhajddmiaa.Bmay Go.Proofs.YtlldpdhajddmiaaW.PrintWords Go.Proofs.Ytlldpdhajddmiaa.Pmga Go.Proofs.Ytlldpdhajddmiaa.Pmgs
set_option linter.unusedSimpArgs false
theorem MightSides_tells (l0 : List S97) (l1 : List PS) (a2 a3 a4 a5 a6 : Int) (l7 : List S58) (a8 a9 : Bool) (who frm id zone kind : Int)
    (hl : l0.length ≤ 9223372036854775807) (hle : ∀ c ∈ l0, c.f5.length ≤ 9223372036854775807) (hwf : l1.all wfP = true) (h0 : 0 ≤ who) :
    Tells (fun k => joustlaw07_MightSides.f k l0 l1 a2 a3 a4 a5 a6 l7 a8 a9 who frm id zone kind) true := by
  obtain ⟨b, hg⟩ := great_tells l0 l1 a2 a3 a4 a5 a6 l7 a8 a9 hl hle
  unfold joustlaw07_MightSides.f
  refine Tells.bind hg ?_
  cases b with
  | true => exact Tells.pos rfl (Tells.of fun k => rfl)
  | false =>
    refine Tells.neg (by decide) ?_
    simp only [of_f l0 l1 a2 a3 a4 a5 a6 l7 a8 a9 hwf, Option.bind_some]
    obtain ⟨m, hm⟩ : ∃ m, Int.tmod who 2 = m := ⟨_, rfl⟩
    have hm2 : m = 0 ∨ m = 1 := by rw [← hm, Int.tmod_eq_emod_of_nonneg h0]; omega
    have ho : (1 - m) % 256 = 1 - m := by omega
    rw [hm, ho]
    have hsub : ∀ s0 s2 : Int, ∀ wh : Int, wh < 2 → ofV l0 l1 a2 a3 a4 a5 wh frm s0 zone s2 id = (knownB l0 l1 a2 a3 a4 a5 id && (sideB (rd_T35 l1 id) wh frm s0 id && (rd_T35 l1 id).f5 == zone && (s2 == 0 || (seenB (rd_T35 l1 id) && kindV l0 (rd_T35 l1 id) == IntKind.u8.wrap (s2 - 1))))) := by
      intro s0 s2 wh hw
      unfold ofV pickB ofB
      rw [decide_eq_true hw, Bool.true_and]
    rw [hsub 2 kind m (by omega), hsub 0 kind m (by omega), hsub 1 kind m (by omega), hsub 1 kind (1 - m) (by omega), hsub 3 kind m (by omega), hsub 2 0 m (by omega)]
    obtain ⟨p, hp⟩ : ∃ p, rd_T35 l1 id = p := ⟨_, rfl⟩
    have hk2 : knownB l0 l1 a2 a3 a4 a5 id = true → p.f4 = 0 ∨ p.f4 = 1 := by
      intro hk
      unfold knownB at hk
      simp only [Bool.and_eq_true, decide_eq_true_eq] at hk
      obtain ⟨i, rfl⟩ : ∃ i : Nat, id = (i : Int) := ⟨id.toNat, by omega⟩
      have hpm : p ∈ l1 := by rw [← hp, rd_at l1 i (by omega)]; exact List.getElem_mem _
      have h1 := may_ok hk.2.2 p hpm
      have h2 := (wfP_ok (List.all_eq_true.1 hwf p hpm)).2.2.1
      unfold okP oneB oneA at h1
      simp only [Bool.and_eq_true, Bool.not_eq_true', Bool.or_eq_false_iff, decide_eq_false_iff_not] at h1
      omega
    have hend : ∀ Z : Bool, (p.f5 == zone) = Z → Tells (fun k => joustlaw07_MightSides.j0 k id zone (knownB l0 l1 a2 a3 a4 a5 id && Z) false l0 l1 a2 a3 a4 a5 a6 l7 a8 a9) true := by
      intro Z hZ
      refine Tells.succ (fun k => by rw [joustlaw07_MightSides.j0]) (Tells.neg (by decide) ?_)
      show Tells (fun k => (some (mayB l0 l1 a2 a3 a4 a5)).bind _) true
      simp only [Option.bind_some]
      unfold knownB
      rw [hp]
      cases hmay : mayB l0 l1 a2 a3 a4 a5 with
      | false => refine Tells.neg (by decide) (Tells.pos (by simp) (Tells.of fun k => rfl))
      | true =>
        refine Tells.pos rfl ?_
        by_cases hi0 : id ≥ 0
        · refine Tells.pos hi0 ?_
          by_cases hi1 : id < (l1.length : Int)
          · refine Tells.pos hi1 (Tells.pos hi0 (Tells.pos ?_ (Tells.of fun k => rfl)))
            rw [hZ, decide_eq_true (show 0 ≤ id from hi0), decide_eq_true hi1]
            simp
          · refine Tells.neg hi1 (Tells.pos ?_ (Tells.of fun k => rfl))
            rw [decide_eq_false hi1]; simp
        · refine Tells.neg hi0 (Tells.pos ?_ (Tells.of fun k => rfl))
          rw [decide_eq_false (show ¬ 0 ≤ id from hi0)]; simp
    rw [hp]
    obtain ⟨Z, hZ⟩ : ∃ Z, (p.f5 == zone) = Z := ⟨_, rfl⟩
    have hend := hend Z hZ
    obtain ⟨R, hR⟩ : ∃ R, (kind == 0 || (seenB p && kindV l0 p == IntKind.u8.wrap (kind - 1))) = R := ⟨_, rfl⟩
    rw [hZ, hR]
    obtain ⟨W, hW⟩ : ∃ W, (p.f4 == m) = W := ⟨_, rfl⟩
    obtain ⟨F, hF⟩ : ∃ F, (frm == id) = F := ⟨_, rfl⟩
    have e0 : sideB p m frm 0 id = W := by unfold sideB; simp [hW]
    have e1 : sideB p m frm 1 id = !W := by unfold sideB; simp [hW]
    have e2 : sideB p m frm 2 id = true := by unfold sideB; simp
    have e3 : sideB p m frm 3 id = F := by unfold sideB; simp [hF]
    rw [e0, e1, e2, e3, show ((0 : Int) == 0) = true from rfl, Bool.true_or, Bool.and_true, Bool.true_and]
    cases hK : knownB l0 l1 a2 a3 a4 a5 id with
    | false =>
      rw [hK] at hend
      rw [Bool.false_and] at hend
      simp only [Bool.false_and]
      refine Tells.neg (by decide) (Tells.neg (by decide) (Tells.neg (by decide) (Tells.neg (by decide) (Tells.neg (by decide) hend))))
    | true =>
      have e4 : sideB p (1 - m) frm 1 id = W := by
        unfold sideB
        rw [← hW]
        rcases hk2 hK with e | e <;> rcases hm2 with e' | e' <;> rw [e, e'] <;> rfl
      rw [hK] at hend
      rw [e4, hF]
      cases Z <;> cases R <;> cases W <;> cases F <;> simp only [Bool.false_and, Bool.and_false, Bool.true_and, Bool.and_true, Bool.not_false, Bool.not_true] at hend ⊢ <;>
        (repeat' first | exact hend | refine Tells.pos (by decide) ?_ | refine Tells.neg (by decide) ?_)
end Go.Proofs.Ytlldpdhajddmiaa.Pure
end
section
/- MightSides: of any table, a piece that is of any is of mine or of theirs, not of both; what is mine to one is theirs to the other; for every input. -/
namespace Go.Proofs.Ytlldpdhajddmiaa.Pure
open Go.RowKit Go.Proofs.Ytlldpdhajddmiaa.Base Go.Proofs.YtlldpdhajddmiaaW.PrintWords Go.Proofs.YtlldpdhajddmiaaW.PrintLast Go.Proofs.Ytlldpdhajddmiaa.Pmga Go.Proofs.Ytlldpdhajddmiaa.Pmgs
set_option linter.unusedVariables false
theorem MightSides_walk (A0_0 : Option Addr) (c0_0 : Nat) (l0_0 : List (S97)) (A0_1 : Option Addr) (c0_1 : Nat) (l0_1 : List (S35)) (a0_2_0 : Int) (a0_2_1 : Int) (a0_3 : Int) (a0_4 : Int) (a0_5 : Int) (A0_6 : Option Addr) (c0_6 : Nat) (l0_6 : List (S58)) (a0_7_0 : Bool) (a0_7_1 : Bool) (a1 : Int) (a2 : Int) (a3 : Int) (a4 : Int) (a5 : Int) (w : World)
    (hc0_0 : l0_0.length ≤ c0_0) (hr0_0 : Kd.C (k97) w A0_0 l0_0.length l0_0) (hw0_0 : (l0_0.length * Try.prog.bytesOf 97 ≤ reachBytes ∧ l0_0.length ≤ maxLen ∧ ∀ y ∈ l0_0, Opens.ok97 y)) (hc0_1 : l0_1.length ≤ c0_1) (hr0_1 : Kd.C (k35) w A0_1 l0_1.length l0_1) (hw0_1 : (l0_1.length * Try.prog.bytesOf 35 ≤ reachBytes ∧ l0_1.length ≤ maxLen ∧ ∀ y ∈ l0_1, Opens.ok35 y)) (hw0_2_0 : (Lit.int .i64 a0_2_0).wf = true) (hw0_2_1 : (Lit.int .i64 a0_2_1).wf = true) (hw0_3 : (Lit.int .i64 a0_3).wf = true) (hw0_4 : (Lit.int .u8 a0_4).wf = true) (hw0_5 : (Lit.int .i64 a0_5).wf = true) (hc0_6 : l0_6.length ≤ c0_6) (hr0_6 : Kd.C (k58) w A0_6 l0_6.length l0_6) (hw0_6 : (l0_6.length * Try.prog.bytesOf 58 ≤ reachBytes ∧ l0_6.length ≤ maxLen ∧ ∀ y ∈ l0_6, Opens.ok58 y)) (hw1 : (Lit.int .u8 a1).wf = true) (hw2 : (Lit.int .i64 a2).wf = true) (hw3 : (Lit.int .i64 a3).wf = true) (hw4 : (Lit.int .u8 a4).wf = true) (hw5 : (Lit.int .u8 a5).wf = true) :
    Calls Try.prog 3 #[.agg #[.slice A0_0 l0_0.length c0_0, .slice A0_1 l0_1.length c0_1, .int .i64 a0_2_0, .int .i64 a0_2_1, .int .i64 a0_3, .int .u8 a0_4, .int .i64 a0_5, .slice A0_6 l0_6.length c0_6, .bool a0_7_0, .bool a0_7_1], .int .u8 a1, .int .i64 a2, .int .i64 a3, .int .u8 a4, .int .u8 a5] w fun e w' => e = .returned (.bool true) ∧ Below w.heap.size w w' := by
  obtain ⟨k, h⟩ := (MightSides_tells l0_0 l0_1 a0_2_0 a0_2_1 a0_3 a0_4 a0_5 l0_6 a0_7_0 a0_7_1 a1 a2 a3 a4 a5 hw0_0.2.1 (eff_len hw0_0.2.2) (wf_all hw0_1.2.2) (u8_lo hw1)).exists
  exact Pmgs.joustlaw07_MightSides.calls k A0_0 c0_0 l0_0 A0_1 c0_1 l0_1 a0_2_0 a0_2_1 a0_3 a0_4 a0_5 A0_6 c0_6 l0_6 a0_7_0 a0_7_1 a1 a2 a3 a4 a5 true w hr0_0 hc0_0 hr0_1 hc0_1 hr0_6 hc0_6 h
end Go.Proofs.Ytlldpdhajddmiaa.Pure
end
