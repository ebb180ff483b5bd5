/- Joined by a program of this session (pack.py) out of: Mayr Mayg Mofc Mbst Matk Matc Tab7 -/
import Derived.Lib.Hide
import Derived.LoopNIn
import Derived.RegionIn
import Derived.Shelf.RegionOpen
import Derived.Sort.CutIn
import Derived.Sort.LoopGhostIn
import Derived.Test.YtlldpdhajddmiaaKmau4
import Derived.Test.YtlldpdhajddmiaaKmau7
import Derived.Test.YtlldpdhajddmiaaKmau8
section
/- Whether a table may be, by the document (joustref06.May, many): what its text reckons is 'refB', so what board.May reckons. -/
namespace Go.Proofs.Ytlldpdhajddmiaa.Bmay
open Go Go.RowKit Go.Proofs.Ytlldpdhajddmiaa.Base Go.Proofs.Ytlldpdhajddmiaa.Pmga Go.Proofs.Ytlldpdhajddmiaa.Pmgb Go.Proofs.YtlldpdhajddmiaaW.PrintWords
theorem rd_at (ps : List PS) (i : Nat) (h : i < ps.length) : rd_T35 ps (i : Int) = ps[i] := by
  unfold rd_T35
  rw [Int.toNat_natCast, List.getD_eq_getElem?_getD, List.getElem?_eq_getElem h]
  rfl
theorem wrap_nat {n : Nat} (h : n < 4611686018427387904) : wrap64 ((n : Int) + 1) = ((n + 1 : Nat) : Int) := by unfold wrap64; omega
theorem allC_cons (p : PS) (ps : List PS) (who zone : Int) : allC (p :: ps) who zone = allC ps who zone + if p.f5 = zone ∧ p.f4 = who then 1 else 0 := by
  unfold allC; rw [List.countP_cons]; simp [Bool.and_eq_true]
theorem thereC_cons (p : PS) (ps : List PS) (who zone x : Int) : thereC (p :: ps) who zone x = thereC ps who zone x + if p.f5 = zone ∧ p.f4 = who ∧ p.f6 = x then 1 else 0 := by
  unfold thereC; rw [List.countP_cons]; simp [Bool.and_eq_true, and_assoc]
section
variable (l0 : List S97) (a2 a3 a4 a5 a6 : Int) (l7 : List S58) (a8 a9 : Bool)
theorem many_l (who zone x : Int) (ps : List PS) (hl : ps.length < 4611686018427387904) : ∀ (d i all there : Nat), d + i = ps.length → all ≤ i → there ≤ i →
    Tells (fun k => joustref06_many.l0 k who zone x (all : Int) (there : Int) (i : Int) l0 ps a2 a3 a4 a5 a6 l7 a8 a9) (((all + allC (ps.drop i) who zone : Nat) : Int), ((there + thereC (ps.drop i) who zone x : Nat) : Int))
  | 0, i, all, there, hd, ha, ht => by
    refine Tells.succ (fun k => by rw [joustref06_many.l0]) ?_
    rw [List.drop_eq_nil_of_le (by omega)]
    exact Tells.neg (by omega) (Tells.const _)
  | d + 1, i, all, there, hd, ha, ht => by
    have hi : i < ps.length := by omega
    refine Tells.succ (fun k => by rw [joustref06_many.l0]) ?_
    refine Tells.pos (by omega) (Tells.pos (by omega) ?_)
    obtain ⟨p, hp⟩ : ∃ p, rd_T35 ps (i : Int) = p := ⟨_, rfl⟩
    have hpi : ps[i] = p := (rd_at ps i hi).symm.trans hp
    rw [hp, List.drop_eq_getElem_cons hi, allC_cons, thereC_cons, hpi]
    have hw : wrap64 ((i : Int) + 1) = ((i + 1 : Nat) : Int) := wrap_nat (by omega)
    have hwa : wrap64 ((all : Int) + 1) = ((all + 1 : Nat) : Int) := wrap_nat (by omega)
    have hwt : wrap64 ((there : Int) + 1) = ((there + 1 : Nat) : Int) := wrap_nat (by omega)
    have next : ∀ all' there' : Nat, all' ≤ i + 1 → there' ≤ i + 1 → Tells (fun k => joustref06_many.l0 k who zone x (all' : Int) (there' : Int) (wrap64 ((i : Int) + 1)) l0 ps a2 a3 a4 a5 a6 l7 a8 a9) (((all' + allC (ps.drop (i + 1)) who zone : Nat) : Int), ((there' + thereC (ps.drop (i + 1)) who zone x : Nat) : Int)) := by
      intro all' there' h1 h2
      rw [hw]
      exact many_l who zone x ps hl d (i + 1) all' there' (by omega) h1 h2
    by_cases h5 : p.f5 = zone
    · refine Tells.pos h5 ?_
      refine Tells.succ (fun k => by rw [joustref06_many.j1]) ?_
      rw [hp]
      by_cases h4 : p.f4 = who
      · refine Tells.pos (beq_iff_eq.2 h4) (Tells.pos (by omega) (Tells.pos (by omega) ?_))
        rw [if_pos ⟨h5, h4⟩]
        by_cases h6 : p.f6 = x
        · refine Tells.pos h6 ?_
          rw [if_pos ⟨h5, h4, h6⟩, hwa, hwt]
          have h := next (all + 1) (there + 1) (by omega) (by omega)
          rw [show all + (allC (ps.drop (i + 1)) who zone + 1) = all + 1 + allC (ps.drop (i + 1)) who zone by omega, show there + (thereC (ps.drop (i + 1)) who zone x + 1) = there + 1 + thereC (ps.drop (i + 1)) who zone x by omega]
          exact h
        · refine Tells.neg h6 ?_
          rw [if_neg (fun h => h6 h.2.2), hwa]
          have h := next (all + 1) there (by omega) (by omega)
          rw [show all + (allC (ps.drop (i + 1)) who zone + 1) = all + 1 + allC (ps.drop (i + 1)) who zone by omega]
          exact h
      · refine Tells.neg (by rw [beq_eq_false_iff_ne.2 h4]; decide) ?_
        rw [if_neg (fun h => h4 h.2), if_neg (fun h => h4 h.2.1)]
        exact next all there (by omega) (by omega)
    · refine Tells.neg h5 ?_
      refine Tells.succ (fun k => by rw [joustref06_many.j1]) ?_
      refine Tells.neg (by decide) ?_
      rw [if_neg (fun h => h5 h.1), if_neg (fun h => h5 h.1)]
      exact next all there (by omega) (by omega)
theorem many_tells (who zone x : Int) (ps : List PS) (hl : ps.length < 4611686018427387904) :
    Tells (fun k => joustref06_many.f k l0 ps a2 a3 a4 a5 a6 l7 a8 a9 who zone x) ((allC ps who zone : Nat), (thereC ps who zone x : Nat)) := by
  have h := many_l l0 a2 a3 a4 a5 a6 l7 a8 a9 who zone x ps hl ps.length 0 0 0 rfl (Nat.le_refl _) (Nat.le_refl _)
  rw [List.drop_zero, Nat.zero_add, Nat.zero_add] at h
  exact h
theorem rshared_f (z : Int) : joustref06_shared.f z = some (sharedB z) := by
  unfold joustref06_shared.f sharedB
  by_cases h2 : z = 2
  · rw [if_pos h2, decide_eq_true (.inl h2)]
  by_cases h3 : z = 3
  · rw [if_neg h2, if_pos h3, decide_eq_true (.inr (.inl h3))]
  by_cases h6 : z = 6
  · rw [if_neg h2, if_neg h3, decide_eq_true (.inr (.inr h6)), beq_iff_eq.2 h6]
  · rw [if_neg h2, if_neg h3, decide_eq_false (by omega), beq_eq_false_iff_ne.2 h6]
theorem one_tells (ps : List PS) (i : Nat) (hi : i < ps.length) : Tells (fun k => joustref06_one.f k l0 ps a2 a3 a4 a5 a6 l7 a8 a9 (i : Int)) (okP l0 (rd_T35 ps (i : Int))) :=
  Tells.of fun k => by unfold joustref06_one.f; rw [if_pos ⟨by omega, by omega⟩]
theorem may_l (ps : List PS) (hl : ps.length ≤ 144) : ∀ (d i lim : Nat), d + i = ps.length → lim ≤ i →
    Tells (fun k => joustref06_May.l0 k (lim : Int) (i : Int) l0 ps a2 a3 a4 a5 a6 l7 a8 a9) ((ps.drop i).all (pieceB l0 ps) && decide (lim + (ps.drop i).countP (fun p => p.f5 == 6) ≤ 1))
  | 0, i, lim, hd, hlim => by
    refine Tells.succ (fun k => by rw [joustref06_May.l0]) ?_
    refine Tells.neg (by omega) ?_
    rw [List.drop_eq_nil_of_le (by omega)]
    have : decide ((lim : Int) ≤ 1) = (List.all [] (pieceB l0 ps) && decide (lim + List.countP (fun p : PS => p.f5 == 6) [] ≤ 1)) := by
      rw [List.all_nil, Bool.true_and, List.countP_nil, decide_eq_decide]; omega
    rw [this]
    exact Tells.const _
  | d + 1, i, lim, hd, hlim => by
    have hi : i < ps.length := by omega
    refine Tells.succ (fun k => by rw [joustref06_May.l0]) ?_
    refine Tells.pos (by omega) ?_
    refine Tells.bind (one_tells l0 a2 a3 a4 a5 a6 l7 a8 a9 ps i hi) ?_
    have hw : wrap64 ((i : Int) + 1) = ((i + 1 : Nat) : Int) := wrap_nat (by omega)
    have hwl : wrap64 ((lim : Int) + 1) = ((lim + 1 : Nat) : Int) := wrap_nat (by omega)
    obtain ⟨p, hp⟩ : ∃ p, rd_T35 ps (i : Int) = p := ⟨_, rfl⟩
    have hpi : ps[i] = p := (rd_at ps i hi).symm.trans hp
    rw [hp, List.drop_eq_getElem_cons hi, List.all_cons, List.countP_cons, hpi]
    have next : ∀ lim' : Nat, lim' ≤ i + 1 → Tells (fun k => joustref06_May.l0 k (lim' : Int) (wrap64 ((i : Int) + 1)) l0 ps a2 a3 a4 a5 a6 l7 a8 a9) ((ps.drop (i + 1)).all (pieceB l0 ps) && decide (lim' + (ps.drop (i + 1)).countP (fun p => p.f5 == 6) ≤ 1)) := by
      intro lim' h1
      rw [hw]
      exact may_l ps hl d (i + 1) lim' (by omega) h1
    unfold pieceB at next ⊢
    cases ho : okP l0 p with
    | false =>
      refine Tells.neg (by decide) ?_
      rw [Bool.false_and, Bool.false_and, Bool.false_and]
      exact Tells.const _
    | true =>
      refine Tells.pos rfl (Tells.pos (by omega) ?_)
      refine Tells.bind (many_tells l0 a2 a3 a4 a5 a6 l7 a8 a9 p.f4 p.f5 p.f6 ps (by omega)) ?_
      rw [Bool.true_and]
      by_cases h6 : p.f5 = 6
      · refine Tells.pos h6 ?_
        have e6 : (p.f5 == 6) = true := beq_iff_eq.2 h6
        rw [hwl, e6, Bool.true_or, Bool.true_or, Bool.true_and, if_pos rfl]
        have h := next (lim + 1) (by omega)
        rw [show lim + ((ps.drop (i + 1)).countP (fun p => p.f5 == 6) + 1) = lim + 1 + (ps.drop (i + 1)).countP (fun p => p.f5 == 6) by omega]
        exact h
      refine Tells.neg h6 ?_
      have e6 : (p.f5 == 6) = false := beq_eq_false_iff_ne.2 h6
      rw [e6, Bool.false_or, if_neg (by decide), Nat.add_zero]
      by_cases h7 : p.f5 = 7
      · refine Tells.pos h7 ?_
        rw [beq_iff_eq.2 h7, Bool.true_or, Bool.true_and]
        exact next lim (by omega)
      refine Tells.neg h7 ?_
      rw [beq_eq_false_iff_ne.2 h7, Bool.false_or]
      by_cases h1 : thereC ps p.f4 p.f5 p.f6 = 1
      · refine Tells.pos (by rw [h1]; rfl) ?_
        rw [beq_iff_eq.2 h1, Bool.true_and]
        refine Tells.bind (Tells.of fun k => rshared_f p.f5) ?_
        cases hs : sharedB p.f5 with
        | true => exact Tells.pos rfl (next lim (by omega))
        | false =>
          refine Tells.neg (by decide) ?_
          rw [Bool.false_or]
          by_cases h0 : p.f6 < 0
          · refine Tells.pos h0 ?_
            rw [decide_eq_false (show ¬ 0 ≤ p.f6 by omega), Bool.false_and, Bool.false_and]
            exact Tells.const _
          refine Tells.neg h0 ?_
          rw [decide_eq_true (show 0 ≤ p.f6 by omega), Bool.true_and]
          by_cases ha : p.f6 ≥ ((allC ps p.f4 p.f5 : Nat) : Int)
          · refine Tells.pos ha ?_
            rw [decide_eq_false (show ¬ p.f6 < ((allC ps p.f4 p.f5 : Nat) : Int) by omega), Bool.false_and]
            exact Tells.const _
          · refine Tells.neg ha ?_
            rw [decide_eq_true (show p.f6 < ((allC ps p.f4 p.f5 : Nat) : Int) by omega), Bool.true_and]
            exact next lim (by omega)
      · refine Tells.neg (fun e => h1 (by omega)) ?_
        rw [beq_eq_false_iff_ne.2 h1, Bool.false_and, Bool.false_and]
        exact Tells.const _
theorem rmay_tells (ps : List PS) : Tells (fun k => joustref06_May.f k l0 ps a2 a3 a4 a5 a6 l7 a8 a9) (refB l0 ps a2 a3 a4 a5) := by
  have no : ∀ b, headB a2 a3 a4 a5 ps.length = false → b = true → Tells (fun k => joustref06_May.j0 k b l0 ps a2 a3 a4 a5 a6 l7 a8 a9) (refB l0 ps a2 a3 a4 a5) := by
    intro b h hb
    refine Tells.succ (fun k => by rw [joustref06_May.j0]) ?_
    refine Tells.pos hb ?_
    unfold refB
    rw [h, Bool.false_and, Bool.false_and]
    exact Tells.const _
  show Tells (fun k => if a2 < 0 then _ else _) _
  have hb : headB a2 a3 a4 a5 ps.length = (withinB a2 99999 && withinB a3 99999 && decide (¬ a4 < 1) && decide (¬ a5 > 1) && decide (¬ (ps.length : Int) > 144)) := rfl
  by_cases h1 : a2 < 0
  · exact Tells.pos h1 (no _ (by rw [hb]; unfold withinB; simp; omega) rfl)
  refine Tells.neg h1 ?_
  by_cases h2 : a2 > 99999
  · exact Tells.pos h2 (no _ (by rw [hb]; unfold withinB; simp; omega) rfl)
  refine Tells.neg h2 ?_
  by_cases h3 : a3 < 0
  · exact Tells.pos h3 (no _ (by rw [hb]; unfold withinB; simp; omega) rfl)
  refine Tells.neg h3 ?_
  by_cases h4 : a3 > 99999
  · exact Tells.pos h4 (no _ (by rw [hb]; unfold withinB; simp; omega) rfl)
  refine Tells.neg h4 ?_
  by_cases h5 : a4 < 1
  · exact Tells.pos h5 (no _ (by rw [hb]; unfold withinB; simp; omega) rfl)
  refine Tells.neg h5 ?_
  by_cases h6 : a5 > 1
  · exact Tells.pos h6 (no _ (by rw [hb]; unfold withinB; simp; omega) rfl)
  refine Tells.neg h6 ?_
  by_cases h7 : (ps.length : Int) > 144
  · exact no _ (by rw [hb]; unfold withinB; simp; omega) (decide_eq_true h7)
  · refine Tells.succ (fun k => by rw [joustref06_May.j0]) ?_
    refine Tells.neg (by rw [decide_eq_false h7]; decide) ?_
    have h := may_l l0 a2 a3 a4 a5 a6 l7 a8 a9 ps (by omega) ps.length 0 0 rfl (Nat.le_refl _)
    rw [List.drop_zero, Nat.zero_add] at h
    have hh : headB a2 a3 a4 a5 ps.length = true := by rw [hb]; unfold withinB; simp; omega
    unfold refB
    rw [hh, Bool.true_and]
    exact h
end
end Go.Proofs.Ytlldpdhajddmiaa.Bmay
end
section
/- Whether a table may be, by the document: the contract as the prints take it, in board.May's own words. -/
namespace Go.Proofs.Ytlldpdhajddmiaa.Base
open Go Go.RowKit Go.Proofs.Ytlldpdhajddmiaa.Pmga Go.Proofs.Ytlldpdhajddmiaa.Bmay Go.Proofs.YtlldpdhajddmiaaW.PrintWords
def rmay.f (_k : Nat) (l0_0 : List (S97)) (l0_1 : List (S35)) (a0_2 : Int) (a0_3 : Int) (a0_4 : Int) (a0_5 : Int) (_a0_6 : Int) (_l0_7 : List (S58)) (_a0_8 : Bool) (_a0_9 : Bool) : Option (Bool) :=
  some (mayB l0_0 l0_1 a0_2 a0_3 a0_4 a0_5)
theorem rmay.mono : ∀ a0 a1 a2 a3 a4 a5 a6 a7 a8 a9 k, LeO (rmay.f k a0 a1 a2 a3 a4 a5 a6 a7 a8 a9) (rmay.f (k + 1) a0 a1 a2 a3 a4 a5 a6 a7 a8 a9) := fun _ _ _ _ _ _ _ _ _ _ _ _ h => h
theorem rmay.calls (k : Nat) (A0_0 : Option Addr) (c0_0 : Nat) (l0_0 : List (S97)) (A0_1 : Option Addr) (c0_1 : Nat) (l0_1 : List (S35)) (a0_2 : Int) (a0_3 : Int) (a0_4 : Int) (a0_5 : Int) (a0_6 : Int) (A0_7 : Option Addr) (c0_7 : Nat) (l0_7 : List (S58)) (a0_8 : Bool) (a0_9 : Bool) (r : Bool) (w : World) (hr0_0 : Kd.C k97 w A0_0 l0_0.length l0_0) (hc0_0 : l0_0.length ≤ c0_0) (hr0_1 : Kd.C k35 w A0_1 l0_1.length l0_1) (hc0_1 : l0_1.length ≤ c0_1) (hr0_7 : Kd.C k58 w A0_7 l0_7.length l0_7) (hc0_7 : l0_7.length ≤ c0_7) (h : rmay.f k l0_0 l0_1 a0_2 a0_3 a0_4 a0_5 a0_6 l0_7 a0_8 a0_9 = some r) :
    Calls Try.prog 18 #[.agg #[.slice A0_0 l0_0.length c0_0, .slice A0_1 l0_1.length c0_1, .int .i64 a0_2, .int .i64 a0_3, .int .i64 a0_4, .int .u8 a0_5, .int .i64 a0_6, .slice A0_7 l0_7.length c0_7, .bool a0_8, .bool a0_9]] w fun e w' => e = .returned (.bool r) ∧ Below w.heap.size w w' := by
  obtain rfl := (Option.some.inj h).symm
  obtain ⟨K, hK⟩ := (rmay_tells l0_0 a0_2 a0_3 a0_4 a0_5 a0_6 l0_7 a0_8 a0_9 l0_1).exists
  refine Pmgb.joustref06_May.calls K A0_0 c0_0 l0_0 A0_1 c0_1 l0_1 a0_2 a0_3 a0_4 a0_5 a0_6 A0_7 c0_7 l0_7 a0_8 a0_9 _ w hr0_0 hc0_0 hr0_1 hc0_1 hr0_7 hc0_7 ?_
  rw [may_ref]
  exact hK
end Go.Proofs.Ytlldpdhajddmiaa.Base
end
section
/- One of a Sel: contracts as the prints take them. -/
namespace Go.Proofs.Ytlldpdhajddmiaa.Base
open Go Go.RowKit Go.Proofs.Ytlldpdhajddmiaa.Pmga Go.Proofs.Ytlldpdhajddmiaa.Bmay Go.Proofs.YtlldpdhajddmiaaW.PrintWords
def pickB (l0 : List (S97)) (l1 : List (S35)) (who frm s0 s1 s2 id : Int) : Bool := ofB (rd_T35 l1 id) (kindV l0 (rd_T35 l1 id)) who frm s0 s1 s2 id
def might_of.f (_k : Nat) (l0_0 : List (S97)) (l0_1 : List (S35)) (_a0_2 : Int) (_a0_3 : Int) (_a0_4 : Int) (_a0_5 : Int) (_a0_6 : Int) (_l0_7 : List (S58)) (_a0_8 : Bool) (_a0_9 : Bool) (a1 a2 a3_0 a3_1 a3_2 a4 : Int) : Option (Bool) :=
  if 0 ≤ a4 ∧ a4 < (l0_1.length : Int) then some (pickB l0_0 l0_1 a1 a2 a3_0 a3_1 a3_2 a4) else none
theorem might_of.mono : ∀ a0 a1 a2 a3 a4 a5 a6 a7 a8 a9 b0 b1 b2 b3 b4 b5 k, LeO (might_of.f k a0 a1 a2 a3 a4 a5 a6 a7 a8 a9 b0 b1 b2 b3 b4 b5) (might_of.f (k + 1) a0 a1 a2 a3 a4 a5 a6 a7 a8 a9 b0 b1 b2 b3 b4 b5) := fun _ _ _ _ _ _ _ _ _ _ _ _ _ _ _ _ _ _ h => h
theorem might_of.calls (k : Nat) (A0_0 : Option Addr) (c0_0 : Nat) (l0_0 : List (S97)) (A0_1 : Option Addr) (c0_1 : Nat) (l0_1 : List (S35)) (a0_2 : Int) (a0_3 : Int) (a0_4 : Int) (a0_5 : Int) (a0_6 : Int) (A0_7 : Option Addr) (c0_7 : Nat) (l0_7 : List (S58)) (a0_8 : Bool) (a0_9 : Bool) (a1 a2 a3_0 a3_1 a3_2 a4 : Int) (r : Bool) (w : World) (hr0_0 : Kd.C k97 w A0_0 l0_0.length l0_0) (hc0_0 : l0_0.length ≤ c0_0) (hr0_1 : Kd.C k35 w A0_1 l0_1.length l0_1) (hc0_1 : l0_1.length ≤ c0_1) (hr0_7 : Kd.C k58 w A0_7 l0_7.length l0_7) (hc0_7 : l0_7.length ≤ c0_7) (h : might_of.f k l0_0 l0_1 a0_2 a0_3 a0_4 a0_5 a0_6 l0_7 a0_8 a0_9 a1 a2 a3_0 a3_1 a3_2 a4 = some r) :
    Calls Try.prog 66 #[.agg #[.slice A0_0 l0_0.length c0_0, .slice A0_1 l0_1.length c0_1, .int .i64 a0_2, .int .i64 a0_3, .int .i64 a0_4, .int .u8 a0_5, .int .i64 a0_6, .slice A0_7 l0_7.length c0_7, .bool a0_8, .bool a0_9], .int .u8 a1, .int .i64 a2, .agg #[.int .u8 a3_0, .int .u8 a3_1, .int .u8 a3_2], .int .i64 a4] w fun e w' => e = .returned (.bool r) ∧ Below w.heap.size w w' := by
  unfold might_of.f at h
  split at h
  · rename_i hx
    obtain ⟨i, rfl⟩ : ∃ i : Nat, a4 = (i : Int) := ⟨a4.toNat, by omega⟩
    have hi : i < l0_1.length := by omega
    obtain rfl := (Option.some.inj h).symm
    unfold pickB
    refine of_walk A0_0 c0_0 l0_0 A0_1 c0_1 l0_1 a0_2 a0_3 a0_4 a0_5 a0_6 A0_7 l0_7.length c0_7 a0_8 a0_9 a1 a2 a3_0 a3_1 a3_2 i w hr0_1 hi _ (fun w'' hb => ?_)
    exact board_Kind.calls 1 A0_0 c0_0 l0_0 A0_1 c0_1 l0_1 a0_2 a0_3 a0_4 a0_5 a0_6 A0_7 c0_7 l0_7 a0_8 a0_9 (i : Int) _ w'' (Kd.C_below hr0_0 hb) hc0_0 (Kd.C_below hr0_1 hb) hc0_1 (Kd.C_below hr0_7 hb) hc0_7 (kind_f _ _ _ _ _ _ _ _ _ _ i hi)
  · cases h
end Go.Proofs.Ytlldpdhajddmiaa.Base
end
section
/- What auras give (might.boosts): the iterator's contract. -/
namespace Go.Proofs.Ytlldpdhajddmiaa.Bmay
open Go Go.RowKit Go.Shelf Go.Proofs.Ytlldpdhajddmiaa.Base Go.Proofs.Ytlldpdhajddmiaa.Pmga Go.Proofs.YtlldpdhajddmiaaW.PrintWords Go.Proofs.YtlldpdhajddmiaaW.PrintLast Go.Proofs.YtlldpdhajddmiaaW.PrintMore
def auraS (e : S88) (s : S107) : Bool := e.f0 == 6 && (s.f0 == 7 && (s.f3 && s.f2.f0 == 0))
def auraE (id : Int) (e : S88) : List (Int × S107) := (e.f9.filter (auraS e)).map (fun s => (id, s))
def upP (p : PS) : Bool := p.f5 == 2 && (p.f7 && decide (¬ p.f0 < 0))
def auraP (l0 : List S97) (id : Int) (p : PS) : List (Int × S107) := if upP p = true then ((rd_T97 l0 p.f0).f5).flatMap (auraE id) else []
def auraL (l0 : List S97) : List PS → Nat → List (Int × S107)
  | [], _ => []
  | p :: r, k => auraP l0 (k : Int) p ++ auraL l0 r (k + 1)
abbrev SX := Int × S107 × Option Addr × Nat
def stp (x : SX) : Int × S107 := (x.1, x.2.1)
def stepV (s : S107) (A : Option Addr) (c : Nat) : Array Value := #[.int .u8 s.f0, .int .u8 s.f1, .int .u8 s.f2.f0, .int .i64 s.f2.f1, .int .u8 s.f2.f2, .int .u8 s.f2.f3.f0, .int .u8 s.f2.f3.f1, .int .u8 s.f2.f3.f2, .slice A s.f2.f4.length c, .bool s.f3, .int .u8 s.f4.f0, .int .u8 s.f4.f1, .int .u8 s.f4.f2]
def encX (x : SX) : Array Value := #[.int .i64 x.1, .agg (stepV x.2.1 x.2.2.1 x.2.2.2)]
attribute [local go_sem] Oper.semAt_some
set_option linter.unusedSimpArgs false
set_option linter.unusedVariables false
set_option maxRecDepth 100000
set_option maxHeartbeats 8000000
theorem boosts_iter (A0 : Option Addr) (c0 : Nat) (l0 : List S97) (A1 : Option Addr) (c1 : Nat) (l1 : List S35) (a2 a3 a4 a5 a6 : Int) (A7 : Option Addr) (n7 c7 : Nat) (a8 a9 : Bool) (w0 : World) (hr0 : Kd.C k97 w0 A0 l0.length l0) (hr1 : Kd.C k35 w0 A1 l1.length l1) (hdef : ∀ p ∈ l1, p.f0 < (l0.length : Int)) (cal : Nat → Prop) (hcal : ∀ b, cal b → w0.heap.size ≤ b)
    (w : World) (hb : Below w0.heap.size w0 w) (gt : Nat) (hT : Blk w gt 28 #[.slice A0 l0.length c0, .slice A1 l1.length c1, .int .i64 a2, .int .i64 a3, .int .i64 a4, .int .u8 a5, .int .i64 a6, .slice A7 n7 c7, .bool a8, .bool a9]) (hgt : ¬ cal gt) (hcl : ∀ b, cal b → b < w.heap.size) :
    IterD Try.prog 121 #[.pointer (some ⟨gt, 0, none⟩)] encX (fun _ => False) cal (fun xs => xs.map stp = auraL l0 l1 0) (fun pre => pre.map stp <+: auraL l0 l1 0) w := by
  intro l J Jx W hW hJ hJx hY h0
  have HJ := Lib.hid hJ
  have HY := Lib.hid hY
  have HR0 := Lib.hid hr0
  have HR1 := Lib.hid hr1
  have HCAL := Lib.hid hcal
  have HGT := Lib.hid hgt
  have HDEF := Lib.hid hdef
  have HCL := Lib.hid hcl
  have hW0 := Lib.hid (hb.trans (hW.mono hb.size))
  have hT0 := Lib.hid (hT.below hW hT.lt)
  have hml := Kd.C_max hr1
  have HW2 := Lib.hid (show w.heap.size ≤ W.heap.size from hW.size)
  clear hJ hJx hY hr0 hr1 hcal hgt hdef hb hT hW hcl
  obtain ⟨full, hfull⟩ : ∃ f, auraL l0 l1 0 = f := ⟨_, rfl⟩
  rw [hfull] at HY ⊢
  have HF := Lib.hid hfull
  clear hfull
  have t_c := hT0.out.cell
  refine callsIn_of_wp Try.func121 rfl trivial ?_ rfl
  simp only [Try.ntmps121, List.size_toArray, List.length_cons, List.length_nil, Nat.reduceAdd, Nat.reduceSub, Array.replicate_succ, Array.replicate_zero, List.push_toArray, List.append_toArray, List.nil_append, List.cons_append]
  gi_wp2
  clear t_c
  gi_loopg [13] l1.length (fun gg s13 wr => ∃ (k : Nat) (xs : List SX), k ≤ l1.length ∧ l1.length - k ≤ gg ∧ s13 = .int .i64 k ∧ Aside0 (J xs wr) ∧ Aside0 (Below w0.heap.size w0 wr) ∧ Aside0 (Blk wr gt 28 #[.slice A0 l0.length c0, .slice A1 l1.length c1, .int .i64 a2, .int .i64 a3, .int .i64 a4, .int .u8 a5, .int .i64 a6, .slice A7 n7 c7, .bool a8, .bool a9]) ∧ Aside0 (W.heap.size ≤ wr.heap.size) ∧ Aside0 (xs.map stp ++ auraL l0 (l1.drop k) k = full))
  case atStart => exact ⟨0, [], Nat.zero_le _, by omega, rfl, ⟨h0⟩, ⟨hW0.out⟩, ⟨hT0.out⟩, ⟨Nat.le_refl _⟩, ⟨by rw [List.drop_zero]; exact HF.out⟩⟩
  case round =>
    clear h0 hW0 hT0 HF
    obtain ⟨k, xs, hk, hgg, rfl, HX, HB, HT, HS, HE⟩ := hrel
    by_cases hlt : k < l1.length
    rotate_left
    · have e1 : decide (k < l1.length) = false := decide_eq_false hlt
      have hfin : xs.map stp = full := by
        have h := HE.out
        rw [List.drop_eq_nil_of_le (by omega)] at h
        simpa [auraL] using h
      have HFIN := Lib.hid hfin
      clear hfin HE hlt
      gi_wp2
      go_end0
      exact ⟨⟨_, rfl⟩, .inl ⟨xs, HFIN.out, HX.out⟩⟩
    · have e1 : decide (k < l1.length) = true := decide_eq_true hlt
      have hk0 : (0 : Int) ≤ (k : Int) := Int.natCast_nonneg _
      have e2 : (k < l1.length) = True := eq_true hlt
      obtain ⟨ad, hA1, d0, d1, d2, d3, d4, d5, d6, d7, d8, d9, d10, d11, d12, d13⟩ := at_T35 (Kd.C_below HR1.out HB.out) (k : Int) hk0 (Int.ofNat_lt.2 hlt)
      simp only [Int.toNat_natCast] at d0 d1 d2 d3 d4 d5 d6 d7 d8 d9 d10 d11 d12 d13
      obtain ⟨p, hp⟩ : ∃ p, rd_T35 l1 (k : Int) = p := ⟨_, rfl⟩
      have hpk : l1.drop k = p :: l1.drop (k + 1) := by rw [List.drop_eq_getElem_cons hlt, ← rd_at l1 k hlt, hp]
      have hpd : p.f0 < (l0.length : Int) := HDEF.out p (by rw [← hp, rd_at l1 k hlt]; exact List.getElem_mem hlt)
      rw [hp] at d0 d1 d2 d3 d4 d5 d6 d7 d8 d9 d10 d11 d12 d13
      have hfl := HE.out
      rw [hpk] at hfl
      unfold auraL at hfl
      have HE := Lib.hid hfl
      have HPD := Lib.hid hpd
      clear hfl hpk hpd hp
      obtain ⟨p0, p1, p2, p3, p4, p5, p6, p7, p8, p9, p10, p11, p12, p13⟩ := p
      dsimp only at d0 d1 d2 d3 d4 d5 d6 d7 d8 d9 d10 d11 d12 d13
      have HA1 := Lib.hid hA1
      subst hA1
      by_cases hf2 : p5 = 2
      rotate_left
      · have f2 : (p5 == 2) = false := beq_eq_false_iff_ne.2 hf2
        have f2n : (p5 != 2) = true := by rw [bne, f2]; rfl
        clear hf2
        gi_wp2
        gi_roundg (l1.length - (k + 1))
        case measure => omega
        case rel => exact ⟨k + 1, xs, by omega, by omega, by go_num, ⟨HJ.out _ _ _ HX.out (Beside.of_below ((Below.refl _ _).alloc HS.out _))⟩, ⟨balloc HB.out _⟩, ⟨HT.out.alloc _⟩, ⟨by rw [World.size_alloc]; have := HS.out; omega⟩, ⟨by have h := HE.out; rw [show auraP l0 (k : Int) (⟨p0, p1, p2, p3, p4, p5, p6, p7, p8, p9, p10, p11, p12, p13⟩ : PS) = [] by unfold auraP upP; simp [f2]] at h; exact h⟩⟩
      subst hf2
      cases p7 with
      | false =>
        gi_wp2
        gi_roundg (l1.length - (k + 1))
        case measure => omega
        case rel => exact ⟨k + 1, xs, by omega, by omega, by go_num, ⟨HJ.out _ _ _ HX.out (Beside.of_below ((Below.refl _ _).alloc HS.out _))⟩, ⟨balloc HB.out _⟩, ⟨HT.out.alloc _⟩, ⟨by rw [World.size_alloc]; have := HS.out; omega⟩, ⟨by have h := HE.out; rw [show auraP l0 (k : Int) (⟨p0, p1, p2, p3, p4, 2, p6, false, p8, p9, p10, p11, p12, p13⟩ : PS) = [] by unfold auraP upP; simp []] at h; exact h⟩⟩
      | true =>
        by_cases hd0 : p0 < 0
        · have ed : decide (p0 < 0) = true := decide_eq_true hd0
          gi_wp2
          gi_roundg (l1.length - (k + 1))
          case measure => omega
          case rel => exact ⟨k + 1, xs, by omega, by omega, by go_num, ⟨HJ.out _ _ _ HX.out (Beside.of_below ((Below.refl _ _).alloc HS.out _))⟩, ⟨balloc HB.out _⟩, ⟨HT.out.alloc _⟩, ⟨by rw [World.size_alloc]; have := HS.out; omega⟩, ⟨by have h := HE.out; rw [show auraP l0 (k : Int) (⟨p0, p1, p2, p3, p4, 2, p6, true, p8, p9, p10, p11, p12, p13⟩ : PS) = [] by unfold auraP upP; simp [hd0]] at h; exact h⟩⟩
        have ed : decide (p0 < 0) = false := decide_eq_false hd0
        have hup : upP ⟨p0, p1, p2, p3, p4, 2, p6, true, p8, p9, p10, p11, p12, p13⟩ = true := by unfold upP; simp [hd0]
        obtain ⟨ad0, A5, c5, hA0, z0, z1, z2, z3, z4, z5, z6, z7⟩ := at_T97 HR0.out p0 (by omega) HPD.out
        obtain ⟨card, hcard⟩ : ∃ c, rd_T97 l0 p0 = c := ⟨_, rfl⟩
        rw [hcard] at z0 z1 z2 z3 z4 z5 z6 z7
        obtain ⟨es, hes⟩ : ∃ l, card.f5 = l := ⟨_, rfl⟩
        rw [hes] at z5 z6 z7
        replace z5 := cell_keep (balloc HB.out (.cells #[.int .i64 p0, .int .i64 p1, .int .i64 p2, .int .u8 p3, .int .u8 p4, .int .u8 2, .int .i64 p6, .bool true, .bool p8, .int .i64 p9, .int .u8 p10, .bool p11, .bool p12, .int .i64 p13] 35)) z5
        have hE := HE.out
        unfold auraP at hE
        rw [if_pos hup] at hE
        dsimp only at hE
        rw [hcard, hes] at hE
        have HE2 := Lib.hid hE
        have HZ7 := Lib.hid z7
        have HZ6 := Lib.hid z6
        have hp0 : 0 ≤ p0 := by omega
        have hp1 : p0 < (l0.length : Int) := HPD.out
        have hmx := Kd.C_max z7
        clear hE hup HE z7 z6 hes hcard z0 z1 z2 z3 z4 hd0
        subst hA0
        have t_c := (HT.out.alloc (.cells #[.int .i64 p0, .int .i64 p1, .int .i64 p2, .int .u8 p3, .int .u8 p4, .int .u8 2, .int .i64 p6, .bool true, .bool p8, .int .i64 p9, .int .u8 p10, .bool p11, .bool p12, .int .i64 p13] 35)).cell
        gi_wp2
        have hX1 := HJ.out _ _ _ HX.out (Beside.of_below ((Below.refl _ _).alloc HS.out (.cells #[.int .i64 p0, .int .i64 p1, .int .i64 p2, .int .u8 p3, .int .u8 p4, .int .u8 2, .int .i64 p6, .bool true, .bool p8, .int .i64 p9, .int .u8 p10, .bool p11, .bool p12, .int .i64 p13] 35)))
        have hB1 := balloc HB.out (.cells #[.int .i64 p0, .int .i64 p1, .int .i64 p2, .int .u8 p3, .int .u8 p4, .int .u8 2, .int .i64 p6, .bool true, .bool p8, .int .i64 p9, .int .u8 p10, .bool p11, .bool p12, .int .i64 p13] 35)
        have hT1 := HT.out.alloc (.cells #[.int .i64 p0, .int .i64 p1, .int .i64 p2, .int .u8 p3, .int .u8 p4, .int .u8 2, .int .i64 p6, .bool true, .bool p8, .int .i64 p9, .int .u8 p10, .bool p11, .bool p12, .int .i64 p13] 35)
        have hS1 : W.heap.size ≤ (wr.alloc (.cells #[.int .i64 p0, .int .i64 p1, .int .i64 p2, .int .u8 p3, .int .u8 p4, .int .u8 2, .int .i64 p6, .bool true, .bool p8, .int .i64 p9, .int .u8 p10, .bool p11, .bool p12, .int .i64 p13] 35)).heap.size := by rw [World.size_alloc]; have := HS.out; omega
        obtain ⟨Wp, hWp⟩ : ∃ W, wr.alloc (.cells #[.int .i64 p0, .int .i64 p1, .int .i64 p2, .int .u8 p3, .int .u8 p4, .int .u8 2, .int .i64 p6, .bool true, .bool p8, .int .i64 p9, .int .u8 p10, .bool p11, .bool p12, .int .i64 p13] 35) = W := ⟨_, rfl⟩
        obtain ⟨gp, hgp⟩ : ∃ g, wr.heap.size = g := ⟨_, rfl⟩
        rw [hWp] at hX1 hB1 hT1 hS1 z5 t_c ⊢
        rw [hgp]
        have HX1 := Lib.hid hX1
        have HB1 := Lib.hid hB1
        have HT1 := Lib.hid hT1
        have HS1 := Lib.hid hS1
        clear hX1 hB1 hT1 hS1 t_c hWp HX HB HT HS z5 d0 d1 d2 d3 d4 d5 d6 d7 d8 d9 d10 d11 d12 d13 hgp
        gi_loopg [39] es.length (fun gg s39 wr => ∃ (j : Nat) (xs : List SX), j ≤ es.length ∧ es.length - j ≤ gg ∧ s39 = .int .i64 j ∧ Aside0 (J xs wr) ∧ Aside0 (Below w0.heap.size w0 wr) ∧ Aside0 (Blk wr gt 28 #[.slice (some ad0) l0.length c0, .slice (some ad) l1.length c1, .int .i64 a2, .int .i64 a3, .int .i64 a4, .int .u8 a5, .int .i64 a6, .slice A7 n7 c7, .bool a8, .bool a9]) ∧ Aside0 (W.heap.size ≤ wr.heap.size) ∧ Aside0 (xs.map stp ++ ((es.drop j).flatMap (auraE (k : Int)) ++ auraL l0 (l1.drop (k + 1)) (k + 1)) = full))
        case atStart => exact ⟨0, xs, Nat.zero_le _, by omega, rfl, ⟨HX1.out⟩, ⟨HB1.out⟩, ⟨HT1.out⟩, ⟨HS1.out⟩, ⟨by rw [List.drop_zero]; exact HE2.out⟩⟩
        case round =>
          clear HX1 HB1 HT1 HS1 HE2
          obtain ⟨j, xs2, hj, hgg2, rfl, HX, HB, HT, HS, HE⟩ := hrel
          by_cases hjl : j < es.length
          rotate_left
          · have e3 : decide (j < es.length) = false := decide_eq_false hjl
            have hfin := HE.out
            rw [List.drop_eq_nil_of_le (by omega), List.flatMap_nil, List.nil_append] at hfin
            have HFIN := Lib.hid hfin
            clear hfin HE hjl
            gi_wp2
            gi_roundg (l1.length - (k + 1))
            case measure => omega
            case rel => exact ⟨k + 1, xs2, by omega, by omega, by go_num, ⟨HX.out⟩, ⟨HB.out⟩, ⟨HT.out⟩, ⟨HS.out⟩, ⟨HFIN.out⟩⟩
          · have e3 : decide (j < es.length) = true := decide_eq_true hjl
            have e4 : (j < es.length) = True := eq_true hjl
            have hj0 : (0 : Int) ≤ (j : Int) := Int.natCast_nonneg _
            obtain ⟨ad5, A3, c3, A11, c11, hA5, y0, y1, y2, y3, y4, y5, y6, y7, y8, y9, y10, y11, l3, g3, l11, g11⟩ := at_T88 HZ7.out (j : Int) hj0 (Int.ofNat_lt.2 hjl)
            simp only [Int.toNat_natCast] at y0 y1 y2 y3 y4 y5 y6 y7 y8 y9 y10 y11
            obtain ⟨e, he⟩ : ∃ e, rd_T88 es (j : Int) = e := ⟨_, rfl⟩
            have hje : es.drop j = e :: es.drop (j + 1) := by
              rw [List.drop_eq_getElem_cons hjl]; congr 1; rw [← he]; unfold rd_T88; rw [Int.toNat_natCast, List.getD_eq_getElem?_getD, List.getElem?_eq_getElem hjl]; rfl
            rw [he] at y0 y1 y2 y3 y4 y5 y6 y7 y8 y9 y10 y11 l11 g11
            have hfl := HE.out
            rw [hje, List.flatMap_cons, List.append_assoc] at hfl
            have HE := Lib.hid hfl
            have HG11 := Lib.hid g11
            have hmx2 := Kd.C_max g11
            replace y0 := cell_keep HB.out y0
            replace y1 := cell_keep HB.out y1
            replace y2 := cell_keep HB.out y2
            replace y3 := cell_keep HB.out y3
            replace y4 := cell_keep HB.out y4
            replace y5 := cell_keep HB.out y5
            replace y6 := cell_keep HB.out y6
            replace y7 := cell_keep HB.out y7
            replace y8 := cell_keep HB.out y8
            replace y9 := cell_keep HB.out y9
            replace y10 := cell_keep HB.out y10
            replace y11 := cell_keep HB.out y11
            have HA5 := Lib.hid hA5
            clear hfl hje he l3 g3 l11 g11
            subst hA5
            gi_wp2
            have hX1 := HJ.out _ _ _ HX.out (Beside.of_below ((Below.refl _ _).alloc HS.out (.cells #[.int .u8 e.f0, .int .u8 e.f1, .int .u8 e.f2, .slice A3 e.f3.length c3, .int .i64 e.f4, .int .i64 e.f5, .bool e.f6, .int .i64 e.f7, .int .u8 e.f8.f0, .int .u8 e.f8.f1, .int .u8 e.f8.f2, .slice A11 e.f9.length c11] 88)))
            have hB1 := balloc HB.out (.cells #[.int .u8 e.f0, .int .u8 e.f1, .int .u8 e.f2, .slice A3 e.f3.length c3, .int .i64 e.f4, .int .i64 e.f5, .bool e.f6, .int .i64 e.f7, .int .u8 e.f8.f0, .int .u8 e.f8.f1, .int .u8 e.f8.f2, .slice A11 e.f9.length c11] 88)
            have hT1 := HT.out.alloc (.cells #[.int .u8 e.f0, .int .u8 e.f1, .int .u8 e.f2, .slice A3 e.f3.length c3, .int .i64 e.f4, .int .i64 e.f5, .bool e.f6, .int .i64 e.f7, .int .u8 e.f8.f0, .int .u8 e.f8.f1, .int .u8 e.f8.f2, .slice A11 e.f9.length c11] 88)
            have hE1 := Blk.new wr 88 #[.int .u8 e.f0, .int .u8 e.f1, .int .u8 e.f2, .slice A3 e.f3.length c3, .int .i64 e.f4, .int .i64 e.f5, .bool e.f6, .int .i64 e.f7, .int .u8 e.f8.f0, .int .u8 e.f8.f1, .int .u8 e.f8.f2, .slice A11 e.f9.length c11]
            have hS1 : W.heap.size ≤ (wr.alloc (.cells #[.int .u8 e.f0, .int .u8 e.f1, .int .u8 e.f2, .slice A3 e.f3.length c3, .int .i64 e.f4, .int .i64 e.f5, .bool e.f6, .int .i64 e.f7, .int .u8 e.f8.f0, .int .u8 e.f8.f1, .int .u8 e.f8.f2, .slice A11 e.f9.length c11] 88)).heap.size := by rw [World.size_alloc]; have := HS.out; omega
            have hge : w.heap.size ≤ wr.heap.size := by have := HS.out; have := HW2.out; omega
            obtain ⟨We, hWe⟩ : ∃ W, wr.alloc (.cells #[.int .u8 e.f0, .int .u8 e.f1, .int .u8 e.f2, .slice A3 e.f3.length c3, .int .i64 e.f4, .int .i64 e.f5, .bool e.f6, .int .i64 e.f7, .int .u8 e.f8.f0, .int .u8 e.f8.f1, .int .u8 e.f8.f2, .slice A11 e.f9.length c11] 88) = W := ⟨_, rfl⟩
            obtain ⟨ge, hgg⟩ : ∃ g, wr.heap.size = g := ⟨_, rfl⟩
            rw [hWe] at hX1 hB1 hT1 hS1 hE1 ⊢
            rw [hgg] at hge hE1 ⊢
            have HX1 := Lib.hid hX1
            have HB1 := Lib.hid hB1
            have HT1 := Lib.hid hT1
            have HS1 := Lib.hid hS1
            have HE1 := Lib.hid hE1
            have HGE := Lib.hid hge
            clear hX1 hB1 hT1 hS1 hE1 hge hWe hgg HX HB HT HS y0 y1 y2 y3 y4 y5 y6 y7 y8 y9 y10 y11
            gi_loopg [46] e.f9.length (fun gg s46 wr => ∃ (m : Nat) (xs : List SX), m ≤ e.f9.length ∧ e.f9.length - m ≤ gg ∧ s46 = .int .i64 m ∧ Aside0 (J xs wr) ∧ Aside0 (Below w0.heap.size w0 wr) ∧ Aside0 (Blk wr gt 28 #[.slice (some ad0) l0.length c0, .slice (some ad) l1.length c1, .int .i64 a2, .int .i64 a3, .int .i64 a4, .int .u8 a5, .int .i64 a6, .slice A7 n7 c7, .bool a8, .bool a9]) ∧ Aside0 (Blk wr ge 88 #[.int .u8 e.f0, .int .u8 e.f1, .int .u8 e.f2, .slice A3 e.f3.length c3, .int .i64 e.f4, .int .i64 e.f5, .bool e.f6, .int .i64 e.f7, .int .u8 e.f8.f0, .int .u8 e.f8.f1, .int .u8 e.f8.f2, .slice A11 e.f9.length c11]) ∧ Aside0 (W.heap.size ≤ wr.heap.size) ∧ Aside0 (xs.map stp ++ (((e.f9.drop m).filter (auraS e)).map (fun s => ((k : Int), s)) ++ ((es.drop (j + 1)).flatMap (auraE (k : Int)) ++ auraL l0 (l1.drop (k + 1)) (k + 1))) = full))
            case atStart => exact ⟨0, xs2, Nat.zero_le _, by omega, rfl, ⟨HX1.out⟩, ⟨HB1.out⟩, ⟨HT1.out⟩, ⟨HE1.out⟩, ⟨HS1.out⟩, ⟨by rw [List.drop_zero]; exact HE.out⟩⟩
            case round =>
              clear HX1 HB1 HT1 HS1 HE1 HE
              obtain ⟨m, xs3, hm, hgg3, rfl, HX, HB, HT, HB2, HS, HE⟩ := hrel
              by_cases hml2 : m < e.f9.length
              rotate_left
              · have e5 : decide (m < e.f9.length) = false := decide_eq_false hml2
                have hfin := HE.out
                rw [List.drop_eq_nil_of_le (by omega), List.filter_nil, List.map_nil, List.nil_append] at hfin
                have HFIN := Lib.hid hfin
                clear hfin HE hml2
                gi_wp2
                gi_roundg (es.length - (j + 1))
                case measure => omega
                case rel => exact ⟨j + 1, xs3, by omega, by omega, by go_num, ⟨HX.out⟩, ⟨HB.out⟩, ⟨HT.out⟩, ⟨HS.out⟩, ⟨HFIN.out⟩⟩
              · have e5 : decide (m < e.f9.length) = true := decide_eq_true hml2
                have e6 : (m < e.f9.length) = True := eq_true hml2
                have hm0 : (0 : Int) ≤ (m : Int) := Int.natCast_nonneg _
                obtain ⟨ad9, A, c, hA11, x0, x1, x2, x3, x4, x5, x6, x7, x8, x9, x10, x11, x12, l8, g8⟩ := at_T107 HG11.out (m : Int) hm0 (Int.ofNat_lt.2 hml2)
                simp only [Int.toNat_natCast] at x0 x1 x2 x3 x4 x5 x6 x7 x8 x9 x10 x11 x12
                obtain ⟨s, hs⟩ : ∃ s, rd_T107 e.f9 (m : Int) = s := ⟨_, rfl⟩
                have hms : e.f9.drop m = s :: e.f9.drop (m + 1) := by
                  rw [List.drop_eq_getElem_cons hml2]; congr 1; rw [← hs]; unfold rd_T107; rw [Int.toNat_natCast, List.getD_eq_getElem?_getD, List.getElem?_eq_getElem hml2]; rfl
                rw [hs] at x0 x1 x2 x3 x4 x5 x6 x7 x8 x9 x10 x11 x12
                have hfl := HE.out
                rw [hms, List.filter_cons] at hfl
                have HE := Lib.hid hfl
                clear hs
                obtain ⟨s0, s1, sn, sb, sl⟩ := s
                dsimp only at x0 x1 x2 x3 x4 x5 x6 x7 x8 x9 x10 x11 x12
                replace x0 := cell_keep HB.out x0
                replace x1 := cell_keep HB.out x1
                replace x2 := cell_keep HB.out x2
                replace x3 := cell_keep HB.out x3
                replace x4 := cell_keep HB.out x4
                replace x5 := cell_keep HB.out x5
                replace x6 := cell_keep HB.out x6
                replace x7 := cell_keep HB.out x7
                replace x8 := cell_keep HB.out x8
                replace x9 := cell_keep HB.out x9
                replace x10 := cell_keep HB.out x10
                replace x11 := cell_keep HB.out x11
                replace x12 := cell_keep HB.out x12
                have HA11 := Lib.hid hA11
                clear hfl hms l8 g8
                subst hA11
                have q_c := (HB2.out.alloc (.cells #[.int .u8 s0, .int .u8 s1, .int .u8 sn.f0, .int .i64 sn.f1, .int .u8 sn.f2, .int .u8 sn.f3.f0, .int .u8 sn.f3.f1, .int .u8 sn.f3.f2, .slice A sn.f4.length c, .bool sb, .int .u8 sl.f0, .int .u8 sl.f1, .int .u8 sl.f2] 107)).cell
                have hX1 := HJ.out _ _ _ HX.out (Beside.of_below ((Below.refl _ _).alloc HS.out (.cells #[.int .u8 s0, .int .u8 s1, .int .u8 sn.f0, .int .i64 sn.f1, .int .u8 sn.f2, .int .u8 sn.f3.f0, .int .u8 sn.f3.f1, .int .u8 sn.f3.f2, .slice A sn.f4.length c, .bool sb, .int .u8 sl.f0, .int .u8 sl.f1, .int .u8 sl.f2] 107)))
                have hB1 := balloc HB.out (.cells #[.int .u8 s0, .int .u8 s1, .int .u8 sn.f0, .int .i64 sn.f1, .int .u8 sn.f2, .int .u8 sn.f3.f0, .int .u8 sn.f3.f1, .int .u8 sn.f3.f2, .slice A sn.f4.length c, .bool sb, .int .u8 sl.f0, .int .u8 sl.f1, .int .u8 sl.f2] 107)
                have hT1 := HT.out.alloc (.cells #[.int .u8 s0, .int .u8 s1, .int .u8 sn.f0, .int .i64 sn.f1, .int .u8 sn.f2, .int .u8 sn.f3.f0, .int .u8 sn.f3.f1, .int .u8 sn.f3.f2, .slice A sn.f4.length c, .bool sb, .int .u8 sl.f0, .int .u8 sl.f1, .int .u8 sl.f2] 107)
                have hE1 := HB2.out.alloc (.cells #[.int .u8 s0, .int .u8 s1, .int .u8 sn.f0, .int .i64 sn.f1, .int .u8 sn.f2, .int .u8 sn.f3.f0, .int .u8 sn.f3.f1, .int .u8 sn.f3.f2, .slice A sn.f4.length c, .bool sb, .int .u8 sl.f0, .int .u8 sl.f1, .int .u8 sl.f2] 107)
                have hS1 : W.heap.size ≤ (wr.alloc (.cells #[.int .u8 s0, .int .u8 s1, .int .u8 sn.f0, .int .i64 sn.f1, .int .u8 sn.f2, .int .u8 sn.f3.f0, .int .u8 sn.f3.f1, .int .u8 sn.f3.f2, .slice A sn.f4.length c, .bool sb, .int .u8 sl.f0, .int .u8 sl.f1, .int .u8 sl.f2] 107)).heap.size := by rw [World.size_alloc]; have := HS.out; omega
                have HX1 := Lib.hid hX1
                have HB1 := Lib.hid hB1
                have HT1 := Lib.hid hT1
                have HS1 := Lib.hid hS1
                have HE1 := Lib.hid hE1
                clear hX1 hB1 hT1 hS1 hE1 HX HB HT HS HB2
                by_cases hq0 : e.f0 = 6
                rotate_left
                · have q0 : (e.f0 == 6) = false := beq_eq_false_iff_ne.2 hq0
                  clear hq0
                  gi_wp2
                  refine ⟨fun f h => (by cases h), ?_⟩
                  gi_wp2
                  gi_roundg (e.f9.length - (m + 1))
                  case measure => omega
                  case rel => exact ⟨m + 1, xs3, by omega, by omega, by go_num, ⟨HX1.out⟩, ⟨HB1.out⟩, ⟨HT1.out⟩, ⟨HE1.out⟩, ⟨HS1.out⟩, ⟨by have h := HE.out; rw [if_neg (by unfold auraS; simp [q0])] at h; exact h⟩⟩
                have q0 : (e.f0 == 6) = true := beq_iff_eq.2 hq0
                by_cases hq1 : s0 = 7
                rotate_left
                · have q1 : (s0 == 7) = false := beq_eq_false_iff_ne.2 hq1
                  clear hq0 hq1
                  gi_wp2
                  refine ⟨fun f h => (by cases h), ?_⟩
                  gi_wp2
                  gi_roundg (e.f9.length - (m + 1))
                  case measure => omega
                  case rel => exact ⟨m + 1, xs3, by omega, by omega, by go_num, ⟨HX1.out⟩, ⟨HB1.out⟩, ⟨HT1.out⟩, ⟨HE1.out⟩, ⟨HS1.out⟩, ⟨by have h := HE.out; rw [if_neg (by unfold auraS; simp [q0, q1])] at h; exact h⟩⟩
                have q1 : (s0 == 7) = true := beq_iff_eq.2 hq1
                cases sb with
                | false =>
                  clear hq0 hq1
                  gi_wp2
                  refine ⟨fun f h => (by cases h), ?_⟩
                  gi_wp2
                  gi_roundg (e.f9.length - (m + 1))
                  case measure => omega
                  case rel => exact ⟨m + 1, xs3, by omega, by omega, by go_num, ⟨HX1.out⟩, ⟨HB1.out⟩, ⟨HT1.out⟩, ⟨HE1.out⟩, ⟨HS1.out⟩, ⟨by have h := HE.out; rw [if_neg (by unfold auraS; simp [q0, q1])] at h; exact h⟩⟩
                | true =>
                  by_cases hq3 : sn.f0 = 0
                  rotate_left
                  · have q3 : (sn.f0 == 0) = false := beq_eq_false_iff_ne.2 hq3
                    clear hq0 hq1 hq3
                    gi_wp2
                    refine ⟨fun f h => (by cases h), ?_⟩
                    gi_wp2
                    gi_roundg (e.f9.length - (m + 1))
                    case measure => omega
                    case rel => exact ⟨m + 1, xs3, by omega, by omega, by go_num, ⟨HX1.out⟩, ⟨HB1.out⟩, ⟨HT1.out⟩, ⟨HE1.out⟩, ⟨HS1.out⟩, ⟨by have h := HE.out; rw [if_neg (by unfold auraS; simp [q0, q1, q3])] at h; exact h⟩⟩
                  have q3 : (sn.f0 == 0) = true := beq_iff_eq.2 hq3
                  have hfl := HE.out
                  rw [if_pos (by unfold auraS; simp [q0, q1, q3])] at hfl
                  rw [List.map_cons, List.cons_append] at hfl
                  have hmp : (xs3 ++ [((k : Int), (⟨s0, s1, sn, true, sl⟩ : S107), A, c)]).map stp = xs3.map stp ++ [((k : Int), (⟨s0, s1, sn, true, sl⟩ : S107))] := by rw [List.map_append]; rfl
                  have hfl2 : (xs3 ++ [((k : Int), (⟨s0, s1, sn, true, sl⟩ : S107), A, c)]).map stp ++ (((e.f9.drop (m + 1)).filter (auraS e)).map (fun s => ((k : Int), s)) ++ ((es.drop (j + 1)).flatMap (auraE (k : Int)) ++ auraL l0 (l1.drop (k + 1)) (k + 1))) = full := by rw [hmp, List.append_assoc]; exact hfl
                  have hpre : (xs3 ++ [((k : Int), (⟨s0, s1, sn, true, sl⟩ : S107), A, c)]).map stp <+: full := ⟨_, hfl2⟩
                  obtain ⟨f1, t1, q1, b1, hy1, hR1⟩ := HY.out xs3 ((k : Int), (⟨s0, s1, sn, true, sl⟩ : S107), A, c) _ HX1.out hpre
                  dsimp only [encX, stepV] at hy1
                  have HRR := Lib.hid hR1
                  have HPRE := Lib.hid hpre
                  have HE := Lib.hid hfl2
                  clear hfl hfl2 hmp hpre hR1 hq0 hq1 hq3
                  gi_wp2
                  refine ⟨rfl, HRR.out.mono ?_⟩
                  rintro en W1 (⟨rfl, hJ1, hK1⟩ | ⟨rfl, hx1⟩)
                  · have hJJ := Lib.hid hJ1
                    have hKK := Lib.hid hK1
                    clear hJ1 hK1 hy1 HRR
                    gi_wp2
                    gi_roundg (e.f9.length - (m + 1))
                    case measure => omega
                    case rel => exact ⟨m + 1, _, by omega, by omega, by go_num, ⟨hJJ.out⟩, ⟨HB1.out.trans (hKK.out.below HCAL.out HB1.out.size)⟩, ⟨hKK.out.blk HT1.out HGT.out⟩, ⟨hKK.out.blk HE1.out (fun h => absurd (HCL.out _ h) (by have := HGE.out; omega))⟩, ⟨Nat.le_trans HS1.out hKK.out.size⟩, ⟨HE.out⟩⟩
                  · have HXX := Lib.hid hx1
                    clear hx1 hy1 HRR
                    gi_wp2
                    exact bodyPost_ret (results_none rfl _ _ _) rfl ⟨⟨_, rfl⟩, .inr ⟨_, HPRE.out, HXX.out⟩⟩
end Go.Proofs.Ytlldpdhajddmiaa.Bmay
end
section
/- How strong a piece attacks (might.Attack): the loop over what auras give. -/
namespace Go.Proofs.Ytlldpdhajddmiaa.Bmay
open Go Go.RowKit Go.Shelf Go.Proofs.Ytlldpdhajddmiaa.Base Go.Proofs.Ytlldpdhajddmiaa.Pmga Go.Proofs.YtlldpdhajddmiaaW.PrintWords Go.Proofs.YtlldpdhajddmiaaW.PrintLast Go.Proofs.YtlldpdhajddmiaaW.PrintMore
def put3 (n a b : Int) : Int := mn (mx n a) b
theorem put3_bd (n a b : Int) (h : a ≤ b) : a ≤ put3 n a b ∧ put3 n a b ≤ b := by unfold put3 mn mx; split <;> split <;> omega
def addG (l0 : List S97) (l1 : List PS) (p : PS) (id : Int) (g : Int) (x : Int × S107) : Int :=
  if (p.f5 == 2 && pickB l0 l1 (rd_T35 l1 x.1).f4 x.1 x.2.f4.f0 x.2.f4.f1 x.2.f4.f2 id) = true then put3 (g + put3 x.2.f2.f1 0 99999) 0 199998 else g
def givenV (l0 : List S97) (l1 : List PS) (p : PS) (id : Int) (xs : List (Int × S107)) : Int := xs.foldl (addG l0 l1 p id) 0
def attackV (l0 : List S97) (l1 : List PS) (id : Int) : Int :=
  put3 ((rd_T35 l1 id).f1 + put3 (rd_T35 l1 id).f13 (-99999) 99999 + givenV l0 l1 (rd_T35 l1 id) id (auraL l0 l1 0)) 0 99999
theorem given_bd (l0 : List S97) (l1 : List PS) (p : PS) (id : Int) (xs : List (Int × S107)) : 0 ≤ givenV l0 l1 p id xs ∧ givenV l0 l1 p id xs ≤ 199998 := by
  unfold givenV
  suffices h : ∀ (xs : List (Int × S107)) (g : Int), 0 ≤ g ∧ g ≤ 199998 → 0 ≤ xs.foldl (addG l0 l1 p id) g ∧ xs.foldl (addG l0 l1 p id) g ≤ 199998 from h xs 0 (by omega)
  intro xs
  induction xs with
  | nil => exact fun g h => h
  | cons x r ih =>
    intro g h
    refine ih _ ?_
    unfold addG
    split
    · exact put3_bd _ 0 199998 (by omega)
    · exact h
theorem given_snoc (l0 : List S97) (l1 : List PS) (p : PS) (id : Int) (xs : List (Int × S107)) (x : Int × S107) : givenV l0 l1 p id (xs ++ [x]) = addG l0 l1 p id (givenV l0 l1 p id xs) x := by unfold givenV; rw [List.foldl_append]; rfl
theorem aura_ix' (l0 : List S97) (x : Int × S107) : ∀ (l : List PS) (k : Nat), x ∈ auraL l0 l k → (k : Int) ≤ x.1 ∧ x.1 < ((k + l.length : Nat) : Int)
  | [], k, h => by simp [auraL] at h
  | p :: r, k, h => by
    unfold auraL at h
    rcases List.mem_append.1 h with h | h
    · unfold auraP at h
      split at h
      · obtain ⟨e, _, he⟩ := List.mem_flatMap.1 h
        obtain ⟨s, _, rfl⟩ := List.mem_map.1 he
        simp only [List.length_cons]; omega
      · cases h
    · have := aura_ix' l0 x r (k + 1) h
      simp only [List.length_cons]; omega
theorem aura_ix (l0 : List S97) (l1 : List PS) (x : Int × S107) (h : x ∈ auraL l0 l1 0) : 0 ≤ x.1 ∧ x.1 < (l1.length : Int) := by
  have := aura_ix' l0 x l1 0 h
  rw [Nat.zero_add] at this
  exact this
theorem ret_i {k : IntKind} {a b : Int} (h : a = b) : Ending.returned (.int k a) = .returned (.int k b) := by rw [h]
theorem put_q (n a b : Int) (w : World) : Calls Try.prog 71 #[.int .i64 n, .int .i64 a, .int .i64 b] w fun e w' => e = .returned (.int .i64 (put3 n a b)) ∧ w' = w := by
  go_enter Try.func71, Try.ntmps71
  go_wp2
  all_goals
    go_ret
    exact ⟨ret_i (by unfold put3 mn mx; (repeat' split) <;> omega), rfl⟩
theorem boosts_any (A0 : Option Addr) (c0 : Nat) (l0 : List S97) (A1 : Option Addr) (c1 : Nat) (l1 : List S35) (a2 a3 a4 a5 a6 : Int) (A7 : Option Addr) (c7 : Nat) (l7 : List S58) (a8 a9 : Bool) (w : World) : Calls Try.prog 70 #[.agg #[.slice A0 l0.length c0, .slice A1 l1.length c1, .int .i64 a2, .int .i64 a3, .int .i64 a4, .int .u8 a5, .int .i64 a6, .slice A7 l7.length c7, .bool a8, .bool a9]] w fun e w' => e = .returned (.func (.func 121) #[] #[.pointer (some ⟨w.heap.size, 0, none⟩)]) ∧ w' = w.alloc (.cells #[.slice A0 l0.length c0, .slice A1 l1.length c1, .int .i64 a2, .int .i64 a3, .int .i64 a4, .int .u8 a5, .int .i64 a6, .slice A7 l7.length c7, .bool a8, .bool a9] 28) := by
  go_enter Try.func70, Try.ntmps70
  go_wp2
  go_ret
  exact ⟨rfl, rfl⟩
theorem below_put {n l : Nat} {A W : World} {o : Obj} (h : Below n A W) (hl : n ≤ l) : Below n A (W.putObj l o) :=
  h.trans ⟨rfl, rfl, rfl, by simp [World.putObj], fun k hk => World.putObj_heap_other (by omega)⟩
theorem stb_blk {β : Type} {own : Nat → Prop} {n g : Nat} {ty : TypeId} {cs : β → Array Value} (hg : g < n) (ho : ¬ own g) : Stb (β := β) own n (fun s W => Blk W g ty (cs s)) :=
  fun _ _ _ h hs => (hs.block g hg ho).trans h
theorem stb_and {β : Type} {own : Nat → Prop} {n : Nat} {I J : β → World → Prop} (h : Stb own n I) (k : Stb own n J) : Stb own n (fun s W => I s W ∧ J s W) := fun s A B hs hb => ⟨h s A B hs.1 hb, k s A B hs.2 hb⟩
theorem stb_plain {β : Type} {own : Nat → Prop} {n : Nat} {p : β → Prop} : Stb own n (fun s _ => p s) := fun _ _ _ h _ => h
theorem stb_below {β : Type} {own : Nat → Prop} {n n₀ : Nat} {w0 : World} (hn : n₀ ≤ n) (ho : ∀ b, b < n₀ → ¬ own b) : Stb (β := β) own n (fun _ W => Below n₀ w0 W) :=
  fun _ _ _ h hs => h.trans ⟨hs.os, hs.tape, hs.output, hs.size, fun k hk => hs.block k (by omega) (ho k hk)⟩
attribute [local go_sem] Oper.semAt_some
set_option linter.unusedSimpArgs false
set_option linter.unusedVariables false
set_option maxRecDepth 100000
set_option maxHeartbeats 8000000
theorem attack_no (A0 : Option Addr) (c0 : Nat) (l0 : List S97) (A1 : Option Addr) (c1 : Nat) (l1 : List S35) (a2 a3 a4 a5 a6 : Int) (A7 : Option Addr) (c7 : Nat) (l7 : List S58) (a8 a9 : Bool) (id : Int) (w : World) (hk : ∀ w', Below w.heap.size w w' → Calls Try.prog 65 #[.agg #[.slice A0 l0.length c0, .slice A1 l1.length c1, .int .i64 a2, .int .i64 a3, .int .i64 a4, .int .u8 a5, .int .i64 a6, .slice A7 l7.length c7, .bool a8, .bool a9], .int .i64 id] w' fun e w'' => e = .returned (.bool false) ∧ Below w'.heap.size w' w'') :
    Calls Try.prog 19 #[.agg #[.slice A0 l0.length c0, .slice A1 l1.length c1, .int .i64 a2, .int .i64 a3, .int .i64 a4, .int .u8 a5, .int .i64 a6, .slice A7 l7.length c7, .bool a8, .bool a9], .int .i64 id] w fun e w' => e = .returned (.int .i64 0) ∧ Below w.heap.size w w' := by
  have HK := Lib.hid hk
  clear hk
  go_enter Try.func19, Try.ntmps19
  go_upto_region 1 with (fail)
  have hB0 : Below w.heap.size w ((w.alloc (.cells #[.slice A0 l0.length c0, .slice A1 l1.length c1, .int .i64 a2, .int .i64 a3, .int .i64 a4, .int .u8 a5, .int .i64 a6, .slice A7 l7.length c7, .bool a8, .bool a9] 28)).alloc (.cells #[.int .i64 id] 3)) := balloc (balloc (Below.refl _ _) _) _
  have t_c := ((Blk.new w 28 #[.slice A0 l0.length c0, .slice A1 l1.length c1, .int .i64 a2, .int .i64 a3, .int .i64 a4, .int .u8 a5, .int .i64 a6, .slice A7 l7.length c7, .bool a8, .bool a9]).alloc (.cells #[.int .i64 id] 3)).cell
  go_wp2_with (go_at_call 65; refine (HK.out _ hB0).mono ?_; rintro e wm ⟨rfl, hbm⟩)
  go_ret
  exact ⟨rfl, bstep hB0 hbm⟩
theorem attack_yes (A0 : Option Addr) (c0 : Nat) (l0 : List S97) (A1 : Option Addr) (c1 : Nat) (l1 : List S35) (a2 a3 a4 a5 a6 : Int) (A7 : Option Addr) (c7 : Nat) (l7 : List S58) (a8 a9 : Bool) (i : Nat) (w : World) (hr0 : Kd.C k97 w A0 l0.length l0) (hc0 : l0.length ≤ c0) (hr1 : Kd.C k35 w A1 l1.length l1) (hc1 : l1.length ≤ c1) (hr7 : Kd.C k58 w A7 l7.length l7) (hc7 : l7.length ≤ c7)
    (hi : i < l1.length) (hdef : ∀ p ∈ l1, p.f0 < (l0.length : Int)) (hat : ∀ p ∈ l1, 0 ≤ p.f1 ∧ p.f1 ≤ 99999)
    (hk : ∀ w', Below w.heap.size w w' → Calls Try.prog 65 #[.agg #[.slice A0 l0.length c0, .slice A1 l1.length c1, .int .i64 a2, .int .i64 a3, .int .i64 a4, .int .u8 a5, .int .i64 a6, .slice A7 l7.length c7, .bool a8, .bool a9], .int .i64 (i : Int)] w' fun e w'' => e = .returned (.bool true) ∧ Below w'.heap.size w' w'') :
    CallsIn Fence.wide 0 Try.prog 19 #[.agg #[.slice A0 l0.length c0, .slice A1 l1.length c1, .int .i64 a2, .int .i64 a3, .int .i64 a4, .int .u8 a5, .int .i64 a6, .slice A7 l7.length c7, .bool a8, .bool a9], .int .i64 (i : Int)] w fun e w' => e = .returned (.int .i64 (attackV l0 l1 (i : Int))) ∧ Below w.heap.size w w' := by
  obtain ⟨v, hv⟩ : ∃ v, attackV l0 l1 (i : Int) = v := ⟨_, rfl⟩
  rw [hv]
  unfold attackV at hv
  obtain ⟨p, hp⟩ : ∃ p, rd_T35 l1 (i : Int) = p := ⟨_, rfl⟩
  rw [hp] at hv
  have hpa := hat p (by rw [← hp, rd_at l1 i hi]; exact List.getElem_mem hi)
  have HPA := Lib.hid hpa
  have HV := Lib.hid hv
  have HK := Lib.hid hk
  have HR0 := Lib.hid hr0
  have HR1 := Lib.hid hr1
  have HR7 := Lib.hid hr7
  have HC := Lib.hid (And.intro hc0 (And.intro hc1 hc7))
  have HDEF := Lib.hid hdef
  have HPP := Lib.hid hp
  have HI := Lib.hid hi
  clear hv hk hr0 hr1 hr7 hc0 hc1 hc7 hdef hat hpa hp hi
  refine callsIn_of_wp_marks Try.func19 rfl trivial ?_ rfl
  simp only [Try.ntmps19, List.size_toArray, List.length_cons, List.length_nil, Nat.reduceAdd, Nat.reduceSub, Array.replicate_succ, Array.replicate_zero, List.push_toArray, List.append_toArray, List.nil_append, List.cons_append]
  gi_upto_region 1 with (fail)
  have hB0 : Below w.heap.size w ((w.alloc (.cells #[.slice A0 l0.length c0, .slice A1 l1.length c1, .int .i64 a2, .int .i64 a3, .int .i64 a4, .int .u8 a5, .int .i64 a6, .slice A7 l7.length c7, .bool a8, .bool a9] 28)).alloc (.cells #[.int .i64 (i : Int)] 3)) := balloc (balloc (Below.refl _ _) _) _
  have hT0 := (Blk.new w 28 #[.slice A0 l0.length c0, .slice A1 l1.length c1, .int .i64 a2, .int .i64 a3, .int .i64 a4, .int .u8 a5, .int .i64 a6, .slice A7 l7.length c7, .bool a8, .bool a9]).alloc (.cells #[.int .i64 (i : Int)] 3)
  have hI0 := Blk.new (w.alloc (.cells #[.slice A0 l0.length c0, .slice A1 l1.length c1, .int .i64 a2, .int .i64 a3, .int .i64 a4, .int .u8 a5, .int .i64 a6, .slice A7 l7.length c7, .bool a8, .bool a9] 28)) 3 #[.int .i64 (i : Int)]
  rw [World.size_alloc] at hI0
  obtain ⟨g, hg⟩ : ∃ g, w.heap.size = g := ⟨_, rfl⟩
  rw [hg] at hT0 hI0
  obtain ⟨W0, hW0⟩ : ∃ W, (w.alloc (.cells #[.slice A0 l0.length c0, .slice A1 l1.length c1, .int .i64 a2, .int .i64 a3, .int .i64 a4, .int .u8 a5, .int .i64 a6, .slice A7 l7.length c7, .bool a8, .bool a9] 28)).alloc (.cells #[.int .i64 (i : Int)] 3) = W := ⟨_, rfl⟩
  rw [hW0] at hT0 hI0 hB0 ⊢
  rw [hg]
  have HG := Lib.hid hg
  have HT0 := Lib.hid hT0
  have HI0 := Lib.hid hI0
  have HB0 := Lib.hid hB0
  have t_c := hT0.cell
  have i_c := hI0.cell
  clear hg hT0 hI0 hB0 hW0
  gi_upto_region 3 with (refine ⟨trivial, rfl, (callsIn_wide.2 (HK.out _ HB0.out)).mono ?_⟩; rintro e wm ⟨rfl, hbm⟩)
  have hT1 := HT0.out.after hbm
  have hI1 := HI0.out.after hbm
  have hB1 := bstep HB0.out hbm
  clear t_c i_c hbm HT0 HI0 HB0
  have hi := HI.out
  have e1 : (i < l1.length) = True := eq_true hi
  have hk0 : (0 : Int) ≤ (i : Int) := Int.natCast_nonneg _
  obtain ⟨ad, hA1, d0, d1, d2, d3, d4, d5, d6, d7, d8, d9, d10, d11, d12, d13⟩ := at_T35 (Kd.C_below HR1.out hB1) (i : Int) hk0 (Int.ofNat_lt.2 hi)
  simp only [Int.toNat_natCast] at d0 d1 d2 d3 d4 d5 d6 d7 d8 d9 d10 d11 d12 d13
  rw [HPP.out] at d0 d1 d2 d3 d4 d5 d6 d7 d8 d9 d10 d11 d12 d13
  have HA1 := Lib.hid hA1
  clear hi
  obtain ⟨p0, p1, p2, p3, p4, p5, p6, p7, p8, p9, p10, p11, p12, p13⟩ := p
  dsimp only at d0 d1 d2 d3 d4 d5 d6 d7 d8 d9 d10 d11 d12 d13
  subst hA1
  have t_c := hT1.cell
  have i_c := hI1.cell
  gi_upto_region 4 with (fail)
  have hT2 := (hT1.alloc (.cells #[.int .i64 p0, .int .i64 p1, .int .i64 p2, .int .u8 p3, .int .u8 p4, .int .u8 p5, .int .i64 p6, .bool p7, .bool p8, .int .i64 p9, .int .u8 p10, .bool p11, .bool p12, .int .i64 p13] 35)).alloc (.cells #[.int .i64 0] 3)
  have hI2 := (hI1.alloc (.cells #[.int .i64 p0, .int .i64 p1, .int .i64 p2, .int .u8 p3, .int .u8 p4, .int .u8 p5, .int .i64 p6, .bool p7, .bool p8, .int .i64 p9, .int .u8 p10, .bool p11, .bool p12, .int .i64 p13] 35)).alloc (.cells #[.int .i64 0] 3)
  have hP2 := (Blk.new wm 35 #[.int .i64 p0, .int .i64 p1, .int .i64 p2, .int .u8 p3, .int .u8 p4, .int .u8 p5, .int .i64 p6, .bool p7, .bool p8, .int .i64 p9, .int .u8 p10, .bool p11, .bool p12, .int .i64 p13]).alloc (.cells #[.int .i64 0] 3)
  have hG2 := Blk.new (wm.alloc (.cells #[.int .i64 p0, .int .i64 p1, .int .i64 p2, .int .u8 p3, .int .u8 p4, .int .u8 p5, .int .i64 p6, .bool p7, .bool p8, .int .i64 p9, .int .u8 p10, .bool p11, .bool p12, .int .i64 p13] 35)) 3 #[.int .i64 0]
  rw [World.size_alloc] at hG2
  have hB2 := balloc (balloc hB1 (.cells #[.int .i64 p0, .int .i64 p1, .int .i64 p2, .int .u8 p3, .int .u8 p4, .int .u8 p5, .int .i64 p6, .bool p7, .bool p8, .int .i64 p9, .int .u8 p10, .bool p11, .bool p12, .int .i64 p13] 35)) (.cells #[.int .i64 0] 3)
  have hgm : g + 1 < wm.heap.size := hI1.lt
  have hgw : w.heap.size ≤ wm.heap.size := hB1.size
  obtain ⟨gp, hgp⟩ : ∃ g, wm.heap.size = g := ⟨_, rfl⟩
  obtain ⟨W1, hW1⟩ : ∃ W, (wm.alloc (.cells #[.int .i64 p0, .int .i64 p1, .int .i64 p2, .int .u8 p3, .int .u8 p4, .int .u8 p5, .int .i64 p6, .bool p7, .bool p8, .int .i64 p9, .int .u8 p10, .bool p11, .bool p12, .int .i64 p13] 35)).alloc (.cells #[.int .i64 0] 3) = W := ⟨_, rfl⟩
  rw [hW1] at hT2 hI2 hP2 hG2 hB2 ⊢
  rw [hgp] at hP2 hG2 hgm hgw ⊢
  have HT2 := Lib.hid hT2
  have HI2 := Lib.hid hI2
  have HP2 := Lib.hid hP2
  have HG2 := Lib.hid hG2
  have HB2 := Lib.hid hB2
  have HGM := Lib.hid hgm
  have HGW := Lib.hid hgw
  have u_c := hT2.cell
  clear hT1 hI1 hB1 hT2 hI2 hP2 hG2 hB2 hgm hgw hgp hW1 t_c i_c e1 hk0 d0 d1 d2 d3 d4 d5 d6 d7 d8 d9 d10 d11 d12 d13
  gi_wp2_with (refine ⟨trivial, rfl, (callsIn_wide.2 (boosts_any _ _ _ _ _ _ _ _ _ _ _ _ _ _ _ _ _)).mono ?_⟩; rintro e wb ⟨rfl, rfl⟩)
  obtain ⟨gt, hgt⟩ : ∃ g, W1.heap.size = g := ⟨_, rfl⟩
  have hT3 := Blk.new W1 28 #[.slice A0 l0.length c0, .slice (some ad) l1.length c1, .int .i64 a2, .int .i64 a3, .int .i64 a4, .int .u8 a5, .int .i64 a6, .slice A7 l7.length c7, .bool a8, .bool a9]
  have hT4 := HT2.out.alloc (.cells #[.slice A0 l0.length c0, .slice (some ad) l1.length c1, .int .i64 a2, .int .i64 a3, .int .i64 a4, .int .u8 a5, .int .i64 a6, .slice A7 l7.length c7, .bool a8, .bool a9] 28)
  have hI4 := HI2.out.alloc (.cells #[.slice A0 l0.length c0, .slice (some ad) l1.length c1, .int .i64 a2, .int .i64 a3, .int .i64 a4, .int .u8 a5, .int .i64 a6, .slice A7 l7.length c7, .bool a8, .bool a9] 28)
  have hP4 := HP2.out.alloc (.cells #[.slice A0 l0.length c0, .slice (some ad) l1.length c1, .int .i64 a2, .int .i64 a3, .int .i64 a4, .int .u8 a5, .int .i64 a6, .slice A7 l7.length c7, .bool a8, .bool a9] 28)
  have hG4 := HG2.out.alloc (.cells #[.slice A0 l0.length c0, .slice (some ad) l1.length c1, .int .i64 a2, .int .i64 a3, .int .i64 a4, .int .u8 a5, .int .i64 a6, .slice A7 l7.length c7, .bool a8, .bool a9] 28)
  have hB4 := balloc HB2.out (.cells #[.slice A0 l0.length c0, .slice (some ad) l1.length c1, .int .i64 a2, .int .i64 a3, .int .i64 a4, .int .u8 a5, .int .i64 a6, .slice A7 l7.length c7, .bool a8, .bool a9] 28)
  have hgl := HG2.out.lt
  have hsz : (W1.alloc (.cells #[.slice A0 l0.length c0, .slice (some ad) l1.length c1, .int .i64 a2, .int .i64 a3, .int .i64 a4, .int .u8 a5, .int .i64 a6, .slice A7 l7.length c7, .bool a8, .bool a9] 28)).heap.size = gt + 1 := by rw [World.size_alloc, hgt]
  obtain ⟨W2, hW2⟩ : ∃ W, W1.alloc (.cells #[.slice A0 l0.length c0, .slice (some ad) l1.length c1, .int .i64 a2, .int .i64 a3, .int .i64 a4, .int .u8 a5, .int .i64 a6, .slice A7 l7.length c7, .bool a8, .bool a9] 28) = W := ⟨_, rfl⟩
  rw [hgt] at hT3 hgl
  rw [hW2] at hT3 hT4 hI4 hP4 hG4 hB4 hsz
  rw [hgt, hW2]
  have HT3 := Lib.hid hT3
  have HT4 := Lib.hid hT4
  have HI4 := Lib.hid hI4
  have HP4 := Lib.hid hP4
  have HG4 := Lib.hid hG4
  have HB4 := Lib.hid hB4
  have HGL := Lib.hid hgl
  have HSZ := Lib.hid hsz
  clear u_c hT3 hT4 hI4 hP4 hG4 hB4 hgl hsz hW2 hgt HT2 HI2 HP2 HG2 HB2
  have hgm := HGM.out
  have hgw := HGW.out
  have hgl := HGL.out
  have hsz := HSZ.out
  have hg0 := HG.out
  refine wp_iterE (gf := 121) (lb := #[.pointer (some ⟨gt, 0, none⟩)]) rfl (enters_of Try.func121 (by kernel_rfl) rfl) (own := fun _ => False) (cal := fun b => b = gp + 1) (fun b hb => hb.elim) (fun b hb => by omega)
    (boosts_iter A0 c0 l0 (some ad) c1 l1 a2 a3 a4 a5 a6 A7 l7.length c7 a8 a9 w HR0.out HR1.out HDEF.out (fun b => b = gp + 1) (fun b hb => by omega) W2 HB4.out gt HT3.out (by omega) (fun b hb => by omega)) (fun _ => rfl)
    (fun pre W => Blk W g 28 #[.slice A0 l0.length c0, .slice (some ad) l1.length c1, .int .i64 a2, .int .i64 a3, .int .i64 a4, .int .u8 a5, .int .i64 a6, .slice A7 l7.length c7, .bool a8, .bool a9] ∧ Blk W (g + 1) 3 #[.int .i64 (i : Int)] ∧ Blk W gp 35 #[.int .i64 p0, .int .i64 p1, .int .i64 p2, .int .u8 p3, .int .u8 p4, .int .u8 p5, .int .i64 p6, .bool p7, .bool p8, .int .i64 p9, .int .u8 p10, .bool p11, .bool p12, .int .i64 p13] ∧ Blk W (gp + 1) 3 #[.int .i64 (givenV l0 l1 (⟨p0, p1, p2, p3, p4, p5, p6, p7, p8, p9, p10, p11, p12, p13⟩ : PS) (i : Int) (pre.map stp))] ∧ Below w.heap.size w W) (fun _ _ _ => False)
    (stb_and (stb_blk (by omega) (fun h => h)) (stb_and (stb_blk (by omega) (fun h => h)) (stb_and (stb_blk (by omega) (fun h => h)) (stb_and (stb_blk (by omega) (fun h => h)) (stb_below (by omega) (fun b hb h => h))))))
    (fun c => stb_plain) ⟨HT4.out, HI4.out, HP4.out, HG4.out, HB4.out⟩
    (fun x a' W => ∃ bx, W2.heap.size + 1 < bx ∧ Blk W bx 107 (stepV x.2.1 x.2.2.1 x.2.2.2) ∧ a' = { tmps := #[.agg #[.slice A0 l0.length c0, .slice (some ad) l1.length c1, .int .i64 a2, .int .i64 a3, .int .i64 a4, .int .u8 a5, .int .i64 a6, .slice A7 l7.length c7, .bool a8, .bool a9], .int .i64 (i : Int), .pointer (some ⟨g, 0, none⟩), .pointer (some ⟨g + 1, 0, none⟩), .int .i64 0, .pointer (some ⟨gp, 0, none⟩), .pointer (some ⟨gp + 1, 0, none⟩), .int .i64 x.1, .pointer (some ⟨bx, 0, none⟩), .agg #[.slice A0 l0.length c0, .slice (some ad) l1.length c1, .int .i64 a2, .int .i64 a3, .int .i64 a4, .int .u8 a5, .int .i64 a6, .slice A7 l7.length c7, .bool a8, .bool a9], .int .i64 (i : Int), .bool true, .bool false, .pointer (some ⟨g, 1, none⟩), .slice (some ad) l1.length c1, .int .i64 (i : Int), .pointer (some (ad.add (i * 14))), .agg #[.int .i64 p0, .int .i64 p1, .int .i64 p2, .int .u8 p3, .int .u8 p4, .int .u8 p5, .int .i64 p6, .bool p7, .bool p8, .int .i64 p9, .int .u8 p10, .bool p11, .bool p12, .int .i64 p13], .agg #[.slice A0 l0.length c0, .slice (some ad) l1.length c1, .int .i64 a2, .int .i64 a3, .int .i64 a4, .int .u8 a5, .int .i64 a6, .slice A7 l7.length c7, .bool a8, .bool a9], .func (.func 121) #[] #[.pointer (some ⟨gt, 0, none⟩)], .int .i64 x.1, .agg (stepV x.2.1 x.2.2.1 x.2.2.2), undef, undef, undef, undef, undef, undef, undef, undef, undef, undef, undef, undef, undef, undef, undef, undef, undef, undef, undef, undef, undef, undef, undef, undef, undef, undef, undef, undef, undef, undef, undef, undef, undef], defers := [] })
    (fun x a' W ob => by rintro ⟨bx, h1, h2, h3⟩; exact ⟨bx, h1, (World.putObj_heap_other (by omega)).trans h2, h3⟩) ?assign ?body ?done ?stop
  case stop =>
    intro D c pre W _ hx
    exact hx.elim
  case assign =>
    rintro l pre x W K ⟨c0, c1, c2, c3, cB⟩ hlt hK
    obtain ⟨from_, s, A, c⟩ := x
    have hsz2 := HSZ.out
    have hz : W2.heap.size + 1 < W.heap.size := hlt
    have HC0 := Lib.hid c0
    have HC1 := Lib.hid c1
    have HC2 := Lib.hid c2
    have HC3 := Lib.hid c3
    have HCB := Lib.hid cB
    have HZ := Lib.hid hz
    have HKK := Lib.hid hK
    clear c0 c1 c2 c3 cB hz hK hsz2 hlt
    clear hgm hgw hgl hsz hg0 HT3 HT4 HI4 HP4 HG4 HB4
    dsimp only [encX, stepV]
    gi_wp2
    refine HKK.out _ _ ⟨W.heap.size, HZ.out, Blk.new W _ _, rfl⟩ ⟨HC0.out.alloc _, HC1.out.alloc _, HC2.out.alloc _, HC3.out.alloc _, balloc HCB.out _⟩ ((Beside.refl W).alloc (Nat.le_refl _) _)
  case body =>
    rintro l pre x a' W ⟨c0, c1, c2, c3, cB⟩ ⟨bx, hbx, hBX, rfl⟩ hsp hlt
    obtain ⟨from_, s, A, c⟩ := x
    dsimp only
    dsimp only [stepV] at hBX
    have hix : 0 ≤ from_ ∧ from_ < (l1.length : Int) := aura_ix l0 l1 (from_, s) (by
      obtain ⟨r, hr⟩ := hsp
      rw [← hr]; simp [stp])
    obtain ⟨G, hG⟩ : ∃ G, givenV l0 l1 (⟨p0, p1, p2, p3, p4, p5, p6, p7, p8, p9, p10, p11, p12, p13⟩ : PS) (i : Int) (pre.map stp) = G := ⟨_, rfl⟩
    have hGB : 0 ≤ G ∧ G ≤ 199998 := hG ▸ given_bd _ _ _ _ _
    have hnx : givenV l0 l1 (⟨p0, p1, p2, p3, p4, p5, p6, p7, p8, p9, p10, p11, p12, p13⟩ : PS) (i : Int) ((pre ++ [(from_, s, A, c)]).map stp) = addG l0 l1 (⟨p0, p1, p2, p3, p4, p5, p6, p7, p8, p9, p10, p11, p12, p13⟩ : PS) (i : Int) G (from_, s) := by rw [List.map_append, ← hG]; exact given_snoc _ _ _ _ _ _
    rw [hG] at c3
    have HNX := Lib.hid hnx
    have HC0 := Lib.hid c0
    have HC1 := Lib.hid c1
    have HC2 := Lib.hid c2
    have HC3 := Lib.hid c3
    have HCB := Lib.hid cB
    have HBX := Lib.hid hBX
    have HLB := Lib.hid hbx
    have HLT := Lib.hid hlt
    clear c0 c1 c2 c3 cB hBX hbx hlt hsp hG hnx
    clear hgm hgw hgl hsz hg0 HT3 HT4 HI4 HP4 HG4 HB4
    have t_c := HC0.out.cell
    have i_c := HC1.out.cell
    have p_c := HC2.out.cell
    have g_c := HC3.out.cell
    have g_f := HC3.out.frozen
    have x_c := HBX.out.cell
    by_cases hf2 : p5 = 2
    rotate_left
    · have f2 : (p5 == 2) = false := beq_eq_false_iff_ne.2 hf2
      clear hf2
      gi_upto_region 7 with (fail)
      refine startIn_ (n := 17) (S := (fun w' => w' = W.drew)) (ds := []) #[false, false, false, false, false, false, false, false, false, false, false, false, false, false, false, false, false] (by kernel_rfl) (by kernel_rfl) (by rintro ⟨_, _, hh⟩; exact hh) rfl (by kernel_rfl) rfl (fun hHeld => ?_)
      refine pure_ (i := 0) (N := some 22) (v := ?_) (a' := ?_) #[true, false, false, false, false, false, false, false, false, false, false, false, false, false, false, false, false] rfl rfl (by kernel_rfl) (fun _ _ _ h => h) (Or.inl ⟨by rfl, ?_⟩) ?_ ?_
      rotate_left
      · intro w'
        go_simp
        with_reducible rfl
      rotate_left
      · simp only [Act.put, List.setIfInBounds_toArray, List.set_cons_zero, List.set_cons_succ]
        rfl
      refine take_ (i := 1) (N := some 23) (v := ?_) (a' := ?_) #[true, true, false, false, false, false, false, false, false, false, false, false, false, false, false, false, false] rfl rfl (by kernel_rfl) (fun _ _ _ h => h) (Or.inl ⟨by rfl, ?_⟩) hHeld ?_ ?_
      rotate_left
      · rintro w' rfl
        go_simp
        with_reducible rfl
      rotate_left
      · simp only [Act.put, List.setIfInBounds_toArray, List.set_cons_zero, List.set_cons_succ]
        rfl
      refine pure_ (i := 2) (N := some 24) (v := ?_) (a' := ?_) #[true, true, true, false, false, false, false, false, false, false, false, false, false, false, false, false, false] rfl rfl (by kernel_rfl) (fun _ _ _ h => h) (Or.inl ⟨by rfl, ?_⟩) ?_ ?_
      rotate_left
      · intro w'
        go_simp
        with_reducible rfl
      rotate_left
      · simp only [Act.put, List.setIfInBounds_toArray, List.set_cons_zero, List.set_cons_succ]
        rfl
      refine pure_ (i := 3) (N := some 25) (v := ?_) (a' := ?_) #[true, true, true, true, false, false, false, false, false, false, false, false, false, false, false, false, false] rfl rfl (by kernel_rfl) (fun _ _ _ h => h) (Or.inl ⟨by rfl, ?_⟩) ?_ ?_
      rotate_left
      · intro w'
        go_simp
        with_reducible rfl
      rotate_left
      · simp only [Act.put, List.setIfInBounds_toArray, List.set_cons_zero, List.set_cons_succ]
        rfl
      refine pure_ (i := 4) (N := some 26) (v := undef) (a' := _) #[true, true, true, true, true, false, false, false, false, false, false, false, false, false, false, false, false] rfl rfl (by kernel_rfl) (fun _ _ _ h => h) (Or.inr ⟨by rfl, rfl⟩) rfl ?_
      refine norm_ (a' := ?_) ?_ ?_
      rotate_left
      · simp only [Act.put, List.setIfInBounds_toArray, List.set_cons_zero, List.set_cons_succ]
        rfl
      refine pure_ (i := 5) (N := some 27) (v := undef) (a' := _) #[true, true, true, true, true, true, false, false, false, false, false, false, false, false, false, false, false] rfl rfl (by kernel_rfl) (fun _ _ _ h => h) (Or.inr ⟨by rfl, rfl⟩) rfl ?_
      refine norm_ (a' := ?_) ?_ ?_
      rotate_left
      · simp only [Act.put, List.setIfInBounds_toArray, List.set_cons_zero, List.set_cons_succ]
        rfl
      refine pure_ (i := 6) (N := some 28) (v := undef) (a' := _) #[true, true, true, true, true, true, true, false, false, false, false, false, false, false, false, false, false] rfl rfl (by kernel_rfl) (fun _ _ _ h => h) (Or.inr ⟨by rfl, rfl⟩) rfl ?_
      refine norm_ (a' := ?_) ?_ ?_
      rotate_left
      · simp only [Act.put, List.setIfInBounds_toArray, List.set_cons_zero, List.set_cons_succ]
        rfl
      refine pure_ (i := 7) (N := some 29) (v := undef) (a' := _) #[true, true, true, true, true, true, true, true, false, false, false, false, false, false, false, false, false] rfl rfl (by kernel_rfl) (fun _ _ _ h => h) (Or.inr ⟨by rfl, rfl⟩) rfl ?_
      refine norm_ (a' := ?_) ?_ ?_
      rotate_left
      · simp only [Act.put, List.setIfInBounds_toArray, List.set_cons_zero, List.set_cons_succ]
        rfl
      refine pure_ (i := 8) (N := some 30) (v := undef) (a' := _) #[true, true, true, true, true, true, true, true, true, false, false, false, false, false, false, false, false] rfl rfl (by kernel_rfl) (fun _ _ _ h => h) (Or.inr ⟨by rfl, rfl⟩) rfl ?_
      refine norm_ (a' := ?_) ?_ ?_
      rotate_left
      · simp only [Act.put, List.setIfInBounds_toArray, List.set_cons_zero, List.set_cons_succ]
        rfl
      refine pure_ (i := 9) (N := some 31) (v := undef) (a' := _) #[true, true, true, true, true, true, true, true, true, true, false, false, false, false, false, false, false] rfl rfl (by kernel_rfl) (fun _ _ _ h => h) (Or.inr ⟨by rfl, rfl⟩) rfl ?_
      refine norm_ (a' := ?_) ?_ ?_
      rotate_left
      · simp only [Act.put, List.setIfInBounds_toArray, List.set_cons_zero, List.set_cons_succ]
        rfl
      refine pure_ (i := 10) (N := some 32) (v := undef) (a' := _) #[true, true, true, true, true, true, true, true, true, true, true, false, false, false, false, false, false] rfl rfl (by kernel_rfl) (fun _ _ _ h => h) (Or.inr ⟨by rfl, rfl⟩) rfl ?_
      refine norm_ (a' := ?_) ?_ ?_
      rotate_left
      · simp only [Act.put, List.setIfInBounds_toArray, List.set_cons_zero, List.set_cons_succ]
        rfl
      refine pure_ (i := 11) (N := some 33) (v := undef) (a' := _) #[true, true, true, true, true, true, true, true, true, true, true, true, false, false, false, false, false] rfl rfl (by kernel_rfl) (fun _ _ _ h => h) (Or.inr ⟨by rfl, rfl⟩) rfl ?_
      refine norm_ (a' := ?_) ?_ ?_
      rotate_left
      · simp only [Act.put, List.setIfInBounds_toArray, List.set_cons_zero, List.set_cons_succ]
        rfl
      refine pure_ (i := 12) (N := some 34) (v := undef) (a' := _) #[true, true, true, true, true, true, true, true, true, true, true, true, true, false, false, false, false] rfl rfl (by kernel_rfl) (fun _ _ _ h => h) (Or.inr ⟨by rfl, rfl⟩) rfl ?_
      refine norm_ (a' := ?_) ?_ ?_
      rotate_left
      · simp only [Act.put, List.setIfInBounds_toArray, List.set_cons_zero, List.set_cons_succ]
        rfl
      refine pure_ (i := 13) (N := some 35) (v := undef) (a' := _) #[true, true, true, true, true, true, true, true, true, true, true, true, true, true, false, false, false] rfl rfl (by kernel_rfl) (fun _ _ _ h => h) (Or.inr ⟨by rfl, rfl⟩) rfl ?_
      refine norm_ (a' := ?_) ?_ ?_
      rotate_left
      · simp only [Act.put, List.setIfInBounds_toArray, List.set_cons_zero, List.set_cons_succ]
        rfl
      refine pure_ (i := 14) (N := some 36) (v := undef) (a' := _) #[true, true, true, true, true, true, true, true, true, true, true, true, true, true, true, false, false] rfl rfl (by kernel_rfl) (fun _ _ _ h => h) (Or.inr ⟨by rfl, rfl⟩) rfl ?_
      refine norm_ (a' := ?_) ?_ ?_
      rotate_left
      · simp only [Act.put, List.setIfInBounds_toArray, List.set_cons_zero, List.set_cons_succ]
        rfl
      refine pure_ (i := 15) (N := some 37) (v := undef) (a' := _) #[true, true, true, true, true, true, true, true, true, true, true, true, true, true, true, true, false] rfl rfl (by kernel_rfl) (fun _ _ _ h => h) (Or.inr ⟨by rfl, rfl⟩) rfl ?_
      refine norm_ (a' := ?_) ?_ ?_
      rotate_left
      · simp only [Act.put, List.setIfInBounds_toArray, List.set_cons_zero, List.set_cons_succ]
        rfl
      refine pure_ (i := 16) (N := some 38) (v := ?_) (a' := ?_) #[true, true, true, true, true, true, true, true, true, true, true, true, true, true, true, true, true] rfl rfl (by kernel_rfl) (fun _ _ _ h => h) (Or.inl ⟨by rfl, ?_⟩) ?_ ?_
      rotate_left
      · intro w'
        go_simp
        with_reducible rfl
      rotate_left
      · simp only [Act.put, List.setIfInBounds_toArray, List.set_cons_zero, List.set_cons_succ]
        rfl
      refine done_ (by kernel_rfl) ?_
      gi_wp2
      refine ⟨(Beside.refl W).drew, ?_⟩
      dsimp only
      rw [HNX.out]
      have hadd : addG l0 l1 (⟨p0, p1, p2, p3, p4, p5, p6, p7, p8, p9, p10, p11, p12, p13⟩ : PS) (i : Int) G (from_, s) = G := by unfold addG; rw [if_neg (by simp [f2])]
      rw [hadd]
      exact ⟨HC0.out, HC1.out, HC2.out, HC3.out, bdrew HCB.out⟩
    subst hf2
    obtain ⟨ad2, hA2, y0, y1, y2, y3, y4, y5, y6, y7, y8, y9, y10, y11, y12, y13⟩ := at_T35 (Kd.C_below HR1.out HCB.out) from_ hix.1 hix.2
    obtain rfl := Option.some.inj hA2
    obtain ⟨q4, hq4⟩ : ∃ q, (rd_T35 l1 from_).f4 = q := ⟨_, rfl⟩
    rw [hq4] at y4
    obtain ⟨r, hr⟩ : ∃ r, pickB l0 l1 q4 from_ s.f4.f0 s.f4.f1 s.f4.f2 (i : Int) = r := ⟨_, rfl⟩
    have hadd : addG l0 l1 ⟨p0, p1, p2, p3, p4, 2, p6, p7, p8, p9, p10, p11, p12, p13⟩ (i : Int) G (from_, s) = if r = true then put3 (G + put3 s.f2.f1 0 99999) 0 199998 else G := by
      unfold addG; dsimp only; rw [hq4, hr, show ((2 : Int) == 2) = true from rfl, Bool.true_and]
    have hcall : ∀ W', Below w.heap.size w W' → Calls Try.prog 66 #[.agg #[.slice A0 l0.length c0, .slice (some ad) l1.length c1, .int .i64 a2, .int .i64 a3, .int .i64 a4, .int .u8 a5, .int .i64 a6, .slice A7 l7.length c7, .bool a8, .bool a9], .int .u8 q4, .int .i64 from_, .agg #[.int .u8 s.f4.f0, .int .u8 s.f4.f1, .int .u8 s.f4.f2], .int .i64 (i : Int)] W' fun e w'' => e = .returned (.bool r) ∧ Below W'.heap.size W' w'' := by
      intro W' hW'
      refine might_of.calls 0 A0 c0 l0 (some ad) c1 l1 a2 a3 a4 a5 a6 A7 c7 l7 a8 a9 q4 from_ s.f4.f0 s.f4.f1 s.f4.f2 (i : Int) r W' (Kd.C_below HR0.out hW') HC.out.1 (Kd.C_below HR1.out hW') HC.out.2.1 (Kd.C_below HR7.out hW') HC.out.2.2 ?_
      unfold might_of.f
      have := HI.out
      rw [if_pos ⟨by omega, by omega⟩, hr]
    have HADD := Lib.hid hadd
    have HCALL := Lib.hid hcall
    have h0 := hix.1
    have h1 := hix.2
    clear hadd hcall hr hq4 y0 y1 y2 y3 y5 y6 y7 y8 y9 y10 y11 y12 y13 hix t_c i_c p_c g_c g_f x_c
    gi_upto_region 7 with (fail)
    refine startIn_ (n := 17) (S := (fun w' => Blk w' g 28 #[.slice A0 l0.length c0, .slice (some ad) l1.length c1, .int .i64 a2, .int .i64 a3, .int .i64 a4, .int .u8 a5, .int .i64 a6, .slice A7 l7.length c7, .bool a8, .bool a9] ∧ Blk w' (g + 1) 3 #[.int .i64 (i : Int)] ∧ Blk w' gp 35 #[.int .i64 p0, .int .i64 p1, .int .i64 p2, .int .u8 p3, .int .u8 p4, .int .u8 2, .int .i64 p6, .bool p7, .bool p8, .int .i64 p9, .int .u8 p10, .bool p11, .bool p12, .int .i64 p13] ∧ Blk w' bx 107 #[.int .u8 s.f0, .int .u8 s.f1, .int .u8 s.f2.f0, .int .i64 s.f2.f1, .int .u8 s.f2.f2, .int .u8 s.f2.f3.f0, .int .u8 s.f2.f3.f1, .int .u8 s.f2.f3.f2, .slice A s.f2.f4.length c, .bool s.f3, .int .u8 s.f4.f0, .int .u8 s.f4.f1, .int .u8 s.f4.f2] ∧ w'.cell? ⟨(ad.add (from_.toNat * 14)).block, (ad.add (from_.toNat * 14)).off + 4, none⟩ = some (.int .u8 q4))) (ds := []) #[false, false, false, false, false, false, false, false, false, false, false, false, false, false, false, false, false] (by kernel_rfl) (by kernel_rfl) (by rintro ⟨_, _, hh⟩; exact hh) rfl (by kernel_rfl) ⟨HC0.out.drew, HC1.out.drew, HC2.out.drew, HBX.out.drew, y4⟩ (fun hHeld => ?_)
    refine pure_ (i := 0) (N := some 22) (v := ?_) (a' := ?_) #[true, false, false, false, false, false, false, false, false, false, false, false, false, false, false, false, false] rfl rfl (by kernel_rfl) (fun _ _ _ h => h) (Or.inl ⟨by rfl, ?_⟩) ?_ ?_
    rotate_left
    · intro w'
      go_simp
      with_reducible rfl
    rotate_left
    · simp only [Act.put, List.setIfInBounds_toArray, List.set_cons_zero, List.set_cons_succ]
      rfl
    refine take_ (i := 1) (N := some 23) (v := ?_) (a' := ?_) #[true, true, false, false, false, false, false, false, false, false, false, false, false, false, false, false, false] rfl rfl (by kernel_rfl) (fun _ _ _ h => h) (Or.inl ⟨by rfl, ?_⟩) hHeld ?_ ?_
    rotate_left
    · rintro w' ⟨h0, h1, h2, h3, h4⟩
      have P_5 := h2.cell 5
      simp only [List.getElem?_toArray, List.getElem?_cons_zero, List.getElem?_cons_succ] at P_5
      go_simp
      with_reducible rfl
    rotate_left
    · simp only [Act.put, List.setIfInBounds_toArray, List.set_cons_zero, List.set_cons_succ]
      rfl
    refine pure_ (i := 2) (N := some 24) (v := ?_) (a' := ?_) #[true, true, true, false, false, false, false, false, false, false, false, false, false, false, false, false, false] rfl rfl (by kernel_rfl) (fun _ _ _ h => h) (Or.inl ⟨by rfl, ?_⟩) ?_ ?_
    rotate_left
    · intro w'
      go_simp
      with_reducible rfl
    rotate_left
    · simp only [Act.put, List.setIfInBounds_toArray, List.set_cons_zero, List.set_cons_succ]
      rfl
    refine pure_ (i := 3) (N := some 25) (v := ?_) (a' := ?_) #[true, true, true, true, false, false, false, false, false, false, false, false, false, false, false, false, false] rfl rfl (by kernel_rfl) (fun _ _ _ h => h) (Or.inl ⟨by rfl, ?_⟩) ?_ ?_
    rotate_left
    · intro w'
      go_simp
      with_reducible rfl
    rotate_left
    · simp only [Act.put, List.setIfInBounds_toArray, List.set_cons_zero, List.set_cons_succ]
      rfl
    refine take_ (i := 4) (N := some 26) (v := ?_) (a' := ?_) #[true, true, true, true, true, false, false, false, false, false, false, false, false, false, false, false, false] rfl rfl (by kernel_rfl) (fun _ _ _ h => h) (Or.inl ⟨by rfl, ?_⟩) hHeld ?_ ?_
    rotate_left
    · rintro w' ⟨h0, h1, h2, h3, h4⟩
      have T_0 := h0.cell 0
      have T_1 := h0.cell 1
      have T_2 := h0.cell 2
      have T_3 := h0.cell 3
      have T_4 := h0.cell 4
      have T_5 := h0.cell 5
      have T_6 := h0.cell 6
      have T_7 := h0.cell 7
      have T_8 := h0.cell 8
      have T_9 := h0.cell 9
      simp only [List.getElem?_toArray, List.getElem?_cons_zero, List.getElem?_cons_succ] at T_0 T_1 T_2 T_3 T_4 T_5 T_6 T_7 T_8 T_9
      go_simp
      with_reducible rfl
    rotate_left
    · simp only [Act.put, List.setIfInBounds_toArray, List.set_cons_zero, List.set_cons_succ]
      rfl
    refine pure_ (i := 5) (N := some 27) (v := ?_) (a' := ?_) #[true, true, true, true, true, true, false, false, false, false, false, false, false, false, false, false, false] rfl rfl (by kernel_rfl) (fun _ _ _ h => h) (Or.inl ⟨by rfl, ?_⟩) ?_ ?_
    rotate_left
    · intro w'
      go_simp
      with_reducible rfl
    rotate_left
    · simp only [Act.put, List.setIfInBounds_toArray, List.set_cons_zero, List.set_cons_succ]
      rfl
    refine take_ (i := 6) (N := some 28) (v := ?_) (a' := ?_) #[true, true, true, true, true, true, true, false, false, false, false, false, false, false, false, false, false] rfl rfl (by kernel_rfl) (fun _ _ _ h => h) (Or.inl ⟨by rfl, ?_⟩) hHeld ?_ ?_
    rotate_left
    · rintro w' ⟨h0, h1, h2, h3, h4⟩
      have T_1 := h0.cell 1
      simp only [List.getElem?_toArray, List.getElem?_cons_zero, List.getElem?_cons_succ] at T_1
      go_simp
      with_reducible rfl
    rotate_left
    · simp only [Act.put, List.setIfInBounds_toArray, List.set_cons_zero, List.set_cons_succ]
      rfl
    refine pure_ (i := 7) (N := some 29) (v := ?_) (a' := ?_) #[true, true, true, true, true, true, true, true, false, false, false, false, false, false, false, false, false] rfl rfl (by kernel_rfl) (fun _ _ _ h => h) (Or.inl ⟨by rfl, ?_⟩) ?_ ?_
    rotate_left
    · intro w'
      go_simp
      with_reducible rfl
    rotate_left
    · simp only [Act.put, List.setIfInBounds_toArray, List.set_cons_zero, List.set_cons_succ]
      rfl
    refine pure_ (i := 8) (N := some 30) (v := ?_) (a' := ?_) #[true, true, true, true, true, true, true, true, true, false, false, false, false, false, false, false, false] rfl rfl (by kernel_rfl) (fun _ _ _ h => h) (Or.inl ⟨by rfl, ?_⟩) ?_ ?_
    rotate_left
    · intro w'
      go_simp
      with_reducible rfl
    rotate_left
    · simp only [Act.put, List.setIfInBounds_toArray, List.set_cons_zero, List.set_cons_succ]
      rfl
    refine pure_ (i := 9) (N := some 31) (v := ?_) (a' := ?_) #[true, true, true, true, true, true, true, true, true, true, false, false, false, false, false, false, false] rfl rfl (by kernel_rfl) (fun _ _ _ h => h) (Or.inl ⟨by rfl, ?_⟩) ?_ ?_
    rotate_left
    · intro w'
      go_simp
      with_reducible rfl
    rotate_left
    · simp only [Act.put, List.setIfInBounds_toArray, List.set_cons_zero, List.set_cons_succ]
      rfl
    refine take_ (i := 10) (N := some 32) (v := ?_) (a' := ?_) #[true, true, true, true, true, true, true, true, true, true, true, false, false, false, false, false, false] rfl rfl (by kernel_rfl) (fun _ _ _ h => h) (Or.inl ⟨by rfl, ?_⟩) hHeld ?_ ?_
    rotate_left
    · rintro w' ⟨h0, h1, h2, h3, h4⟩
      go_simp
      with_reducible rfl
    rotate_left
    · simp only [Act.put, List.setIfInBounds_toArray, List.set_cons_zero, List.set_cons_succ]
      rfl
    refine pure_ (i := 11) (N := some 33) (v := ?_) (a' := ?_) #[true, true, true, true, true, true, true, true, true, true, true, true, false, false, false, false, false] rfl rfl (by kernel_rfl) (fun _ _ _ h => h) (Or.inl ⟨by rfl, ?_⟩) ?_ ?_
    rotate_left
    · intro w'
      go_simp
      with_reducible rfl
    rotate_left
    · simp only [Act.put, List.setIfInBounds_toArray, List.set_cons_zero, List.set_cons_succ]
      rfl
    refine pure_ (i := 12) (N := some 34) (v := ?_) (a' := ?_) #[true, true, true, true, true, true, true, true, true, true, true, true, true, false, false, false, false] rfl rfl (by kernel_rfl) (fun _ _ _ h => h) (Or.inl ⟨by rfl, ?_⟩) ?_ ?_
    rotate_left
    · intro w'
      go_simp
      with_reducible rfl
    rotate_left
    · simp only [Act.put, List.setIfInBounds_toArray, List.set_cons_zero, List.set_cons_succ]
      rfl
    refine take_ (i := 13) (N := some 35) (v := ?_) (a' := ?_) #[true, true, true, true, true, true, true, true, true, true, true, true, true, true, false, false, false] rfl rfl (by kernel_rfl) (fun _ _ _ h => h) (Or.inl ⟨by rfl, ?_⟩) hHeld ?_ ?_
    rotate_left
    · rintro w' ⟨h0, h1, h2, h3, h4⟩
      have X_0 := h3.cell 0
      have X_1 := h3.cell 1
      have X_2 := h3.cell 2
      have X_3 := h3.cell 3
      have X_4 := h3.cell 4
      have X_5 := h3.cell 5
      have X_6 := h3.cell 6
      have X_7 := h3.cell 7
      have X_8 := h3.cell 8
      have X_9 := h3.cell 9
      have X_10 := h3.cell 10
      have X_11 := h3.cell 11
      have X_12 := h3.cell 12
      simp only [List.getElem?_toArray, List.getElem?_cons_zero, List.getElem?_cons_succ] at X_0 X_1 X_2 X_3 X_4 X_5 X_6 X_7 X_8 X_9 X_10 X_11 X_12
      go_simp
      with_reducible rfl
    rotate_left
    · simp only [Act.put, List.setIfInBounds_toArray, List.set_cons_zero, List.set_cons_succ]
      rfl
    refine take_ (i := 14) (N := some 36) (v := ?_) (a' := ?_) #[true, true, true, true, true, true, true, true, true, true, true, true, true, true, true, false, false] rfl rfl (by kernel_rfl) (fun _ _ _ h => h) (Or.inl ⟨by rfl, ?_⟩) hHeld ?_ ?_
    rotate_left
    · rintro w' ⟨h0, h1, h2, h3, h4⟩
      have I_0 := h1.cell 0
      simp only [List.getElem?_toArray, List.getElem?_cons_zero, List.getElem?_cons_succ] at I_0
      go_simp
      with_reducible rfl
    rotate_left
    · simp only [Act.put, List.setIfInBounds_toArray, List.set_cons_zero, List.set_cons_succ]
      rfl
    refine one_ (i := 15) (N := some 37) #[true, true, true, true, true, true, true, true, true, true, true, true, true, true, true, true, false] rfl rfl (by kernel_rfl) (by simp) (fun K hK => ?_)
    rw [if_pos (by rfl)]
    go_simp
    refine (HCALL.out _ (bdrew HCB.out)).mono ?_
    rintro e w2 ⟨rfl, hb2⟩
    dsimp only
    refine hK.out _ _ ⟨HC0.out.drew.after hb2, HC1.out.drew.after hb2, HC2.out.drew.after hb2, HBX.out.drew.after hb2, cell_keep hb2 y4⟩ (fun hHeld => ?_)
    clear hK K hHeld
    refine pure_ (i := 16) (N := some 38) (v := ?_) (a' := ?_) #[true, true, true, true, true, true, true, true, true, true, true, true, true, true, true, true, true] rfl rfl (by kernel_rfl) (fun _ _ _ h => h) (Or.inl ⟨by rfl, ?_⟩) ?_ ?_
    rotate_left
    · intro w'
      go_simp
      with_reducible rfl
    rotate_left
    · simp only [Act.put, List.setIfInBounds_toArray, List.set_cons_zero, List.set_cons_succ]
      rfl
    refine done_ (by kernel_rfl) ?_
    have hc0 := HC0.out.drew.after hb2
    have hc1 := HC1.out.drew.after hb2
    have hc2 := HC2.out.drew.after hb2
    have hc3 := HC3.out.drew.after hb2
    have hcB := bstep (bdrew HCB.out) hb2
    have hX2 := HBX.out.drew.after hb2
    have hbes : Beside (fun b => b = gp + 1) W.heap.size W w2 := (Beside.refl W).drew.call hb2 (Nat.le_refl _)
    clear y4 h0 h1 HC0 HC1 HC2 HC3 HCB HBX HCALL hb2
    have HC0 := Lib.hid hc0
    have HC1 := Lib.hid hc1
    have HC2 := Lib.hid hc2
    have HC3 := Lib.hid hc3
    have HCB := Lib.hid hcB
    have HBES := Lib.hid hbes
    have g_c := hc3.cell
    have g_f := hc3.frozen
    have x_c := hX2.cell
    clear hc0 hc1 hc2 hc3 hcB hX2 hbes
    cases r with
    | false =>
      gi_wp2
      refine ⟨HBES.out, ?_⟩
      dsimp only
      rw [HNX.out, HADD.out]
      exact ⟨HC0.out, HC1.out, HC2.out, HC3.out, HCB.out⟩
    | true =>
      have hp := put3_bd s.f2.f1 0 99999 (by omega)
      obtain ⟨u, hu⟩ : ∃ u, put3 s.f2.f1 0 99999 = u := ⟨_, rfl⟩
      rw [hu] at hp
      have hs0 := hGB.1
      have hs1 := hGB.2
      have hu0 := hp.1
      have hu1 := hp.2
      have hsum : IntKind.i64.wrap (G + u) = G + u := IntWalk.i64_in _ (by omega)
      have hputc : Calls Try.prog 71 #[.int .i64 s.f2.f1, .int .i64 0, .int .i64 99999] w2.drew fun e w' => e = .returned (.int .i64 u) ∧ w' = w2.drew := hu ▸ put_q s.f2.f1 0 99999 w2.drew
      have HPC := Lib.hid hputc
      have HU := Lib.hid hu
      clear hp hputc hu hGB
      gi_upto_region 8 with (fail)
      refine startIn_ (n := 8) (S := (fun w' => w' = w2.drew)) (ds := [7]) #[false, false, false, false, false, false, false, false] (by kernel_rfl) (by kernel_rfl) (by rintro ⟨_, _, hh⟩; exact hh) rfl (by kernel_rfl) rfl (fun hHeld => ?_)
      refine take_ (i := 0) (N := some 39) (v := ?_) (a' := ?_) #[true, false, false, false, false, false, false, false] rfl rfl (by kernel_rfl) (fun _ _ _ h => h) (Or.inl ⟨by rfl, ?_⟩) hHeld ?_ ?_
      rotate_left
      · rintro w' rfl
        go_simp
        with_reducible rfl
      rotate_left
      · simp only [Act.put, List.setIfInBounds_toArray, List.set_cons_zero, List.set_cons_succ]
        rfl
      refine pure_ (i := 1) (N := some 40) (v := ?_) (a' := ?_) #[true, true, false, false, false, false, false, false] rfl rfl (by kernel_rfl) (fun _ _ _ h => h) (Or.inl ⟨by rfl, ?_⟩) ?_ ?_
      rotate_left
      · intro w'
        go_simp
        with_reducible rfl
      rotate_left
      · simp only [Act.put, List.setIfInBounds_toArray, List.set_cons_zero, List.set_cons_succ]
        rfl
      refine pure_ (i := 2) (N := some 41) (v := ?_) (a' := ?_) #[true, true, true, false, false, false, false, false] rfl rfl (by kernel_rfl) (fun _ _ _ h => h) (Or.inl ⟨by rfl, ?_⟩) ?_ ?_
      rotate_left
      · intro w'
        go_simp
        with_reducible rfl
      rotate_left
      · simp only [Act.put, List.setIfInBounds_toArray, List.set_cons_zero, List.set_cons_succ]
        rfl
      refine take_ (i := 3) (N := some 42) (v := ?_) (a' := ?_) #[true, true, true, true, false, false, false, false] rfl rfl (by kernel_rfl) (fun _ _ _ h => h) (Or.inl ⟨by rfl, ?_⟩) hHeld ?_ ?_
      rotate_left
      · rintro w' rfl
        go_simp
        with_reducible rfl
      rotate_left
      · simp only [Act.put, List.setIfInBounds_toArray, List.set_cons_zero, List.set_cons_succ]
        rfl
      refine one_ (i := 4) (N := some 43) #[true, true, true, true, true, false, false, false] rfl rfl (by kernel_rfl) (by simp) (fun K hK => ?_)
      rw [if_pos (by rfl)]
      go_simp
      refine HPC.out.mono ?_
      rintro e w3 ⟨rfl, rfl⟩
      dsimp only
      refine hK.out _ _ rfl (fun hHeld => ?_)
      clear hK K
      refine pure_ (i := 5) (N := some 44) (v := ?_) (a' := ?_) #[true, true, true, true, true, true, false, false] rfl rfl (by kernel_rfl) (fun _ _ _ h => h) (Or.inl ⟨by rfl, ?_⟩) ?_ ?_
      rotate_left
      · intro w'
        go_simp
        with_reducible rfl
      rotate_left
      · simp only [Act.put, List.setIfInBounds_toArray, List.set_cons_zero, List.set_cons_succ]
        rfl
      refine one_ (i := 6) (N := some 45) #[true, true, true, true, true, true, true, false] rfl rfl (by kernel_rfl) (by simp) (fun K hK => ?_)
      rw [if_pos (by rfl)]
      go_simp
      refine (put_q _ _ _ _).mono ?_
      rintro e w3 ⟨rfl, rfl⟩
      dsimp only
      refine hK.out _ _ rfl (fun hHeld => ?_)
      clear hK K
      refine last_ (i := 7) (N := none) #[true, true, true, true, true, true, true, true] rfl rfl (by kernel_rfl) (by simp) (fun K hK => ?_)
      rw [if_pos (by rfl)]
      go_simp
      refine hK.out _ _ ?_
      clear hK K
      refine done_ (by kernel_rfl) ?_
      refine ⟨(HBES.out.drew).set (.inl rfl), ?_⟩
      dsimp only
      rw [HNX.out, HADD.out, if_pos rfl, HU.out]
      have hgm := HGM.out
      have hgw := HGW.out
      refine ⟨HC0.out.far (p := ⟨gp + 1, 0, none⟩) (by show _ ≠ gp + 1; omega) _, HC1.out.far (p := ⟨gp + 1, 0, none⟩) (by show _ ≠ gp + 1; omega) _, HC2.out.far (p := ⟨gp + 1, 0, none⟩) (by show _ ≠ gp + 1; omega) _, (HC3.out.set_ 0 _).to rfl, ?_⟩
      exact bset (bdrew HCB.out) (by show w.heap.size ≤ gp + 1; omega)
  case done =>
    intro D xs W hS hI hD hK
    obtain ⟨c0, c1, c2, c3, cB⟩ := hI
    have hxs : xs.map stp = auraL l0 l1 0 := hS
    rw [hxs] at c3
    obtain ⟨G, hG⟩ : ∃ G, givenV l0 l1 (⟨p0, p1, p2, p3, p4, p5, p6, p7, p8, p9, p10, p11, p12, p13⟩ : PS) (i : Int) (auraL l0 l1 0) = G := ⟨_, rfl⟩
    have hGB : 0 ≤ G ∧ G ≤ 199998 := hG ▸ given_bd _ _ _ _ _
    have hv := HV.out
    rw [hG] at hv c3
    have hb1 := put3_bd p13 (-99999) 99999 (by omega)
    obtain ⟨u, hu⟩ : ∃ u, put3 p13 (-99999) 99999 = u := ⟨_, rfl⟩
    rw [hu] at hb1 hv
    have hpa := HPA.out
    have b0 := hGB.1
    have b1 := hGB.2
    have b2 := hb1.1
    have b3 := hb1.2
    have b4 := hpa.1
    have b5 := hpa.2
    have hs1 : IntKind.i64.wrap (p1 + u) = p1 + u := IntWalk.i64_in _ (by omega)
    have hs2 : IntKind.i64.wrap (p1 + u + G) = p1 + u + G := IntWalk.i64_in _ (by omega)
    have hputc : ∀ W' : World, Calls Try.prog 71 #[.int .i64 p13, .int .i64 (-99999), .int .i64 99999] W' fun e w' => e = .returned (.int .i64 u) ∧ w' = W' := fun W' => hu ▸ put_q p13 (-99999) 99999 W'
    have HPC := Lib.hid hputc
    have HVV := Lib.hid hv
    have HCB := Lib.hid cB
    have HKD := Lib.hid hK
    have HDD := Lib.hid hD
    have p_c := c2.cell
    have g_c := c3.cell
    clear c0 c1 c2 c3 cB hK hD hS hxs hG hGB hv hb1 hu hpa hputc hgm hgw hgl hsz hg0 HT3 HT4 HI4 HP4 HG4 HB4
    gi_upto_region 9 with (fail)
    refine wpIn_wide.2 (wp_only ?_)
    refine start_ (n := 10) (S := (fun w' => w' = W.drew)) (ds := []) #[false, false, false, false, false, false, false, false, false, false] (by kernel_rfl) rfl (by kernel_rfl) rfl (fun hHeld => ?_)
    refine pure_ (i := 0) (N := some 46) (v := ?_) (a' := ?_) #[true, false, false, false, false, false, false, false, false, false] rfl rfl (by kernel_rfl) (fun _ _ _ h => h) (Or.inl ⟨by rfl, ?_⟩) ?_ ?_
    rotate_left
    · intro w'
      go_simp
      with_reducible rfl
    rotate_left
    · simp only [Act.put, List.setIfInBounds_toArray, List.set_cons_zero, List.set_cons_succ]
      rfl
    refine take_ (i := 1) (N := some 47) (v := ?_) (a' := ?_) #[true, true, false, false, false, false, false, false, false, false] rfl rfl (by kernel_rfl) (fun _ _ _ h => h) (Or.inl ⟨by rfl, ?_⟩) hHeld ?_ ?_
    rotate_left
    · rintro w' rfl
      go_simp
      with_reducible rfl
    rotate_left
    · simp only [Act.put, List.setIfInBounds_toArray, List.set_cons_zero, List.set_cons_succ]
      rfl
    refine pure_ (i := 2) (N := some 48) (v := ?_) (a' := ?_) #[true, true, true, false, false, false, false, false, false, false] rfl rfl (by kernel_rfl) (fun _ _ _ h => h) (Or.inl ⟨by rfl, ?_⟩) ?_ ?_
    rotate_left
    · intro w'
      go_simp
      with_reducible rfl
    rotate_left
    · simp only [Act.put, List.setIfInBounds_toArray, List.set_cons_zero, List.set_cons_succ]
      rfl
    refine take_ (i := 3) (N := some 49) (v := ?_) (a' := ?_) #[true, true, true, true, false, false, false, false, false, false] rfl rfl (by kernel_rfl) (fun _ _ _ h => h) (Or.inl ⟨by rfl, ?_⟩) hHeld ?_ ?_
    rotate_left
    · rintro w' rfl
      go_simp
      with_reducible rfl
    rotate_left
    · simp only [Act.put, List.setIfInBounds_toArray, List.set_cons_zero, List.set_cons_succ]
      rfl
    refine take_ (i := 6) (N := some 52) (v := ?_) (a' := ?_) #[true, true, true, true, false, false, true, false, false, false] rfl rfl (by kernel_rfl) (fun _ _ _ h => h) (Or.inl ⟨by rfl, ?_⟩) hHeld ?_ ?_
    rotate_left
    · rintro w' rfl
      go_simp
      with_reducible rfl
    rotate_left
    · simp only [Act.put, List.setIfInBounds_toArray, List.set_cons_zero, List.set_cons_succ]
      rfl
    refine one_ (i := 4) (N := some 50) #[true, true, true, true, true, false, true, false, false, false] rfl rfl (by kernel_rfl) (by simp) (fun K hK => ?_)
    rw [if_pos (by rfl)]
    go_simp
    refine (HPC.out _).mono ?_
    rintro e w3 ⟨rfl, rfl⟩
    dsimp only
    refine hK.out _ _ rfl (fun hHeld => ?_)
    clear hK K
    refine pure_ (i := 5) (N := some 51) (v := ?_) (a' := ?_) #[true, true, true, true, true, true, true, false, false, false] rfl rfl (by kernel_rfl) (fun _ _ _ h => h) (Or.inl ⟨by rfl, ?_⟩) ?_ ?_
    rotate_left
    · intro w'
      go_simp
      with_reducible rfl
    rotate_left
    · simp only [Act.put, List.setIfInBounds_toArray, List.set_cons_zero, List.set_cons_succ]
      rfl
    refine pure_ (i := 7) (N := some 53) (v := ?_) (a' := ?_) #[true, true, true, true, true, true, true, true, false, false] rfl rfl (by kernel_rfl) (fun _ _ _ h => h) (Or.inl ⟨by rfl, ?_⟩) ?_ ?_
    rotate_left
    · intro w'
      go_simp
      with_reducible rfl
    rotate_left
    · simp only [Act.put, List.setIfInBounds_toArray, List.set_cons_zero, List.set_cons_succ]
      rfl
    refine one_ (i := 8) (N := some 54) #[true, true, true, true, true, true, true, true, true, false] rfl rfl (by kernel_rfl) (by simp) (fun K hK => ?_)
    rw [if_pos (by rfl)]
    go_simp
    refine (put_q _ _ _ _).mono ?_
    rintro e w3 ⟨rfl, rfl⟩
    dsimp only
    refine hK.out _ _ rfl (fun hHeld => ?_)
    clear hK K
    refine pure_ (i := 9) (N := some 4) (v := ?_) (a' := ?_) #[true, true, true, true, true, true, true, true, true, true] rfl rfl (by kernel_rfl) (fun _ _ _ h => h) (Or.inl ⟨by rfl, ?_⟩) ?_ ?_
    rotate_left
    · intro w'
      go_simp
      with_reducible rfl
    rotate_left
    · simp only [Act.put, List.setIfInBounds_toArray, List.set_cons_zero, List.set_cons_succ]
      rfl
    refine done_ (by kernel_rfl) ?_
    gi_wp2
    refine ⟨by simp, .inl ⟨_, _, rfl, run_takeDeferred (HKD.out : W.drew.heap[D]? = _), ?_⟩⟩
    refine ⟨.int .i64 v, ?_, rfl, ?_⟩
    · rw [← HVV.out]; simp [results, Try.f19, go_sem]
    · exact below_put (bdrew HCB.out) (by have := HDD.out; have := HSZ.out; have := HGL.out; have := HGW.out; have := HG.out; omega)
end Go.Proofs.Ytlldpdhajddmiaa.Bmay
end
section
/- How strong a piece attacks: the contract as the prints take it. -/
namespace Go.Proofs.Ytlldpdhajddmiaa.Base
open Go Go.RowKit Go.Proofs.Ytlldpdhajddmiaa.Pmga Go.Proofs.Ytlldpdhajddmiaa.Bmay Go.Proofs.YtlldpdhajddmiaaW.PrintWords
theorem may_ok {l0 : List (S97)} {l1 : List (S35)} {a2 a3 a4 a5 : Int} (h : mayB l0 l1 a2 a3 a4 a5 = true) : ∀ p ∈ l1, okP l0 p = true := by
  rw [may_ref] at h
  unfold refB at h
  rw [Bool.and_eq_true, Bool.and_eq_true] at h
  intro p hp
  have h1 := List.all_eq_true.1 h.1.2 p hp
  unfold pieceB at h1
  rw [Bool.and_eq_true] at h1
  exact h1.1
theorem ok_def {l0 : List (S97)} {p : S35} (h : okP l0 p = true) : p.f0 < (l0.length : Int) ∧ 0 ≤ p.f1 ∧ p.f1 ≤ 99999 ∧ 0 ≤ p.f2 ∧ p.f2 ≤ 99999 := by
  unfold okP oneB oneA oneC at h
  simp only [Bool.and_eq_true, Bool.not_eq_true', Bool.or_eq_false_iff, decide_eq_false_iff_not] at h
  omega
def attackB (l0 : List (S97)) (l1 : List (S35)) (a2 a3 a4 a5 id : Int) : Int :=
  if 0 ≤ id ∧ id < (l1.length : Int) ∧ mayB l0 l1 a2 a3 a4 a5 = true then attackV l0 l1 id else 0
def might_Attack.f (_k : Nat) (l0_0 : List (S97)) (l0_1 : List (S35)) (a0_2 : Int) (a0_3 : Int) (a0_4 : Int) (a0_5 : Int) (_a0_6 : Int) (_l0_7 : List (S58)) (_a0_8 : Bool) (_a0_9 : Bool) (a1 : Int) : Option (Int) :=
  if l0_1.all wfP = true then some (attackB l0_0 l0_1 a0_2 a0_3 a0_4 a0_5 a1) else none
theorem might_Attack.mono : ∀ a0 a1 a2 a3 a4 a5 a6 a7 a8 a9 b0 k, LeO (might_Attack.f k a0 a1 a2 a3 a4 a5 a6 a7 a8 a9 b0) (might_Attack.f (k + 1) a0 a1 a2 a3 a4 a5 a6 a7 a8 a9 b0) := fun _ _ _ _ _ _ _ _ _ _ _ _ _ h => h
theorem might_Attack.calls (k : Nat) (A0_0 : Option Addr) (c0_0 : Nat) (l0_0 : List (S97)) (A0_1 : Option Addr) (c0_1 : Nat) (l0_1 : List (S35)) (a0_2 : Int) (a0_3 : Int) (a0_4 : Int) (a0_5 : Int) (a0_6 : Int) (A0_7 : Option Addr) (c0_7 : Nat) (l0_7 : List (S58)) (a0_8 : Bool) (a0_9 : Bool) (a1 : Int) (r : Int) (w : World) (hr0_0 : Kd.C k97 w A0_0 l0_0.length l0_0) (hc0_0 : l0_0.length ≤ c0_0) (hr0_1 : Kd.C k35 w A0_1 l0_1.length l0_1) (hc0_1 : l0_1.length ≤ c0_1) (hr0_7 : Kd.C k58 w A0_7 l0_7.length l0_7) (hc0_7 : l0_7.length ≤ c0_7) (h : might_Attack.f k l0_0 l0_1 a0_2 a0_3 a0_4 a0_5 a0_6 l0_7 a0_8 a0_9 a1 = some r) :
    Calls Try.prog 19 #[.agg #[.slice A0_0 l0_0.length c0_0, .slice A0_1 l0_1.length c0_1, .int .i64 a0_2, .int .i64 a0_3, .int .i64 a0_4, .int .u8 a0_5, .int .i64 a0_6, .slice A0_7 l0_7.length c0_7, .bool a0_8, .bool a0_9], .int .i64 a1] w fun e w' => e = .returned (.int .i64 r) ∧ Below w.heap.size w w' := by
  unfold might_Attack.f at h
  split at h
  · rename_i hwf
    obtain rfl := (Option.some.inj h).symm
    unfold attackB
    have hk := fun (b : Bool) (hb : Pmgb.might_known.f 0 l0_0 l0_1 a0_2 a0_3 a0_4 a0_5 a0_6 l0_7 a0_8 a0_9 a1 = some b) w' (hw : Below w.heap.size w w') => Pmgb.might_known.calls 0 A0_0 c0_0 l0_0 A0_1 c0_1 l0_1 a0_2 a0_3 a0_4 a0_5 a0_6 A0_7 c0_7 l0_7 a0_8 a0_9 a1 b w' (Kd.C_below hr0_0 hw) hc0_0 (Kd.C_below hr0_1 hw) hc0_1 (Kd.C_below hr0_7 hw) hc0_7 hb
    have hmay : ∀ k, board_May.f k l0_0 l0_1 a0_2 a0_3 a0_4 a0_5 a0_6 l0_7 a0_8 a0_9 = some (mayB l0_0 l0_1 a0_2 a0_3 a0_4 a0_5) := fun k => by unfold board_May.f; rw [if_pos hwf]
    by_cases hc : 0 ≤ a1 ∧ a1 < (l0_1.length : Int) ∧ mayB l0_0 l0_1 a0_2 a0_3 a0_4 a0_5 = true
    · rw [if_pos hc]
      obtain ⟨h1, h2, h3⟩ := hc
      obtain ⟨i, rfl⟩ : ∃ i : Nat, a1 = (i : Int) := ⟨a1.toNat, by omega⟩
      refine callsIn_wide.1 (attack_yes A0_0 c0_0 l0_0 A0_1 c0_1 l0_1 a0_2 a0_3 a0_4 a0_5 a0_6 A0_7 c0_7 l0_7 a0_8 a0_9 i w hr0_0 hc0_0 hr0_1 hc0_1 hr0_7 hc0_7 (by omega) (fun p hp => (ok_def (may_ok h3 p hp)).1) (fun p hp => ⟨(ok_def (may_ok h3 p hp)).2.1, (ok_def (may_ok h3 p hp)).2.2.1⟩) (hk true ?_))
      unfold Pmgb.might_known.f
      rw [if_pos (by omega), if_pos (by omega), hmay, h3]
      rfl
    · rw [if_neg hc]
      refine attack_no A0_0 c0_0 l0_0 A0_1 c0_1 l0_1 a0_2 a0_3 a0_4 a0_5 a0_6 A0_7 c0_7 l0_7 a0_8 a0_9 a1 w (hk false ?_)
      unfold Pmgb.might_known.f
      by_cases h1 : a1 ≥ 0
      · rw [if_pos h1]
        by_cases h2 : a1 < (l0_1.length : Int)
        · rw [if_pos h2, hmay]
          have : mayB l0_0 l0_1 a0_2 a0_3 a0_4 a0_5 = false := by
            cases e : mayB l0_0 l0_1 a0_2 a0_3 a0_4 a0_5
            · rfl
            · exact absurd ⟨h1, h2, e⟩ hc
          rw [this]; rfl
        · rw [if_neg h2]
      · rw [if_neg h1]
  · cases h
end Go.Proofs.Ytlldpdhajddmiaa.Base
end
section
/- The table that the statement tells of, made (joustlaw07_table). -/
namespace Go.Proofs.Ytlldpdhajddmiaa.Bmay
open Go Go.RowKit Go.Proofs.Ytlldpdhajddmiaa.Base Go.Proofs.Ytlldpdhajddmiaa.Pmga Go.Proofs.YtlldpdhajddmiaaW.PrintWords Go.Proofs.YtlldpdhajddmiaaW.PrintLast Go.Proofs.YtlldpdhajddmiaaW.PrintMore
set_option linter.unusedSimpArgs false
set_option linter.unusedVariables false
set_option maxRecDepth 100000
set_option maxHeartbeats 8000000
def joustlaw07_table_st : S107 := ⟨7, 0, ⟨0, 300, 0, ⟨0, 0, 0⟩, []⟩, true, ⟨0, 2, 1⟩⟩
def joustlaw07_table_ef : S88 := ⟨6, 0, 0, [], 0, 0, false, 0, ⟨0, 0, 0⟩, [joustlaw07_table_st]⟩
def joustlaw07_table_k : List S97 := [⟨(⟨#[108, 111, 114, 100]⟩ : ByteArray), 0, 4, 1000, 0, [joustlaw07_table_ef]⟩, ⟨(⟨#[112, 97, 119, 110]⟩ : ByteArray), 0, 1, 500, 0, []⟩]
def joustlaw07_table_p : List PS := [⟨0, 1000, 0, 0, 0, 2, 0, true, false, 0, 0, false, false, 0⟩, ⟨1, 500, 0, 0, 0, 2, 1, false, true, 0, 0, false, false, 0⟩, ⟨1, 500, 0, 1, 1, 2, 0, true, false, 0, 0, false, false, 0⟩]
def joustlaw07_table_post (w : World) (e : Ending) (w' : World) : Prop := ∃ b0 b1 : Nat, e = .returned (.agg #[.slice (some ⟨b0, 0, none⟩) 2 2, .slice (some ⟨b1, 0, none⟩) 3 3, .int .i64 0, .int .i64 0, .int .i64 1, .int .u8 0, .int .i64 0, .slice none 0 0, .bool false, .bool false]) ∧
  Kd.C k97 w' (some ⟨b0, 0, none⟩) 2 joustlaw07_table_k ∧ Kd.C k35 w' (some ⟨b1, 0, none⟩) 3 joustlaw07_table_p ∧ Below w.heap.size w w'
theorem joustlaw07_table_walk (w : World) : Calls Try.prog 64 #[] w (joustlaw07_table_post w) := by
  go_enter Try.func64, Try.ntmps64
  go_wp2
  refine bodyPost_ret (v := .agg #[.slice (some ⟨w.heap.size + 1 + 1 + 1 + 1 + 1 + 1, 0, none⟩) 2 2, .slice (some ⟨w.heap.size + 1 + 1 + 1 + 1 + 1 + 1 + 1 + 1, 0, none⟩) 3 3, .int .i64 0, .int .i64 0, .int .i64 1, .int .u8 0, .int .i64 0, .slice none 0 0, .bool false, .bool false]) (by simp [results, Try.results64, go_sem]) rfl ?_
  have h2 := (((((((Blk.new ((w.alloc (.cells #[.slice (some ⟨w.heap.size + 1 + 1 + 1 + 1 + 1 + 1, 0, none⟩) 2 2, .slice (some ⟨w.heap.size + 1 + 1 + 1 + 1 + 1 + 1 + 1 + 1, 0, none⟩) 3 3, .int .i64 0, .int .i64 0, .int .i64 1, .int .u8 0, .int .i64 0, .slice none 0 0, .bool false, .bool false] 28)).alloc (.cells #[.int .u8 7, .int .u8 0, .int .u8 0, .int .i64 300, .int .u8 0, .int .u8 0, .int .u8 0, .int .u8 0, .slice none 0 0, .bool true, .int .u8 0, .int .u8 2, .int .u8 1] 107)) 107 #[.int .u8 7, .int .u8 0, .int .u8 0, .int .i64 300, .int .u8 0, .int .u8 0, .int .u8 0, .int .u8 0, .slice none 0 0, .bool true, .int .u8 0, .int .u8 2, .int .u8 1]).alloc (.cells #[.int .u8 6, .int .u8 0, .int .u8 0, .slice none 0 0, .int .i64 0, .int .i64 0, .bool false, .int .i64 0, .int .u8 0, .int .u8 0, .int .u8 0, .slice (some ⟨w.heap.size + 1 + 1, 0, none⟩) 1 1] 88)).alloc (.cells #[.string (⟨#[108, 111, 114, 100]⟩ : ByteArray), .int .u8 0, .int .i64 4, .int .i64 1000, .int .i64 0, .slice (some ⟨w.heap.size + 1 + 1 + 1, 0, none⟩) 1 1] 97)).alloc (.cells #[.string (⟨#[112, 97, 119, 110]⟩ : ByteArray), .int .u8 0, .int .i64 1, .int .i64 500, .int .i64 0, .slice none 0 0] 97)).alloc (.cells #[.string (⟨#[108, 111, 114, 100]⟩ : ByteArray), .int .u8 0, .int .i64 4, .int .i64 1000, .int .i64 0, .slice (some ⟨w.heap.size + 1 + 1 + 1, 0, none⟩) 1 1, .string (⟨#[112, 97, 119, 110]⟩ : ByteArray), .int .u8 0, .int .i64 1, .int .i64 500, .int .i64 0, .slice none 0 0] 97)).alloc (.cells #[.slice (some ⟨w.heap.size + 1 + 1 + 1 + 1 + 1 + 1, 0, none⟩) 2 2, .slice (some ⟨w.heap.size + 1 + 1 + 1 + 1 + 1 + 1 + 1 + 1, 0, none⟩) 3 3, .int .i64 0, .int .i64 0, .int .i64 1, .int .u8 0, .int .i64 0, .slice none 0 0, .bool false, .bool false] 28)).alloc (.cells #[.int .i64 0, .int .i64 1000, .int .i64 0, .int .u8 0, .int .u8 0, .int .u8 2, .int .i64 0, .bool true, .bool false, .int .i64 0, .int .u8 0, .bool false, .bool false, .int .i64 0, .int .i64 1, .int .i64 500, .int .i64 0, .int .u8 0, .int .u8 0, .int .u8 2, .int .i64 1, .bool false, .bool true, .int .i64 0, .int .u8 0, .bool false, .bool false, .int .i64 0, .int .i64 1, .int .i64 500, .int .i64 0, .int .u8 1, .int .u8 1, .int .u8 2, .int .i64 0, .bool true, .bool false, .int .i64 0, .int .u8 0, .bool false, .bool false, .int .i64 0] 35))
  have h3 := ((((((Blk.new (((w.alloc (.cells #[.slice (some ⟨w.heap.size + 1 + 1 + 1 + 1 + 1 + 1, 0, none⟩) 2 2, .slice (some ⟨w.heap.size + 1 + 1 + 1 + 1 + 1 + 1 + 1 + 1, 0, none⟩) 3 3, .int .i64 0, .int .i64 0, .int .i64 1, .int .u8 0, .int .i64 0, .slice none 0 0, .bool false, .bool false] 28)).alloc (.cells #[.int .u8 7, .int .u8 0, .int .u8 0, .int .i64 300, .int .u8 0, .int .u8 0, .int .u8 0, .int .u8 0, .slice none 0 0, .bool true, .int .u8 0, .int .u8 2, .int .u8 1] 107)).alloc (.cells #[.int .u8 7, .int .u8 0, .int .u8 0, .int .i64 300, .int .u8 0, .int .u8 0, .int .u8 0, .int .u8 0, .slice none 0 0, .bool true, .int .u8 0, .int .u8 2, .int .u8 1] 107)) 88 #[.int .u8 6, .int .u8 0, .int .u8 0, .slice none 0 0, .int .i64 0, .int .i64 0, .bool false, .int .i64 0, .int .u8 0, .int .u8 0, .int .u8 0, .slice (some ⟨w.heap.size + 1 + 1, 0, none⟩) 1 1]).alloc (.cells #[.string (⟨#[108, 111, 114, 100]⟩ : ByteArray), .int .u8 0, .int .i64 4, .int .i64 1000, .int .i64 0, .slice (some ⟨w.heap.size + 1 + 1 + 1, 0, none⟩) 1 1] 97)).alloc (.cells #[.string (⟨#[112, 97, 119, 110]⟩ : ByteArray), .int .u8 0, .int .i64 1, .int .i64 500, .int .i64 0, .slice none 0 0] 97)).alloc (.cells #[.string (⟨#[108, 111, 114, 100]⟩ : ByteArray), .int .u8 0, .int .i64 4, .int .i64 1000, .int .i64 0, .slice (some ⟨w.heap.size + 1 + 1 + 1, 0, none⟩) 1 1, .string (⟨#[112, 97, 119, 110]⟩ : ByteArray), .int .u8 0, .int .i64 1, .int .i64 500, .int .i64 0, .slice none 0 0] 97)).alloc (.cells #[.slice (some ⟨w.heap.size + 1 + 1 + 1 + 1 + 1 + 1, 0, none⟩) 2 2, .slice (some ⟨w.heap.size + 1 + 1 + 1 + 1 + 1 + 1 + 1 + 1, 0, none⟩) 3 3, .int .i64 0, .int .i64 0, .int .i64 1, .int .u8 0, .int .i64 0, .slice none 0 0, .bool false, .bool false] 28)).alloc (.cells #[.int .i64 0, .int .i64 1000, .int .i64 0, .int .u8 0, .int .u8 0, .int .u8 2, .int .i64 0, .bool true, .bool false, .int .i64 0, .int .u8 0, .bool false, .bool false, .int .i64 0, .int .i64 1, .int .i64 500, .int .i64 0, .int .u8 0, .int .u8 0, .int .u8 2, .int .i64 1, .bool false, .bool true, .int .i64 0, .int .u8 0, .bool false, .bool false, .int .i64 0, .int .i64 1, .int .i64 500, .int .i64 0, .int .u8 1, .int .u8 1, .int .u8 2, .int .i64 0, .bool true, .bool false, .int .i64 0, .int .u8 0, .bool false, .bool false, .int .i64 0] 35))
  have h6 := (((Blk.new ((((((w.alloc (.cells #[.slice (some ⟨w.heap.size + 1 + 1 + 1 + 1 + 1 + 1, 0, none⟩) 2 2, .slice (some ⟨w.heap.size + 1 + 1 + 1 + 1 + 1 + 1 + 1 + 1, 0, none⟩) 3 3, .int .i64 0, .int .i64 0, .int .i64 1, .int .u8 0, .int .i64 0, .slice none 0 0, .bool false, .bool false] 28)).alloc (.cells #[.int .u8 7, .int .u8 0, .int .u8 0, .int .i64 300, .int .u8 0, .int .u8 0, .int .u8 0, .int .u8 0, .slice none 0 0, .bool true, .int .u8 0, .int .u8 2, .int .u8 1] 107)).alloc (.cells #[.int .u8 7, .int .u8 0, .int .u8 0, .int .i64 300, .int .u8 0, .int .u8 0, .int .u8 0, .int .u8 0, .slice none 0 0, .bool true, .int .u8 0, .int .u8 2, .int .u8 1] 107)).alloc (.cells #[.int .u8 6, .int .u8 0, .int .u8 0, .slice none 0 0, .int .i64 0, .int .i64 0, .bool false, .int .i64 0, .int .u8 0, .int .u8 0, .int .u8 0, .slice (some ⟨w.heap.size + 1 + 1, 0, none⟩) 1 1] 88)).alloc (.cells #[.string (⟨#[108, 111, 114, 100]⟩ : ByteArray), .int .u8 0, .int .i64 4, .int .i64 1000, .int .i64 0, .slice (some ⟨w.heap.size + 1 + 1 + 1, 0, none⟩) 1 1] 97)).alloc (.cells #[.string (⟨#[112, 97, 119, 110]⟩ : ByteArray), .int .u8 0, .int .i64 1, .int .i64 500, .int .i64 0, .slice none 0 0] 97)) 97 #[.string (⟨#[108, 111, 114, 100]⟩ : ByteArray), .int .u8 0, .int .i64 4, .int .i64 1000, .int .i64 0, .slice (some ⟨w.heap.size + 1 + 1 + 1, 0, none⟩) 1 1, .string (⟨#[112, 97, 119, 110]⟩ : ByteArray), .int .u8 0, .int .i64 1, .int .i64 500, .int .i64 0, .slice none 0 0]).alloc (.cells #[.slice (some ⟨w.heap.size + 1 + 1 + 1 + 1 + 1 + 1, 0, none⟩) 2 2, .slice (some ⟨w.heap.size + 1 + 1 + 1 + 1 + 1 + 1 + 1 + 1, 0, none⟩) 3 3, .int .i64 0, .int .i64 0, .int .i64 1, .int .u8 0, .int .i64 0, .slice none 0 0, .bool false, .bool false] 28)).alloc (.cells #[.int .i64 0, .int .i64 1000, .int .i64 0, .int .u8 0, .int .u8 0, .int .u8 2, .int .i64 0, .bool true, .bool false, .int .i64 0, .int .u8 0, .bool false, .bool false, .int .i64 0, .int .i64 1, .int .i64 500, .int .i64 0, .int .u8 0, .int .u8 0, .int .u8 2, .int .i64 1, .bool false, .bool true, .int .i64 0, .int .u8 0, .bool false, .bool false, .int .i64 0, .int .i64 1, .int .i64 500, .int .i64 0, .int .u8 1, .int .u8 1, .int .u8 2, .int .i64 0, .bool true, .bool false, .int .i64 0, .int .u8 0, .bool false, .bool false, .int .i64 0] 35))
  have h8 := (Blk.new ((((((((w.alloc (.cells #[.slice (some ⟨w.heap.size + 1 + 1 + 1 + 1 + 1 + 1, 0, none⟩) 2 2, .slice (some ⟨w.heap.size + 1 + 1 + 1 + 1 + 1 + 1 + 1 + 1, 0, none⟩) 3 3, .int .i64 0, .int .i64 0, .int .i64 1, .int .u8 0, .int .i64 0, .slice none 0 0, .bool false, .bool false] 28)).alloc (.cells #[.int .u8 7, .int .u8 0, .int .u8 0, .int .i64 300, .int .u8 0, .int .u8 0, .int .u8 0, .int .u8 0, .slice none 0 0, .bool true, .int .u8 0, .int .u8 2, .int .u8 1] 107)).alloc (.cells #[.int .u8 7, .int .u8 0, .int .u8 0, .int .i64 300, .int .u8 0, .int .u8 0, .int .u8 0, .int .u8 0, .slice none 0 0, .bool true, .int .u8 0, .int .u8 2, .int .u8 1] 107)).alloc (.cells #[.int .u8 6, .int .u8 0, .int .u8 0, .slice none 0 0, .int .i64 0, .int .i64 0, .bool false, .int .i64 0, .int .u8 0, .int .u8 0, .int .u8 0, .slice (some ⟨w.heap.size + 1 + 1, 0, none⟩) 1 1] 88)).alloc (.cells #[.string (⟨#[108, 111, 114, 100]⟩ : ByteArray), .int .u8 0, .int .i64 4, .int .i64 1000, .int .i64 0, .slice (some ⟨w.heap.size + 1 + 1 + 1, 0, none⟩) 1 1] 97)).alloc (.cells #[.string (⟨#[112, 97, 119, 110]⟩ : ByteArray), .int .u8 0, .int .i64 1, .int .i64 500, .int .i64 0, .slice none 0 0] 97)).alloc (.cells #[.string (⟨#[108, 111, 114, 100]⟩ : ByteArray), .int .u8 0, .int .i64 4, .int .i64 1000, .int .i64 0, .slice (some ⟨w.heap.size + 1 + 1 + 1, 0, none⟩) 1 1, .string (⟨#[112, 97, 119, 110]⟩ : ByteArray), .int .u8 0, .int .i64 1, .int .i64 500, .int .i64 0, .slice none 0 0] 97)).alloc (.cells #[.slice (some ⟨w.heap.size + 1 + 1 + 1 + 1 + 1 + 1, 0, none⟩) 2 2, .slice (some ⟨w.heap.size + 1 + 1 + 1 + 1 + 1 + 1 + 1 + 1, 0, none⟩) 3 3, .int .i64 0, .int .i64 0, .int .i64 1, .int .u8 0, .int .i64 0, .slice none 0 0, .bool false, .bool false] 28)) 35 #[.int .i64 0, .int .i64 1000, .int .i64 0, .int .u8 0, .int .u8 0, .int .u8 2, .int .i64 0, .bool true, .bool false, .int .i64 0, .int .u8 0, .bool false, .bool false, .int .i64 0, .int .i64 1, .int .i64 500, .int .i64 0, .int .u8 0, .int .u8 0, .int .u8 2, .int .i64 1, .bool false, .bool true, .int .i64 0, .int .u8 0, .bool false, .bool false, .int .i64 0, .int .i64 1, .int .i64 500, .int .i64 0, .int .u8 1, .int .u8 1, .int .u8 2, .int .i64 0, .bool true, .bool false, .int .i64 0, .int .u8 0, .bool false, .bool false, .int .i64 0])
  simp only [World.size_alloc] at h2 h3 h6 h8
  have g2 := C_row (d := k107) (xs := [joustlaw07_table_st]) (parts := [[.int .u8 7, .int .u8 0, .int .u8 0, .int .i64 300, .int .u8 0, .int .u8 0, .int .u8 0, .int .u8 0, .slice none 0 0, .bool true, .int .u8 0, .int .u8 2, .int .u8 1]]) h2 (.cons (k107_mk _ joustlaw07_table_st (Nat.le_refl 0) (Kd.C_nil _ _)) .nil) (by decide)
  have g3 := C_row (d := k88) (xs := [joustlaw07_table_ef]) (parts := [[.int .u8 6, .int .u8 0, .int .u8 0, .slice none 0 0, .int .i64 0, .int .i64 0, .bool false, .int .i64 0, .int .u8 0, .int .u8 0, .int .u8 0, .slice (some ⟨w.heap.size + 1 + 1, 0, none⟩) 1 1]]) h3 (.cons (k88_mk _ joustlaw07_table_ef (Nat.le_refl 0) (Kd.C_nil _ _) (Nat.le_refl 1) g2) .nil) (by decide)
  have g6 := C_row (d := k97) (xs := joustlaw07_table_k) (parts := [[.string (⟨#[108, 111, 114, 100]⟩ : ByteArray), .int .u8 0, .int .i64 4, .int .i64 1000, .int .i64 0, .slice (some ⟨w.heap.size + 1 + 1 + 1, 0, none⟩) 1 1], [.string (⟨#[112, 97, 119, 110]⟩ : ByteArray), .int .u8 0, .int .i64 1, .int .i64 500, .int .i64 0, .slice none 0 0]]) h6 (.cons (k97_mk _ ⟨(⟨#[108, 111, 114, 100]⟩ : ByteArray), 0, 4, 1000, 0, [joustlaw07_table_ef]⟩ (Nat.le_refl 1) g3) (.cons (k97_mk _ ⟨(⟨#[112, 97, 119, 110]⟩ : ByteArray), 0, 1, 500, 0, []⟩ (Nat.le_refl 0) (Kd.C_nil _ _)) .nil)) (by decide)
  have g8 := C_row (d := k35) (xs := joustlaw07_table_p) (parts := [[.int .i64 0, .int .i64 1000, .int .i64 0, .int .u8 0, .int .u8 0, .int .u8 2, .int .i64 0, .bool true, .bool false, .int .i64 0, .int .u8 0, .bool false, .bool false, .int .i64 0], [.int .i64 1, .int .i64 500, .int .i64 0, .int .u8 0, .int .u8 0, .int .u8 2, .int .i64 1, .bool false, .bool true, .int .i64 0, .int .u8 0, .bool false, .bool false, .int .i64 0], [.int .i64 1, .int .i64 500, .int .i64 0, .int .u8 1, .int .u8 1, .int .u8 2, .int .i64 0, .bool true, .bool false, .int .i64 0, .int .u8 0, .bool false, .bool false, .int .i64 0]]) h8 (.cons (k35_mk _ ⟨0, 1000, 0, 0, 0, 2, 0, true, false, 0, 0, false, false, 0⟩) (.cons (k35_mk _ ⟨1, 500, 0, 0, 0, 2, 1, false, true, 0, 0, false, false, 0⟩) (.cons (k35_mk _ ⟨1, 500, 0, 1, 1, 2, 0, true, false, 0, 0, false, false, 0⟩) .nil))) (by decide)
  exact ⟨_, _, rfl, g6, g8, balloc (balloc (balloc (balloc (balloc (balloc (balloc (balloc (balloc (Below.refl _ _) _) _) _) _) _) _) _) _) _⟩
end Go.Proofs.Ytlldpdhajddmiaa.Bmay
end
