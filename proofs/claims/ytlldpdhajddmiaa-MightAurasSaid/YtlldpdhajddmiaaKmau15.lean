/- Joined by a program of this session (pack.py) out of: PureMightAuras WalkMightAuras -/
import Derived.Test.YtlldpdhajddmiaaKmau13
import Derived.Test.YtlldpdhajddmiaaKmau14
section
/- MightAuras, in plain words. -/
namespace Go.Proofs.Ytlldpdhajddmiaa.Pure
open Go.RowKit Go.Proofs.Ytlldpdhajddmiaa.Base Go.Proofs.Ytlldpdhajddmiaa.Bmay Go.Proofs.YtlldpdhajddmiaaW.PrintWords Go.Proofs.Ytlldpdhajddmiaa.Pmga Go.Proofs.Ytlldpdhajddmiaa.Pmgu
theorem trn_eta (p : PS) (b : Bool) : (⟨p.f0, p.f1, p.f2, p.f3, p.f4, p.f5, p.f6, b, p.f8, p.f9, p.f10, p.f11, p.f12, p.f13⟩ : PS) = trn b p := rfl
theorem alk_map (b : Bool) : ∀ l : List PS, Alk l (l.map (trn b))
  | [] => .nil
  | _ :: l => .cons (.inr ⟨b, rfl⟩) (alk_map b l)
theorem alk_set (b : Bool) : ∀ (l : List PS) (j : Nat) (q : PS), (∀ p, l[j]? = some p → q = trn b p) → Alk l (l.set j q)
  | [], _, _, _ => .nil
  | _ :: l, 0, _, h => .cons (.inr ⟨b, h _ rfl⟩) (Alk.refl l)
  | _ :: l, j + 1, q, h => .cons (.inl rfl) (alk_set b l j q (fun p' hp => h p' (by simpa using hp)))
section
variable (l0 : List S97) (l1 : List PS) (a2 a3 a4 a5 a6 : Int) (l7 : List S58) (a8 a9 : Bool)
theorem att_f (hwf : l1.all wfP = true) (k : Nat) (id : Int) : might_Attack.f k l0 l1 a2 a3 a4 a5 a6 l7 a8 a9 id = some (attackB l0 l1 a2 a3 a4 a5 id) := by unfold might_Attack.f; rw [if_pos hwf]
theorem auras_none (id other : Int) : Tells (fun k => joustlaw07_MightAuras.j0 k id other true l0 l1 a2 a3 a4 a5 a6 l7 a8 a9) true := by
  refine Tells.succ (fun k => by rw [joustlaw07_MightAuras.j0]) (Tells.pos rfl ?_)
  refine Tells.bind (Tells.of fun k => att_f [] [] 0 0 0 0 0 [] false false rfl k id) ?_
  have : attackB [] [] 0 0 0 0 id = 0 := by
    unfold attackB
    rw [if_neg (fun h => absurd h.2.1 (by simp; omega))]
  rw [this]
  exact Tells.pos rfl (Tells.of fun k => rfl)
/-- The pieces, turned down one by one. -/
theorem auras_loop (id other : Int) (hl : l1.length < 9223372036854775807) (r : Bool)
    (H : Tells (fun k => joustlaw07_MightAuras.l0 k id other (l1.length : Int) (l1.length : Int) l0 l1 a2 a3 a4 a5 a6 l7 a8 a9 l0 (l1.map (trn false)) a2 a3 a4 a5 a6 l7 a8 a9) r) :
    ∀ d i, d + i = l1.length → Tells (fun k => joustlaw07_MightAuras.l0 k id other (l1.length : Int) (i : Int) l0 l1 a2 a3 a4 a5 a6 l7 a8 a9 l0 ((l1.take i).map (trn false) ++ l1.drop i) a2 a3 a4 a5 a6 l7 a8 a9) r
  | 0, i, hi => by
    obtain rfl : i = l1.length := by omega
    rw [List.take_length, List.drop_length, List.append_nil]
    exact H
  | d + 1, i, hi => by
    have hil : i < l1.length := by omega
    have hlen : ((l1.take i).map (trn false)).length = i := by rw [List.length_map, List.length_take]; omega
    refine Tells.succ (fun k => by rw [joustlaw07_MightAuras.l0]) ?_
    refine Tells.pos (by omega) (Tells.pos (by omega) (Tells.pos (by rw [List.length_append, hlen, List.length_drop]; omega) ?_))
    have hrd : rd_T35 ((l1.take i).map (trn false) ++ l1.drop i) (i : Int) = l1[i] := by
      rw [rd_at _ i (by rw [List.length_append, hlen, List.length_drop]; omega), List.getElem_append_right (by omega), List.getElem_drop]
      congr 1
      omega
    rw [hrd, trn_eta, Int.toNat_natCast]
    have hset : ((l1.take i).map (trn false) ++ l1.drop i).set i (trn false l1[i]) = (l1.take (i + 1)).map (trn false) ++ l1.drop (i + 1) := by
      rw [List.set_append_right _ _ (by omega), hlen, Nat.sub_self, List.drop_eq_getElem_cons hil, List.set_cons_zero, List.take_succ_eq_append_getElem hil, List.map_append]
      simp
    rw [hset, show wrap64 ((i : Int) + 1) = ((i + 1 : Nat) : Int) by unfold wrap64; omega]
    exact auras_loop id other hl r H d (i + 1) (by omega)
end
theorem MightAuras_tells (l0 : List S97) (l1 : List PS) (a2 a3 a4 a5 a6 : Int) (l7 : List S58) (a8 a9 : Bool) (id other : Int)
    (hl : l0.length ≤ 9223372036854775807) (hle : ∀ c ∈ l0, c.f5.length ≤ 9223372036854775807) (hwf : l1.all wfP = true)
    (h0 : l0.length * 72 ≤ 140737488351232) (hc : ∀ c ∈ l0, okC c) (h1 : l1.length * 72 ≤ 140737488351232) (h7 : l7.length * 32 ≤ 140737488351232) :
    Tells (fun k => joustlaw07_MightAuras.f k l0 l1 a2 a3 a4 a5 a6 l7 a8 a9 id other) true := by
  obtain ⟨b, hg⟩ := great_tells l0 l1 a2 a3 a4 a5 a6 l7 a8 a9 hl hle
  unfold joustlaw07_MightAuras.f
  refine Tells.bind hg ?_
  cases b with
  | true => exact Tells.pos rfl (auras_none l0 l1 a2 a3 a4 a5 a6 l7 a8 a9 id other)
  | false =>
  refine Tells.neg (by decide) ?_
  refine Tells.bind (Tells.of fun k => (rfl : rmay.f k l0 l1 a2 a3 a4 a5 a6 l7 a8 a9 = some (mayB l0 l1 a2 a3 a4 a5))) ?_
  cases hm : mayB l0 l1 a2 a3 a4 a5 with
  | false => exact Tells.neg (by decide) (auras_none l0 l1 a2 a3 a4 a5 a6 l7 a8 a9 id other)
  | true =>
  refine Tells.pos rfl ?_
  by_cases hi0 : id < 0
  · exact Tells.pos hi0 (auras_none l0 l1 a2 a3 a4 a5 a6 l7 a8 a9 id other)
  refine Tells.neg hi0 ?_
  by_cases hi1 : id ≥ (l1.length : Int)
  · rw [decide_eq_true hi1]; exact auras_none l0 l1 a2 a3 a4 a5 a6 l7 a8 a9 id other
  rw [decide_eq_false hi1]
  obtain ⟨i, rfl⟩ : ∃ i : Nat, id = (i : Int) := ⟨id.toNat, by omega⟩
  have hil : i < l1.length := by omega
  have hcopy := copy_tells l0 l1 a2 a3 a4 a5 a6 l7 a8 a9 h0 hc h1 h7
  refine Tells.succ (fun k => by rw [joustlaw07_MightAuras.j0]) (Tells.neg (by decide) ?_)
  refine Tells.bind hcopy ?_
  have hloop := auras_loop l0 l1 a2 a3 a4 a5 a6 l7 a8 a9 (i : Int) other (by omega) true ?_ l1.length 0 rfl
  · exact hloop
  -- behind the loop
  obtain ⟨p, hp⟩ : ∃ p, rd_T35 l1 (i : Int) = p := ⟨_, rfl⟩
  have hpm : p ∈ l1 := by rw [← hp, rd_at l1 i hil]; exact List.getElem_mem hil
  have hpo := ok_def (may_ok hm p hpm)
  have hdn := alk_map false l1
  have hrdn : rd_T35 (l1.map (trn false)) (i : Int) = trn false p := by
    rw [rd_at _ i (by simpa using hil), List.getElem_map, ← rd_at l1 i hil, hp]
  have hn : attackB l0 l1 a2 a3 a4 a5 (i : Int) = attackV l0 l1 (i : Int) := by unfold attackB; rw [if_pos ⟨by omega, by omega, hm⟩]
  have hd : attackB l0 (l1.map (trn false)) a2 a3 a4 a5 (i : Int) = put3 (p.f1 + put3 p.f13 (-99999) 99999) 0 99999 := by
    unfold attackB
    rw [if_pos ⟨by omega, by rw [List.length_map]; omega, by rw [hdn.may]; exact hm⟩]
    unfold attackV
    rw [aura_down, hrdn]
    show put3 (p.f1 + put3 p.f13 (-99999) 99999 + 0) 0 99999 = _
    rw [Int.add_zero]
  have hb13 := put3_bd p.f13 (-99999) 99999 (by omega)
  have hwr : wrap64 (p.f1 + put3 p.f13 (-99999) 99999) = p.f1 + put3 p.f13 (-99999) 99999 := by unfold wrap64; omega
  have hgv := given_bd l0 l1 p (i : Int) (auraL l0 l1 0)
  have hav : attackV l0 l1 (i : Int) = put3 (p.f1 + put3 p.f13 (-99999) 99999 + givenV l0 l1 p (i : Int) (auraL l0 l1 0)) 0 99999 := by unfold attackV; rw [hp]
  have hge : put3 (p.f1 + put3 p.f13 (-99999) 99999) 0 99999 ≤ attackV l0 l1 (i : Int) := by rw [hav]; exact put3_mono (by omega)
  have hle9 : attackV l0 l1 (i : Int) ≤ 99999 := by rw [hav]; exact (put3_bd _ 0 99999 (by omega)).2
  refine Tells.succ (fun k => by rw [joustlaw07_MightAuras.l0]) ?_
  refine Tells.neg (by omega) (Tells.pos (by omega) (Tells.pos (by omega) ?_))
  refine Tells.bind (Tells.of fun k => att_f l0 l1 a2 a3 a4 a5 a6 l7 a8 a9 hwf k (i : Int)) ?_
  refine Tells.bind (Tells.of fun k => att_f l0 (l1.map (trn false)) a2 a3 a4 a5 a6 l7 a8 a9 (by rw [hdn.wf]; exact hwf) k (i : Int)) ?_
  rw [hp, hn, hd]
  change Tells (fun k => if put3 (p.f1 + put3 p.f13 (-99999) 99999) 0 99999 = put3 (wrap64 (p.f1 + put3 p.f13 (-99999) 99999)) 0 99999 then _ else _) true
  rw [hwr]
  refine Tells.pos rfl ?_
  change Tells (fun k => if attackV l0 l1 (i : Int) < put3 (wrap64 (p.f1 + put3 p.f13 (-99999) 99999)) 0 99999 then _ else _) true
  rw [hwr]
  refine Tells.neg (by omega) (Tells.neg (by omega) ?_)
  -- turned up, one of them
  have hend : Tells (fun k => joustlaw07_MightAuras.j2 k (i : Int) other (attackV l0 l1 (i : Int)) false l0 l1 a2 a3 a4 a5 a6 l7 a8 a9) true := by
    refine Tells.succ (fun k => by rw [joustlaw07_MightAuras.j2]) (Tells.neg (by decide) ?_)
    have hno : Tells (fun k => joustlaw07_MightAuras.j3 k (i : Int) other (attackV l0 l1 (i : Int)) true l0 l1 a2 a3 a4 a5 a6 l7 a8 a9) true :=
      by
        refine Tells.succ (fun k => by rw [joustlaw07_MightAuras.j3]) ?_
        exact Tells.pos rfl (Tells.of fun k => rfl)
    by_cases ho0 : other < 0
    · exact Tells.pos ho0 hno
    refine Tells.neg ho0 ?_
    by_cases ho1 : other ≥ (l1.length : Int)
    · rw [decide_eq_true ho1]; exact hno
    rw [decide_eq_false ho1]
    obtain ⟨j, rfl⟩ : ∃ j : Nat, other = (j : Int) := ⟨other.toNat, by omega⟩
    have hjl : j < l1.length := by omega
    refine Tells.succ (fun k => by rw [joustlaw07_MightAuras.j3]) (Tells.neg (by decide) ?_)
    refine Tells.bind hcopy ?_
    refine Tells.pos (by omega) (Tells.pos (by show (j : Int) < (l1.length : Int); omega) ?_)
    simp only [trn_eta, Int.toNat_natCast]
    have hq : rd_T35 l1 (j : Int) = l1[j] := rd_at l1 j hjl
    have hgd : l1.getD j ⟨0, 0, 0, 0, 0, 0, 0, false, false, 0, 0, false, false, 0⟩ = l1[j] := by rw [List.getD_eq_getElem?_getD, List.getElem?_eq_getElem hjl]; rfl
    have hup : Alk l1 (l1.set j (trn true l1[j])) := alk_set true l1 j _ (fun p' hp' => by rw [List.getElem?_eq_getElem hjl] at hp'; rw [Option.some.inj hp'])
    rw [hq]
    refine Tells.bind (Tells.of fun k => att_f l0 (l1.set j (trn true l1[j])) a2 a3 a4 a5 a6 l7 a8 a9 (by rw [hup.wf]; exact hwf) k (i : Int)) ?_
    refine Tells.pos ?_ (Tells.of fun k => rfl)
    show attackB l0 (l1.set j (trn true l1[j])) a2 a3 a4 a5 (i : Int) ≥ attackV l0 l1 (i : Int)
    unfold attackB
    rw [if_pos ⟨by omega, by rw [List.length_set]; omega, by rw [hup.may]; exact hm⟩]
    have hsub := aura_up l0 l1 j 0
    rw [hgd] at hsub
    unfold attackV
    obtain ⟨q, hqq⟩ : ∃ q, rd_T35 (l1.set j (trn true l1[j])) (i : Int) = q := ⟨_, rfl⟩
    rw [hp, hqq]
    have hqp : q = p ∨ q = trn true p := by
      rw [← hqq, rd_at _ i (by rw [List.length_set]; exact hil)]
      by_cases e : j = i
      · subst e
        right
        rw [List.getElem_set_self, ← rd_at l1 j hjl, hp]
      · left
        rw [List.getElem_set_ne e, ← rd_at l1 i hil, hp]
    have e1 : q.f1 = p.f1 := by rcases hqp with e | e <;> rw [e] <;> rfl
    have e13 : q.f13 = p.f13 := by rcases hqp with e | e <;> rw [e] <;> rfl
    rw [e1, e13]
    refine put3_mono ?_
    have hfold := fold_mono l0 l1 (l1.set j (trn true l1[j])) p q (i : Int) (fun x hx => ?_) hsub 0 0 (Int.le_refl _) (Int.le_refl _) (by omega)
    · unfold givenV; omega
    · rw [Bool.and_eq_true] at hx ⊢
      have e5 : q.f5 = p.f5 := by rcases hqp with e | e <;> rw [e] <;> rfl
      refine ⟨by rw [e5]; exact hx.1, ?_⟩
      have hfr : (rd_T35 (l1.set j (trn true l1[j])) x.1).f4 = (rd_T35 l1 x.1).f4 := by
        unfold rd_T35
        rw [List.getD_eq_getElem?_getD, List.getD_eq_getElem?_getD, List.getElem?_set]
        by_cases e : j = x.1.toNat
        · rw [if_pos e, if_pos hjl, ← e, List.getElem?_eq_getElem hjl]; rfl
        · rw [if_neg e]
      rw [hfr]
      have hpk := hx.2
      unfold pickB ofB at hpk ⊢
      rw [hp] at hpk
      rw [hqq]
      rcases hqp with e | e
      · rw [e]; exact hpk
      · rw [e]
        have hs : sideB (trn true p) (rd_T35 l1 x.1).f4 x.1 x.2.f4.f0 (i : Int) = sideB p (rd_T35 l1 x.1).f4 x.1 x.2.f4.f0 (i : Int) := rfl
        have hk : kindV l0 (trn true p) = kindV l0 p := rfl
        have h5 : (trn true p).f5 = p.f5 := rfl
        have hsn : seenB (trn true p) = true := rfl
        rw [hs, hk, h5, hsn, Bool.true_and]
        rw [Bool.and_eq_true, Bool.or_eq_true, Bool.and_eq_true] at hpk ⊢
        exact ⟨hpk.1, hpk.2.imp id (fun h => ((Bool.and_eq_true _ _).mp h).2)⟩
  by_cases hz : p.f5 = 2
  · exact Tells.pos hz hend
  · refine Tells.neg hz ?_
    have hflat : attackV l0 l1 (i : Int) = put3 (p.f1 + put3 p.f13 (-99999) 99999) 0 99999 := by
      rw [hav]
      have : ∀ (xs : List (Int × S107)) (g : Int), xs.foldl (addG l0 l1 p (i : Int)) g = g := by
        intro xs
        induction xs with
        | nil => intro g; rfl
        | cons x r ih =>
          intro g
          rw [List.foldl_cons, ih]
          unfold addG
          rw [if_neg (by rw [beq_eq_false_iff_ne.2 hz]; simp)]
      unfold givenV
      rw [this, Int.add_zero]
    change Tells (fun k => joustlaw07_MightAuras.j2 k (i : Int) other (attackV l0 l1 (i : Int)) (attackV l0 l1 (i : Int) != put3 (wrap64 (p.f1 + put3 p.f13 (-99999) 99999)) 0 99999) l0 l1 a2 a3 a4 a5 a6 l7 a8 a9) true
    rw [hwr, show (attackV l0 l1 (i : Int) != put3 (p.f1 + put3 p.f13 (-99999) 99999) 0 99999) = false by rw [hflat]; exact bne_self_eq_false _]
    exact hend
end Go.Proofs.Ytlldpdhajddmiaa.Pure
end
section
/- MightAuras: without an aura that is up a piece has its own attack and its boost; with one more up no piece has less; for every input. -/
namespace Go.Proofs.Ytlldpdhajddmiaa.Pure
open Go.RowKit Go.Proofs.Ytlldpdhajddmiaa.Base Go.Proofs.YtlldpdhajddmiaaW.PrintWords Go.Proofs.YtlldpdhajddmiaaW.PrintLast Go.Proofs.Ytlldpdhajddmiaa.Pmga Go.Proofs.Ytlldpdhajddmiaa.Pmgu
set_option linter.unusedVariables false
theorem MightAuras_walk (A0_0 : Option Addr) (c0_0 : Nat) (l0_0 : List (S97)) (A0_1 : Option Addr) (c0_1 : Nat) (l0_1 : List (S35)) (a0_2_0 : Int) (a0_2_1 : Int) (a0_3 : Int) (a0_4 : Int) (a0_5 : Int) (A0_6 : Option Addr) (c0_6 : Nat) (l0_6 : List (S58)) (a0_7_0 : Bool) (a0_7_1 : Bool) (a1 : Int) (a2 : Int) (w : World)
    (hc0_0 : l0_0.length ≤ c0_0) (hr0_0 : Kd.C (k97) w A0_0 l0_0.length l0_0) (hw0_0 : (l0_0.length * Try.prog.bytesOf 97 ≤ reachBytes ∧ l0_0.length ≤ maxLen ∧ ∀ y ∈ l0_0, Opens.ok97 y)) (hc0_1 : l0_1.length ≤ c0_1) (hr0_1 : Kd.C (k35) w A0_1 l0_1.length l0_1) (hw0_1 : (l0_1.length * Try.prog.bytesOf 35 ≤ reachBytes ∧ l0_1.length ≤ maxLen ∧ ∀ y ∈ l0_1, Opens.ok35 y)) (hw0_2_0 : (Lit.int .i64 a0_2_0).wf = true) (hw0_2_1 : (Lit.int .i64 a0_2_1).wf = true) (hw0_3 : (Lit.int .i64 a0_3).wf = true) (hw0_4 : (Lit.int .u8 a0_4).wf = true) (hw0_5 : (Lit.int .i64 a0_5).wf = true) (hc0_6 : l0_6.length ≤ c0_6) (hr0_6 : Kd.C (k58) w A0_6 l0_6.length l0_6) (hw0_6 : (l0_6.length * Try.prog.bytesOf 58 ≤ reachBytes ∧ l0_6.length ≤ maxLen ∧ ∀ y ∈ l0_6, Opens.ok58 y)) (hw1 : (Lit.int .i64 a1).wf = true) (hw2 : (Lit.int .i64 a2).wf = true) :
    Calls Try.prog 4 #[.agg #[.slice A0_0 l0_0.length c0_0, .slice A0_1 l0_1.length c0_1, .int .i64 a0_2_0, .int .i64 a0_2_1, .int .i64 a0_3, .int .u8 a0_4, .int .i64 a0_5, .slice A0_6 l0_6.length c0_6, .bool a0_7_0, .bool a0_7_1], .int .i64 a1, .int .i64 a2] w fun e w' => e = .returned (.bool true) ∧ Below w.heap.size w w' := by
  obtain ⟨k, h⟩ := (MightAuras_tells l0_0 l0_1 a0_2_0 a0_2_1 a0_3 a0_4 a0_5 l0_6 a0_7_0 a0_7_1 a1 a2 hw0_0.2.1 (eff_len hw0_0.2.2) (wf_all hw0_1.2.2) (len_le hw0_0.1 bytes_ca) (fun c hc => okC_of (hw0_0.2.2 c hc)) (len_le hw0_1.1 bytes_pi) (len_le hw0_6.1 bytes_ev)).exists
  exact Pmgu.joustlaw07_MightAuras.calls k A0_0 c0_0 l0_0 A0_1 c0_1 l0_1 a0_2_0 a0_2_1 a0_3 a0_4 a0_5 A0_6 c0_6 l0_6 a0_7_0 a0_7_1 a1 a2 true w hr0_0 hc0_0 hr0_1 hc0_1 hr0_6 hc0_6 h
end Go.Proofs.Ytlldpdhajddmiaa.Pure
end
