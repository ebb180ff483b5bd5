/- Joined by a program of this session (pack.py) out of: Liv7 BaseMs Mgrt Mwf -/
import Derived.Test.YtlldpdhajddmiaaKmsd6
import Derived.Test.YtlldpdhajddmiaaKmsd8
import Derived.Test.YtlldpdhajddmiaaKmsd10
import Derived.Test.YtlldpdhajddmiaaKmsd11
section
/- What the statements of might tell of a table of their own: true. -/
namespace Go.Proofs.Ytlldpdhajddmiaa.Base
open Go Go.RowKit Go.Proofs.Ytlldpdhajddmiaa.Bmay Go.Proofs.Ytlldpdhajddmiaa.Pmga Go.Proofs.YtlldpdhajddmiaaW.PrintWords Go.Proofs.YtlldpdhajddmiaaW.PrintLast Go.Proofs.YtlldpdhajddmiaaW.PrintMore
set_option linter.unusedSimpArgs false
set_option linter.unusedVariables false
set_option maxRecDepth 100000
set_option maxHeartbeats 8000000
theorem tab7_att (b0 b1 : Nat) (w : World) (h0 : Kd.C k97 w (some ⟨b0, 0, none⟩) 2 joustlaw07_table_k) (h1 : Kd.C k35 w (some ⟨b1, 0, none⟩) 3 joustlaw07_table_p) (id r : Int) (hr : might_Attack.f 0 joustlaw07_table_k joustlaw07_table_p 0 0 1 0 0 [] false false id = some r) :
    Calls Try.prog 19 #[.agg #[.slice (some ⟨b0, 0, none⟩) 2 2, .slice (some ⟨b1, 0, none⟩) 3 3, .int .i64 0, .int .i64 0, .int .i64 1, .int .u8 0, .int .i64 0, .slice none 0 0, .bool false, .bool false], .int .i64 id] w fun e w' => e = .returned (.int .i64 r) ∧ Below w.heap.size w w' :=
  might_Attack.calls 0 _ 2 joustlaw07_table_k _ 3 joustlaw07_table_p 0 0 1 0 0 none 0 [] false false id r w h0 (Nat.le_refl 2) h1 (Nat.le_refl 3) (Kd.C_nil _ _) (Nat.le_refl 0) hr
theorem tab7_of (b0 b1 : Nat) (w : World) (h0 : Kd.C k97 w (some ⟨b0, 0, none⟩) 2 joustlaw07_table_k) (h1 : Kd.C k35 w (some ⟨b1, 0, none⟩) 3 joustlaw07_table_p) :
    Calls Try.prog 17 #[.agg #[.slice (some ⟨b0, 0, none⟩) 2 2, .slice (some ⟨b1, 0, none⟩) 3 3, .int .i64 0, .int .i64 0, .int .i64 1, .int .u8 0, .int .i64 0, .slice none 0 0, .bool false, .bool false], .int .u8 0, .int .i64 0, .agg #[.int .u8 0, .int .u8 2, .int .u8 0], .int .i64 1] w fun e w' => e = .returned (.bool true) ∧ Below w.heap.size w w' :=
  Pmgc.might_Of.calls 0 _ 2 joustlaw07_table_k _ 3 joustlaw07_table_p 0 0 1 0 0 none 0 [] false false 0 0 0 2 0 1 true w h0 (Nat.le_refl 2) h1 (Nat.le_refl 3) (Kd.C_nil _ _) (Nat.le_refl 0) (by as_aux_lemma => kernel_rfl)
theorem tab7_1300 : might_Attack.f 0 joustlaw07_table_k joustlaw07_table_p 0 0 1 0 0 [] false false 0 = some 1300 := by as_aux_lemma => kernel_rfl
theorem tab7_500 : might_Attack.f 0 joustlaw07_table_k joustlaw07_table_p 0 0 1 0 0 [] false false 1 = some 500 := by as_aux_lemma => kernel_rfl
theorem tab7_500' : might_Attack.f 0 joustlaw07_table_k joustlaw07_table_p 0 0 1 0 0 [] false false 2 = some 500 := by as_aux_lemma => kernel_rfl
def joustlaw07_lives.f : Option Bool := some true
theorem joustlaw07_lives.calls (r : Bool) (w : World) (h : joustlaw07_lives.f = some r) : Calls Try.prog 16 #[] w fun e w' => e = .returned (.bool r) ∧ Below w.heap.size w w' := by
  obtain rfl := (Option.some.inj h).symm
  clear h
  go_enter Try.func16, Try.ntmps16
  go_upto_region 2 with (go_at_call 64; refine (joustlaw07_table_walk _).mono ?_; rintro e w1 ⟨b0, b1, rfl, hk, hp, hb⟩; have HB := Lib.hid hb; have HK := Lib.hid hk; have HP := Lib.hid hp; clear hb hk hp)
  have hB0 : Below w.heap.size w (w1.alloc (.cells #[.slice (some ⟨b0, 0, none⟩) 2 2, .slice (some ⟨b1, 0, none⟩) 3 3, .int .i64 0, .int .i64 0, .int .i64 1, .int .u8 0, .int .i64 0, .slice none 0 0, .bool false, .bool false] 28)) := balloc HB.out _
  have hT0 := Blk.new w1 28 #[.slice (some ⟨b0, 0, none⟩) 2 2, .slice (some ⟨b1, 0, none⟩) 3 3, .int .i64 0, .int .i64 0, .int .i64 1, .int .u8 0, .int .i64 0, .slice none 0 0, .bool false, .bool false]
  have hK0 := Kd.C_alloc HK.out (.cells #[.slice (some ⟨b0, 0, none⟩) 2 2, .slice (some ⟨b1, 0, none⟩) 3 3, .int .i64 0, .int .i64 0, .int .i64 1, .int .u8 0, .int .i64 0, .slice none 0 0, .bool false, .bool false] 28)
  have hP0 := Kd.C_alloc HP.out (.cells #[.slice (some ⟨b0, 0, none⟩) 2 2, .slice (some ⟨b1, 0, none⟩) 3 3, .int .i64 0, .int .i64 0, .int .i64 1, .int .u8 0, .int .i64 0, .slice none 0 0, .bool false, .bool false] 28)
  obtain ⟨g, hg⟩ : ∃ g, w1.heap.size = g := ⟨_, rfl⟩
  obtain ⟨W0, hW0⟩ : ∃ W, w1.alloc (.cells #[.slice (some ⟨b0, 0, none⟩) 2 2, .slice (some ⟨b1, 0, none⟩) 3 3, .int .i64 0, .int .i64 0, .int .i64 1, .int .u8 0, .int .i64 0, .slice none 0 0, .bool false, .bool false] 28) = W := ⟨_, rfl⟩
  rw [hW0] at hB0 hT0 hK0 hP0 ⊢
  rw [hg] at hT0 ⊢
  have HB0 := Lib.hid hB0
  have HT0 := Lib.hid hT0
  have HK0 := Lib.hid hK0
  have HP0 := Lib.hid hP0
  have t0 := hT0.cell
  clear hB0 hT0 hK0 hP0 hW0 hg HB HK HP
  go_wp2_with (first
    | (go_at_call 19; refine (tab7_att b0 b1 _ HK0.out HP0.out 0 1300 tab7_1300).mono ?_; rintro e w2 ⟨rfl, hb2⟩; have HB2 := Lib.hid (bstep HB0.out hb2); have HT2 := Lib.hid (HT0.out.after hb2); have HK2 := Lib.hid (Kd.C_below HK0.out hb2); have HP2 := Lib.hid (Kd.C_below HP0.out hb2); have t2 := HT2.out.cell; clear t0 HB0 HT0 HK0 HP0 hb2)
    | (go_at_call 19; refine (tab7_att b0 b1 _ HK2.out HP2.out 1 500 tab7_500).mono ?_; rintro e w3 ⟨rfl, hb3⟩; have HB3 := Lib.hid (bstep HB2.out hb3); have HT3 := Lib.hid (HT2.out.after hb3); have HK3 := Lib.hid (Kd.C_below HK2.out hb3); have HP3 := Lib.hid (Kd.C_below HP2.out hb3); have t3 := HT3.out.cell; clear t2 HB2 HT2 HK2 HP2 hb3)
    | (go_at_call 19; refine (tab7_att b0 b1 _ HK3.out HP3.out 2 500 tab7_500').mono ?_; rintro e w4 ⟨rfl, hb4⟩; have HB4 := Lib.hid (bstep HB3.out hb4); have HT4 := Lib.hid (HT3.out.after hb4); have HK4 := Lib.hid (Kd.C_below HK3.out hb4); have HP4 := Lib.hid (Kd.C_below HP3.out hb4); have t4 := HT4.out.cell; clear t3 HB3 HT3 HK3 HP3 hb4)
    | (go_at_call 17; refine (tab7_of b0 b1 _ HK4.out HP4.out).mono ?_; rintro e w5 ⟨rfl, hb5⟩; have HB5 := Lib.hid (bstep HB4.out hb5); clear t4 HB4 HT4 HK4 HP4 hb5))
  go_ret
  exact ⟨rfl, HB5.out⟩
end Go.Proofs.Ytlldpdhajddmiaa.Base
end
section
/- What the statements of might take as given. -/
end
section
/- Plain words that the statements of might share: what is too great, one of a Sel. -/
namespace Go.Proofs.Ytlldpdhajddmiaa.Pure
open Go.RowKit Go.Proofs.Ytlldpdhajddmiaa.Base Go.Proofs.Ytlldpdhajddmiaa.Bmay Go.Proofs.YtlldpdhajddmiaaW.PrintWords Go.Proofs.Ytlldpdhajddmiaa.Pmga
section
variable (l0 : List S97) (l1 : List PS) (a2 a3 a4 a5 a6 : Int) (l7 : List S58) (a8 a9 : Bool)
theorem great_l1 (hl : l0.length ≤ 9223372036854775807) (hle : ∀ c ∈ l0, c.f5.length ≤ 9223372036854775807) : ∀ (e d : Nat) (x3 : Int) (i j : Nat), d + i = l0.length → i < l0.length → e + j = (rd_T97 l0 (i : Int)).f5.length →
    (∀ y3, ∃ b, Tells (fun k => joustlaw07_great.l0 k y3 (l0.length : Int) ((i + 1 : Nat) : Int) l0 l1 a2 a3 a4 a5 a6 l7 a8 a9) b) →
    ∃ b, Tells (fun k => joustlaw07_great.l1 k x3 (i : Int) (l0.length : Int) (i : Int) (((rd_T97 l0 (i : Int)).f5).length : Int) (j : Int) l0 l1 a2 a3 a4 a5 a6 l7 a8 a9) b
  | 0, d, x3, i, j, hd, hi, he, H => by
    obtain ⟨b, hb⟩ := H x3
    refine ⟨b, Tells.succ (fun k => by rw [joustlaw07_great.l1]) (Tells.neg (by omega) ?_)⟩
    rw [show wrap64 ((i : Int) + 1) = ((i + 1 : Nat) : Int) by unfold wrap64; omega]
    exact hb
  | e + 1, d, x3, i, j, hd, hi, he, H => by
    obtain ⟨b, hb⟩ := great_l1 hl hle e d (wrap64 ((wrap64 (x3 + 1)) + (((rd_T88 ((rd_T97 l0 (i : Int)).f5) (j : Int)).f9).length : Int))) i (j + 1) hd hi (by omega) H
    refine ⟨b, Tells.succ (fun k => by rw [joustlaw07_great.l1]) (Tells.pos (by omega) (Tells.pos (by omega) (Tells.pos (by omega) (Tells.pos (by omega) (Tells.pos (by omega) ?_)))))⟩
    have hm : rd_T97 l0 (i : Int) ∈ l0 := by
      unfold rd_T97
      rw [Int.toNat_natCast, List.getD_eq_getElem?_getD, List.getElem?_eq_getElem hi]
      exact List.getElem_mem hi
    have := hle _ hm
    rw [show wrap64 ((j : Int) + 1) = ((j + 1 : Nat) : Int) by unfold wrap64; omega]
    exact hb
theorem great_l0 (hl : l0.length ≤ 9223372036854775807) (hle : ∀ c ∈ l0, c.f5.length ≤ 9223372036854775807) : ∀ (d i : Nat), d + i = l0.length → ∀ x3, ∃ b, Tells (fun k => joustlaw07_great.l0 k x3 (l0.length : Int) (i : Int) l0 l1 a2 a3 a4 a5 a6 l7 a8 a9) b
  | 0, i, hd, x3 => by
    by_cases h1 : (l1.length : Int) > 149
    · exact ⟨true, Tells.succ (fun k => by rw [joustlaw07_great.l0]) (Tells.neg (by omega) (Tells.pos h1 (Tells.const _)))⟩
    by_cases h2 : (l0.length : Int) > 100
    · exact ⟨true, Tells.succ (fun k => by rw [joustlaw07_great.l0]) (Tells.neg (by omega) (Tells.neg h1 (Tells.pos h2 (Tells.const _))))⟩
    exact ⟨_, Tells.succ (fun k => by rw [joustlaw07_great.l0]) (Tells.neg (by omega) (Tells.neg h1 (Tells.neg h2 (Tells.const _))))⟩
  | d + 1, i, hd, x3 => by
    obtain ⟨b, hb⟩ := great_l1 l0 l1 a2 a3 a4 a5 a6 l7 a8 a9 hl hle _ (d + 1) x3 i 0 hd (by omega) (Nat.add_zero _) (fun y3 => great_l0 hl hle d (i + 1) (by omega) y3)
    refine ⟨b, ?_⟩
    refine Tells.succ (fun k => by rw [joustlaw07_great.l0]) ?_
    refine Tells.pos (by omega) (Tells.pos (by omega) (Tells.pos (by omega) ?_))
    exact hb
theorem great_tells (hl : l0.length ≤ 9223372036854775807) (hle : ∀ c ∈ l0, c.f5.length ≤ 9223372036854775807) : ∃ b, Tells (fun k => joustlaw07_great.f k l0 l1 a2 a3 a4 a5 a6 l7 a8 a9) b :=
  great_l0 l0 l1 a2 a3 a4 a5 a6 l7 a8 a9 hl hle l0.length 0 rfl 0
def knownB (id : Int) : Bool := decide (0 ≤ id) && (decide (id < (l1.length : Int)) && mayB l0 l1 a2 a3 a4 a5)
def ofV (who frm s0 s1 s2 id : Int) : Bool := knownB l0 l1 a2 a3 a4 a5 id && (decide (who < 2) && pickB l0 l1 who frm s0 s1 s2 id)
theorem may_f (hwf : l1.all wfP = true) (k : Nat) : board_May.f k l0 l1 a2 a3 a4 a5 a6 l7 a8 a9 = some (mayB l0 l1 a2 a3 a4 a5) := by unfold board_May.f; rw [if_pos hwf]
theorem known_f (hwf : l1.all wfP = true) (k : Nat) (id : Int) : Pmgb.might_known.f k l0 l1 a2 a3 a4 a5 a6 l7 a8 a9 id = some (knownB l0 l1 a2 a3 a4 a5 id) := by
  unfold Pmgb.might_known.f knownB
  by_cases h1 : id ≥ 0
  · rw [if_pos h1, decide_eq_true (show 0 ≤ id from h1), Bool.true_and]
    by_cases h2 : id < (l1.length : Int)
    · rw [if_pos h2, may_f l0 l1 a2 a3 a4 a5 a6 l7 a8 a9 hwf, decide_eq_true h2, Bool.true_and]; rfl
    · rw [if_neg h2, decide_eq_false h2, Bool.false_and]
  · rw [if_neg h1, decide_eq_false (show ¬ 0 ≤ id from h1), Bool.false_and]
theorem of_f (hwf : l1.all wfP = true) (k : Nat) (who frm s0 s1 s2 id : Int) : Pmgc.might_Of.f k l0 l1 a2 a3 a4 a5 a6 l7 a8 a9 who frm s0 s1 s2 id = some (ofV l0 l1 a2 a3 a4 a5 who frm s0 s1 s2 id) := by
  unfold Pmgc.might_Of.f ofV
  rw [known_f l0 l1 a2 a3 a4 a5 a6 l7 a8 a9 hwf, Option.bind_some]
  cases hk : knownB l0 l1 a2 a3 a4 a5 id with
  | false => rw [if_neg (by decide), Bool.false_and]
  | true =>
    rw [if_pos rfl, Bool.true_and]
    by_cases hw : who < 2
    · rw [if_pos hw, decide_eq_true hw, Bool.true_and]
      unfold might_of.f
      unfold knownB at hk
      simp only [Bool.and_eq_true, decide_eq_true_eq] at hk
      rw [if_pos ⟨hk.1, hk.2.1⟩]
      rfl
    · rw [if_neg hw, decide_eq_false hw, Bool.false_and]
end
end Go.Proofs.Ytlldpdhajddmiaa.Pure
end
section
/- What the readings of a table tell: its pieces' numbers are of their kinds, its lists are not too long. -/
namespace Go.Proofs.Ytlldpdhajddmiaa.Pure
open Go.RowKit Go.Proofs.Ytlldpdhajddmiaa.Base Go.Proofs.Ytlldpdhajddmiaa.Bmay Go.Proofs.YtlldpdhajddmiaaW.PrintWords Go.Proofs.Ytlldpdhajddmiaa.Pmga
theorem u8_lo {z : Int} (h : (Lit.int .u8 z).wf = true) : 0 ≤ z := by simp [Lit.wf, IntKind.min, IntKind.max, IntKind.signed, IntKind.bits] at h; omega
theorem wf_all {l : List PS} (h : ∀ y ∈ l, Opens.ok35 y) : l.all wfP = true := by
  refine List.all_eq_true.2 fun p hp => ?_
  obtain ⟨_, _, _, h3, h4, h5, h6, _⟩ := h p hp
  unfold wfP
  rw [h3, h4, h5, h6]
  rfl
theorem eff_len {l : List S97} (h : ∀ y ∈ l, Opens.ok97 y) : ∀ c ∈ l, c.f5.length ≤ 9223372036854775807 := fun c hc => (h c hc).2.2.2.2.2.2.1
end Go.Proofs.Ytlldpdhajddmiaa.Pure
end
