/- Joined by a program of this session (pack.py) out of: PureMatchTells WalkMatchTells -/
import Derived.Test.YtnceobnglofnmaaKmtt7
import Derived.Test.YtnceobnglofnmaaKmtt8
section
/- Whether any event fits, any events set an effect off, and the last link is of a side, is the document's: the plain law. -/
namespace Go.Proofs.Ytnceobnglofnmaa.Pure
open Go.RowKit Go.Proofs.Ytnceobnglofnmaa.Base Go.Proofs.Ytnceobnglofnmaa.Pmtb Go.Proofs.Ytnceobnglofnmaa.Mtt Go.Proofs.Ytnceobnglofnmaa.Mat Go.Proofs.Ytnceobnglofnmaa.Pmts Go.Proofs.YtnceobnglofnmaaW.PrintWords Go.Proofs.YtnceobnglofnmaaW.PrintLast
theorem lives11 : joustlaw11_lives.f = some true := by kernel_rfl
theorem lives11_bind : Tells (fun _ => (joustlaw11_lives.f).bind fun t => some t) true := Tells.of fun _ => by rw [lives11]; rfl
theorem link_same (who side : Int) (l : List S92) (h0 : 0 ≤ who) (h1 : 0 ≤ side) (h2 : side ≤ 255) (hl : l.length < 4398046511104) : ∃ b, Pmtb.match_Link.f who side l = some b ∧ Pmtb.joustref11_Link.f who side l = some b := by
  unfold Pmtb.match_Link.f Pmtb.joustref11_Link.f
  by_cases hz : (l.length : Int) = 0
  · exact ⟨false, by rw [if_neg (by omega)], by rw [if_pos hz]⟩
  · have hw : wrap64 ((l.length : Int) - 1) = (l.length : Int) - 1 := wrap_i (by omega) (by omega)
    rw [hw, if_pos (by omega), if_pos (by omega), if_pos (by omega), side_m _ _ _ _ h0 h1 h2, if_neg hz, Option.bind_some]
    generalize (rd_T92 l ((l.length : Int) - 1)).f0 = f
    refine ⟨_, rfl, ?_⟩
    by_cases hw : who > 1
    · rw [if_pos hw, if_pos (by omega)]
    · rw [if_neg hw, if_pos (by omega), if_pos (by omega), if_neg (show ¬ 2 ≤ who by omega)]
      have hm : (1 - who) % 256 = 1 - who := by omega
      rw [hm]
      by_cases s0 : side = 0
      · subst s0
        by_cases e : f = who
        · simp [e]
        · simp [e]
      · by_cases s1 : side = 1
        · subst s1
          by_cases e : f = 1 - who
          · simp [e]
          · simp [e]
        · by_cases s2 : side = 2
          · subst s2; simp
          · simp [s0, s1, s2]
section
variable (l0_0 : List (S95)) (l0_1 : List (S47)) (a0_2 : Int) (a0_3 : Int) (a0_4 : Int) (a0_5 : Int) (a0_6 : Int) (l0_7 : List (S38)) (a0_8 : Bool) (a0_9 : Bool) (a1 : Int) (a2 : Int) (a3_0 : Int) (a3_1 : Int) (a3_2 : Int) (l3_3 : List (S105)) (a3_4 : Int) (a3_5 : Int) (a3_6 : Bool) (a3_7 : Int) (a3_8 : Int) (a3_9 : Int) (a3_10 : Int) (l3_11 : List (S107)) (l4 : List (S38)) (l5 : List (S92))
theorem l1_tells (hl : l4.length < 4398046511104) (d : Nat) : ∀ i : Nat, i + d = l4.length → Tells (fun k => joustlaw11_MatchTells.l1 k l4 l4 (l4.length : Int) (i : Int)) true := by
  induction d with
  | zero =>
    intro i hi
    exact Tells.succ (fun k => by rw [joustlaw11_MatchTells.l1]) (Tells.neg (by omega) lives11_bind)
  | succ d ih =>
    intro i hi
    have hw : wrap64 ((i : Int) + 1) = ((i + 1 : Nat) : Int) := by rw [wrap_i (by omega) (by omega)]; omega
    refine Tells.succ (fun k => by rw [joustlaw11_MatchTells.l1]) (Tells.pos (by omega) (Tells.pos (by omega) (Tells.pos (by omega) (Tells.pos (by omega) (Tells.neg ?_ ?_)))))
    · simp
    · rw [hw]; exact ih (i + 1) (by omega)
theorem l0_tells (h0 : 0 ≤ a1) (h1 : 0 ≤ a3_2) (h2 : a3_2 ≤ 255) (hl : l4.length < 4398046511104) (hl5 : l5.length < 4398046511104) (d : Nat) : ∀ i : Nat, i + d = l4.length →
    Tells (fun k => joustlaw11_MatchTells.l0 k a1 a2 l4 l5 l4 (l4.length : Int) (i : Int) l0_0 l0_1 a0_2 a0_3 a0_4 a0_5 a0_6 l0_7 a0_8 a0_9 a3_0 a3_1 a3_2 l3_3 a3_4 a3_5 a3_6 a3_7 a3_8 a3_9 a3_10 l3_11) true := by
  induction d with
  | zero =>
    intro i hi
    refine Tells.succ (fun k => by rw [joustlaw11_MatchTells.l0, off_m _ _ _ _ _ _ _ _ _ _ _ _ _ _ _ _ _ _ _ _ _ _ _ _ _ h0 h1 h2, off_r _ _ _ _ _ _ _ _ _ _ _ _ _ _ _ _ _ _ _ _ _ _ _ _ _ h0]) (Tells.neg (by omega) ?_)
    obtain ⟨b, hb, hb'⟩ := link_same a1 a3_2 l5 h0 h1 h2 hl5
    rw [hb, hb']
    simp only [Option.bind_some]
    refine Tells.neg (by simp) ?_
    refine Tells.succ (fun k => by rw [joustlaw11_MatchTells.j2]) (Tells.neg (by simp) ?_)
    exact l1_tells l4 hl l4.length 0 (by omega)
  | succ d ih =>
    intro i hi
    have hw : wrap64 ((i : Int) + 1) = ((i + 1 : Nat) : Int) := by rw [wrap_i (by omega) (by omega)]; omega
    refine Tells.succ (fun k => by rw [joustlaw11_MatchTells.l0, fits_m _ _ _ _ _ _ _ _ h0 h1 h2]) (Tells.pos (by omega) (Tells.pos (by omega) (Tells.pos (by omega) ?_)))
    refine Tells.bind (f := fun _ => some _) (g := fun y k => _) (Tells.const _) ?_
    refine Tells.bind (g := fun y k => _) (Tells.succ (fun k => fits_r k _ _ _ _ _ _ _ _ h0) (Tells.const _)) (Tells.neg (by simp) ?_)
    rw [hw]; exact ih (i + 1) (by omega)
theorem MatchTells_tells (h0 : 0 ≤ a1) (h1 : 0 ≤ a3_2) (h2 : a3_2 ≤ 255) (hl : l4.length < 4398046511104) (hl5 : l5.length < 4398046511104) :
    Tells (fun k => joustlaw11_MatchTells.f k l0_0 l0_1 a0_2 a0_3 a0_4 a0_5 a0_6 l0_7 a0_8 a0_9 a1 a2 a3_0 a3_1 a3_2 l3_3 a3_4 a3_5 a3_6 a3_7 a3_8 a3_9 a3_10 l3_11 l4 l5) true := by
  have both : ∀ b, Tells (fun k => joustlaw11_MatchTells.j0 k a1 a2 l4 l5 b l0_0 l0_1 a0_2 a0_3 a0_4 a0_5 a0_6 l0_7 a0_8 a0_9 a3_0 a3_1 a3_2 l3_3 a3_4 a3_5 a3_6 a3_7 a3_8 a3_9 a3_10 l3_11) true := by
    intro b
    cases b with
    | true => exact Tells.succ (fun k => by rw [joustlaw11_MatchTells.j0]) (Tells.pos rfl lives11_bind)
    | false =>
      refine Tells.succ (fun k => by rw [joustlaw11_MatchTells.j0]) (Tells.neg (by decide) (Tells.pos (by simpa using hl) ?_))
      rw [List.nil_append]
      exact l0_tells l0_0 l0_1 a0_2 a0_3 a0_4 a0_5 a0_6 l0_7 a0_8 a0_9 a1 a2 a3_0 a3_1 a3_2 l3_3 a3_4 a3_5 a3_6 a3_7 a3_8 a3_9 a3_10 l3_11 l4 l5 h0 h1 h2 hl hl5 l4.length 0 (by omega)
  unfold joustlaw11_MatchTells.f
  by_cases h : (l4.length : Int) > 1000
  · exact Tells.pos h (both _)
  · exact Tells.neg h (both _)
end
end Go.Proofs.Ytnceobnglofnmaa.Pure
end
section
/- MatchTells: the walk out of the printed contract. -/
namespace Go.Proofs.Ytnceobnglofnmaa.Pure
open Go.RowKit Go.Proofs.Ytnceobnglofnmaa.Base Go.Proofs.YtnceobnglofnmaaW.PrintWords Go.Proofs.YtnceobnglofnmaaW.PrintLast Go.Proofs.Ytnceobnglofnmaa.Pmtb Go.Proofs.Ytnceobnglofnmaa.Mtt Go.Proofs.Ytnceobnglofnmaa.Pmts
set_option linter.unusedVariables false
theorem MatchTells_walk (A0_0 : Option Addr) (c0_0 : Nat) (l0_0 : List (S95)) (A0_1 : Option Addr) (c0_1 : Nat) (l0_1 : List (S47)) (a0_2_0 : Int) (a0_2_1 : Int) (a0_3 : Int) (a0_4 : Int) (a0_5 : Int) (A0_6 : Option Addr) (c0_6 : Nat) (l0_6 : List (S38)) (a0_7_0 : Bool) (a0_7_1 : Bool) (a1 : Int) (a2 : Int) (a3_0 : Int) (a3_1 : Int) (a3_2 : Int) (A3_3 : Option Addr) (c3_3 : Nat) (l3_3 : List (S105)) (a3_4 : Int) (a3_5 : Int) (a3_6 : Bool) (a3_7 : Int) (a3_8_0 : Int) (a3_8_1 : Int) (a3_8_2 : Int) (A3_9 : Option Addr) (c3_9 : Nat) (l3_9 : List (S107)) (A4 : Option Addr) (c4 : Nat) (l4 : List (S38)) (A5 : Option Addr) (c5 : Nat) (l5 : List (S92)) (w : World)
    (hc0_0 : l0_0.length ≤ c0_0) (hr0_0 : Kd.C (k95) w A0_0 l0_0.length l0_0) (hw0_0 : (l0_0.length * Try.prog.bytesOf 95 ≤ reachBytes ∧ l0_0.length ≤ maxLen ∧ ∀ y ∈ l0_0, Opens.ok95 y)) (hc0_1 : l0_1.length ≤ c0_1) (hr0_1 : Kd.C (k47) w A0_1 l0_1.length l0_1) (hw0_1 : (l0_1.length * Try.prog.bytesOf 47 ≤ reachBytes ∧ l0_1.length ≤ maxLen ∧ ∀ y ∈ l0_1, Opens.ok47 y)) (hw0_2_0 : (Lit.int .i64 a0_2_0).wf = true) (hw0_2_1 : (Lit.int .i64 a0_2_1).wf = true) (hw0_3 : (Lit.int .i64 a0_3).wf = true) (hw0_4 : (Lit.int .u8 a0_4).wf = true) (hw0_5 : (Lit.int .i64 a0_5).wf = true) (hc0_6 : l0_6.length ≤ c0_6) (hr0_6 : Kd.C (k38) w A0_6 l0_6.length l0_6) (hw0_6 : (l0_6.length * Try.prog.bytesOf 38 ≤ reachBytes ∧ l0_6.length ≤ maxLen ∧ ∀ y ∈ l0_6, Opens.ok38 y)) (hw1 : (Lit.int .u8 a1).wf = true) (hw2 : (Lit.int .i64 a2).wf = true) (hw3_0 : (Lit.int .u8 a3_0).wf = true) (hw3_1 : (Lit.int .u8 a3_1).wf = true) (hw3_2 : (Lit.int .u8 a3_2).wf = true) (hc3_3 : l3_3.length ≤ c3_3) (hr3_3 : Kd.C (k105) w A3_3 l3_3.length l3_3) (hw3_3 : (l3_3.length * Try.prog.bytesOf 105 ≤ reachBytes ∧ l3_3.length ≤ maxLen ∧ ∀ y ∈ l3_3, Opens.ok105 y)) (hw3_4 : (Lit.int .i64 a3_4).wf = true) (hw3_5 : (Lit.int .i64 a3_5).wf = true) (hw3_7 : (Lit.int .i64 a3_7).wf = true) (hw3_8_0 : (Lit.int .u8 a3_8_0).wf = true) (hw3_8_1 : (Lit.int .u8 a3_8_1).wf = true) (hw3_8_2 : (Lit.int .u8 a3_8_2).wf = true) (hc3_9 : l3_9.length ≤ c3_9) (hr3_9 : Kd.C (k107) w A3_9 l3_9.length l3_9) (hw3_9 : (l3_9.length * Try.prog.bytesOf 107 ≤ reachBytes ∧ l3_9.length ≤ maxLen ∧ ∀ y ∈ l3_9, Opens.ok107 y)) (hc4 : l4.length ≤ c4) (hr4 : Kd.C (k38) w A4 l4.length l4) (hw4 : (l4.length * Try.prog.bytesOf 38 ≤ reachBytes ∧ l4.length ≤ maxLen ∧ ∀ y ∈ l4, Opens.ok38 y)) (hc5 : l5.length ≤ c5) (hr5 : Kd.C (k92) w A5 l5.length l5) (hw5 : (l5.length * Try.prog.bytesOf 92 ≤ reachBytes ∧ l5.length ≤ maxLen ∧ ∀ y ∈ l5, Opens.ok92 y)) :
    Calls Try.prog 4 #[.agg #[.slice A0_0 l0_0.length c0_0, .slice A0_1 l0_1.length c0_1, .int .i64 a0_2_0, .int .i64 a0_2_1, .int .i64 a0_3, .int .u8 a0_4, .int .i64 a0_5, .slice A0_6 l0_6.length c0_6, .bool a0_7_0, .bool a0_7_1], .int .u8 a1, .int .i64 a2, .agg #[.int .u8 a3_0, .int .u8 a3_1, .int .u8 a3_2, .slice A3_3 l3_3.length c3_3, .int .i64 a3_4, .int .i64 a3_5, .bool a3_6, .int .i64 a3_7, .int .u8 a3_8_0, .int .u8 a3_8_1, .int .u8 a3_8_2, .slice A3_9 l3_9.length c3_9], .slice A4 l4.length c4, .slice A5 l5.length c5] w fun e w' => e = .returned (.bool true) ∧ Below w.heap.size w w' := by
  have u8_lo : ∀ {z : Int}, (Lit.int .u8 z).wf = true → 0 ≤ z := fun h => by simp [Lit.wf, IntKind.min, IntKind.max, IntKind.signed, IntKind.bits] at h; omega
  have u8_hi : ∀ {z : Int}, (Lit.int .u8 z).wf = true → z ≤ 255 := fun h => by simp [Lit.wf, IntKind.min, IntKind.max, IntKind.signed, IntKind.bits] at h; omega
  have len_lt : ∀ {n b : Nat}, n * b ≤ reachBytes → decide (32 ≤ b) = true → n < 4398046511104 := fun {n b} h hb => by
    have := Nat.mul_le_mul_left n (of_decide_eq_true hb)
    unfold reachBytes at h
    omega
  obtain ⟨k, h⟩ := (MatchTells_tells l0_0 l0_1 a0_2_0 a0_2_1 a0_3 a0_4 a0_5 l0_6 a0_7_0 a0_7_1 a1 a2 a3_0 a3_1 a3_2 l3_3 a3_4 a3_5 a3_6 a3_7 a3_8_0 a3_8_1 a3_8_2 l3_9 l4 l5 (u8_lo hw1) (u8_lo hw3_2) (u8_hi hw3_2) (len_lt hw4.1 (by kernel_rfl)) (len_lt hw5.1 (by kernel_rfl))).exists
  exact Pmts.joustlaw11_MatchTells.calls k A0_0 c0_0 l0_0 A0_1 c0_1 l0_1 a0_2_0 a0_2_1 a0_3 a0_4 a0_5 A0_6 c0_6 l0_6 a0_7_0 a0_7_1 a1 a2 a3_0 a3_1 a3_2 A3_3 c3_3 l3_3 a3_4 a3_5 a3_6 a3_7 a3_8_0 a3_8_1 a3_8_2 A3_9 c3_9 l3_9 A4 c4 l4 A5 c5 l5 true w hr0_0 hc0_0 hr0_1 hc0_1 hr0_6 hc0_6 hr3_3 hc3_3 hr3_9 hc3_9 hr4 hc4 hr5 hc5 h
end Go.Proofs.Ytnceobnglofnmaa.Pure
end
