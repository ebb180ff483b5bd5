/- Joined by a program of this session (pack.py) out of: PureOddsNot -/
import Derived.Test.YtcdcpnhlmgmnkaaDoorKon11
import Derived.Test.YtcdcpnhlmgmnkaaDoorKon12
section
/- OddsNot, the plain law. -/
namespace Go.Proofs.YtcdcpnhlmgmnkaaDoor.Pure
open Go.RowKit Go.Proofs.YtcdcpnhlmgmnkaaDoor.Base Go.Proofs.YtcdcpnhlmgmnkaaDoor.Odd Go.Proofs.YtcdcpnhlmgmnkaaDoor.Podn Go.Proofs.YtcdcpnhlmgmnkaaDoorW.PrintWords Go.Proofs.YtcdcpnhlmgmnkaaDoorW.PrintLast
set_option linter.unusedVariables false
theorem sum_n {an ad bn bd : Nat} (h1 : an < 18446744073709551616) (h2 : ad < 18446744073709551616) (h3 : bn < 18446744073709551616) (h4 : bd < 18446744073709551616) : Pods2.odds_Sum.f (an : Int) (ad : Int) (bn : Int) (bd : Int) = some (sumV an ad bn bd) := by
  unfold Pods2.odds_Sum.f
  rw [if_pos ⟨⟨⟨by omega, by omega⟩, by omega, by omega⟩, ⟨by omega, by omega⟩, by omega, by omega⟩]
  simp only [Int.toNat_natCast]
theorem OddsNot_nat (an ad bn bd : Nat) (h1 : an < 18446744073709551616) (h2 : ad < 18446744073709551616) (h3 : bn < 18446744073709551616) (h4 : bd < 18446744073709551616) :
    Tells (fun k => joustlaw32_OddsNot.f k (an : Int) (ad : Int) (bn : Int) (bd : Int)) true := by
  unfold joustlaw32_OddsNot.f
  have hlives : Tells (fun _ => (Podd.lives.f).bind fun t => some t) true := Tells.const _
  have hn := not_ev (n := an) h2
  unfold notV at hn
  by_cases ha : MayQ an ad
  · rw [if_pos ha] at hn
    have la := ha.2.1
    have hnn := not_ev (n := ad - an) h2
    unfold notV at hnn
    rw [if_pos (mayQ_not ha), show ad - (ad - an) = an by omega] at hnn
    have hs := sum_n (an := an) (ad := ad) (bn := ad - an) (bd := ad) h1 h2 (by omega) h2
    rw [sum_not ha] at hs
    refine Tells.bind hn (Tells.pos rfl (Tells.bind hnn (Tells.bind (Tells.of fun _ => hs) (Tells.pos rfl (Tells.neg (by simp) (Tells.pos rfl ?_))))))
    refine Tells.succ (fun k => by simp only [joustlaw32_OddsNot.j0]; rw [if_neg (by decide)]) ?_
    have hc := compare_ev (an := an) (bn := bn) h2 h4
    unfold cmpIV at hc
    by_cases hb : MayQ bn bd
    · rw [if_pos ⟨ha, hb⟩] at hc
      have hnb := not_ev (n := bn) h4
      unfold notV at hnb
      rw [if_pos hb] at hnb
      have hc2 := compare_ev (an := bd - bn) (ad := bd) (bn := ad - an) (bd := ad) h4 h2
      unfold cmpIV at hc2
      rw [if_pos ⟨mayQ_not hb, mayQ_not ha⟩, cmp_not ha hb] at hc2
      have hc3 := compare_ev (an := bn) (bn := an) h4 h2
      unfold cmpIV at hc3
      rw [if_pos ⟨hb, ha⟩, cmpV_swap] at hc3
      have hbd := cmpV_bd (an * bd) (bn * ad)
      refine Tells.bind hc (Tells.pos rfl (Tells.bind hnb (Tells.bind hc2 (Tells.bind hc3 (Tells.pos rfl (Tells.pos rfl (Tells.pos rfl (Tells.pos ?_ (Tells.pos ?_ hlives)))))))))
      · rw [wrap_i (by omega) (by omega)]
      · have e := same_frac ha hb
        have z := cmpV_zero (an * bd) (bn * ad)
        by_cases hz : an * bd = bn * ad
        · have h5 := e.1 hz
          rw [show (cmpV (an * bd) (bn * ad) == 0) = true from beq_iff_eq.mpr (z.2 hz)]
          simp [h5.1, h5.2]
        · have h5 : ¬ (an = bn ∧ ad = bd) := fun h => hz (e.2 h)
          have h6 : (cmpV (an * bd) (bn * ad) == 0) = false := beq_eq_false_iff_ne.mpr (fun h => hz (z.1 h))
          rw [h6]
          by_cases h7 : an = bn
          · have h8 : ad ≠ bd := fun h => h5 ⟨h7, h⟩
            simp [h7]
            omega
          · have : ((an : Int) == (bn : Int)) = false := beq_eq_false_iff_ne.mpr (by omega)
            simp [this]
    · rw [if_neg (fun h => hb h.2)] at hc
      have hm := may_ev bn bd
      rw [decide_eq_false hb] at hm
      exact Tells.bind hc (Tells.neg (by decide) (Tells.bind hm (Tells.neg (by decide) (Tells.pos rfl hlives))))
  · rw [if_neg ha] at hn
    have hm := may_ev an ad
    rw [decide_eq_false ha] at hm
    exact Tells.bind hn (Tells.neg (by decide) (Tells.bind hm (Tells.neg (by decide) (Tells.pos rfl hlives))))
theorem lit_u64 {a : Int} (h : (Lit.int .u64 a).wf = true) : ∃ n : Nat, a = n ∧ n < 18446744073709551616 := by
  have hb : 0 ≤ a ∧ a ≤ 18446744073709551615 := by simpa [Lit.wf, IntKind.min, IntKind.max, IntKind.bits, IntKind.signed] using h
  exact ⟨a.toNat, by omega, by omega⟩
theorem OddsNot_walk (a0_0 a0_1 a1_0 a1_1 : Int) (w : World) (w0_0 : (Lit.int .u64 a0_0).wf = true) (w0_1 : (Lit.int .u64 a0_1).wf = true) (w1_0 : (Lit.int .u64 a1_0).wf = true) (w1_1 : (Lit.int .u64 a1_1).wf = true) (hg_ : GoodW w) :
    Calls Tryd.prog 12 #[.agg #[.int .u64 a0_0, .int .u64 a0_1], .agg #[.int .u64 a1_0, .int .u64 a1_1]] w fun e w' => e = .returned (.bool true) ∧ Below w.heap.size w w' := by
  obtain ⟨an, rfl, h1⟩ := lit_u64 w0_0
  obtain ⟨ad, rfl, h2⟩ := lit_u64 w0_1
  obtain ⟨bn, rfl, h3⟩ := lit_u64 w1_0
  obtain ⟨bd, rfl, h4⟩ := lit_u64 w1_1
  obtain ⟨k, h⟩ := (OddsNot_nat an ad bn bd h1 h2 h3 h4).exists
  exact joustlaw32_OddsNot.calls k _ _ _ _ true w hg_ h
end Go.Proofs.YtcdcpnhlmgmnkaaDoor.Pure
end
