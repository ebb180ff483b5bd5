/- Joined by a program of this session (pack.py) out of: PureOddsOrder -/
import Derived.Test.YtcdcpnhlmgmnkaaDoorKoo11
import Derived.Test.YtcdcpnhlmgmnkaaDoorKoo12
section
/- OddsOrder, the plain law. -/
namespace Go.Proofs.YtcdcpnhlmgmnkaaDoor.Pure
open Go.RowKit Go.Proofs.YtcdcpnhlmgmnkaaDoor.Base Go.Proofs.YtcdcpnhlmgmnkaaDoor.Odd Go.Proofs.YtcdcpnhlmgmnkaaDoor.Podo Go.Proofs.YtcdcpnhlmgmnkaaDoorW.PrintWords Go.Proofs.YtcdcpnhlmgmnkaaDoorW.PrintLast
set_option linter.unusedVariables false
theorem sum_n {an ad bn bd : Nat} (h1 : an < 18446744073709551616) (h2 : ad < 18446744073709551616) (h3 : bn < 18446744073709551616) (h4 : bd < 18446744073709551616) : Pods2.odds_Sum.f (an : Int) (ad : Int) (bn : Int) (bd : Int) = some (sumV an ad bn bd) := by
  unfold Pods2.odds_Sum.f
  rw [if_pos ⟨⟨⟨by omega, by omega⟩, by omega, by omega⟩, ⟨by omega, by omega⟩, by omega, by omega⟩]
  simp only [Int.toNat_natCast]
theorem order_j1 (an ad by_ : Nat) (h2 : ad < 18446744073709551616) (hb : by_ < 4294967296) : Tells (fun k => joustlaw32_OddsOrder.j1 k (by_ : Int) (an : Int) (ad : Int)) true := by
  have hlives : Tells (fun _ => (Podd.lives.f).bind fun t => some t) true := Tells.const _
  have hno : Tells (fun k => joustlaw32_OddsOrder.j2 k (by_ : Int) true (an : Int) (ad : Int)) true := Tells.succ (fun k => by simp only [joustlaw32_OddsOrder.j2, if_true]) hlives
  refine Tells.succ (fun k => by simp only [joustlaw32_OddsOrder.j1]; rfl) ?_
  have hm := may_ev an ad
  by_cases ha : MayQ an ad
  · rw [decide_eq_true ha] at hm
    refine Tells.bind hm (Tells.pos rfl ?_)
    by_cases hz : by_ = 0
    · exact Tells.pos (by omega) hno
    · refine Tells.neg (by omega) ?_
      by_cases hd : 4294967296 < ad
      · rw [show decide ((ad : Int) > 4294967296) = true by simp; omega]
        exact hno
      · rw [show decide ((ad : Int) > 4294967296) = false by simp; omega]
        have la := ha.2.1
        have b1 : ad * by_ ≤ 4294967296 * 4294967295 := Nat.mul_le_mul (by omega) (by omega)
        have b2 : an * by_ ≤ ad * by_ := Nat.mul_le_mul_right _ la
        have w0 : IntKind.u64.wrap (by_ : Int) = (by_ : Int) := wrap_u (by omega) (by omega)
        have w1 : IntKind.u64.wrap ((an : Int) * (by_ : Int)) = ((an * by_ : Nat) : Int) := by rw [← Int.natCast_mul]; exact wrap_u (Int.natCast_nonneg _) (by omega)
        have w2 : IntKind.u64.wrap ((ad : Int) * (by_ : Int)) = ((ad * by_ : Nat) : Int) := by rw [← Int.natCast_mul]; exact wrap_u (Int.natCast_nonneg _) (by omega)
        have hp : 0 < ad * by_ := Nat.mul_pos ha.1 (by omega)
        have hg : Nat.gcd (an * by_) (ad * by_) = by_ := by rw [Nat.gcd_mul_right, ha.2.2, Nat.one_mul]
        have hk := odds_Make_ev (num := ((an * by_ : Nat) : Int)) (den := ((ad * by_ : Nat) : Int)) (Int.natCast_nonneg _) (Int.natCast_nonneg _) (by omega)
        have hv : makeV ((an * by_ : Nat) : Int) ((ad * by_ : Nat) : Int) = ((an : Int), (ad : Int), 0) := by
          unfold makeV
          rw [if_neg (by omega), if_neg (by omega)]
          simp only [Int.toNat_natCast, hg]
          rw [Nat.mul_div_cancel _ (by omega), Nat.mul_div_cancel _ (by omega)]
        rw [hv] at hk
        refine Tells.succ (fun k => by simp only [joustlaw32_OddsOrder.j2, w0, w1, w2]; rw [if_neg (by decide)]) ?_
        exact Tells.bind hk (Tells.pos rfl (Tells.pos (by simp) hlives))
  · rw [decide_eq_false ha] at hm
    exact Tells.bind hm (Tells.neg (by decide) hno)
theorem OddsOrder_nat (an ad bn bd by_ : Nat) (h1 : an < 18446744073709551616) (h2 : ad < 18446744073709551616) (h3 : bn < 18446744073709551616) (h4 : bd < 18446744073709551616) (h5 : by_ < 4294967296) :
    Tells (fun k => joustlaw32_OddsOrder.f k (an : Int) (ad : Int) (bn : Int) (bd : Int) (by_ : Int)) true := by
  unfold joustlaw32_OddsOrder.f
  have s2 := sum_n h3 h4 h1 h2
  rw [sumV_comm] at s2
  refine Tells.bind (Tells.of fun _ => sum_n h1 h2 h3 h4) (Tells.bind (Tells.of fun _ => s2) (Tells.neg (by simp) ?_))
  rw [bne_self_eq_false]
  refine Tells.succ (fun k => by simp only [joustlaw32_OddsOrder.j0]; rw [if_neg (by decide)]) ?_
  have hj := order_j1 an ad by_ h2 h5
  by_cases hm : MayQ an ad ∧ MayQ bn bd
  · by_cases hc : (bd - bn) * ad < an * bd
    · rw [show sumV an ad bn bd = (0, 0, 3) by unfold sumV; rw [if_neg (fun k => k hm), if_pos hc]]
      exact Tells.neg (by decide) hj
    · by_cases hd : 9223372036854775807 < sD an ad bn bd
      · rw [show sumV an ad bn bd = (0, 0, 3) by unfold sumV; rw [if_neg (fun k => k hm), if_neg hc, if_pos hd]]
        exact Tells.neg (by decide) hj
      · rw [show sumV an ad bn bd = (((sN an ad bn bd / sR an ad bn bd : Nat) : Int), ((sD an ad bn bd : Nat) : Int), 0) by unfold sumV; rw [if_neg (fun k => k hm), if_neg hc, if_neg hd]]
        obtain ⟨q1, q2, q3⟩ := sum_mayQ hm.1 hm.2 hc
        have c1 := compare_ev (an := sN an ad bn bd / sR an ad bn bd) (ad := sD an ad bn bd) (bn := an) (bd := ad) (by omega) h2
        have c2 := compare_ev (an := sN an ad bn bd / sR an ad bn bd) (ad := sD an ad bn bd) (bn := bn) (bd := bd) (by omega) h4
        have c3 := may_ev (sN an ad bn bd / sR an ad bn bd) (sD an ad bn bd)
        unfold cmpIV at c1 c2
        rw [if_pos ⟨q1, hm.1⟩] at c1
        rw [if_pos ⟨q1, hm.2⟩] at c2
        rw [decide_eq_true q1] at c3
        have n1 : ¬ cmpV (sN an ad bn bd / sR an ad bn bd * ad) (an * sD an ad bn bd) < 0 := by unfold cmpV; rw [if_neg (by omega)]; split <;> omega
        have n2 : ¬ cmpV (sN an ad bn bd / sR an ad bn bd * bd) (bn * sD an ad bn bd) < 0 := by unfold cmpV; rw [if_neg (by omega)]; split <;> omega
        exact Tells.pos rfl (Tells.bind c1 (Tells.bind c2 (Tells.pos rfl (Tells.pos rfl (Tells.neg n1 (Tells.neg n2 (Tells.bind c3 (Tells.pos rfl hj))))))))
  · rw [show sumV an ad bn bd = (0, 0, 2) by unfold sumV; rw [if_pos hm]]
    exact Tells.neg (by decide) hj
theorem lit_u64 {a : Int} (h : (Lit.int .u64 a).wf = true) : ∃ n : Nat, a = n ∧ n < 18446744073709551616 := by
  have hb : 0 ≤ a ∧ a ≤ 18446744073709551615 := by simpa [Lit.wf, IntKind.min, IntKind.max, IntKind.bits, IntKind.signed] using h
  exact ⟨a.toNat, by omega, by omega⟩
theorem lit_u32 {a : Int} (h : (Lit.int .u32 a).wf = true) : ∃ n : Nat, a = n ∧ n < 4294967296 := by
  have hb : 0 ≤ a ∧ a ≤ 4294967295 := by simpa [Lit.wf, IntKind.min, IntKind.max, IntKind.bits, IntKind.signed] using h
  exact ⟨a.toNat, by omega, by omega⟩
theorem OddsOrder_walk (a0_0 a0_1 a1_0 a1_1 a2 : Int) (w : World) (w0_0 : (Lit.int .u64 a0_0).wf = true) (w0_1 : (Lit.int .u64 a0_1).wf = true) (w1_0 : (Lit.int .u64 a1_0).wf = true) (w1_1 : (Lit.int .u64 a1_1).wf = true) (w2 : (Lit.int .u32 a2).wf = true) (hg_ : GoodW w) :
    Calls Tryd.prog 10 #[.agg #[.int .u64 a0_0, .int .u64 a0_1], .agg #[.int .u64 a1_0, .int .u64 a1_1], .int .u32 a2] w fun e w' => e = .returned (.bool true) ∧ Below w.heap.size w w' := by
  obtain ⟨an, rfl, h1⟩ := lit_u64 w0_0
  obtain ⟨ad, rfl, h2⟩ := lit_u64 w0_1
  obtain ⟨bn, rfl, h3⟩ := lit_u64 w1_0
  obtain ⟨bd, rfl, h4⟩ := lit_u64 w1_1
  obtain ⟨n, rfl, h5⟩ := lit_u32 w2
  obtain ⟨k, h⟩ := (OddsOrder_nat an ad bn bd n h1 h2 h3 h4 h5).exists
  exact joustlaw32_OddsOrder.calls k _ _ _ _ _ true w hg_ h
end Go.Proofs.YtcdcpnhlmgmnkaaDoor.Pure
end
