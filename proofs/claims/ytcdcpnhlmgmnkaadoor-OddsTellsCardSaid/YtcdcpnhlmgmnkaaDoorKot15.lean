/- Joined by a program of this session (pack.py) out of: PureOddsTells -/
import Derived.Test.YtcdcpnhlmgmnkaaDoorKot13
import Derived.Test.YtcdcpnhlmgmnkaaDoorKot14
section
/- OddsTells, the plain law. -/
namespace Go.Proofs.YtcdcpnhlmgmnkaaDoor.Pure
open Go.RowKit Go.Proofs.YtcdcpnhlmgmnkaaDoor.Base Go.Proofs.YtcdcpnhlmgmnkaaDoor.Odd Go.Proofs.YtcdcpnhlmgmnkaaDoor.Podx Go.Proofs.YtcdcpnhlmgmnkaaDoorW.PrintWords Go.Proofs.YtcdcpnhlmgmnkaaDoorW.PrintLast
set_option linter.unusedVariables false
theorem sum_n {an ad bn bd : Nat} (h1 : an < 18446744073709551616) (h2 : ad < 18446744073709551616) (h3 : bn < 18446744073709551616) (h4 : bd < 18446744073709551616) : Pods2.odds_Sum.f (an : Int) (ad : Int) (bn : Int) (bd : Int) = some (sumV an ad bn bd) := by
  unfold Pods2.odds_Sum.f
  rw [if_pos ⟨⟨⟨by omega, by omega⟩, by omega, by omega⟩, ⟨by omega, by omega⟩, by omega, by omega⟩]
  simp only [Int.toNat_natCast]
def chooseV (n k : Int) : Int × Int := if n < 0 ∨ n > 60 then (0, 2) else (Cz n k, 0)
theorem OddsTells_nat (an ad bn bd n d : Nat) (a4 a5 : Int) (h1 : an < 18446744073709551616) (h2 : ad < 18446744073709551616) (h3 : bn < 18446744073709551616) (h4 : bd < 18446744073709551616) (h5 : n < 18446744073709551616) (h6 : d < 18446744073709551616)
    (hc : Tells (fun k => Podd.odds_Choose.f k a4 a5) (chooseV a4 a5)) (hr : Tells (fun k => Podr.joustref32_Choose.f k a4 a5) (chooseV a4 a5)) :
    Tells (fun k => joustlaw32_OddsTells.f k (an : Int) (ad : Int) (bn : Int) (bd : Int) (n : Int) (d : Int) a4 a5) true := by
  unfold joustlaw32_OddsTells.f
  refine Tells.bind (odds_Make_ev (by omega) (by omega) (by omega)) (Tells.bind (ref_Make_ev (by omega) (by omega) (by omega)) (Tells.neg (by simp) (Tells.pos rfl ?_)))
  refine Tells.bind (may_ev an ad) (Tells.bind (ref_may_ev an ad) (Tells.neg (by simp) (Tells.bind (text_ev h2) (Tells.bind (ref_text_ev h2) ?_))))
  rw [bne_self_eq_false]
  refine Tells.succ (fun k => by simp only [joustlaw32_OddsTells.j0]; rw [if_neg (by decide)]) (Tells.bind (not_ev h2) (Tells.bind (ref_not_ev h2) (Tells.neg ?_ ?_)))
  · simp
  rw [bne_self_eq_false]
  refine Tells.succ (fun k => by simp only [joustlaw32_OddsTells.j1]; rw [if_neg (by decide)]) (Tells.bind (Tells.of fun _ => sum_n h1 h2 h3 h4) (Tells.bind (ref_sum_ev h1 h2 h3 h4) (Tells.neg ?_ ?_)))
  · simp
  rw [bne_self_eq_false]
  refine Tells.succ (fun k => by simp only [joustlaw32_OddsTells.j2]; rw [if_neg (by decide)]) (Tells.bind (compare_ev h2 h4) (Tells.bind (ref_compare_ev h1 h2 h3 h4) (Tells.bind hc (Tells.bind hr ?_))))
  exact Tells.pos rfl (Tells.pos rfl (Tells.pos rfl (Tells.pos rfl (Tells.of fun _ => rfl))))
theorem choose_ev (n k : Int) : Tells (fun f => Podd.odds_Choose.f f n k) (chooseV n k) := by
  unfold Podd.odds_Choose.f chooseV
  by_cases h0 : n < 0
  · rw [if_pos (Or.inl h0)]
    exact Tells.pos h0 (Tells.const _)
  · by_cases h1 : n > 60
    · rw [if_pos (Or.inr h1)]
      exact Tells.neg h0 (Tells.pos h1 (Tells.const _))
    · rw [if_neg (by omega)]
      exact Tells.neg h0 (Tells.neg h1 (Tells.bind (odds_sets_ev (by omega) (by omega) k) (Tells.of fun _ => rfl)))
theorem ref_choose_ev (n k : Int) : Tells (fun f => Podr.joustref32_Choose.f f n k) (chooseV n k) := by
  unfold Podr.joustref32_Choose.f chooseV
  by_cases h0 : n < 0
  · rw [if_pos (Or.inl h0)]
    exact Tells.pos h0 (Tells.const _)
  · by_cases h1 : n > 60
    · rw [if_pos (Or.inr h1)]
      exact Tells.neg h0 (Tells.pos h1 (Tells.const _))
    · rw [if_neg (by omega)]
      exact Tells.neg h0 (Tells.neg h1 (Tells.bind (ref_sets_ev (by omega) (by omega) k) (Tells.of fun _ => rfl)))
theorem lit_u64 {a : Int} (h : (Lit.int .u64 a).wf = true) : ∃ n : Nat, a = n ∧ n < 18446744073709551616 := by
  have hb : 0 ≤ a ∧ a ≤ 18446744073709551615 := by simpa [Lit.wf, IntKind.min, IntKind.max, IntKind.bits, IntKind.signed] using h
  exact ⟨a.toNat, by omega, by omega⟩
theorem OddsTells_walk (a0_0 a0_1 a1_0 a1_1 a2 a3 a4 a5 : Int) (w : World) (w0_0 : (Lit.int .u64 a0_0).wf = true) (w0_1 : (Lit.int .u64 a0_1).wf = true) (w1_0 : (Lit.int .u64 a1_0).wf = true) (w1_1 : (Lit.int .u64 a1_1).wf = true)
    (w2 : (Lit.int .u64 a2).wf = true) (w3 : (Lit.int .u64 a3).wf = true) (_w4 : (Lit.int .i64 a4).wf = true) (_w5 : (Lit.int .i64 a5).wf = true) (hg_ : GoodW w) :
    Calls Tryd.prog 11 #[.agg #[.int .u64 a0_0, .int .u64 a0_1], .agg #[.int .u64 a1_0, .int .u64 a1_1], .int .u64 a2, .int .u64 a3, .int .i64 a4, .int .i64 a5] w fun e w' => e = .returned (.bool true) ∧ Below w.heap.size w w' := by
  obtain ⟨an, rfl, h1⟩ := lit_u64 w0_0
  obtain ⟨ad, rfl, h2⟩ := lit_u64 w0_1
  obtain ⟨bn, rfl, h3⟩ := lit_u64 w1_0
  obtain ⟨bd, rfl, h4⟩ := lit_u64 w1_1
  obtain ⟨n, rfl, h5⟩ := lit_u64 w2
  obtain ⟨d, rfl, h6⟩ := lit_u64 w3
  obtain ⟨k, h⟩ := (OddsTells_nat an ad bn bd n d a4 a5 h1 h2 h3 h4 h5 h6 (choose_ev a4 a5) (ref_choose_ev a4 a5)).exists
  exact joustlaw32_OddsTells.calls k _ _ _ _ _ _ a4 a5 true w hg_ h
end Go.Proofs.YtcdcpnhlmgmnkaaDoor.Pure
end
