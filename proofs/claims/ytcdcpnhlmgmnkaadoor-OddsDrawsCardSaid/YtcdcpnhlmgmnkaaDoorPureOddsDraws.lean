/- OddsDraws, the plain law. -/
import Derived.Test.YtcdcpnhlmgmnkaaDoorPodwx2
import Derived.Test.YtcdcpnhlmgmnkaaDoorOdy
namespace Go.Proofs.YtcdcpnhlmgmnkaaDoor.Pure
open Go.RowKit Go.Proofs.YtcdcpnhlmgmnkaaDoor.Base Go.Proofs.YtcdcpnhlmgmnkaaDoor.Odd Go.Proofs.YtcdcpnhlmgmnkaaDoor.Podw Go.Proofs.YtcdcpnhlmgmnkaaDoorW.PrintWords Go.Proofs.YtcdcpnhlmgmnkaaDoorW.PrintLast
theorem OddsDraws_tells (a0 a1 a2 a3 a4 a5 : Int) : Tells (fun k => joustlaw32_OddsDraws.f k a0 a1 a2 a3 a4 a5) true := by
  unfold joustlaw32_OddsDraws.f
  refine Tells.bind (exactly_ev a0 a1 a2 a3) (Tells.bind (ref_exactly_ev a0 a1 a2 a3) (Tells.neg (by simp) ?_))
  rw [bne_self_eq_false]
  refine Tells.succ (fun f => by simp only [joustlaw32_OddsDraws.j0]; rw [if_neg (by decide)]) ?_
  refine Tells.bind (least_ev a0 a1 a2 a3) (Tells.bind (ref_least_ev a0 a1 a2 a3) (Tells.neg (by simp) ?_))
  rw [bne_self_eq_false]
  refine Tells.succ (fun f => by simp only [joustlaw32_OddsDraws.j1]; rw [if_neg (by decide)]) ?_
  refine Tells.bind (both_ev a0 a4 a5 a2) (Tells.bind (ref_both_ev a0 a4 a5 a2) (Tells.pos (by simp) (Tells.pos rfl ?_)))
  exact Tells.of fun _ => rfl
theorem OddsDraws_walk (a0 a1 a2 a3 a4 a5 : Int) (w : World) (_w0 : (Lit.int .i64 a0).wf = true) (_w1 : (Lit.int .i64 a1).wf = true) (_w2 : (Lit.int .i64 a2).wf = true) (_w3 : (Lit.int .i64 a3).wf = true) (_w4 : (Lit.int .i64 a4).wf = true) (_w5 : (Lit.int .i64 a5).wf = true) (hg_ : GoodW w) :
    Calls Tryd.prog 7 #[.int .i64 a0, .int .i64 a1, .int .i64 a2, .int .i64 a3, .int .i64 a4, .int .i64 a5] w fun e w' => e = .returned (.bool true) ∧ Below w.heap.size w w' := by
  obtain ⟨k, h⟩ := (OddsDraws_tells a0 a1 a2 a3 a4 a5).exists
  exact joustlaw32_OddsDraws.calls k a0 a1 a2 a3 a4 a5 true w hg_ h
end Go.Proofs.YtcdcpnhlmgmnkaaDoor.Pure
