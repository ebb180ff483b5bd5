/- Joined by a program of this session (pack.py) out of: PureClockTells WalkClockTells -/
import Derived.Test.YtcdcpnhlmgmnkaaDoorKctl13
import Derived.Test.YtcdcpnhlmgmnkaaDoorKctl15
section
/- ClockTells: the plain law. -/
namespace Go.Proofs.YtcdcpnhlmgmnkaaDoor.Pure
open Go.RowKit Go.Proofs.YtcdcpnhlmgmnkaaDoor.Base Go.Proofs.YtcdcpnhlmgmnkaaDoor.Clk Go.Proofs.YtcdcpnhlmgmnkaaDoor.Pctl Go.Proofs.YtcdcpnhlmgmnkaaDoorW.PrintWords Go.Proofs.YtcdcpnhlmgmnkaaDoorW.PrintLast
section
variable (l0 l1 more cap who : Int) (on : Bool) (since fell : Int) (now : Int) (hw : 0 ≤ who ∧ who ≤ 255) (hf : 0 ≤ fell ∧ fell ≤ 255)
include hw hf
theorem tells_j2 : joustlaw28_ClockTells.j2 10 now false l0 l1 more cap who on since fell = some true := by
  obtain ⟨a, b, f, e, h1, h2, -⟩ := look_same l0 l1 more cap who on since fell 6 now hf.1 hf.2 hw.1
  obtain ⟨v, h3, h4⟩ := when_same l0 l1 more cap who on since fell 5 hf.1 hf.2 hw.1
  rw [joustlaw28_ClockTells.j2, if_neg (by decide), h1, Option.bind_some, h2, Option.bind_some, h3, Option.bind_some, h4, Option.bind_some, if_pos (by simp), if_pos (by simp), if_pos rfl, if_pos rfl, if_pos (by simp)]
  rfl
theorem tells_j1 : joustlaw28_ClockTells.j1 11 now false l0 l1 more cap who on since fell = some true := by
  obtain ⟨v, h1, h2⟩ := stop_same l0 l1 more cap who on since fell 7 now hf.1 hf.2 hw.1
  rw [joustlaw28_ClockTells.j1, if_neg (by decide), h1, Option.bind_some, h2, Option.bind_some, if_neg (by simp), if_neg (by simp), show (v.2.2.2.2.2.2.2.2.2 != v.2.2.2.2.2.2.2.2.2) = false by simp]
  exact tells_j2 l0 l1 more cap who on since fell now hw hf
theorem tells_j0 (w : Int) : joustlaw28_ClockTells.j0 12 w now false l0 l1 more cap who on since fell = some true := by
  obtain ⟨v, h1, h2⟩ := start_same l0 l1 more cap who on since fell 8 w now hf.1 hf.2
  rw [joustlaw28_ClockTells.j0, if_neg (by decide), h1, Option.bind_some, h2, Option.bind_some, if_neg (by simp), show (v.2.2.2.2.2.2.2.2 != v.2.2.2.2.2.2.2.2) = false by simp]
  exact tells_j1 l0 l1 more cap who on since fell now hw hf
theorem ClockTells_f (a b c w : Int) : joustlaw28_ClockTells.f 12 l0 l1 more cap who on since fell a b c w now = some true := by
  obtain ⟨v, h1, h2⟩ := new_same 9 a b c
  obtain ⟨m, h3, h4⟩ := may_same l0 l1 more cap who on since fell 9 hf.1 hf.2
  obtain ⟨s, h5, h6⟩ := text_same l0 l1 more cap who on since fell 3 now hw hf
  unfold joustlaw28_ClockTells.f
  rw [h1, Option.bind_some, h2, Option.bind_some, if_neg (by simp), if_pos rfl, h3, Option.bind_some, h4, Option.bind_some, if_neg (by simp), h5, Option.bind_some, h6, Option.bind_some, show (s.toList != s.toList) = false by simp]
  exact tells_j0 l0 l1 more cap who on since fell now hw hf w
end
theorem u8b {a : Int} (h : (Lit.int .u8 a).wf = true) : 0 ≤ a ∧ a ≤ 255 := by simpa [Lit.wf, IntKind.min, IntKind.max, IntKind.signed, IntKind.bits] using h
end Go.Proofs.YtcdcpnhlmgmnkaaDoor.Pure
end
section
/- ClockTells: the walk out of the printed contract. -/
namespace Go.Proofs.YtcdcpnhlmgmnkaaDoor.Pure
open Go.RowKit Go.Proofs.YtcdcpnhlmgmnkaaDoor.Base
set_option linter.unusedVariables false
theorem ClockTells_walk (l0 l1 more cap who : Int) (on : Bool) (since fell a b c w now : Int) (W : World)
    (h1 : (Lit.int .i64 l0).wf = true) (h2 : (Lit.int .i64 l1).wf = true) (h3 : (Lit.int .i64 more).wf = true) (h4 : (Lit.int .i64 cap).wf = true) (hw : (Lit.int .u8 who).wf = true) (h5 : (Lit.int .i64 since).wf = true)
    (hf : (Lit.int .u8 fell).wf = true) (h6 : (Lit.int .i64 a).wf = true) (h7 : (Lit.int .i64 b).wf = true) (h8 : (Lit.int .i64 c).wf = true) (h9 : (Lit.int .u8 w).wf = true) (h10 : (Lit.int .i64 now).wf = true) (hg_ : GoodW W) :
    Calls Tryd.prog 3 #[.agg #[.int .i64 l0, .int .i64 l1, .int .i64 more, .int .i64 cap, .int .u8 who, .bool on, .int .i64 since, .int .u8 fell], .int .i64 a, .int .i64 b, .int .i64 c, .int .u8 w, .int .i64 now] W fun e w' => e = .returned (.bool true) ∧ Below W.heap.size W w' :=
  Pctl.joustlaw28_ClockTells.calls 12 l0 l1 more cap who on since fell a b c w now true W hg_ (ClockTells_f l0 l1 more cap who on since fell now (u8b hw) (u8b hf) a b c w)
end Go.Proofs.YtcdcpnhlmgmnkaaDoor.Pure
end
