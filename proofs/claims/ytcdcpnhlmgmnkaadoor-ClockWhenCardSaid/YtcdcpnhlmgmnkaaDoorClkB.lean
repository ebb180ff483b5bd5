/- What a clock's calls answer, in plain words: May, Start. -/
import Derived.Test.YtcdcpnhlmgmnkaaDoorPclkx1
import Derived.Test.YtcdcpnhlmgmnkaaDoorPclkx3
import Derived.Test.YtcdcpnhlmgmnkaaDoorPclkx4
import Derived.Test.YtcdcpnhlmgmnkaaDoorPclkx5
import Derived.Test.YtcdcpnhlmgmnkaaDoorPclkx6
import Derived.Test.YtcdcpnhlmgmnkaaDoorPclkx7
namespace Go.Proofs.YtcdcpnhlmgmnkaaDoor.Clk
open Go.RowKit Go.Proofs.YtcdcpnhlmgmnkaaDoor.Base Go.Proofs.YtcdcpnhlmgmnkaaDoor.Pclk Go.Proofs.YtcdcpnhlmgmnkaaDoorW.PrintWords Go.Proofs.YtcdcpnhlmgmnkaaDoorW.PrintLast

def MayP (l0 l1 more cap who : Int) (on : Bool) (since fell : Int) : Prop :=
  (0 ≤ l0 ∧ l0 ≤ 1073741824) ∧ (l0 = 0 ↔ fell = 0) ∧ (0 ≤ l1 ∧ l1 ≤ 1073741824) ∧ (l1 = 0 ↔ fell = 1) ∧ (0 ≤ more ∧ more ≤ 1073741824) ∧ (0 ≤ cap ∧ cap ≤ 1073741824) ∧ (0 ≤ since ∧ since ≤ 1073741824) ∧ who < 2 ∧ (fell = 2 ∨ fell < 2 ∧ on = false)
instance (l0 l1 more cap who : Int) (on : Bool) (since fell : Int) : Decidable (MayP l0 l1 more cap who on since fell) := by unfold MayP; infer_instance

theorem within_f (a : Int) : clock_within.f a = some (decide (0 ≤ a ∧ a ≤ 1073741824)) := by
  unfold clock_within.f
  split <;> simp <;> omega
theorem wrap_small {a : Int} (h0 : -9223372036854775808 ≤ a) (h1 : a ≤ 9223372036854775807) : wrap64 a = a := by unfold wrap64; omega

theorem beq_iff {a b : Int} {c d : Int} : ((a == b) != (c == d)) = true ↔ ¬ (a = b ↔ c = d) := by
  by_cases h1 : a = b <;> by_cases h2 : c = d <;> simp_all [beq_eq_false_iff_ne.mpr]

theorem may_f (j : Nat) (l0 l1 more cap who : Int) (on : Bool) (since fell : Int) (h0 : 0 ≤ fell) (h1 : fell ≤ 255) :
    clock_May.f (j + 3) l0 l1 more cap who on since fell = some (decide (MayP l0 l1 more cap who on since fell)) := by
  have hw : wrap64 fell = fell := wrap_small (by omega) (by omega)
  have e1 : wrap64 (0 + 1) = 1 := by kernel_rfl
  have e2 : wrap64 (1 + 1) = 2 := by kernel_rfl
  simp only [clock_May.f, clock_May.l0, within_f, Option.bind_some, hw, e1, e2, decide_eq_true_eq, beq_iff]
  unfold MayP
  by_cases c1 : 0 ≤ l0 ∧ l0 ≤ 1073741824
  · by_cases c2 : (l0 = 0 ↔ fell = 0)
    · by_cases c3 : 0 ≤ l1 ∧ l1 ≤ 1073741824
      · by_cases c4 : (l1 = 0 ↔ fell = 1)
        · simp only [c1, c2, c3, c4]
          by_cases c5 : 0 ≤ more ∧ more ≤ 1073741824 <;> by_cases c6 : 0 ≤ cap ∧ cap ≤ 1073741824 <;> by_cases c7 : 0 ≤ since ∧ since ≤ 1073741824 <;> by_cases c8 : who < 2 <;> by_cases c9 : fell = 2 <;> by_cases c10 : fell < 2 <;> cases on <;> simp [c5, c6, c7, c8, c9, c10]
        · simp [c1, c2, c3, c4]
      · simp [c1, c2, c3]
    · simp [c1, c2]
  · simp [c1]

theorem cmay_f (j : Nat) (l0 l1 more cap who : Int) (on : Bool) (since fell now : Int) (h0 : 0 ≤ fell) (h1 : fell ≤ 255) :
    clock_may.f (j + 3) l0 l1 more cap who on since fell now = some (decide (MayP l0 l1 more cap who on since fell ∧ (0 ≤ now ∧ now ≤ 1073741824) ∧ since ≤ now)) := by
  unfold clock_may.f
  rw [may_f _ _ _ _ _ _ _ _ _ h0 h1]
  by_cases c : MayP l0 l1 more cap who on since fell <;> by_cases d : 0 ≤ now ∧ now ≤ 1073741824 <;> simp [c, d, within_f]

/-- what Start refuses, by an argument that may not be -/
theorem start_arg (j : Nat) (l0 l1 more cap who0 : Int) (on : Bool) (since fell who now : Int) (h0 : 0 ≤ fell) (h1 : fell ≤ 255)
    (h : ¬ (MayP l0 l1 more cap who0 on since fell ∧ (0 ≤ now ∧ now ≤ 1073741824) ∧ since ≤ now) ∨ 2 ≤ who) :
    clock_Start.f (j + 3) l0 l1 more cap who0 on since fell who now = some (0, 0, 0, 0, 0, false, 0, 0, 2) := by
  unfold clock_Start.f
  rw [cmay_f _ _ _ _ _ _ _ _ _ _ h0 h1]
  by_cases c : MayP l0 l1 more cap who0 on since fell ∧ (0 ≤ now ∧ now ≤ 1073741824) ∧ since ≤ now
  · have hw : 2 ≤ who := by simpa [c] using h
    simp [c, clock_Start.j0, hw]
  · simp [c, clock_Start.j0]
theorem start_state (j : Nat) (l0 l1 more cap who0 : Int) (on : Bool) (since fell who now : Int) (h0 : 0 ≤ fell) (h1 : fell ≤ 255)
    (h : MayP l0 l1 more cap who0 on since fell ∧ (0 ≤ now ∧ now ≤ 1073741824) ∧ since ≤ now) (hw : who < 2) (hs : on = true ∨ fell ≠ 2) :
    clock_Start.f (j + 3) l0 l1 more cap who0 on since fell who now = some (0, 0, 0, 0, 0, false, 0, 0, 11) := by
  unfold clock_Start.f
  rw [cmay_f _ _ _ _ _ _ _ _ _ _ h0 h1]
  have hw' : ¬ 2 ≤ who := by omega
  cases on
  · have : fell ≠ 2 := by simpa using hs
    simp [h, clock_Start.j0, hw', this]
  · simp [h, clock_Start.j0, hw']
theorem start_ok (j : Nat) (l0 l1 more cap who0 : Int) (since who now : Int)
    (h : MayP l0 l1 more cap who0 false since 2 ∧ (0 ≤ now ∧ now ≤ 1073741824) ∧ since ≤ now) (hw : who < 2) :
    clock_Start.f (j + 3) l0 l1 more cap who0 false since 2 who now = some (l0, l1, more, cap, who, true, now, 2, 0) := by
  unfold clock_Start.f
  rw [cmay_f _ _ _ _ _ _ _ _ _ _ (by omega) (by omega)]
  have hw' : ¬ 2 ≤ who := by omega
  simp [h, clock_Start.j0, hw']
end Go.Proofs.YtcdcpnhlmgmnkaaDoor.Clk
