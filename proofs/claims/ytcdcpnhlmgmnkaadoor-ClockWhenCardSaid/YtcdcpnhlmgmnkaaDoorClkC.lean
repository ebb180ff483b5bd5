/- What a clock's calls answer, in plain words: how long one may take, Look, Stop and When of a clock that runs. -/
import Derived.Test.YtcdcpnhlmgmnkaaDoorClkB
namespace Go.Proofs.YtcdcpnhlmgmnkaaDoor.Clk
open Go.RowKit Go.Proofs.YtcdcpnhlmgmnkaaDoor.Base Go.Proofs.YtcdcpnhlmgmnkaaDoor.Pclk Go.Proofs.YtcdcpnhlmgmnkaaDoorW.PrintWords Go.Proofs.YtcdcpnhlmgmnkaaDoorW.PrintLast

/-- how long the player may take who is asked -/
def roomI (l cap : Int) : Int := if cap > 0 then (if l < cap then l else cap) else l
def ofWho (l0 l1 who : Int) : Int := if who = 0 then l0 else l1
theorem mn_le {a b : Int} (h : a ≤ b) : mn a b = a := by unfold mn; split <;> omega
theorem mn_ge {a b : Int} (h : b < a) : mn a b = b := by unfold mn; split <;> omega
theorem mn_is (a b : Int) : mn a b = if a < b then a else b := by unfold mn; split <;> split <;> omega
theorem mx_is (a b : Int) : mx a b = if a < b then b else a := rfl
theorem room_f (l0 l1 more cap who : Int) (on : Bool) (since fell : Int) (h : who = 0 ∨ who = 1) :
    clock_room.f l0 l1 more cap who on since fell = some (roomI (ofWho l0 l1 who) cap) := by
  unfold clock_room.f roomI ofWho
  rcases h with rfl | rfl
  · by_cases c : cap > 0 <;> simp [c, mn_is]
  · by_cases c : cap > 0 <;> simp [c, mn_is]
theorem wrap_id {a : Int} (h0 : -9223372036854775808 ≤ a) (h1 : a ≤ 9223372036854775807) : wrap64 a = a := by unfold wrap64; omega
section
variable (j : Nat) (l0 l1 more cap who since fell now : Int)
theorem falls_f (h : MayP l0 l1 more cap who true since fell) (hn : who = 0 ∨ who = 1) (h1 : since ≤ now) (h2 : now ≤ 1073741824) :
    clock_falls.f l0 l1 more cap who true since fell now = some (decide (now - since > roomI (ofWho l0 l1 who) cap)) := by
  have h' := h
  unfold MayP at h'
  unfold clock_falls.f
  rw [room_f _ _ _ _ _ _ _ _ hn, wrap_id (by omega) (by omega)]
  simp
theorem look_f (h : MayP l0 l1 more cap who true since fell) (hn : who = 0 ∨ who = 1) (h1 : since ≤ now) (h2 : now ≤ 1073741824) (hf0 : 0 ≤ fell) (hf1 : fell ≤ 255) :
    clock_Look.f (j + 3) l0 l1 more cap who true since fell now = some (if who = 0 then mx (l0 - (now - since)) 0 else l0, if who = 0 then l1 else mx (l1 - (now - since)) 0, decide (now - since > roomI (ofWho l0 l1 who) cap), 0) := by
  have h' := h
  unfold MayP at h'
  obtain ⟨a0, b0, a1, b1, a2, a3, a4, a5, a6⟩ := h'
  unfold clock_Look.f
  rw [cmay_f _ _ _ _ _ _ _ _ _ _ hf0 hf1, falls_f _ _ _ _ _ _ _ _ h hn h1 h2]
  have e1 : wrap64 (now - since) = now - since := wrap_id (by omega) (by omega)
  rcases hn with rfl | rfl
  · have e2 : wrap64 (l0 - (now - since)) = l0 - (now - since) := wrap_id (by omega) (by omega)
    simp [h, h1, h2, e1, e2, show 0 ≤ now by omega]
  · have e2 : wrap64 (l1 - (now - since)) = l1 - (now - since) := wrap_id (by omega) (by omega)
    simp [h, h1, h2, e1, e2, show 0 ≤ now by omega]
/-- what a player has left behind a stop -/
def leftI (l more used : Int) : Int := mn (mx (l - used + more) 1) 1073741824
theorem stop_f (h : MayP l0 l1 more cap who true since fell) (hn : who = 0 ∨ who = 1) (h1 : since ≤ now) (h2 : now ≤ 1073741824) (hf0 : 0 ≤ fell) (hf1 : fell ≤ 255) :
    clock_Stop.f (j + 3) l0 l1 more cap who true since fell now =
      if now - since > roomI (ofWho l0 l1 who) cap then some (if who = 0 then 0 else l0, if who = 0 then l1 else 0, more, cap, who, false, now, who, false, 0)
      else some (if who = 0 then leftI l0 more (now - since) else l0, if who = 0 then l1 else leftI l1 more (now - since), more, cap, who, false, now, fell, true, 0) := by
  have h' := h
  unfold MayP at h'
  obtain ⟨a0, b0, a1, b1, a2, a3, a4, a5, a6⟩ := h'
  unfold clock_Stop.f
  rw [cmay_f _ _ _ _ _ _ _ _ _ _ hf0 hf1, falls_f _ _ _ _ _ _ _ _ h hn h1 h2]
  have e1 : wrap64 (now - since) = now - since := wrap_id (by omega) (by omega)
  have hd : decide (MayP l0 l1 more cap who true since fell ∧ (0 ≤ now ∧ now ≤ 1073741824) ∧ since ≤ now) = true := by
    simp [h, h1, h2, show 0 ≤ now by omega]
  rw [hd]
  rcases hn with rfl | rfl
  · have e2 : wrap64 (l0 - (now - since)) = l0 - (now - since) := wrap_id (by omega) (by omega)
    have e3 : wrap64 (l0 - (now - since) + more) = l0 - (now - since) + more := wrap_id (by omega) (by omega)
    by_cases c : now - since > roomI (ofWho l0 l1 0) cap
    · simp [c]
    · simp [c, e1, e2, e3, leftI]
  · have e2 : wrap64 (l1 - (now - since)) = l1 - (now - since) := wrap_id (by omega) (by omega)
    have e3 : wrap64 (l1 - (now - since) + more) = l1 - (now - since) + more := wrap_id (by omega) (by omega)
    by_cases c : now - since > roomI (ofWho l0 l1 1) cap
    · simp [c]
    · simp [c, e1, e2, e3, leftI]
end
theorem when_off (j : Nat) (l0 l1 more cap who : Int) (on : Bool) (since fell : Int) (hf0 : 0 ≤ fell) (hf1 : fell ≤ 255) (h : ¬ (MayP l0 l1 more cap who on since fell ∧ on = true)) :
    clock_When.f (j + 4) l0 l1 more cap who on since fell = some (0, false) := by
  unfold clock_When.f
  rw [show j + 4 = (j + 1) + 3 by omega, may_f _ _ _ _ _ _ _ _ _ hf0 hf1]
  by_cases c : MayP l0 l1 more cap who on since fell
  · have : on = false := by cases on <;> simp_all
    simp [this, clock_When.j0]
  · simp [c, clock_When.j0]
theorem roomI_bd {l cap : Int} (h0 : 0 ≤ l) (h1 : l ≤ 1073741824) : 0 ≤ roomI l cap ∧ roomI l cap ≤ 1073741824 := by
  unfold roomI
  split
  · split <;> omega
  · omega
theorem when_on (j : Nat) (l0 l1 more cap who since fell : Int) (hf0 : 0 ≤ fell) (hf1 : fell ≤ 255) (h : MayP l0 l1 more cap who true since fell) (hn : who = 0 ∨ who = 1) :
    clock_When.f (j + 4) l0 l1 more cap who true since fell = if since + roomI (ofWho l0 l1 who) cap + 1 ≤ 1073741824 then some (since + roomI (ofWho l0 l1 who) cap + 1, true) else some (0, false) := by
  have h' := h
  unfold MayP at h'
  obtain ⟨a0, b0, a1, b1, a2, a3, a4, a5, a6⟩ := h'
  have hb : 0 ≤ roomI (ofWho l0 l1 who) cap ∧ roomI (ofWho l0 l1 who) cap ≤ 1073741824 := by
    rcases hn with rfl | rfl
    · exact roomI_bd (l := l0) (by omega) (by omega)
    · exact roomI_bd (l := l1) (by omega) (by omega)
  unfold clock_When.f
  rw [show j + 4 = (j + 1) + 3 by omega, may_f _ _ _ _ _ _ _ _ _ hf0 hf1]
  have e1 : wrap64 (since + roomI (ofWho l0 l1 who) cap) = since + roomI (ofWho l0 l1 who) cap := wrap_id (by omega) (by omega)
  have e2 : wrap64 (since + roomI (ofWho l0 l1 who) cap + 1) = since + roomI (ofWho l0 l1 who) cap + 1 := wrap_id (by omega) (by omega)
  simp only [h, decide_true, Option.bind_some, if_true, clock_When.j0, Bool.not_true, Bool.false_eq_true, if_false, room_f _ _ _ _ _ _ _ _ hn, e1, e2, within_f]
  by_cases c : since + roomI (ofWho l0 l1 who) cap + 1 ≤ 1073741824
  · simp [c, show 0 ≤ since + roomI (ofWho l0 l1 who) cap + 1 by omega]
  · simp [c]
end Go.Proofs.YtcdcpnhlmgmnkaaDoor.Clk
