/- Joined by a program of this session (pack.py) out of: ClkB ClkC Clkh ClkA Clkd -/
import Derived.Test.YtcdcpnhlmgmnkaaDoorKcgo1
import Derived.Test.YtcdcpnhlmgmnkaaDoorKcgo3
import Derived.Test.YtcdcpnhlmgmnkaaDoorKcgo4
import Derived.Test.YtcdcpnhlmgmnkaaDoorKcgo6
import Derived.Test.YtcdcpnhlmgmnkaaDoorKcgo7
section
/- What a clock's calls answer, in plain words: May, Start. -/
namespace Go.Proofs.YtcdcpnhlmgmnkaaDoor.Clk
open Go.RowKit Go.Proofs.YtcdcpnhlmgmnkaaDoor.Base Go.Proofs.YtcdcpnhlmgmnkaaDoor.Pclk Go.Proofs.YtcdcpnhlmgmnkaaDoorW.PrintWords Go.Proofs.YtcdcpnhlmgmnkaaDoorW.PrintLast

def MayP (l0 l1 more cap who : Int) (on : Bool) (since fell : Int) : Prop :=
  (0 ≤ l0 ∧ l0 ≤ 1073741824) ∧ (l0 = 0 ↔ fell = 0) ∧ (0 ≤ l1 ∧ l1 ≤ 1073741824) ∧ (l1 = 0 ↔ fell = 1) ∧ (0 ≤ more ∧ more ≤ 1073741824) ∧ (0 ≤ cap ∧ cap ≤ 1073741824) ∧ (0 ≤ since ∧ since ≤ 1073741824) ∧ who < 2 ∧ (fell = 2 ∨ fell < 2 ∧ on = false)
instance (l0 l1 more cap who : Int) (on : Bool) (since fell : Int) : Decidable (MayP l0 l1 more cap who on since fell) := by unfold MayP; infer_instance

theorem within_f (a : Int) : clock_within.f a = some (decide (0 ≤ a ∧ a ≤ 1073741824)) := by
  unfold clock_within.f
  split <;> simp <;> omega
theorem wrap_small {a : Int} (h0 : -9223372036854775808 ≤ a) (h1 : a ≤ 9223372036854775807) : wrap64 a = a := by unfold wrap64; omega

theorem beq_iff {a b : Int} {c d : Int} : ((a == b) != (c == d)) = true ↔ ¬ (a = b ↔ c = d) := by
  by_cases h1 : a = b <;> by_cases h2 : c = d <;> simp_all [beq_eq_false_iff_ne.mpr]

theorem may_f (j : Nat) (l0 l1 more cap who : Int) (on : Bool) (since fell : Int) (h0 : 0 ≤ fell) (h1 : fell ≤ 255) :
    clock_May.f (j + 3) l0 l1 more cap who on since fell = some (decide (MayP l0 l1 more cap who on since fell)) := by
  have hw : wrap64 fell = fell := wrap_small (by omega) (by omega)
  have e1 : wrap64 (0 + 1) = 1 := by kernel_rfl
  have e2 : wrap64 (1 + 1) = 2 := by kernel_rfl
  simp only [clock_May.f, clock_May.l0, within_f, Option.bind_some, hw, e1, e2, decide_eq_true_eq, beq_iff]
  unfold MayP
  by_cases c1 : 0 ≤ l0 ∧ l0 ≤ 1073741824
  · by_cases c2 : (l0 = 0 ↔ fell = 0)
    · by_cases c3 : 0 ≤ l1 ∧ l1 ≤ 1073741824
      · by_cases c4 : (l1 = 0 ↔ fell = 1)
        · simp only [c1, c2, c3, c4]
          by_cases c5 : 0 ≤ more ∧ more ≤ 1073741824 <;> by_cases c6 : 0 ≤ cap ∧ cap ≤ 1073741824 <;> by_cases c7 : 0 ≤ since ∧ since ≤ 1073741824 <;> by_cases c8 : who < 2 <;> by_cases c9 : fell = 2 <;> by_cases c10 : fell < 2 <;> cases on <;> simp [c5, c6, c7, c8, c9, c10]
        · simp [c1, c2, c3, c4]
      · simp [c1, c2, c3]
    · simp [c1, c2]
  · simp [c1]

theorem cmay_f (j : Nat) (l0 l1 more cap who : Int) (on : Bool) (since fell now : Int) (h0 : 0 ≤ fell) (h1 : fell ≤ 255) :
    clock_may.f (j + 3) l0 l1 more cap who on since fell now = some (decide (MayP l0 l1 more cap who on since fell ∧ (0 ≤ now ∧ now ≤ 1073741824) ∧ since ≤ now)) := by
  unfold clock_may.f
  rw [may_f _ _ _ _ _ _ _ _ _ h0 h1]
  by_cases c : MayP l0 l1 more cap who on since fell <;> by_cases d : 0 ≤ now ∧ now ≤ 1073741824 <;> simp [c, d, within_f]

theorem start_state (j : Nat) (l0 l1 more cap who0 : Int) (on : Bool) (since fell who now : Int) (h0 : 0 ≤ fell) (h1 : fell ≤ 255)
    (h : MayP l0 l1 more cap who0 on since fell ∧ (0 ≤ now ∧ now ≤ 1073741824) ∧ since ≤ now) (hw : who < 2) (hs : on = true ∨ fell ≠ 2) :
    clock_Start.f (j + 3) l0 l1 more cap who0 on since fell who now = some (0, 0, 0, 0, 0, false, 0, 0, 11) := by
  unfold clock_Start.f
  rw [cmay_f _ _ _ _ _ _ _ _ _ _ h0 h1]
  have hw' : ¬ 2 ≤ who := by omega
  cases on
  · have : fell ≠ 2 := by simpa using hs
    simp [h, clock_Start.j0, hw', this]
  · simp [h, clock_Start.j0, hw']
theorem start_ok (j : Nat) (l0 l1 more cap who0 : Int) (since who now : Int)
    (h : MayP l0 l1 more cap who0 false since 2 ∧ (0 ≤ now ∧ now ≤ 1073741824) ∧ since ≤ now) (hw : who < 2) :
    clock_Start.f (j + 3) l0 l1 more cap who0 false since 2 who now = some (l0, l1, more, cap, who, true, now, 2, 0) := by
  unfold clock_Start.f
  rw [cmay_f _ _ _ _ _ _ _ _ _ _ (by omega) (by omega)]
  have hw' : ¬ 2 ≤ who := by omega
  simp [h, clock_Start.j0, hw']
end Go.Proofs.YtcdcpnhlmgmnkaaDoor.Clk
end
section
/- What a clock's calls answer, in plain words: how long one may take, Look, Stop and When of a clock that runs. -/
namespace Go.Proofs.YtcdcpnhlmgmnkaaDoor.Clk
open Go.RowKit Go.Proofs.YtcdcpnhlmgmnkaaDoor.Base Go.Proofs.YtcdcpnhlmgmnkaaDoor.Pclk Go.Proofs.YtcdcpnhlmgmnkaaDoorW.PrintWords Go.Proofs.YtcdcpnhlmgmnkaaDoorW.PrintLast

/-- how long the player may take who is asked -/
def roomI (l cap : Int) : Int := if cap > 0 then (if l < cap then l else cap) else l
def ofWho (l0 l1 who : Int) : Int := if who = 0 then l0 else l1
theorem mn_is (a b : Int) : mn a b = if a < b then a else b := by unfold mn; split <;> split <;> omega
theorem room_f (l0 l1 more cap who : Int) (on : Bool) (since fell : Int) (h : who = 0 ∨ who = 1) :
    clock_room.f l0 l1 more cap who on since fell = some (roomI (ofWho l0 l1 who) cap) := by
  unfold clock_room.f roomI ofWho
  rcases h with rfl | rfl
  · by_cases c : cap > 0 <;> simp [c, mn_is]
  · by_cases c : cap > 0 <;> simp [c, mn_is]
theorem wrap_id {a : Int} (h0 : -9223372036854775808 ≤ a) (h1 : a ≤ 9223372036854775807) : wrap64 a = a := by unfold wrap64; omega
section
variable (j : Nat) (l0 l1 more cap who since fell now : Int)
theorem falls_f (h : MayP l0 l1 more cap who true since fell) (hn : who = 0 ∨ who = 1) (h1 : since ≤ now) (h2 : now ≤ 1073741824) :
    clock_falls.f l0 l1 more cap who true since fell now = some (decide (now - since > roomI (ofWho l0 l1 who) cap)) := by
  have h' := h
  unfold MayP at h'
  unfold clock_falls.f
  rw [room_f _ _ _ _ _ _ _ _ hn, wrap_id (by omega) (by omega)]
  simp
/-- what a player has left behind a stop -/
def leftI (l more used : Int) : Int := mn (mx (l - used + more) 1) 1073741824
theorem stop_f (h : MayP l0 l1 more cap who true since fell) (hn : who = 0 ∨ who = 1) (h1 : since ≤ now) (h2 : now ≤ 1073741824) (hf0 : 0 ≤ fell) (hf1 : fell ≤ 255) :
    clock_Stop.f (j + 3) l0 l1 more cap who true since fell now =
      if now - since > roomI (ofWho l0 l1 who) cap then some (if who = 0 then 0 else l0, if who = 0 then l1 else 0, more, cap, who, false, now, who, false, 0)
      else some (if who = 0 then leftI l0 more (now - since) else l0, if who = 0 then l1 else leftI l1 more (now - since), more, cap, who, false, now, fell, true, 0) := by
  have h' := h
  unfold MayP at h'
  obtain ⟨a0, b0, a1, b1, a2, a3, a4, a5, a6⟩ := h'
  unfold clock_Stop.f
  rw [cmay_f _ _ _ _ _ _ _ _ _ _ hf0 hf1, falls_f _ _ _ _ _ _ _ _ h hn h1 h2]
  have e1 : wrap64 (now - since) = now - since := wrap_id (by omega) (by omega)
  have hd : decide (MayP l0 l1 more cap who true since fell ∧ (0 ≤ now ∧ now ≤ 1073741824) ∧ since ≤ now) = true := by
    simp [h, h1, h2, show 0 ≤ now by omega]
  rw [hd]
  rcases hn with rfl | rfl
  · have e2 : wrap64 (l0 - (now - since)) = l0 - (now - since) := wrap_id (by omega) (by omega)
    have e3 : wrap64 (l0 - (now - since) + more) = l0 - (now - since) + more := wrap_id (by omega) (by omega)
    by_cases c : now - since > roomI (ofWho l0 l1 0) cap
    · simp [c]
    · simp [c, e1, e2, e3, leftI]
  · have e2 : wrap64 (l1 - (now - since)) = l1 - (now - since) := wrap_id (by omega) (by omega)
    have e3 : wrap64 (l1 - (now - since) + more) = l1 - (now - since) + more := wrap_id (by omega) (by omega)
    by_cases c : now - since > roomI (ofWho l0 l1 1) cap
    · simp [c]
    · simp [c, e1, e2, e3, leftI]
end
end Go.Proofs.YtcdcpnhlmgmnkaaDoor.Clk
end
section
/- What holds of a clock that is played, act by act: the plain law of ClockGoes. -/
namespace Go.Proofs.YtcdcpnhlmgmnkaaDoor.Clk
open Go.RowKit Go.Proofs.YtcdcpnhlmgmnkaaDoor.Base Go.Proofs.YtcdcpnhlmgmnkaaDoor.Pclk Go.Proofs.YtcdcpnhlmgmnkaaDoorW.PrintWords Go.Proofs.YtcdcpnhlmgmnkaaDoorW.PrintLast
structure Inv (base more cap l0 l1 who : Int) (on : Bool) (since fell now u0 u1 : Int) : Prop where
  may : MayP l0 l1 more cap who on since fell
  w0 : 0 ≤ who
  f0 : 0 ≤ fell
  n0 : since ≤ now
  n1 : now ≤ 1073741824
  a0 : 0 ≤ u0
  a1 : u0 ≤ since
  b0 : 0 ≤ u1
  b1 : u1 ≤ since
  s0 : 1 ≤ base
  s1 : base ≤ 1073741824
  k0 : more = 0 → fell ≠ 0 → l0 = mx (base - u0) 1
  k1 : more = 0 → fell ≠ 1 → l1 = mx (base - u1) 1
theorem inv_new {base more cap : Int} (h : MayP base base more cap 0 false 0 2) : Inv base more cap base base 0 false 0 2 0 0 0 := by
  have h' := h
  unfold MayP at h'
  obtain ⟨⟨a1, a2⟩, b, -⟩ := h'
  have e : mx (base - 0) 1 = base := by unfold mx; split <;> omega
  exact ⟨h, by omega, by omega, by omega, by omega, by omega, by omega, by omega, by omega, by omega, a2, fun _ _ => e.symm, fun _ _ => e.symm⟩
theorem Inv.later {base more cap l0 l1 who : Int} {on : Bool} {since fell now u0 u1 now' : Int} (h : Inv base more cap l0 l1 who on since fell now u0 u1) (h1 : now ≤ now') (h2 : now' ≤ 1073741824) : Inv base more cap l0 l1 who on since fell now' u0 u1 :=
  ⟨h.may, h.w0, h.f0, by have := h.n0; omega, h2, h.a0, h.a1, h.b0, h.b1, h.s0, h.s1, h.k0, h.k1⟩
theorem left_ok {base u l d more : Int} (hl : 0 ≤ l ∧ l ≤ 1073741824) (hd : 0 ≤ d) (hm : more = 0) (h : l = mx (base - u) 1) : leftI l more d = mx (base - (u + d)) 1 := by
  subst hm
  unfold leftI mn mx at *
  split at h <;> repeat' split
  all_goals omega
theorem left_bd (l more d : Int) : 1 ≤ leftI l more d ∧ leftI l more d ≤ 1073741824 := by
  unfold leftI mn mx
  repeat' split
  all_goals omega
theorem may_who {l0 l1 more cap who : Int} {on : Bool} {since fell : Int} (h : MayP l0 l1 more cap who on since fell) (h0 : 0 ≤ who) : who = 0 ∨ who = 1 := by
  have := h.2.2.2.2.2.2.2.1
  omega
theorem may_on {l0 l1 more cap who since fell : Int} (h : MayP l0 l1 more cap who true since fell) : fell = 2 := by
  rcases h.2.2.2.2.2.2.2.2 with h | h
  · exact h
  · cases h.2
theorem Inv.stop0a {base more cap l0 l1 since fell now u0 u1 : Int} (h : Inv base more cap l0 l1 0 true since fell now u0 u1) : Inv base more cap 0 l1 0 false now 0 now (u0 + (now - since)) u1 := by
  obtain ⟨h1, h2, h3, h4, h5, h6, h7, h8, h9, h10, h11, h12, h13⟩ := h
  have hf := may_on h1
  subst hf
  unfold MayP at h1
  refine ⟨by unfold MayP; simp; omega, by omega, by omega, by omega, h5, by omega, by omega, h8, by omega, h10, h11, fun _ h => absurd rfl h, fun hm _ => h13 hm (by omega)⟩
theorem Inv.stop1a {base more cap l0 l1 since fell now u0 u1 : Int} (h : Inv base more cap l0 l1 1 true since fell now u0 u1) : Inv base more cap l0 0 1 false now 1 now u0 (u1 + (now - since)) := by
  obtain ⟨h1, h2, h3, h4, h5, h6, h7, h8, h9, h10, h11, h12, h13⟩ := h
  have hf := may_on h1
  subst hf
  unfold MayP at h1
  refine ⟨by unfold MayP; simp; omega, by omega, by omega, by omega, h5, h6, by omega, by omega, by omega, h10, h11, fun hm _ => h12 hm (by omega), fun _ h => absurd rfl h⟩
theorem Inv.stop0b {base more cap l0 l1 since fell now u0 u1 : Int} (h : Inv base more cap l0 l1 0 true since fell now u0 u1) : Inv base more cap (leftI l0 more (now - since)) l1 0 false now 2 now (u0 + (now - since)) u1 := by
  obtain ⟨h1, h2, h3, h4, h5, h6, h7, h8, h9, h10, h11, h12, h13⟩ := h
  have hf := may_on h1
  subst hf
  unfold MayP at h1
  have hb := left_bd l0 more (now - since)
  have hk : more = 0 → leftI l0 more (now - since) = mx (base - (u0 + (now - since))) 1 := fun hm => left_ok h1.1 (by omega) hm (h12 hm (by omega))
  generalize leftI l0 more (now - since) = L at hb hk ⊢
  refine ⟨by unfold MayP; simp; omega, by omega, by omega, by omega, h5, by omega, by omega, h8, by omega, h10, h11, fun hm _ => hk hm, fun hm _ => h13 hm (by omega)⟩
theorem Inv.stop1b {base more cap l0 l1 since fell now u0 u1 : Int} (h : Inv base more cap l0 l1 1 true since fell now u0 u1) : Inv base more cap l0 (leftI l1 more (now - since)) 1 false now 2 now u0 (u1 + (now - since)) := by
  obtain ⟨h1, h2, h3, h4, h5, h6, h7, h8, h9, h10, h11, h12, h13⟩ := h
  have hf := may_on h1
  subst hf
  unfold MayP at h1
  have hb := left_bd l1 more (now - since)
  have hk : more = 0 → leftI l1 more (now - since) = mx (base - (u1 + (now - since))) 1 := fun hm => left_ok h1.2.2.1 (by omega) hm (h13 hm (by omega))
  generalize leftI l1 more (now - since) = L at hb hk ⊢
  refine ⟨by unfold MayP; simp; omega, by omega, by omega, by omega, h5, h6, by omega, by omega, by omega, h10, h11, fun hm _ => h12 hm (by omega), fun hm _ => hk hm⟩
theorem Inv.start {base more cap l0 l1 who since now u0 u1 p : Int} (h : Inv base more cap l0 l1 who false since 2 now u0 u1) (p0 : 0 ≤ p) (p1 : p < 2) : Inv base more cap l0 l1 p true now 2 now u0 u1 := by
  obtain ⟨h1, h2, h3, h4, h5, h6, h7, h8, h9, h10, h11, h12, h13⟩ := h
  unfold MayP at h1
  refine ⟨by unfold MayP; simp; omega, p0, by omega, by omega, h5, h6, by omega, h8, by omega, h10, h11, h12, h13⟩
theorem new_now {now x : Int} (h0 : 0 ≤ now) (h1 : now ≤ 1073741824) : now ≤ mn (wrap64 (now + mx (mn x 1048576) 0)) 1073741824 ∧ mn (wrap64 (now + mx (mn x 1048576) 0)) 1073741824 ≤ 1073741824 := by
  have h : 0 ≤ mx (mn x 1048576) 0 ∧ mx (mn x 1048576) 0 ≤ 1048576 := by unfold mx mn; repeat' split <;> omega
  have hw : wrap64 (now + mx (mn x 1048576) 0) = now + mx (mn x 1048576) 0 := wrap_id (by omega) (by omega)
  rw [hw]
  generalize mx (mn x 1048576) 0 = y at h
  unfold mn
  split <;> omega
end Go.Proofs.YtcdcpnhlmgmnkaaDoor.Clk
end
section
/- The clock's own examples (the function lives of layer 28): walked. -/
namespace Go.Proofs.YtcdcpnhlmgmnkaaDoor.Clk
open Go.RowKit Go.Proofs.YtcdcpnhlmgmnkaaDoor.Base Go.Proofs.YtcdcpnhlmgmnkaaDoor.Pclk Go.Proofs.YtcdcpnhlmgmnkaaDoorW.PrintWords Go.Proofs.YtcdcpnhlmgmnkaaDoorW.PrintLast

attribute [local go_sem high] eqA22
theorem e1 : clock_New.f 8 60 5 0 = some (60, 60, 5, 0, 0, false, 0, 2, 0) := by kernel_rfl
theorem e2 : clock_Text.f 20 60 60 5 0 0 false 0 2 0 = some (⟨#[49, 58, 48, 48, 32, 49, 58, 48, 48]⟩ : ByteArray) := by kernel_rfl
theorem e3 : clock_Start.f 8 60 60 5 0 0 false 0 2 0 100 = some (60, 60, 5, 0, 0, true, 100, 2, 0) := by kernel_rfl
theorem e4 : clock_Look.f 8 60 60 5 0 0 true 100 2 130 = some (30, 60, false, 0) := by kernel_rfl
theorem e5 : clock_When.f 8 60 60 5 0 0 true 100 2 = some (161, true) := by kernel_rfl
theorem e6 : clock_Stop.f 8 60 60 5 0 0 true 100 2 130 = some (35, 60, 5, 0, 0, false, 130, 2, true, 0) := by kernel_rfl

set_option maxHeartbeats 1000000 in
set_option maxRecDepth 100000 in
theorem lives_calls (w : World) (hg_ : GoodW w) : Calls Tryd.prog 27 #[] w fun e w' => e = .returned (.bool true) ∧ Below w.heap.size w w' := by
  have HG0 := Aside0.mk hg_
  clear hg_
  have HB0 := Aside0.mk (Below.refl w.heap.size w)
  go_enter Tryd.func27, Tryd.ntmps27
  go_wp2_with fail
  refine (clock_New.calls 8 60 5 0 _ _ _ _ _ _ _ _ _ _ e1).mono ?_
  rintro e w1 ⟨rfl, hb⟩
  have HB1 := Aside0.mk (bstep (HB0.out) hb)
  have HG1 := Aside0.mk ((HG0.out).below hb)
  clear hb
  go_wp2_with fail
  refine (clock_Text.calls 20 60 60 5 0 0 false 0 2 0 _ _ ((HG1.out).alloc _) e2).mono ?_
  rintro e w2 ⟨rfl, hb⟩
  have HB2 := Aside0.mk (bstep (balloc (HB1.out) _) hb)
  have HG2 := Aside0.mk (((HG1.out).alloc _).below hb)
  have Bc2 := Aside0.mk (((Blk.new _ 24 #[.int .i64 60, .int .i64 60, .int .i64 5, .int .i64 0, .int .u8 0, .bool false, .int .i64 0, .int .u8 2]).to (show _ = #[.int .i64 60, .int .i64 60, .int .i64 5, .int .i64 0, .int .u8 0, .bool false, .int .i64 0, .int .u8 2] from rfl)).after hb)
  have NG_g_c := Aside0.mk (show w.heap.size ≤ w1.heap.size from Nat.le_trans (HB1.out.size) (by omega))
  clear hb
  obtain ⟨g_c, hg_c⟩ : ∃ g_, w1.heap.size = g_ := ⟨_, rfl⟩
  rw [hg_c] at Bc2 NG_g_c ⊢
  clear hg_c
  have c_c := Bc2.out.cell
  have f_c := Bc2.out.frozen
  have q_c := Bc2.out.lt
  go_wp2_with fail
  refine (clock_Start.calls 8 60 60 5 0 0 false 0 2 0 100 _ _ _ _ _ _ _ _ _ _ e3).mono ?_
  rintro e w3 ⟨rfl, hb⟩
  have HB3 := Aside0.mk (bstep (HB2.out) hb)
  have Bc3 := Aside0.mk (((Bc2.out).to (show _ = #[.int .i64 60, .int .i64 60, .int .i64 5, .int .i64 0, .int .u8 0, .bool false, .int .i64 0, .int .u8 2] from rfl)).after hb)
  clear hb Bc2 c_c f_c q_c
  have c_c := Bc3.out.cell
  have f_c := Bc3.out.frozen
  have q_c := Bc3.out.lt
  go_wp2_with fail
  refine (clock_Look.calls 8 60 60 5 0 0 true 100 2 130 _ _ _ _ _ e4).mono ?_
  rintro e w4 ⟨rfl, hb⟩
  have HB4 := Aside0.mk (bstep (bset (bset (bset (bset (bset (bset (bset (bset (HB3.out) NG_g_c.out) NG_g_c.out) NG_g_c.out) NG_g_c.out) NG_g_c.out) NG_g_c.out) NG_g_c.out) NG_g_c.out) hb)
  have Bc4 := Aside0.mk (((((((((((Bc3.out).set_ 0 (.int .i64 60)).set_ 1 (.int .i64 60)).set_ 2 (.int .i64 5)).set_ 3 (.int .i64 0)).set_ 4 (.int .u8 0)).set_ 5 (.bool true)).set_ 6 (.int .i64 100)).set_ 7 (.int .u8 2)).to (show _ = #[.int .i64 60, .int .i64 60, .int .i64 5, .int .i64 0, .int .u8 0, .bool true, .int .i64 100, .int .u8 2] from rfl)).after hb)
  clear hb Bc3 c_c f_c q_c
  have c_c := Bc4.out.cell
  have f_c := Bc4.out.frozen
  have q_c := Bc4.out.lt
  go_wp2_with fail
  refine (clock_When.calls 8 60 60 5 0 0 true 100 2 _ _ _ e5).mono ?_
  rintro e w5 ⟨rfl, hb⟩
  have HB5 := Aside0.mk (bstep (balloc (HB4.out) _) hb)
  have Bc5 := Aside0.mk ((((Bc4.out).alloc _).to (show _ = #[.int .i64 60, .int .i64 60, .int .i64 5, .int .i64 0, .int .u8 0, .bool true, .int .i64 100, .int .u8 2] from rfl)).after hb)
  have Bl5 := Aside0.mk (((Blk.new _ 22 #[.int .i64 30, .int .i64 60]).to (show _ = #[.int .i64 30, .int .i64 60] from rfl)).after hb)
  have NG_g_l := Aside0.mk (show w.heap.size ≤ w4.heap.size from Nat.le_trans (HB4.out.size) (by omega))
  have NE_g_c_g_l := Aside0.mk (show g_c ≠ w4.heap.size from Nat.ne_of_lt (Nat.lt_of_lt_of_le Bc4.out.lt (by omega)))
  have NE_g_l_g_c := Aside0.mk (show w4.heap.size ≠ g_c from Nat.ne_of_gt (Nat.lt_of_lt_of_le Bc4.out.lt (by omega)))
  clear hb Bc4 c_c f_c q_c
  obtain ⟨g_l, hg_l⟩ : ∃ g_, w4.heap.size = g_ := ⟨_, rfl⟩
  rw [hg_l] at Bl5 NG_g_l NE_g_c_g_l NE_g_l_g_c ⊢
  clear hg_l
  have c_c := Bc5.out.cell
  have f_c := Bc5.out.frozen
  have q_c := Bc5.out.lt
  have c_l := Bl5.out.cell
  have f_l := Bl5.out.frozen
  have q_l := Bl5.out.lt
  go_wp2_with fail
  refine (clock_Stop.calls 8 60 60 5 0 0 true 100 2 130 _ _ _ _ _ _ _ _ _ _ _ e6).mono ?_
  rintro e w6 ⟨rfl, hb⟩
  have HB6 := Aside0.mk (bstep (HB5.out) hb)
  have Bc6 := Aside0.mk (((Bc5.out).to (show _ = #[.int .i64 60, .int .i64 60, .int .i64 5, .int .i64 0, .int .u8 0, .bool true, .int .i64 100, .int .u8 2] from rfl)).after hb)
  have Bl6 := Aside0.mk (((Bl5.out).to (show _ = #[.int .i64 30, .int .i64 60] from rfl)).after hb)
  clear hb Bc5 Bl5 c_c f_c q_c c_l f_l q_l
  have c_c := Bc6.out.cell
  have f_c := Bc6.out.frozen
  have q_c := Bc6.out.lt
  have c_l := Bl6.out.cell
  have f_l := Bl6.out.frozen
  have q_l := Bl6.out.lt
  have nlc := NE_g_l_g_c.out
  have ncl := NE_g_c_g_l.out
  go_wp2_with fail
  go_ret
  exact ⟨rfl, bset (bset (bset (bset (bset (bset (bset (bset (HB6.out) NG_g_c.out) NG_g_c.out) NG_g_c.out) NG_g_c.out) NG_g_c.out) NG_g_c.out) NG_g_c.out) NG_g_c.out⟩
end Go.Proofs.YtcdcpnhlmgmnkaaDoor.Clk
end
section
/- The document's digits (the function digits of layer 28's reference): walked. -/
namespace Go.Proofs.YtcdcpnhlmgmnkaaDoor.Base
open Go Go.RowKit Go.Proofs.YtcdcpnhlmgmnkaaDoorW.PrintWords Go.Proofs.YtcdcpnhlmgmnkaaDoorW.PrintLast
def decB (n : Nat) : ByteArray := ⟨(Lib.decDigits n).toArray⟩
theorem digit_at (d : Nat) (hd : d < 10) (w : World) : (Instr.slice 9 (Value.string { data := #[48, 49, 50, 51, 52, 53, 54, 55, 56, 57] }) (some (Value.int IntKind.i64 (d : Int))) (some (Value.int IntKind.i64 ((d : Int) + 1))) none).run Tryd.prog w = .ok (.string ⟨#[UInt8.ofNat (48 + d)]⟩) w := by
  have h : d = 0 ∨ d = 1 ∨ d = 2 ∨ d = 3 ∨ d = 4 ∨ d = 5 ∨ d = 6 ∨ d = 7 ∨ d = 8 ∨ d = 9 := by omega
  rcases h with rfl | rfl | rfl | rfl | rfl | rfl | rfl | rfl | rfl | rfl <;> (show _ = _; kernel_rfl)
theorem dec_small {n : Nat} (h : n < 10) : decB n = ⟨#[UInt8.ofNat (48 + n)]⟩ := by unfold decB; rw [Lib.decDigits, dif_pos h]
theorem dec_big {n : Nat} (h : ¬ n < 10) : decB (n / 10) ++ ⟨#[UInt8.ofNat (48 + n % 10)]⟩ = decB n := by
  unfold decB
  rw [Lib.decDigits.eq_def n, dif_neg h]
  rfl
theorem dec_len (n : Nat) (hn : n < 4611686018427387904) : (decB n).size ≤ 64 := by
  have : ∀ k u : Nat, u < 10 ^ (k + 1) → Lib.nDigits u ≤ k + 1 := by
    intro k
    induction k with
    | zero => intro u hu; rw [Lib.nDigits_small (by simpa using hu)]; exact Nat.le_refl _
    | succ k ih =>
      intro u hu
      by_cases h : u < 10
      · rw [Lib.nDigits_small h]; omega
      · rw [Lib.nDigits_big h]
        have := ih (u / 10) (by rw [Nat.pow_succ] at hu; omega)
        omega
  have h1 := this 63 n (Nat.lt_of_lt_of_le hn (by decide))
  show (Lib.decDigits n).toArray.size ≤ 64
  rw [List.size_toArray, Lib.decDigits_length]
  exact h1
set_option maxRecDepth 100000 in
set_option maxHeartbeats 1000000 in
theorem digits_walk (n : Nat) : n < 4611686018427387904 → ∀ w : World, Calls Tryd.prog 52 #[.int .i64 (n : Int)] w fun e w' => e = .returned (.string (decB n)) ∧ w' = w := by
  induction n using Nat.strongRecOn with
  | _ n ih =>
    intro hn w
    obtain ⟨d, hd⟩ : ∃ d, n % 10 = d := ⟨_, rfl⟩
    have hd10 : d < 10 := by omega
    have h1 : Int.tmod (n : Int) 10 = (d : Int) := by rw [← hd]; rfl
    have h2 : wrap64 ((d : Int) + 1) = (d : Int) + 1 := by unfold wrap64; omega
    have hsl := digit_at d hd10 w
    obtain ⟨c, hc⟩ : ∃ c : UInt8, UInt8.ofNat (48 + d) = c := ⟨_, rfl⟩
    rw [hc] at hsl
    have HC := Aside0.mk hc
    clear hc
    have HN := Aside0.mk hn
    have HD := Aside0.mk hd
    clear hd hn hd10
    by_cases hs : n < 10
    · have e1 : decide ((n : Int) < 10) = true := decide_eq_true (by omega)
      go_enter Tryd.func52, Tryd.ntmps52
      go_wp2_with fail
      go_ret
      refine ⟨?_, rfl⟩
      show Ending.returned (Value.string ⟨#[c]⟩) = _
      rw [← HC.out]
      rw [dec_small hs, ← HD.out, Nat.mod_eq_of_lt hs]
    · have e1 : decide ((n : Int) < 10) = false := decide_eq_false (by omega)
      obtain ⟨q, hq⟩ : ∃ q, n / 10 = q := ⟨_, rfl⟩
      have h3 : Int.tdiv (n : Int) 10 = (q : Int) := by rw [← hq]; rfl
      have h4 : wrap64 (q : Int) = (q : Int) := by have := HN.out; unfold wrap64; omega
      have HQ := Aside0.mk hq
      have IH := Aside0.mk (ih q (by omega) (by have := HN.out; omega))
      have HS := Aside0.mk hs
      have hsz : (decB q).size ≤ 64 := dec_len q (by have := HN.out; omega)
      have hsz2 : (9223372036854775807 < (decB q).size + 1) = False := eq_false (by omega)
      clear hq ih hs hsz
      go_enter Tryd.func52, Tryd.ntmps52
      go_wp2_with (go_at_call 52; refine (IH.out _).mono ?_; rintro e w1 ⟨rfl, rfl⟩)
      go_ret
      refine ⟨?_, rfl⟩
      show Ending.returned (Value.string (decB q ++ ⟨#[c]⟩)) = _
      rw [← HC.out]
      rw [← HD.out, ← HQ.out, dec_big HS.out]
def joustref28_digits.f (a0 : Int) : Option ByteArray := if 0 ≤ a0 ∧ a0 < 4611686018427387904 then some (decB a0.toNat) else none
theorem joustref28_digits.calls (a0 : Int) (r : ByteArray) (w : World) (h : joustref28_digits.f a0 = some r) :
    Calls Tryd.prog 52 #[.int .i64 a0] w fun e w' => e = .returned (.string r) ∧ Below w.heap.size w w' := by
  unfold joustref28_digits.f at h
  split at h
  · rename_i hb
    obtain ⟨n, rfl⟩ := Int.eq_ofNat_of_zero_le hb.1
    obtain rfl := Option.some.inj h
    refine (digits_walk n (by omega) w).mono ?_
    rintro e w' ⟨rfl, rfl⟩
    exact ⟨rfl, Below.refl _ _⟩
  · cases h
end Go.Proofs.YtcdcpnhlmgmnkaaDoor.Base
end
