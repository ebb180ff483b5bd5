/- ClockStays walked: started and stopped at one tick. -/
import Derived.Test.YtcdcpnhlmgmnkaaDoorClkA
import Derived.Test.YtcdcpnhlmgmnkaaDoorClkB
import Derived.Test.YtcdcpnhlmgmnkaaDoorWEqStruct
import Derived.Test.YtcdcpnhlmgmnkaaDoorWMore
import Derived.RegionTactic
import Derived.ChangeAlike
namespace Go.Proofs.YtcdcpnhlmgmnkaaDoor.Clk
open Go.RowKit Go.Proofs.YtcdcpnhlmgmnkaaDoor.Base Go.Proofs.YtcdcpnhlmgmnkaaDoor.Pclk Go.Proofs.YtcdcpnhlmgmnkaaDoorW.PrintWords Go.Proofs.YtcdcpnhlmgmnkaaDoorW.PrintLast Go.Proofs.YtcdcpnhlmgmnkaaDoorW.PrintMore

theorem eqA24 (d : Nat) (w : World) (x0 y0 : Int) (x1 y1 : Int) (x2 y2 : Int) (x3 y3 : Int) (x4 y4 : Int) (x5 y5 : Bool) (x6 y6 : Int) (x7 y7 : Int) :
    (Op.equalIn (d + 3) 24 (.agg #[.int .i64 x0, .int .i64 x1, .int .i64 x2, .int .i64 x3, .int .u8 x4, .bool x5, .int .i64 x6, .int .u8 x7]) (.agg #[.int .i64 y0, .int .i64 y1, .int .i64 y2, .int .i64 y3, .int .u8 y4, .bool y5, .int .i64 y6, .int .u8 y7])).run Tryd.prog w = .ok ((x0 == y0 && (x1 == y1)) && (x2 == y2 && (x3 == y3 && (x4 == y4 && (x5 == y5 && (x6 == y6 && (x7 == y7))))))) w := by
  refine eqA_of Tryd.underlying24 (by kernel_rfl) ?_
  refine eqf_cons (by rfl) (by go_simp) (by go_simp) (eqA22 (d + 0) w _ _ _ _) ?_
  refine eqf_cons (by rfl) (by go_simp; rfl) (by go_simp; rfl) (by go_simp) ?_
  refine eqf_cons (by rfl) (by go_simp; rfl) (by go_simp; rfl) (by go_simp) ?_
  refine eqf_cons (by rfl) (by go_simp; rfl) (by go_simp; rfl) (by go_simp) ?_
  refine eqf_cons (by rfl) (by go_simp; rfl) (by go_simp; rfl) (by go_simp) ?_
  refine eqf_cons (by rfl) (by go_simp; rfl) (by go_simp; rfl) (by go_simp) ?_
  exact eqf_last (by rfl) (by go_simp; rfl) (by go_simp; rfl) (by go_simp)
attribute [local go_sem high] eqA22 eqA24

set_option maxHeartbeats 1000000 in
set_option maxRecDepth 100000 in
theorem stays_err (k : Nat) (l0 l1 more cap who0 : Int) (on : Bool) (since fell who now er : Int) (w : World) (hg_ : GoodW w)
    (hs : clock_Start.f k l0 l1 more cap who0 on since fell who now = some (0, 0, 0, 0, 0, false, 0, 0, er)) (her : Aside0 (er ≠ 0)) :
    Calls Tryd.prog 6 #[.agg #[.int .i64 l0, .int .i64 l1, .int .i64 more, .int .i64 cap, .int .u8 who0, .bool on, .int .i64 since, .int .u8 fell], .int .u8 who, .int .i64 now] w fun e w' => e = .returned (.bool true) ∧ Below w.heap.size w w' := by
  have HG0 := Aside0.mk hg_
  clear hg_
  have HB0 := Aside0.mk (Below.refl w.heap.size w)
  go_enter Tryd.func6, Tryd.ntmps6
  go_wp2_with fail
  refine (clock_Start.calls k l0 l1 more cap who0 on since fell who now _ _ _ _ _ _ _ _ _ _ hs).mono ?_
  rintro e w1 ⟨rfl, hb⟩
  have HB1 := Aside0.mk (bstep (balloc (HB0.out) _) hb)
  have HG1 := Aside0.mk (((HG0.out).alloc _).below hb)
  have Bc1 := Aside0.mk (((Blk.new _ 24 #[.int .i64 l0, .int .i64 l1, .int .i64 more, .int .i64 cap, .int .u8 who0, .bool on, .int .i64 since, .int .u8 fell]).to (show _ = #[.int .i64 l0, .int .i64 l1, .int .i64 more, .int .i64 cap, .int .u8 who0, .bool on, .int .i64 since, .int .u8 fell] from rfl)).after hb)
  have NG_g_c := Aside0.mk (show w.heap.size ≤ w.heap.size from Nat.le_trans (HB0.out.size) (by omega))
  clear hb
  obtain ⟨g_c, hg_c⟩ : ∃ g_, w.heap.size = g_ := ⟨_, rfl⟩
  rw [hg_c] at Bc1 NG_g_c ⊢
  clear hg_c
  have c_c := Bc1.out.cell
  have f_c := Bc1.out.frozen
  have q_c := Bc1.out.lt
  have he : ((er : Int) != 0) = true := bne_iff_ne.mpr her.out
  go_wp2_with fail
  refine (lives_calls _ ((HG1.out).alloc _)).mono ?_
  rintro e w2 ⟨rfl, hb⟩
  have HB2 := Aside0.mk (bstep (balloc (HB1.out) _) hb)
  have HG2 := Aside0.mk (((HG1.out).alloc _).below hb)
  have Bc2 := Aside0.mk ((((Bc1.out).alloc _).to (show _ = #[.int .i64 l0, .int .i64 l1, .int .i64 more, .int .i64 cap, .int .u8 who0, .bool on, .int .i64 since, .int .u8 fell] from rfl)).after hb)
  have Bx2 := Aside0.mk (((Blk.new _ 24 #[.int .i64 0, .int .i64 0, .int .i64 0, .int .i64 0, .int .u8 0, .bool false, .int .i64 0, .int .u8 0]).to (show _ = #[.int .i64 0, .int .i64 0, .int .i64 0, .int .i64 0, .int .u8 0, .bool false, .int .i64 0, .int .u8 0] from rfl)).after hb)
  have NG_g_x := Aside0.mk (show w.heap.size ≤ w1.heap.size from Nat.le_trans (HB1.out.size) (by omega))
  have NE_g_c_g_x := Aside0.mk (show g_c ≠ w1.heap.size from Nat.ne_of_lt (Nat.lt_of_lt_of_le Bc1.out.lt (by omega)))
  have NE_g_x_g_c := Aside0.mk (show w1.heap.size ≠ g_c from Nat.ne_of_gt (Nat.lt_of_lt_of_le Bc1.out.lt (by omega)))
  clear hb Bc1 c_c f_c q_c
  obtain ⟨g_x, hg_x⟩ : ∃ g_, w1.heap.size = g_ := ⟨_, rfl⟩
  rw [hg_x] at Bx2 NG_g_x NE_g_c_g_x NE_g_x_g_c ⊢
  clear hg_x
  have c_c := Bc2.out.cell
  have f_c := Bc2.out.frozen
  have q_c := Bc2.out.lt
  have c_x := Bx2.out.cell
  have f_x := Bx2.out.frozen
  have q_x := Bx2.out.lt
  go_wp2_with fail
  go_ret
  exact ⟨rfl, HB2.out⟩

attribute [local go_sem] max2_int min2_int max_two min_two
theorem mn_def (a b : Int) : mn a b = if b < a then b else a := rfl
theorem stop_now0 (j : Nat) (l0 l1 more cap now : Int) (h : MayP l0 l1 more cap 0 true now 2) :
    clock_Stop.f (j + 3) l0 l1 more cap 0 true now 2 now = some (mn (l0 + more) 1073741824, l1, more, cap, 0, false, now, 2, true, 0) := by
  have h' := h
  unfold MayP at h'
  obtain ⟨a0, b0, a1, b1, a2, a3, a4, _, _⟩ := h'
  have e1 : wrap64 (now - now) = 0 := by unfold wrap64; omega
  have e0 : wrap64 0 = 0 := by kernel_rfl
  have e3 : wrap64 (l0 + more) = l0 + more := by unfold wrap64; omega
  have e4 : mx (l0 + more) 1 = l0 + more := by unfold mx; omega
  have e2 : wrap64 l0 = l0 := by unfold wrap64; omega
  have hf : clock_falls.f l0 l1 more cap 0 true now 2 now = some false := by
    unfold clock_falls.f clock_room.f
    rw [e1]
    by_cases c : cap > 0
    · simp [c, mn, e0]; split <;> omega
    · simp [c, e0]; omega
  unfold clock_Stop.f
  rw [cmay_f _ _ _ _ _ _ _ _ _ _ (by omega) (by omega), hf]
  simp [h, a4, e0, e2, e3, e4]
theorem stop_now1 (j : Nat) (l0 l1 more cap now : Int) (h : MayP l0 l1 more cap 1 true now 2) :
    clock_Stop.f (j + 3) l0 l1 more cap 1 true now 2 now = some (l0, mn (l1 + more) 1073741824, more, cap, 1, false, now, 2, true, 0) := by
  have h' := h
  unfold MayP at h'
  obtain ⟨a0, b0, a1, b1, a2, a3, a4, _, _⟩ := h'
  have e1 : wrap64 (now - now) = 0 := by unfold wrap64; omega
  have e0 : wrap64 0 = 0 := by kernel_rfl
  have e3 : wrap64 (l1 + more) = l1 + more := by unfold wrap64; omega
  have e4 : mx (l1 + more) 1 = l1 + more := by unfold mx; omega
  have e2 : wrap64 l1 = l1 := by unfold wrap64; omega
  have hf : clock_falls.f l0 l1 more cap 1 true now 2 now = some false := by
    unfold clock_falls.f clock_room.f
    rw [e1]
    by_cases c : cap > 0
    · simp [c, mn, e0]; split <;> omega
    · simp [c, e0]; omega
  unfold clock_Stop.f
  rw [cmay_f _ _ _ _ _ _ _ _ _ _ (by omega) (by omega), hf]
  simp [h, a4, e0, e2, e3, e4]
set_option maxHeartbeats 1000000 in
set_option maxRecDepth 100000 in
theorem stays_ok0a (k : Nat) (l0 l1 more cap who0 since now : Int) (w : World) (hg_ : GoodW w) (b0 : 0 ≤ l0) (b1 : l0 ≤ 1073741824) (b2 : 0 ≤ l1) (b3 : l1 ≤ 1073741824) (b4 : 0 ≤ more) (b5 : more ≤ 1073741824)
    (hm : Aside0 ((1073741824 < l0 + more) = False))
    (hs : Aside0 (clock_Start.f k l0 l1 more cap who0 false since 2 0 now = some (l0, l1, more, cap, 0, true, now, 2, 0)))
    (ht : Aside0 (clock_Stop.f k l0 l1 more cap 0 true now 2 now = some ((l0 + more), l1, more, cap, 0, false, now, 2, true, 0))) :
    Calls Tryd.prog 6 #[.agg #[.int .i64 l0, .int .i64 l1, .int .i64 more, .int .i64 cap, .int .u8 who0, .bool false, .int .i64 since, .int .u8 2], .int .u8 0, .int .i64 now] w fun e w' => e = .returned (.bool true) ∧ Below w.heap.size w w' := by
  have HG0 := Aside0.mk hg_
  clear hg_
  have HB0 := Aside0.mk (Below.refl w.heap.size w)
  go_enter Tryd.func6, Tryd.ntmps6
  go_wp2_with fail
  refine (clock_Start.calls k l0 l1 more cap who0 false since 2 0 now _ _ _ _ _ _ _ _ _ _ hs.out).mono ?_
  rintro e w1 ⟨rfl, hb⟩
  have HB1 := Aside0.mk (bstep (balloc (HB0.out) _) hb)
  have HG1 := Aside0.mk (((HG0.out).alloc _).below hb)
  have Bc1 := Aside0.mk (((Blk.new _ 24 #[.int .i64 l0, .int .i64 l1, .int .i64 more, .int .i64 cap, .int .u8 who0, .bool false, .int .i64 since, .int .u8 2]).to (show _ = #[.int .i64 l0, .int .i64 l1, .int .i64 more, .int .i64 cap, .int .u8 who0, .bool false, .int .i64 since, .int .u8 2] from rfl)).after hb)
  have NG_g_c := Aside0.mk (show w.heap.size ≤ w.heap.size from Nat.le_trans (HB0.out.size) (by omega))
  clear hb
  obtain ⟨g_c, hg_c⟩ : ∃ g_, w.heap.size = g_ := ⟨_, rfl⟩
  rw [hg_c] at Bc1 NG_g_c ⊢
  clear hg_c
  have c_c := Bc1.out.cell
  have f_c := Bc1.out.frozen
  have q_c := Bc1.out.lt
  go_wp2_with fail
  refine (clock_Stop.calls k l0 l1 more cap 0 true now 2 now _ _ _ _ _ _ _ _ _ _ _ ht.out).mono ?_
  rintro e w2 ⟨rfl, hb⟩
  have HB2 := Aside0.mk (bstep (balloc (HB1.out) _) hb)
  have HG2 := Aside0.mk (((HG1.out).alloc _).below hb)
  have Bc2 := Aside0.mk ((((Bc1.out).alloc _).to (show _ = #[.int .i64 l0, .int .i64 l1, .int .i64 more, .int .i64 cap, .int .u8 who0, .bool false, .int .i64 since, .int .u8 2] from rfl)).after hb)
  have Bx2 := Aside0.mk (((Blk.new _ 24 #[.int .i64 l0, .int .i64 l1, .int .i64 more, .int .i64 cap, .int .u8 0, .bool true, .int .i64 now, .int .u8 2]).to (show _ = #[.int .i64 l0, .int .i64 l1, .int .i64 more, .int .i64 cap, .int .u8 0, .bool true, .int .i64 now, .int .u8 2] from rfl)).after hb)
  have NG_g_x := Aside0.mk (show w.heap.size ≤ w1.heap.size from Nat.le_trans (HB1.out.size) (by omega))
  have NE_g_c_g_x := Aside0.mk (show g_c ≠ w1.heap.size from Nat.ne_of_lt (Nat.lt_of_lt_of_le Bc1.out.lt (by omega)))
  have NE_g_x_g_c := Aside0.mk (show w1.heap.size ≠ g_c from Nat.ne_of_gt (Nat.lt_of_lt_of_le Bc1.out.lt (by omega)))
  clear hb Bc1 c_c f_c q_c
  obtain ⟨g_x, hg_x⟩ : ∃ g_, w1.heap.size = g_ := ⟨_, rfl⟩
  rw [hg_x] at Bx2 NG_g_x NE_g_c_g_x NE_g_x_g_c ⊢
  clear hg_x
  have c_c := Bc2.out.cell
  have f_c := Bc2.out.frozen
  have q_c := Bc2.out.lt
  have c_x := Bx2.out.cell
  have f_x := Bx2.out.frozen
  have q_x := Bx2.out.lt
  go_wp2_with fail
  have hm1 := hm.out
  go_region
  go_wp2_with fail
  refine (lives_calls _ (((HG2.out.alloc _).alloc _).drew)).mono ?_
  rintro e w3 ⟨rfl, hb⟩
  have HB3 := bstep ((balloc (balloc HB2.out _) _).drew) hb
  clear hb
  have HBQ := Aside0.mk HB3
  clear HB3
  go_wp2_with fail
  go_ret
  exact ⟨rfl, HBQ.out⟩
set_option maxHeartbeats 1000000 in
set_option maxRecDepth 100000 in
theorem stays_ok0b (k : Nat) (l0 l1 more cap who0 since now : Int) (w : World) (hg_ : GoodW w) (b0 : 0 ≤ l0) (b1 : l0 ≤ 1073741824) (b2 : 0 ≤ l1) (b3 : l1 ≤ 1073741824) (b4 : 0 ≤ more) (b5 : more ≤ 1073741824)
    (hm : Aside0 ((1073741824 < l0 + more) = True))
    (hs : Aside0 (clock_Start.f k l0 l1 more cap who0 false since 2 0 now = some (l0, l1, more, cap, 0, true, now, 2, 0)))
    (ht : Aside0 (clock_Stop.f k l0 l1 more cap 0 true now 2 now = some (1073741824, l1, more, cap, 0, false, now, 2, true, 0))) :
    Calls Tryd.prog 6 #[.agg #[.int .i64 l0, .int .i64 l1, .int .i64 more, .int .i64 cap, .int .u8 who0, .bool false, .int .i64 since, .int .u8 2], .int .u8 0, .int .i64 now] w fun e w' => e = .returned (.bool true) ∧ Below w.heap.size w w' := by
  have HG0 := Aside0.mk hg_
  clear hg_
  have HB0 := Aside0.mk (Below.refl w.heap.size w)
  go_enter Tryd.func6, Tryd.ntmps6
  go_wp2_with fail
  refine (clock_Start.calls k l0 l1 more cap who0 false since 2 0 now _ _ _ _ _ _ _ _ _ _ hs.out).mono ?_
  rintro e w1 ⟨rfl, hb⟩
  have HB1 := Aside0.mk (bstep (balloc (HB0.out) _) hb)
  have HG1 := Aside0.mk (((HG0.out).alloc _).below hb)
  have Bc1 := Aside0.mk (((Blk.new _ 24 #[.int .i64 l0, .int .i64 l1, .int .i64 more, .int .i64 cap, .int .u8 who0, .bool false, .int .i64 since, .int .u8 2]).to (show _ = #[.int .i64 l0, .int .i64 l1, .int .i64 more, .int .i64 cap, .int .u8 who0, .bool false, .int .i64 since, .int .u8 2] from rfl)).after hb)
  have NG_g_c := Aside0.mk (show w.heap.size ≤ w.heap.size from Nat.le_trans (HB0.out.size) (by omega))
  clear hb
  obtain ⟨g_c, hg_c⟩ : ∃ g_, w.heap.size = g_ := ⟨_, rfl⟩
  rw [hg_c] at Bc1 NG_g_c ⊢
  clear hg_c
  have c_c := Bc1.out.cell
  have f_c := Bc1.out.frozen
  have q_c := Bc1.out.lt
  go_wp2_with fail
  refine (clock_Stop.calls k l0 l1 more cap 0 true now 2 now _ _ _ _ _ _ _ _ _ _ _ ht.out).mono ?_
  rintro e w2 ⟨rfl, hb⟩
  have HB2 := Aside0.mk (bstep (balloc (HB1.out) _) hb)
  have HG2 := Aside0.mk (((HG1.out).alloc _).below hb)
  have Bc2 := Aside0.mk ((((Bc1.out).alloc _).to (show _ = #[.int .i64 l0, .int .i64 l1, .int .i64 more, .int .i64 cap, .int .u8 who0, .bool false, .int .i64 since, .int .u8 2] from rfl)).after hb)
  have Bx2 := Aside0.mk (((Blk.new _ 24 #[.int .i64 l0, .int .i64 l1, .int .i64 more, .int .i64 cap, .int .u8 0, .bool true, .int .i64 now, .int .u8 2]).to (show _ = #[.int .i64 l0, .int .i64 l1, .int .i64 more, .int .i64 cap, .int .u8 0, .bool true, .int .i64 now, .int .u8 2] from rfl)).after hb)
  have NG_g_x := Aside0.mk (show w.heap.size ≤ w1.heap.size from Nat.le_trans (HB1.out.size) (by omega))
  have NE_g_c_g_x := Aside0.mk (show g_c ≠ w1.heap.size from Nat.ne_of_lt (Nat.lt_of_lt_of_le Bc1.out.lt (by omega)))
  have NE_g_x_g_c := Aside0.mk (show w1.heap.size ≠ g_c from Nat.ne_of_gt (Nat.lt_of_lt_of_le Bc1.out.lt (by omega)))
  clear hb Bc1 c_c f_c q_c
  obtain ⟨g_x, hg_x⟩ : ∃ g_, w1.heap.size = g_ := ⟨_, rfl⟩
  rw [hg_x] at Bx2 NG_g_x NE_g_c_g_x NE_g_x_g_c ⊢
  clear hg_x
  have c_c := Bc2.out.cell
  have f_c := Bc2.out.frozen
  have q_c := Bc2.out.lt
  have c_x := Bx2.out.cell
  have f_x := Bx2.out.frozen
  have q_x := Bx2.out.lt
  go_wp2_with fail
  have hm1 := hm.out
  go_region
  go_wp2_with fail
  refine (lives_calls _ (((HG2.out.alloc _).alloc _).drew)).mono ?_
  rintro e w3 ⟨rfl, hb⟩
  have HB3 := bstep ((balloc (balloc HB2.out _) _).drew) hb
  clear hb
  have HBQ := Aside0.mk HB3
  clear HB3
  go_wp2_with fail
  go_ret
  exact ⟨rfl, HBQ.out⟩
set_option maxHeartbeats 1000000 in
set_option maxRecDepth 100000 in
theorem stays_ok1a (k : Nat) (l0 l1 more cap who0 since now : Int) (w : World) (hg_ : GoodW w) (b0 : 0 ≤ l0) (b1 : l0 ≤ 1073741824) (b2 : 0 ≤ l1) (b3 : l1 ≤ 1073741824) (b4 : 0 ≤ more) (b5 : more ≤ 1073741824)
    (hm : Aside0 ((1073741824 < l1 + more) = False))
    (hs : Aside0 (clock_Start.f k l0 l1 more cap who0 false since 2 1 now = some (l0, l1, more, cap, 1, true, now, 2, 0)))
    (ht : Aside0 (clock_Stop.f k l0 l1 more cap 1 true now 2 now = some (l0, (l1 + more), more, cap, 1, false, now, 2, true, 0))) :
    Calls Tryd.prog 6 #[.agg #[.int .i64 l0, .int .i64 l1, .int .i64 more, .int .i64 cap, .int .u8 who0, .bool false, .int .i64 since, .int .u8 2], .int .u8 1, .int .i64 now] w fun e w' => e = .returned (.bool true) ∧ Below w.heap.size w w' := by
  have HG0 := Aside0.mk hg_
  clear hg_
  have HB0 := Aside0.mk (Below.refl w.heap.size w)
  go_enter Tryd.func6, Tryd.ntmps6
  go_wp2_with fail
  refine (clock_Start.calls k l0 l1 more cap who0 false since 2 1 now _ _ _ _ _ _ _ _ _ _ hs.out).mono ?_
  rintro e w1 ⟨rfl, hb⟩
  have HB1 := Aside0.mk (bstep (balloc (HB0.out) _) hb)
  have HG1 := Aside0.mk (((HG0.out).alloc _).below hb)
  have Bc1 := Aside0.mk (((Blk.new _ 24 #[.int .i64 l0, .int .i64 l1, .int .i64 more, .int .i64 cap, .int .u8 who0, .bool false, .int .i64 since, .int .u8 2]).to (show _ = #[.int .i64 l0, .int .i64 l1, .int .i64 more, .int .i64 cap, .int .u8 who0, .bool false, .int .i64 since, .int .u8 2] from rfl)).after hb)
  have NG_g_c := Aside0.mk (show w.heap.size ≤ w.heap.size from Nat.le_trans (HB0.out.size) (by omega))
  clear hb
  obtain ⟨g_c, hg_c⟩ : ∃ g_, w.heap.size = g_ := ⟨_, rfl⟩
  rw [hg_c] at Bc1 NG_g_c ⊢
  clear hg_c
  have c_c := Bc1.out.cell
  have f_c := Bc1.out.frozen
  have q_c := Bc1.out.lt
  go_wp2_with fail
  refine (clock_Stop.calls k l0 l1 more cap 1 true now 2 now _ _ _ _ _ _ _ _ _ _ _ ht.out).mono ?_
  rintro e w2 ⟨rfl, hb⟩
  have HB2 := Aside0.mk (bstep (balloc (HB1.out) _) hb)
  have HG2 := Aside0.mk (((HG1.out).alloc _).below hb)
  have Bc2 := Aside0.mk ((((Bc1.out).alloc _).to (show _ = #[.int .i64 l0, .int .i64 l1, .int .i64 more, .int .i64 cap, .int .u8 who0, .bool false, .int .i64 since, .int .u8 2] from rfl)).after hb)
  have Bx2 := Aside0.mk (((Blk.new _ 24 #[.int .i64 l0, .int .i64 l1, .int .i64 more, .int .i64 cap, .int .u8 1, .bool true, .int .i64 now, .int .u8 2]).to (show _ = #[.int .i64 l0, .int .i64 l1, .int .i64 more, .int .i64 cap, .int .u8 1, .bool true, .int .i64 now, .int .u8 2] from rfl)).after hb)
  have NG_g_x := Aside0.mk (show w.heap.size ≤ w1.heap.size from Nat.le_trans (HB1.out.size) (by omega))
  have NE_g_c_g_x := Aside0.mk (show g_c ≠ w1.heap.size from Nat.ne_of_lt (Nat.lt_of_lt_of_le Bc1.out.lt (by omega)))
  have NE_g_x_g_c := Aside0.mk (show w1.heap.size ≠ g_c from Nat.ne_of_gt (Nat.lt_of_lt_of_le Bc1.out.lt (by omega)))
  clear hb Bc1 c_c f_c q_c
  obtain ⟨g_x, hg_x⟩ : ∃ g_, w1.heap.size = g_ := ⟨_, rfl⟩
  rw [hg_x] at Bx2 NG_g_x NE_g_c_g_x NE_g_x_g_c ⊢
  clear hg_x
  have c_c := Bc2.out.cell
  have f_c := Bc2.out.frozen
  have q_c := Bc2.out.lt
  have c_x := Bx2.out.cell
  have f_x := Bx2.out.frozen
  have q_x := Bx2.out.lt
  go_wp2_with fail
  have hm1 := hm.out
  go_region
  go_wp2_with fail
  refine (lives_calls _ (((HG2.out.alloc _).alloc _).drew)).mono ?_
  rintro e w3 ⟨rfl, hb⟩
  have HB3 := bstep ((balloc (balloc HB2.out _) _).drew) hb
  clear hb
  have HBQ := Aside0.mk HB3
  clear HB3
  go_wp2_with fail
  go_ret
  exact ⟨rfl, HBQ.out⟩
set_option maxHeartbeats 1000000 in
set_option maxRecDepth 100000 in
theorem stays_ok1b (k : Nat) (l0 l1 more cap who0 since now : Int) (w : World) (hg_ : GoodW w) (b0 : 0 ≤ l0) (b1 : l0 ≤ 1073741824) (b2 : 0 ≤ l1) (b3 : l1 ≤ 1073741824) (b4 : 0 ≤ more) (b5 : more ≤ 1073741824)
    (hm : Aside0 ((1073741824 < l1 + more) = True))
    (hs : Aside0 (clock_Start.f k l0 l1 more cap who0 false since 2 1 now = some (l0, l1, more, cap, 1, true, now, 2, 0)))
    (ht : Aside0 (clock_Stop.f k l0 l1 more cap 1 true now 2 now = some (l0, 1073741824, more, cap, 1, false, now, 2, true, 0))) :
    Calls Tryd.prog 6 #[.agg #[.int .i64 l0, .int .i64 l1, .int .i64 more, .int .i64 cap, .int .u8 who0, .bool false, .int .i64 since, .int .u8 2], .int .u8 1, .int .i64 now] w fun e w' => e = .returned (.bool true) ∧ Below w.heap.size w w' := by
  have HG0 := Aside0.mk hg_
  clear hg_
  have HB0 := Aside0.mk (Below.refl w.heap.size w)
  go_enter Tryd.func6, Tryd.ntmps6
  go_wp2_with fail
  refine (clock_Start.calls k l0 l1 more cap who0 false since 2 1 now _ _ _ _ _ _ _ _ _ _ hs.out).mono ?_
  rintro e w1 ⟨rfl, hb⟩
  have HB1 := Aside0.mk (bstep (balloc (HB0.out) _) hb)
  have HG1 := Aside0.mk (((HG0.out).alloc _).below hb)
  have Bc1 := Aside0.mk (((Blk.new _ 24 #[.int .i64 l0, .int .i64 l1, .int .i64 more, .int .i64 cap, .int .u8 who0, .bool false, .int .i64 since, .int .u8 2]).to (show _ = #[.int .i64 l0, .int .i64 l1, .int .i64 more, .int .i64 cap, .int .u8 who0, .bool false, .int .i64 since, .int .u8 2] from rfl)).after hb)
  have NG_g_c := Aside0.mk (show w.heap.size ≤ w.heap.size from Nat.le_trans (HB0.out.size) (by omega))
  clear hb
  obtain ⟨g_c, hg_c⟩ : ∃ g_, w.heap.size = g_ := ⟨_, rfl⟩
  rw [hg_c] at Bc1 NG_g_c ⊢
  clear hg_c
  have c_c := Bc1.out.cell
  have f_c := Bc1.out.frozen
  have q_c := Bc1.out.lt
  go_wp2_with fail
  refine (clock_Stop.calls k l0 l1 more cap 1 true now 2 now _ _ _ _ _ _ _ _ _ _ _ ht.out).mono ?_
  rintro e w2 ⟨rfl, hb⟩
  have HB2 := Aside0.mk (bstep (balloc (HB1.out) _) hb)
  have HG2 := Aside0.mk (((HG1.out).alloc _).below hb)
  have Bc2 := Aside0.mk ((((Bc1.out).alloc _).to (show _ = #[.int .i64 l0, .int .i64 l1, .int .i64 more, .int .i64 cap, .int .u8 who0, .bool false, .int .i64 since, .int .u8 2] from rfl)).after hb)
  have Bx2 := Aside0.mk (((Blk.new _ 24 #[.int .i64 l0, .int .i64 l1, .int .i64 more, .int .i64 cap, .int .u8 1, .bool true, .int .i64 now, .int .u8 2]).to (show _ = #[.int .i64 l0, .int .i64 l1, .int .i64 more, .int .i64 cap, .int .u8 1, .bool true, .int .i64 now, .int .u8 2] from rfl)).after hb)
  have NG_g_x := Aside0.mk (show w.heap.size ≤ w1.heap.size from Nat.le_trans (HB1.out.size) (by omega))
  have NE_g_c_g_x := Aside0.mk (show g_c ≠ w1.heap.size from Nat.ne_of_lt (Nat.lt_of_lt_of_le Bc1.out.lt (by omega)))
  have NE_g_x_g_c := Aside0.mk (show w1.heap.size ≠ g_c from Nat.ne_of_gt (Nat.lt_of_lt_of_le Bc1.out.lt (by omega)))
  clear hb Bc1 c_c f_c q_c
  obtain ⟨g_x, hg_x⟩ : ∃ g_, w1.heap.size = g_ := ⟨_, rfl⟩
  rw [hg_x] at Bx2 NG_g_x NE_g_c_g_x NE_g_x_g_c ⊢
  clear hg_x
  have c_c := Bc2.out.cell
  have f_c := Bc2.out.frozen
  have q_c := Bc2.out.lt
  have c_x := Bx2.out.cell
  have f_x := Bx2.out.frozen
  have q_x := Bx2.out.lt
  go_wp2_with fail
  have hm1 := hm.out
  go_region
  go_wp2_with fail
  refine (lives_calls _ (((HG2.out.alloc _).alloc _).drew)).mono ?_
  rintro e w3 ⟨rfl, hb⟩
  have HB3 := bstep ((balloc (balloc HB2.out _) _).drew) hb
  clear hb
  have HBQ := Aside0.mk HB3
  clear HB3
  go_wp2_with fail
  go_ret
  exact ⟨rfl, HBQ.out⟩

theorem mn_le {a b : Int} (h : a ≤ b) : mn a b = a := by unfold mn; split <;> omega
theorem mn_ge {a b : Int} (h : b < a) : mn a b = b := by unfold mn; split <;> omega
theorem u8b {a : Int} (h : (Lit.int .u8 a).wf = true) : 0 ≤ a ∧ a ≤ 255 := by simpa [Lit.wf, IntKind.min, IntKind.max, IntKind.signed, IntKind.bits] using h

theorem ClockStays_walk (l0 l1 more cap who0 : Int) (on : Bool) (since fell who now : Int) (w : World)
    (_ : (Lit.int .i64 l0).wf = true) (_ : (Lit.int .i64 l1).wf = true) (_ : (Lit.int .i64 more).wf = true) (_ : (Lit.int .i64 cap).wf = true) (_ : (Lit.int .u8 who0).wf = true) (_ : (Lit.int .i64 since).wf = true)
    (hf : (Lit.int .u8 fell).wf = true) (hw : (Lit.int .u8 who).wf = true) (_ : (Lit.int .i64 now).wf = true) (hg_ : GoodW w) :
    Calls Tryd.prog 6 #[.agg #[.int .i64 l0, .int .i64 l1, .int .i64 more, .int .i64 cap, .int .u8 who0, .bool on, .int .i64 since, .int .u8 fell], .int .u8 who, .int .i64 now] w fun e w' => e = .returned (.bool true) ∧ Below w.heap.size w w' := by
  obtain ⟨f0, f1⟩ := u8b hf
  obtain ⟨h0, h1⟩ := u8b hw
  by_cases hA : (MayP l0 l1 more cap who0 on since fell ∧ (0 ≤ now ∧ now ≤ 1073741824) ∧ since ≤ now) ∧ who < 2
  · obtain ⟨hM, hwho⟩ := hA
    by_cases hB : on = false ∧ fell = 2
    · obtain ⟨rfl, rfl⟩ := hB
      have hs := start_ok 0 l0 l1 more cap who0 since who now hM hwho
      have hM0 := hM.1
      unfold MayP at hM0
      obtain ⟨⟨a0, a1⟩, b0, ⟨a2, a3⟩, b1, ⟨a4, a5⟩, a6, a7, _, _⟩ := hM0
      have hM1 : ∀ z : Int, z < 2 → MayP l0 l1 more cap z true now 2 := fun z hz => by
        unfold MayP
        exact ⟨⟨a0, a1⟩, b0, ⟨a2, a3⟩, b1, ⟨a4, a5⟩, a6, hM.2.1, hz, Or.inl rfl⟩
      rcases (by omega : who = 0 ∨ who = 1) with rfl | rfl
      · have ht := stop_now0 0 l0 l1 more cap now (hM1 0 (by omega))
        by_cases hm : 1073741824 < l0 + more
        · rw [mn_ge hm] at ht
          exact stays_ok0b 3 l0 l1 more cap who0 since now w hg_ a0 a1 a2 a3 a4 a5 ⟨eq_true hm⟩ ⟨hs⟩ ⟨ht⟩
        · rw [mn_le (by omega)] at ht
          exact stays_ok0a 3 l0 l1 more cap who0 since now w hg_ a0 a1 a2 a3 a4 a5 ⟨eq_false hm⟩ ⟨hs⟩ ⟨ht⟩
      · have ht := stop_now1 0 l0 l1 more cap now (hM1 1 (by omega))
        by_cases hm : 1073741824 < l1 + more
        · rw [mn_ge hm] at ht
          exact stays_ok1b 3 l0 l1 more cap who0 since now w hg_ a0 a1 a2 a3 a4 a5 ⟨eq_true hm⟩ ⟨hs⟩ ⟨ht⟩
        · rw [mn_le (by omega)] at ht
          exact stays_ok1a 3 l0 l1 more cap who0 since now w hg_ a0 a1 a2 a3 a4 a5 ⟨eq_false hm⟩ ⟨hs⟩ ⟨ht⟩
    · refine stays_err 3 l0 l1 more cap who0 on since fell who now 11 w hg_ (start_state 0 _ _ _ _ _ _ _ _ _ _ f0 f1 hM hwho ?_) ⟨by decide⟩
      cases on
      · exact Or.inr (fun h => hB ⟨rfl, h⟩)
      · exact Or.inl rfl
  · refine stays_err 3 l0 l1 more cap who0 on since fell who now 2 w hg_ (start_arg 0 _ _ _ _ _ _ _ _ _ _ f0 f1 ?_) ⟨by decide⟩
    by_cases hc : MayP l0 l1 more cap who0 on since fell ∧ (0 ≤ now ∧ now ≤ 1073741824) ∧ since ≤ now
    · exact Or.inr (by have : ¬ who < 2 := fun h => hA ⟨hc, h⟩; omega)
    · exact Or.inl hc
end Go.Proofs.YtcdcpnhlmgmnkaaDoor.Clk
