/- ClockWhen walked (player 0, it falls): nobody falls ahead of When; at When it falls. -/
import Derived.Test.YtcdcpnhlmgmnkaaDoorClkW
import Derived.Test.YtcdcpnhlmgmnkaaDoorClkC
import Derived.Test.YtcdcpnhlmgmnkaaDoorWEqStruct
import Derived.Test.YtcdcpnhlmgmnkaaDoorWMore
import Derived.RegionTactic
import Derived.Deep.QuietTactic
import Derived.BigQuiet
import Derived.Deep.RegionHeld3
import Derived.ChangeAlike
namespace Go.Proofs.YtcdcpnhlmgmnkaaDoor.Clk
open Go.RowKit Go.Proofs.YtcdcpnhlmgmnkaaDoor.Base Go.Proofs.YtcdcpnhlmgmnkaaDoor.Pclk Go.Proofs.YtcdcpnhlmgmnkaaDoorW.PrintWords Go.Proofs.YtcdcpnhlmgmnkaaDoorW.PrintLast Go.Proofs.YtcdcpnhlmgmnkaaDoorW.PrintMore
attribute [local go_sem high] eqA22
attribute [local go_sem] max2_int min2_int max_two min_two
set_option maxHeartbeats 1000000 in
set_option maxRecDepth 100000 in
theorem when_on_0i (k : Nat) (l0 l1 more cap since early n p0 p1 last at_ y0 y1 d0 d r1 s1 s2 s3 r2 : Int) (w : World) (hg_ : GoodW w)
    (hn : Aside0 (clock_When.f k l0 l1 more cap 0 true since 2 = some (n, true))) (hm : Aside0 (clock_May.f k l0 l1 more cap 0 true since 2 = some true))
    (hl1 : Aside0 (clock_Look.f k l0 l1 more cap 0 true since 2 n = some (p0, p1, true, 0))) (hs1 : Aside0 (clock_Stop.f k l0 l1 more cap 0 true since 2 n = some (0, l1, more, cap, 0, false, n, 0, false, 0))) (t0' : Aside0 (wrap64 (n - 1) = last)) (t1' : Aside0 ((n ≤ since) = False))
    (hl2 : Aside0 (clock_Look.f k l0 l1 more cap 0 true since 2 at_ = some ((l0 - (at_ - since)), l1, false, 0))) (hs2 : Aside0 (clock_Stop.f k l0 l1 more cap 0 true since 2 at_ = some (y0, y1, more, cap, 0, false, at_, 2, true, 0)))
    (u1' : Aside0 (IntKind.i64.wrap (at_ - since) = at_ - since)) (u2' : Aside0 (IntKind.i64.wrap (l0 - (at_ - since)) = l0 - (at_ - since))) (u3' : Aside0 ((l0 - (at_ - since) < 0) = False)) (t2' : Aside0 ((last < since) = False)) (z9' : Aside0 ((d = 0) = False))
    (z1' : Aside0 (IntKind.i64.wrap (last - since) = d0)) (z2' : Aside0 (IntKind.i64.wrap (d0 + 1) = d)) (z3' : Aside0 (early.tmod d = r1)) (z4' : Aside0 (IntKind.i64.wrap (r1 + last) = s1)) (z5' : Aside0 (IntKind.i64.wrap (s1 - since) = s2)) (z6' : Aside0 (IntKind.i64.wrap (s2 + 1) = s3)) (z7' : Aside0 (s3.tmod d = r2)) (z8' : Aside0 (IntKind.i64.wrap (last - r2) = at_)) :
    Calls Tryd.prog 5 #[.agg #[.int .i64 l0, .int .i64 l1, .int .i64 more, .int .i64 cap, .int .u8 0, .bool true, .int .i64 since, .int .u8 2], .int .i64 early] w fun e w' => e = .returned (.bool true) ∧ Below w.heap.size w w' := by
  have HG0 := Aside0.mk hg_
  clear hg_
  have HB0 := Aside0.mk (Below.refl w.heap.size w)
  go_enter Tryd.func5, Tryd.ntmps5
  go_wp2_with fail
  refine (clock_When.calls k l0 l1 more cap 0 true since 2 _ _ _ hn.out).mono ?_
  rintro e w1 ⟨rfl, hb⟩
  have HB1 := Aside0.mk (bstep (balloc (HB0.out) _) hb)
  have HG1 := Aside0.mk (((HG0.out).alloc _).below hb)
  have Bc1 := Aside0.mk (((Blk.new _ 24 #[.int .i64 l0, .int .i64 l1, .int .i64 more, .int .i64 cap, .int .u8 0, .bool true, .int .i64 since, .int .u8 2]).to (show _ = #[.int .i64 l0, .int .i64 l1, .int .i64 more, .int .i64 cap, .int .u8 0, .bool true, .int .i64 since, .int .u8 2] from rfl)).after hb)
  have NG_g_c := Aside0.mk (show w.heap.size ≤ w.heap.size from Nat.le_trans (HB0.out.size) (by omega))
  clear hb
  obtain ⟨g_c, hg_c⟩ : ∃ g_, w.heap.size = g_ := ⟨_, rfl⟩
  rw [hg_c] at Bc1 NG_g_c ⊢
  clear hg_c
  have c_c := Bc1.out.cell
  have f_c := Bc1.out.frozen
  have q_c := Bc1.out.lt
  go_wp2_with fail
  refine (clock_May.calls k l0 l1 more cap 0 true since 2 _ _ hm.out).mono ?_
  rintro e w2 ⟨rfl, hb⟩
  have HB2 := Aside0.mk (bstep (HB1.out) hb)
  have HG2 := Aside0.mk ((HG1.out).below hb)
  have Bc2 := Aside0.mk (((Bc1.out).to (show _ = #[.int .i64 l0, .int .i64 l1, .int .i64 more, .int .i64 cap, .int .u8 0, .bool true, .int .i64 since, .int .u8 2] from rfl)).after hb)
  clear hb Bc1 c_c f_c q_c
  have c_c := Bc2.out.cell
  have f_c := Bc2.out.frozen
  have q_c := Bc2.out.lt
  go_wp2_with fail
  refine (clock_Look.calls k l0 l1 more cap 0 true since 2 n _ _ _ _ _ hl1.out).mono ?_
  rintro e w3 ⟨rfl, hb⟩
  have HB3 := Aside0.mk (bstep (HB2.out) hb)
  have HG3 := Aside0.mk ((HG2.out).below hb)
  have Bc3 := Aside0.mk (((Bc2.out).to (show _ = #[.int .i64 l0, .int .i64 l1, .int .i64 more, .int .i64 cap, .int .u8 0, .bool true, .int .i64 since, .int .u8 2] from rfl)).after hb)
  clear hb Bc2 c_c f_c q_c
  have c_c := Bc3.out.cell
  have f_c := Bc3.out.frozen
  have q_c := Bc3.out.lt
  go_wp2_with fail
  refine (clock_Stop.calls k l0 l1 more cap 0 true since 2 n _ _ _ _ _ _ _ _ _ _ _ hs1.out).mono ?_
  rintro e w4 ⟨rfl, hb⟩
  have HB4 := Aside0.mk (bstep (balloc (HB3.out) _) hb)
  have HG4 := Aside0.mk (((HG3.out).alloc _).below hb)
  have Bc4 := Aside0.mk ((((Bc3.out).alloc _).to (show _ = #[.int .i64 l0, .int .i64 l1, .int .i64 more, .int .i64 cap, .int .u8 0, .bool true, .int .i64 since, .int .u8 2] from rfl)).after hb)
  have Bl4 := Aside0.mk (((Blk.new _ 22 #[.int .i64 p0, .int .i64 p1]).to (show _ = #[.int .i64 p0, .int .i64 p1] from rfl)).after hb)
  have NG_g_l := Aside0.mk (show w.heap.size ≤ w3.heap.size from Nat.le_trans (HB3.out.size) (by omega))
  have NE_g_c_g_l := Aside0.mk (show g_c ≠ w3.heap.size from Nat.ne_of_lt (Nat.lt_of_lt_of_le Bc3.out.lt (by omega)))
  have NE_g_l_g_c := Aside0.mk (show w3.heap.size ≠ g_c from Nat.ne_of_gt (Nat.lt_of_lt_of_le Bc3.out.lt (by omega)))
  clear hb Bc3 c_c f_c q_c
  obtain ⟨g_l, hg_l⟩ : ∃ g_, w3.heap.size = g_ := ⟨_, rfl⟩
  rw [hg_l] at Bl4 NG_g_l NE_g_c_g_l NE_g_l_g_c ⊢
  clear hg_l
  have c_c := Bc4.out.cell
  have f_c := Bc4.out.frozen
  have q_c := Bc4.out.lt
  have c_l := Bl4.out.cell
  have f_l := Bl4.out.frozen
  have q_l := Bl4.out.lt
  have t1 := t1'.out
  have t0 := t0'.out
  have t2 := t2'.out
  go_wp2_with fail
  have z1 := z1'.out
  have z2 := z2'.out
  have z3 := z3'.out
  have z4 := z4'.out
  have z5 := z5'.out
  have z6 := z6'.out
  have z7 := z7'.out
  have z8 := z8'.out
  have z9 := z9'.out
  go_quiet (fail)
  go_wp2_with fail
  refine (clock_Look.calls k l0 l1 more cap 0 true since 2 at_ _ _ _ _ _ hl2.out).mono ?_
  rintro e w5 ⟨rfl, hb⟩
  have HB5 := Aside0.mk (bstep (bdrewN (balloc (HB4.out) _) _) hb)
  have HG5 := Aside0.mk ((((HG4.out).alloc _).drewN _).below hb)
  have Bc5 := Aside0.mk (((((Bc4.out).alloc _).drewN _).to (show _ = #[.int .i64 l0, .int .i64 l1, .int .i64 more, .int .i64 cap, .int .u8 0, .bool true, .int .i64 since, .int .u8 2] from rfl)).after hb)
  have Bl5 := Aside0.mk (((((Bl4.out).alloc _).drewN _).to (show _ = #[.int .i64 p0, .int .i64 p1] from rfl)).after hb)
  have Bx5 := Aside0.mk ((((Blk.new _ 24 #[.int .i64 0, .int .i64 l1, .int .i64 more, .int .i64 cap, .int .u8 0, .bool false, .int .i64 n, .int .u8 0]).drewN _).to (show _ = #[.int .i64 0, .int .i64 l1, .int .i64 more, .int .i64 cap, .int .u8 0, .bool false, .int .i64 n, .int .u8 0] from rfl)).after hb)
  have NG_g_x := Aside0.mk (show w.heap.size ≤ w4.heap.size from Nat.le_trans (HB4.out.size) (by omega))
  have NE_g_c_g_x := Aside0.mk (show g_c ≠ w4.heap.size from Nat.ne_of_lt (Nat.lt_of_lt_of_le Bc4.out.lt (by omega)))
  have NE_g_x_g_c := Aside0.mk (show w4.heap.size ≠ g_c from Nat.ne_of_gt (Nat.lt_of_lt_of_le Bc4.out.lt (by omega)))
  have NE_g_l_g_x := Aside0.mk (show g_l ≠ w4.heap.size from Nat.ne_of_lt (Nat.lt_of_lt_of_le Bl4.out.lt (by omega)))
  have NE_g_x_g_l := Aside0.mk (show w4.heap.size ≠ g_l from Nat.ne_of_gt (Nat.lt_of_lt_of_le Bl4.out.lt (by omega)))
  clear hb Bc4 Bl4 c_c f_c q_c c_l f_l q_l
  obtain ⟨g_x, hg_x⟩ : ∃ g_, w4.heap.size = g_ := ⟨_, rfl⟩
  rw [hg_x] at Bx5 NG_g_x NE_g_c_g_x NE_g_l_g_x NE_g_x_g_c NE_g_x_g_l ⊢
  clear hg_x
  have c_c := Bc5.out.cell
  have f_c := Bc5.out.frozen
  have q_c := Bc5.out.lt
  have c_l := Bl5.out.cell
  have f_l := Bl5.out.frozen
  have q_l := Bl5.out.lt
  have c_x := Bx5.out.cell
  have f_x := Bx5.out.frozen
  have q_x := Bx5.out.lt
  go_wp2_with fail
  refine (clock_Stop.calls k l0 l1 more cap 0 true since 2 at_ _ _ _ _ _ _ _ _ _ _ _ hs2.out).mono ?_
  rintro e w6 ⟨rfl, hb⟩
  have HB6 := Aside0.mk (bstep (balloc (HB5.out) _) hb)
  have HG6 := Aside0.mk (((HG5.out).alloc _).below hb)
  have Bc6 := Aside0.mk ((((Bc5.out).alloc _).to (show _ = #[.int .i64 l0, .int .i64 l1, .int .i64 more, .int .i64 cap, .int .u8 0, .bool true, .int .i64 since, .int .u8 2] from rfl)).after hb)
  have Bl6 := Aside0.mk ((((Bl5.out).alloc _).to (show _ = #[.int .i64 p0, .int .i64 p1] from rfl)).after hb)
  have Bx6 := Aside0.mk ((((Bx5.out).alloc _).to (show _ = #[.int .i64 0, .int .i64 l1, .int .i64 more, .int .i64 cap, .int .u8 0, .bool false, .int .i64 n, .int .u8 0] from rfl)).after hb)
  have Bm6 := Aside0.mk (((Blk.new _ 22 #[.int .i64 (l0 - (at_ - since)), .int .i64 l1]).to (show _ = #[.int .i64 (l0 - (at_ - since)), .int .i64 l1] from rfl)).after hb)
  have NG_g_m := Aside0.mk (show w.heap.size ≤ w5.heap.size from Nat.le_trans (HB5.out.size) (by omega))
  have NE_g_c_g_m := Aside0.mk (show g_c ≠ w5.heap.size from Nat.ne_of_lt (Nat.lt_of_lt_of_le Bc5.out.lt (by omega)))
  have NE_g_m_g_c := Aside0.mk (show w5.heap.size ≠ g_c from Nat.ne_of_gt (Nat.lt_of_lt_of_le Bc5.out.lt (by omega)))
  have NE_g_l_g_m := Aside0.mk (show g_l ≠ w5.heap.size from Nat.ne_of_lt (Nat.lt_of_lt_of_le Bl5.out.lt (by omega)))
  have NE_g_m_g_l := Aside0.mk (show w5.heap.size ≠ g_l from Nat.ne_of_gt (Nat.lt_of_lt_of_le Bl5.out.lt (by omega)))
  have NE_g_x_g_m := Aside0.mk (show g_x ≠ w5.heap.size from Nat.ne_of_lt (Nat.lt_of_lt_of_le Bx5.out.lt (by omega)))
  have NE_g_m_g_x := Aside0.mk (show w5.heap.size ≠ g_x from Nat.ne_of_gt (Nat.lt_of_lt_of_le Bx5.out.lt (by omega)))
  clear hb Bc5 Bl5 Bx5 c_c f_c q_c c_l f_l q_l c_x f_x q_x
  obtain ⟨g_m, hg_m⟩ : ∃ g_, w5.heap.size = g_ := ⟨_, rfl⟩
  rw [hg_m] at Bm6 NG_g_m NE_g_c_g_m NE_g_l_g_m NE_g_x_g_m NE_g_m_g_c NE_g_m_g_l NE_g_m_g_x ⊢
  clear hg_m
  have c_c := Bc6.out.cell
  have f_c := Bc6.out.frozen
  have q_c := Bc6.out.lt
  have c_l := Bl6.out.cell
  have f_l := Bl6.out.frozen
  have q_l := Bl6.out.lt
  have c_x := Bx6.out.cell
  have f_x := Bx6.out.frozen
  have q_x := Bx6.out.lt
  have c_m := Bm6.out.cell
  have f_m := Bm6.out.frozen
  have q_m := Bm6.out.lt
  go_wp2_with fail
  have u1 := u1'.out
  have u2 := u2'.out
  have u3 := u3'.out
  have qq_c : g_c < w6.heap.size + 1 := Nat.lt_succ_of_lt q_c
  have qq_m : g_m < w6.heap.size + 1 := Nat.lt_succ_of_lt q_m
  clear z1 z2 z3 z4 z5 z6 z7 z8 z9 t2 t0 t1
  go_region_held3 (fun w' => w'.cell? ⟨g_c, 4, none⟩ = some (.int .u8 0) ∧ w'.cell? ⟨g_c, 0, none⟩ = some (.int .i64 l0) ∧ w'.cell? ⟨g_c, 6, none⟩ = some (.int .i64 since) ∧ w'.cell? ⟨g_m, 0, none⟩ = some (.int .i64 (l0 - (at_ - since))) ∧ w'.cell? ⟨w6.heap.size, 7, none⟩ = some (.int .u8 2)) (go_keep) ((go_at_call 27; refine (lives_calls _ ?hgw).mono ?_; (case hgw => repeat (first | exact HG6.out | refine GoodW.alloc ?_ _ | refine GoodW.drewN ?_ _ | refine GoodW.drew ?_)); rintro e wz ⟨rfl, hb⟩; have HBZ := Aside0.mk hb; have hcw := bcell hb; clear hb))
  clear hcw
  go_wp2_with fail
  go_ret
  refine ⟨rfl, bstep ?_ HBZ.out⟩
  repeat (first | exact HB6.out | refine balloc ?_ _ | refine bdrewN ?_ _ | refine Below.drew ?_)
end Go.Proofs.YtcdcpnhlmgmnkaaDoor.Clk
