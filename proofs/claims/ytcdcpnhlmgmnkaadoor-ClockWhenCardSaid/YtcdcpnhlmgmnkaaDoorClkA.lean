/- The clock's own examples (the function lives of layer 28): walked. -/
import Derived.Test.YtcdcpnhlmgmnkaaDoorPclkx1
import Derived.Test.YtcdcpnhlmgmnkaaDoorPclkx3
import Derived.Test.YtcdcpnhlmgmnkaaDoorPclkx4
import Derived.Test.YtcdcpnhlmgmnkaaDoorPclkx5
import Derived.Test.YtcdcpnhlmgmnkaaDoorPclkx6
import Derived.Test.YtcdcpnhlmgmnkaaDoorPclkx7
namespace Go.Proofs.YtcdcpnhlmgmnkaaDoor.Clk
open Go.RowKit Go.Proofs.YtcdcpnhlmgmnkaaDoor.Base Go.Proofs.YtcdcpnhlmgmnkaaDoor.Pclk Go.Proofs.YtcdcpnhlmgmnkaaDoorW.PrintWords Go.Proofs.YtcdcpnhlmgmnkaaDoorW.PrintLast

attribute [local go_sem high] eqA22
theorem e1 : clock_New.f 8 60 5 0 = some (60, 60, 5, 0, 0, false, 0, 2, 0) := by kernel_rfl
theorem e2 : clock_Text.f 20 60 60 5 0 0 false 0 2 0 = some (⟨#[49, 58, 48, 48, 32, 49, 58, 48, 48]⟩ : ByteArray) := by kernel_rfl
theorem e3 : clock_Start.f 8 60 60 5 0 0 false 0 2 0 100 = some (60, 60, 5, 0, 0, true, 100, 2, 0) := by kernel_rfl
theorem e4 : clock_Look.f 8 60 60 5 0 0 true 100 2 130 = some (30, 60, false, 0) := by kernel_rfl
theorem e5 : clock_When.f 8 60 60 5 0 0 true 100 2 = some (161, true) := by kernel_rfl
theorem e6 : clock_Stop.f 8 60 60 5 0 0 true 100 2 130 = some (35, 60, 5, 0, 0, false, 130, 2, true, 0) := by kernel_rfl

set_option maxHeartbeats 1000000 in
set_option maxRecDepth 100000 in
theorem lives_calls (w : World) (hg_ : GoodW w) : Calls Tryd.prog 27 #[] w fun e w' => e = .returned (.bool true) ∧ Below w.heap.size w w' := by
  have HG0 := Aside0.mk hg_
  clear hg_
  have HB0 := Aside0.mk (Below.refl w.heap.size w)
  go_enter Tryd.func27, Tryd.ntmps27
  go_wp2_with fail
  refine (clock_New.calls 8 60 5 0 _ _ _ _ _ _ _ _ _ _ e1).mono ?_
  rintro e w1 ⟨rfl, hb⟩
  have HB1 := Aside0.mk (bstep (HB0.out) hb)
  have HG1 := Aside0.mk ((HG0.out).below hb)
  clear hb
  go_wp2_with fail
  refine (clock_Text.calls 20 60 60 5 0 0 false 0 2 0 _ _ ((HG1.out).alloc _) e2).mono ?_
  rintro e w2 ⟨rfl, hb⟩
  have HB2 := Aside0.mk (bstep (balloc (HB1.out) _) hb)
  have HG2 := Aside0.mk (((HG1.out).alloc _).below hb)
  have Bc2 := Aside0.mk (((Blk.new _ 24 #[.int .i64 60, .int .i64 60, .int .i64 5, .int .i64 0, .int .u8 0, .bool false, .int .i64 0, .int .u8 2]).to (show _ = #[.int .i64 60, .int .i64 60, .int .i64 5, .int .i64 0, .int .u8 0, .bool false, .int .i64 0, .int .u8 2] from rfl)).after hb)
  have NG_g_c := Aside0.mk (show w.heap.size ≤ w1.heap.size from Nat.le_trans (HB1.out.size) (by omega))
  clear hb
  obtain ⟨g_c, hg_c⟩ : ∃ g_, w1.heap.size = g_ := ⟨_, rfl⟩
  rw [hg_c] at Bc2 NG_g_c ⊢
  clear hg_c
  have c_c := Bc2.out.cell
  have f_c := Bc2.out.frozen
  have q_c := Bc2.out.lt
  go_wp2_with fail
  refine (clock_Start.calls 8 60 60 5 0 0 false 0 2 0 100 _ _ _ _ _ _ _ _ _ _ e3).mono ?_
  rintro e w3 ⟨rfl, hb⟩
  have HB3 := Aside0.mk (bstep (HB2.out) hb)
  have Bc3 := Aside0.mk (((Bc2.out).to (show _ = #[.int .i64 60, .int .i64 60, .int .i64 5, .int .i64 0, .int .u8 0, .bool false, .int .i64 0, .int .u8 2] from rfl)).after hb)
  clear hb Bc2 c_c f_c q_c
  have c_c := Bc3.out.cell
  have f_c := Bc3.out.frozen
  have q_c := Bc3.out.lt
  go_wp2_with fail
  refine (clock_Look.calls 8 60 60 5 0 0 true 100 2 130 _ _ _ _ _ e4).mono ?_
  rintro e w4 ⟨rfl, hb⟩
  have HB4 := Aside0.mk (bstep (bset (bset (bset (bset (bset (bset (bset (bset (HB3.out) NG_g_c.out) NG_g_c.out) NG_g_c.out) NG_g_c.out) NG_g_c.out) NG_g_c.out) NG_g_c.out) NG_g_c.out) hb)
  have Bc4 := Aside0.mk (((((((((((Bc3.out).set_ 0 (.int .i64 60)).set_ 1 (.int .i64 60)).set_ 2 (.int .i64 5)).set_ 3 (.int .i64 0)).set_ 4 (.int .u8 0)).set_ 5 (.bool true)).set_ 6 (.int .i64 100)).set_ 7 (.int .u8 2)).to (show _ = #[.int .i64 60, .int .i64 60, .int .i64 5, .int .i64 0, .int .u8 0, .bool true, .int .i64 100, .int .u8 2] from rfl)).after hb)
  clear hb Bc3 c_c f_c q_c
  have c_c := Bc4.out.cell
  have f_c := Bc4.out.frozen
  have q_c := Bc4.out.lt
  go_wp2_with fail
  refine (clock_When.calls 8 60 60 5 0 0 true 100 2 _ _ _ e5).mono ?_
  rintro e w5 ⟨rfl, hb⟩
  have HB5 := Aside0.mk (bstep (balloc (HB4.out) _) hb)
  have Bc5 := Aside0.mk ((((Bc4.out).alloc _).to (show _ = #[.int .i64 60, .int .i64 60, .int .i64 5, .int .i64 0, .int .u8 0, .bool true, .int .i64 100, .int .u8 2] from rfl)).after hb)
  have Bl5 := Aside0.mk (((Blk.new _ 22 #[.int .i64 30, .int .i64 60]).to (show _ = #[.int .i64 30, .int .i64 60] from rfl)).after hb)
  have NG_g_l := Aside0.mk (show w.heap.size ≤ w4.heap.size from Nat.le_trans (HB4.out.size) (by omega))
  have NE_g_c_g_l := Aside0.mk (show g_c ≠ w4.heap.size from Nat.ne_of_lt (Nat.lt_of_lt_of_le Bc4.out.lt (by omega)))
  have NE_g_l_g_c := Aside0.mk (show w4.heap.size ≠ g_c from Nat.ne_of_gt (Nat.lt_of_lt_of_le Bc4.out.lt (by omega)))
  clear hb Bc4 c_c f_c q_c
  obtain ⟨g_l, hg_l⟩ : ∃ g_, w4.heap.size = g_ := ⟨_, rfl⟩
  rw [hg_l] at Bl5 NG_g_l NE_g_c_g_l NE_g_l_g_c ⊢
  clear hg_l
  have c_c := Bc5.out.cell
  have f_c := Bc5.out.frozen
  have q_c := Bc5.out.lt
  have c_l := Bl5.out.cell
  have f_l := Bl5.out.frozen
  have q_l := Bl5.out.lt
  go_wp2_with fail
  refine (clock_Stop.calls 8 60 60 5 0 0 true 100 2 130 _ _ _ _ _ _ _ _ _ _ _ e6).mono ?_
  rintro e w6 ⟨rfl, hb⟩
  have HB6 := Aside0.mk (bstep (HB5.out) hb)
  have Bc6 := Aside0.mk (((Bc5.out).to (show _ = #[.int .i64 60, .int .i64 60, .int .i64 5, .int .i64 0, .int .u8 0, .bool true, .int .i64 100, .int .u8 2] from rfl)).after hb)
  have Bl6 := Aside0.mk (((Bl5.out).to (show _ = #[.int .i64 30, .int .i64 60] from rfl)).after hb)
  clear hb Bc5 Bl5 c_c f_c q_c c_l f_l q_l
  have c_c := Bc6.out.cell
  have f_c := Bc6.out.frozen
  have q_c := Bc6.out.lt
  have c_l := Bl6.out.cell
  have f_l := Bl6.out.frozen
  have q_l := Bl6.out.lt
  have nlc := NE_g_l_g_c.out
  have ncl := NE_g_c_g_l.out
  go_wp2_with fail
  go_ret
  exact ⟨rfl, bset (bset (bset (bset (bset (bset (bset (bset (HB6.out) NG_g_c.out) NG_g_c.out) NG_g_c.out) NG_g_c.out) NG_g_c.out) NG_g_c.out) NG_g_c.out) NG_g_c.out⟩
end Go.Proofs.YtcdcpnhlmgmnkaaDoor.Clk
