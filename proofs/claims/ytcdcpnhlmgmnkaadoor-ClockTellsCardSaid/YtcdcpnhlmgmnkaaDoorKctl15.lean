/- Joined by a program of this session (pack.py) out of: Pctlx4 -/
import Derived.Test.YtcdcpnhlmgmnkaaDoorKctl8
import Derived.Test.YtcdcpnhlmgmnkaaDoorKctl14
section
namespace Go.Proofs.YtcdcpnhlmgmnkaaDoor.Pctl
open Go.RowKit Go.Proofs.YtcdcpnhlmgmnkaaDoor.Base Go.Proofs.YtcdcpnhlmgmnkaaDoorW.PrintWords Go.Proofs.YtcdcpnhlmgmnkaaDoorW.PrintLast Go.Proofs.YtcdcpnhlmgmnkaaDoorW.PrintMore
attribute [local go_sem] max2_int min2_int max_two min_two max_three min_three max_four min_four   -- for this text's walks alone
set_option linter.unusedVariables false
set_option linter.unusedSimpArgs false
attribute [local go_sem high] eqA22 eqA24
mutual
def joustlaw28_ClockTells.j0 : Nat → Int → Int → Bool → Int → Int → Int → Int → Int → Bool → Int → Int → Option (Bool)
 | 0, _, _, _, _, _, _, _, _, _, _, _ => none
 | k + 1, x4, x5, x62, x102000, x102001, x102002, x102003, x102004, x102005, x102006, x102007 => if x62 = true then (some false) else ((Pclk.clock_Start.f k x102000 x102001 x102002 x102003 x102004 x102005 x102006 x102007 x4 x5).bind fun bt126 => ((Pcrf.joustref28_Start.f k x102000 x102001 x102002 x102003 x102004 x102005 x102006 x102007 x4 x5).bind fun bt135 => (if ((!(bt126.1 == bt135.1) || (!(bt126.2.1 == bt135.2.1))) || (!(bt126.2.2.1 == bt135.2.2.1) || (!(bt126.2.2.2.1 == bt135.2.2.2.1) || (!(bt126.2.2.2.2.1 == bt135.2.2.2.2.1) || (!(bt126.2.2.2.2.2.1 == bt135.2.2.2.2.2.1) || (!(bt126.2.2.2.2.2.2.1 == bt135.2.2.2.2.2.2.1) || (!(bt126.2.2.2.2.2.2.2.1 == bt135.2.2.2.2.2.2.2.1)))))))) = true then (joustlaw28_ClockTells.j1 k x5 true x102000 x102001 x102002 x102003 x102004 x102005 x102006 x102007) else (joustlaw28_ClockTells.j1 k x5 (bt126.2.2.2.2.2.2.2.2 != bt135.2.2.2.2.2.2.2.2) x102000 x102001 x102002 x102003 x102004 x102005 x102006 x102007))))
def joustlaw28_ClockTells.j1 : Nat → Int → Bool → Int → Int → Int → Int → Int → Bool → Int → Int → Option (Bool)
 | 0, _, _, _, _, _, _, _, _, _, _ => none
 | k + 1, x5, x84, x102000, x102001, x102002, x102003, x102004, x102005, x102006, x102007 => if x84 = true then (some false) else ((Pclk.clock_Stop.f k x102000 x102001 x102002 x102003 x102004 x102005 x102006 x102007 x5).bind fun bt144 => ((Pcrf.joustref28_Stop.f k x102000 x102001 x102002 x102003 x102004 x102005 x102006 x102007 x5).bind fun bt154 => (if ((!(bt144.1 == bt154.1) || (!(bt144.2.1 == bt154.2.1))) || (!(bt144.2.2.1 == bt154.2.2.1) || (!(bt144.2.2.2.1 == bt154.2.2.2.1) || (!(bt144.2.2.2.2.1 == bt154.2.2.2.2.1) || (!(bt144.2.2.2.2.2.1 == bt154.2.2.2.2.2.1) || (!(bt144.2.2.2.2.2.2.1 == bt154.2.2.2.2.2.2.1) || (!(bt144.2.2.2.2.2.2.2.1 == bt154.2.2.2.2.2.2.2.1)))))))) = true then (joustlaw28_ClockTells.j2 k x5 true x102000 x102001 x102002 x102003 x102004 x102005 x102006 x102007) else (if (bt144.2.2.2.2.2.2.2.2.1 != bt154.2.2.2.2.2.2.2.2.1) = true then (joustlaw28_ClockTells.j2 k x5 true x102000 x102001 x102002 x102003 x102004 x102005 x102006 x102007) else (joustlaw28_ClockTells.j2 k x5 (bt144.2.2.2.2.2.2.2.2.2 != bt154.2.2.2.2.2.2.2.2.2) x102000 x102001 x102002 x102003 x102004 x102005 x102006 x102007)))))
def joustlaw28_ClockTells.j2 : Nat → Int → Bool → Int → Int → Int → Int → Int → Bool → Int → Int → Option (Bool)
 | 0, _, _, _, _, _, _, _, _, _, _ => none
 | k + 1, x5, x111, x102000, x102001, x102002, x102003, x102004, x102005, x102006, x102007 => if x111 = true then (some false) else ((Pclk.clock_Look.f k x102000 x102001 x102002 x102003 x102004 x102005 x102006 x102007 x5).bind fun bt164 => ((Pcrf.joustref28_Look.f k x102000 x102001 x102002 x102003 x102004 x102005 x102006 x102007 x5).bind fun bt169 => ((Pclk.clock_When.f k x102000 x102001 x102002 x102003 x102004 x102005 x102006 x102007).bind fun bt174 => ((Pcrf.joustref28_When.f k x102000 x102001 x102002 x102003 x102004 x102005 x102006 x102007).bind fun bt176 => (if (bt164.1 == bt169.1 && (bt164.2.1 == bt169.2.1)) = true then (if (bt164.2.2.1 == bt169.2.2.1) = true then (if bt164.2.2.2 = bt169.2.2.2 then (if bt174.1 = bt176.1 then (if (bt174.2 == bt176.2) = true then ((clk_lives.f).bind fun t178 => (some t178)) else (some false)) else (some false)) else (some false)) else (some false)) else (some false))))))
end
def joustlaw28_ClockTells.f (k : Nat) (a0_0 : Int) (a0_1 : Int) (a0_2 : Int) (a0_3 : Int) (a0_4 : Int) (a0_5 : Bool) (a0_6 : Int) (a0_7 : Int) (a1 : Int) (a2 : Int) (a3 : Int) (a4 : Int) (a5 : Int) : Option (Bool) := (Pclk.clock_New.f k a1 a2 a3).bind fun bt102 => ((Pcrf.joustref28_New.f a1 a2 a3).bind fun bt112 => (if ((!(bt102.1 == bt112.1) || (!(bt102.2.1 == bt112.2.1))) || (!(bt102.2.2.1 == bt112.2.2.1) || (!(bt102.2.2.2.1 == bt112.2.2.2.1) || (!(bt102.2.2.2.2.1 == bt112.2.2.2.2.1) || (!(bt102.2.2.2.2.2.1 == bt112.2.2.2.2.2.1) || (!(bt102.2.2.2.2.2.2.1 == bt112.2.2.2.2.2.2.1) || (!(bt102.2.2.2.2.2.2.2.1 == bt112.2.2.2.2.2.2.2.1)))))))) = true then (joustlaw28_ClockTells.j0 k a4 a5 true a0_0 a0_1 a0_2 a0_3 a0_4 a0_5 a0_6 a0_7) else (if bt102.2.2.2.2.2.2.2.2 = bt112.2.2.2.2.2.2.2.2 then ((Pclk.clock_May.f k a0_0 a0_1 a0_2 a0_3 a0_4 a0_5 a0_6 a0_7).bind fun t122 => ((Pcrf.joustref28_May.f k a0_0 a0_1 a0_2 a0_3 a0_4 a0_5 a0_6 a0_7).bind fun t123 => (if (t122 != t123) = true then (joustlaw28_ClockTells.j0 k a4 a5 true a0_0 a0_1 a0_2 a0_3 a0_4 a0_5 a0_6 a0_7) else ((Pclk.clock_Text.f k a0_0 a0_1 a0_2 a0_3 a0_4 a0_5 a0_6 a0_7 a5).bind fun t124 => ((Pcrt.joustref28_Text.f k a0_0 a0_1 a0_2 a0_3 a0_4 a0_5 a0_6 a0_7 a5).bind fun t125 => (joustlaw28_ClockTells.j0 k a4 a5 (t124.toList != t125.toList) a0_0 a0_1 a0_2 a0_3 a0_4 a0_5 a0_6 a0_7)))))) else (joustlaw28_ClockTells.j0 k a4 a5 true a0_0 a0_1 a0_2 a0_3 a0_4 a0_5 a0_6 a0_7))))
def joustlaw28_ClockTells.T3 : Bool × List (List Nat × List Nat) := (true, [([], []), ([], []), ([0, 1], [0, 1]), ([2], [2]), ([3], [3]), ([3], [3]), ([4, 5, 3], [3, 4, 5]), ([3, 6], [3, 6]), ([7, 3], [7]), ([8], [8]), ([9, 8, 8], [8, 9]), ([8], [8]), ([11, 10, 8], [8, 11]), ([10, 12, 8], [8, 10, 12]), ([8, 13], [8, 13]), ([14, 12], [14]), ([15], [15]), ([15], [15]), ([16, 17, 15, 15], [15, 16, 17]), ([15], [15]), ([15], [15]), ([19, 20, 18, 15], [15, 19, 20]), ([18, 21, 15], [15, 18, 21]), ([15, 22], [15, 22])])
def joustlaw28_ClockTells.B3 : List Nat := [0, 0, 3, 7, 15, 15, 63, 127, 255, 511, 1023, 511, 4095, 8191, 16383, 32767, 65535, 65535, 262143, 65535, 65535, 2097151, 4194303, 8388607]
theorem joustlaw28_ClockTells.tab3 : rtab .any (opsOf Tryd.f3 3) = joustlaw28_ClockTells.T3 := by kernel_rfl
theorem joustlaw28_ClockTells.bits3 : waitsOk joustlaw28_ClockTells.T3.2 joustlaw28_ClockTells.B3 = true := by kernel_rfl
set_option maxHeartbeats 8000000 in
set_option maxRecDepth 100000 in
theorem joustlaw28_ClockTells.calls (k : Nat) (a0_0 : Int) (a0_1 : Int) (a0_2 : Int) (a0_3 : Int) (a0_4 : Int) (a0_5 : Bool) (a0_6 : Int) (a0_7 : Int) (a1 : Int) (a2 : Int) (a3 : Int) (a4 : Int) (a5 : Int) (r : Bool) (w : World) (hg_ : GoodW w) (h : joustlaw28_ClockTells.f k a0_0 a0_1 a0_2 a0_3 a0_4 a0_5 a0_6 a0_7 a1 a2 a3 a4 a5 = some r) :
  Calls Tryd.prog 3 #[.agg #[.int .i64 a0_0, .int .i64 a0_1, .int .i64 a0_2, .int .i64 a0_3, .int .u8 a0_4, .bool a0_5, .int .i64 a0_6, .int .u8 a0_7], .int .i64 a1, .int .i64 a2, .int .i64 a3, .int .u8 a4, .int .i64 a5] w fun e w' => e = .returned (.bool r) ∧ Below w.heap.size w w' := by
 have hu24 := Tryd.underlying24
 have hu22 := Tryd.underlying22
 have HGW := Aside0.mk hg_
 clear hg_
 have HB := Aside0.mk (Below.refl w.heap.size w)
 have H : ((Pclk.clock_New.f k a1 a2 a3).bind fun bt102 => ((Pcrf.joustref28_New.f a1 a2 a3).bind fun bt112 => (if ((!(bt102.1 == bt112.1) || (!(bt102.2.1 == bt112.2.1))) || (!(bt102.2.2.1 == bt112.2.2.1) || (!(bt102.2.2.2.1 == bt112.2.2.2.1) || (!(bt102.2.2.2.2.1 == bt112.2.2.2.2.1) || (!(bt102.2.2.2.2.2.1 == bt112.2.2.2.2.2.1) || (!(bt102.2.2.2.2.2.2.1 == bt112.2.2.2.2.2.2.1) || (!(bt102.2.2.2.2.2.2.2.1 == bt112.2.2.2.2.2.2.2.1)))))))) = true then (joustlaw28_ClockTells.j0 k a4 a5 true a0_0 a0_1 a0_2 a0_3 a0_4 a0_5 a0_6 a0_7) else (if bt102.2.2.2.2.2.2.2.2 = bt112.2.2.2.2.2.2.2.2 then ((Pclk.clock_May.f k a0_0 a0_1 a0_2 a0_3 a0_4 a0_5 a0_6 a0_7).bind fun t122 => ((Pcrf.joustref28_May.f k a0_0 a0_1 a0_2 a0_3 a0_4 a0_5 a0_6 a0_7).bind fun t123 => (if (t122 != t123) = true then (joustlaw28_ClockTells.j0 k a4 a5 true a0_0 a0_1 a0_2 a0_3 a0_4 a0_5 a0_6 a0_7) else ((Pclk.clock_Text.f k a0_0 a0_1 a0_2 a0_3 a0_4 a0_5 a0_6 a0_7 a5).bind fun t124 => ((Pcrt.joustref28_Text.f k a0_0 a0_1 a0_2 a0_3 a0_4 a0_5 a0_6 a0_7 a5).bind fun t125 => (joustlaw28_ClockTells.j0 k a4 a5 (t124.toList != t125.toList) a0_0 a0_1 a0_2 a0_3 a0_4 a0_5 a0_6 a0_7)))))) else (joustlaw28_ClockTells.j0 k a4 a5 true a0_0 a0_1 a0_2 a0_3 a0_4 a0_5 a0_6 a0_7))))) = some r := h
 clear h
 replace H := Option.bind_eq_some_iff.mp H
 obtain ⟨⟨t102, t103, t104, t105, t106, t107, t108, t109, t110⟩, A70, H⟩ := H
 replace H : ((Pcrf.joustref28_New.f a1 a2 a3).bind fun bt112 => (if ((!(t102 == bt112.1) || (!(t103 == bt112.2.1))) || (!(t104 == bt112.2.2.1) || (!(t105 == bt112.2.2.2.1) || (!(t106 == bt112.2.2.2.2.1) || (!(t107 == bt112.2.2.2.2.2.1) || (!(t108 == bt112.2.2.2.2.2.2.1) || (!(t109 == bt112.2.2.2.2.2.2.2.1)))))))) = true then (joustlaw28_ClockTells.j0 k a4 a5 true a0_0 a0_1 a0_2 a0_3 a0_4 a0_5 a0_6 a0_7) else (if t110 = bt112.2.2.2.2.2.2.2.2 then ((Pclk.clock_May.f k a0_0 a0_1 a0_2 a0_3 a0_4 a0_5 a0_6 a0_7).bind fun t122 => ((Pcrf.joustref28_May.f k a0_0 a0_1 a0_2 a0_3 a0_4 a0_5 a0_6 a0_7).bind fun t123 => (if (t122 != t123) = true then (joustlaw28_ClockTells.j0 k a4 a5 true a0_0 a0_1 a0_2 a0_3 a0_4 a0_5 a0_6 a0_7) else ((Pclk.clock_Text.f k a0_0 a0_1 a0_2 a0_3 a0_4 a0_5 a0_6 a0_7 a5).bind fun t124 => ((Pcrt.joustref28_Text.f k a0_0 a0_1 a0_2 a0_3 a0_4 a0_5 a0_6 a0_7 a5).bind fun t125 => (joustlaw28_ClockTells.j0 k a4 a5 (t124.toList != t125.toList) a0_0 a0_1 a0_2 a0_3 a0_4 a0_5 a0_6 a0_7)))))) else (joustlaw28_ClockTells.j0 k a4 a5 true a0_0 a0_1 a0_2 a0_3 a0_4 a0_5 a0_6 a0_7)))) = some r := H
 have A7 := Aside0.mk A70
 clear A70
 replace H := Option.bind_eq_some_iff.mp H
 obtain ⟨⟨t112, t113, t114, t115, t116, t117, t118, t119, t120⟩, A80, H⟩ := H
 replace H : (if ((!(t102 == t112) || (!(t103 == t113))) || (!(t104 == t114) || (!(t105 == t115) || (!(t106 == t116) || (!(t107 == t117) || (!(t108 == t118) || (!(t109 == t119)))))))) = true then (joustlaw28_ClockTells.j0 k a4 a5 true a0_0 a0_1 a0_2 a0_3 a0_4 a0_5 a0_6 a0_7) else (if t110 = t120 then ((Pclk.clock_May.f k a0_0 a0_1 a0_2 a0_3 a0_4 a0_5 a0_6 a0_7).bind fun t122 => ((Pcrf.joustref28_May.f k a0_0 a0_1 a0_2 a0_3 a0_4 a0_5 a0_6 a0_7).bind fun t123 => (if (t122 != t123) = true then (joustlaw28_ClockTells.j0 k a4 a5 true a0_0 a0_1 a0_2 a0_3 a0_4 a0_5 a0_6 a0_7) else ((Pclk.clock_Text.f k a0_0 a0_1 a0_2 a0_3 a0_4 a0_5 a0_6 a0_7 a5).bind fun t124 => ((Pcrt.joustref28_Text.f k a0_0 a0_1 a0_2 a0_3 a0_4 a0_5 a0_6 a0_7 a5).bind fun t125 => (joustlaw28_ClockTells.j0 k a4 a5 (t124.toList != t125.toList) a0_0 a0_1 a0_2 a0_3 a0_4 a0_5 a0_6 a0_7)))))) else (joustlaw28_ClockTells.j0 k a4 a5 true a0_0 a0_1 a0_2 a0_3 a0_4 a0_5 a0_6 a0_7))) = some r := H
 have A8 := Aside0.mk A80
 clear A80
 have HC9 := Aside0.mk H
 clear H
 go_enter Tryd.func3, Tryd.ntmps3
 go_upto_region 3 with (first | ((with_reducible refine gate_dst (N := 6) rfl ?_); refine box_event ?hg (N := 6) ?hd (cs := #[.int .i64 a0_0, .int .i64 a0_1, .int .i64 a0_2, .int .i64 a0_3, .int .u8 a0_4, .bool a0_5, .int .i64 a0_6, .int .u8 a0_7]) (t := 24) ?hr ?_; (case hd => rfl); (case hg => rfl); (case hr => first | (go_simp; done) | (go_simp; rfl)); intro gb101 hg w10 hbox hb; have n0_ := Aside0.mk (below_step (low HB) hb); have n1_ := Aside0.mk (hbox); have n2_ := Aside0.mk ((by rw [hg]; exact (below_size (low HB)) : w.heap.size ≤ gb101)); have n3_ := Aside0.mk ((by rw [hg]; exact (below_size (low HB)) : w.heap.size ≤ gb101)); clear HB; have HB := n0_; have BK101 := n1_; have GW101 := n2_; have GE101 := n3_; clear n0_ n1_ n2_ n3_; clear hb hbox hg) | ((with_reducible refine gate_callee (f := 13) rfl ?_); refine goesL_ (some 29) rfl rfl Tryd.func13 (by kernel_rfl) rfl #[.int .i64 a1, .int .i64 a2, .int .i64 a3] rfl mapx ?_; (with_reducible refine (Pclk.clock_New.calls k a1 a2 a3 t102 t103 t104 t105 t106 t107 t108 t109 t110 _ A7.out).mono ?_); rintro e w11 ⟨rfl, hb⟩; refine ⟨_, rfl, ?_⟩; have n0_ := Aside0.mk (blk_below (g := gb101) (o := .cells #[.int .i64 a0_0, .int .i64 a0_1, .int .i64 a0_2, .int .i64 a0_3, .int .u8 a0_4, .bool a0_5, .int .i64 a0_6, .int .u8 a0_7] 24 (0, 0)) (ofA BK101) hb); have n1_ := Aside0.mk (below_step (low HB) hb); clear BK101; clear HB; have BK101 := n0_; have HB := n1_; clear n0_ n1_; (try clear hb); (try clear hb2); (try clear hk); (try clear hi)) | ((with_reducible refine gate_dst (N := 13) rfl ?_); refine box_event ?hg (N := 13) ?hd (cs := #[.int .i64 0, .int .i64 0, .int .i64 0, .int .i64 0, .int .u8 0, .bool false, .int .i64 0, .int .u8 0]) (t := 24) ?hr ?_; (case hd => rfl); (case hg => rfl); (case hr => first | (go_simp; done) | (go_simp; rfl)); intro gb111 hg w12 hbox hb; have n0_ := Aside0.mk (blk_below (g := gb101) (o := .cells #[.int .i64 a0_0, .int .i64 a0_1, .int .i64 a0_2, .int .i64 a0_3, .int .u8 a0_4, .bool a0_5, .int .i64 a0_6, .int .u8 a0_7] 24 (0, 0)) (ofA BK101) hb); have n1_ := Aside0.mk (below_step (low HB) hb); have n2_ := Aside0.mk (hbox); have n3_ := Aside0.mk ((by rw [hg]; exact (below_size (low HB)) : w.heap.size ≤ gb111)); have n4_ := Aside0.mk ((by rw [hg]; exact (below_size (low HB)) : w.heap.size ≤ gb111)); have n5_ := Aside0.mk ((by rw [hg]; exact Nat.ne_of_lt (blk_lt (g := gb101) (o := .cells #[.int .i64 a0_0, .int .i64 a0_1, .int .i64 a0_2, .int .i64 a0_3, .int .u8 a0_4, .bool a0_5, .int .i64 a0_6, .int .u8 a0_7] 24 (0, 0)) (ofA BK101)) : gb101 ≠ gb111)); have n6_ := Aside0.mk ((by rw [hg]; exact Nat.ne_of_gt (blk_lt (g := gb101) (o := .cells #[.int .i64 a0_0, .int .i64 a0_1, .int .i64 a0_2, .int .i64 a0_3, .int .u8 a0_4, .bool a0_5, .int .i64 a0_6, .int .u8 a0_7] 24 (0, 0)) (ofA BK101)) : gb111 ≠ gb101)); clear BK101; clear HB; have BK101 := n0_; have HB := n1_; have BK111 := n2_; have GW111 := n3_; have GE111 := n4_; have NB101_111 := n5_; have NB111_101 := n6_; clear n0_ n1_ n2_ n3_ n4_ n5_ n6_; clear hb hbox hg; have hnb13 := NB111_101.out; have hnc13 := NB101_111.out; obtain ⟨hcz14_0, hcz14_1, hcz14_2, hcz14_3, hcz14_4, hcz14_5, hcz14_6, hcz14_7, hfz14_0, hfz14_1, hfz14_2, hfz14_3, hfz14_4, hfz14_5, hfz14_6, hfz14_7⟩ := cells8 BK111.out) | ((with_reducible refine gate_callee (f := 14) rfl ?_); refine goesL_ (some 36) rfl rfl Tryd.func14 (by kernel_rfl) rfl #[.int .i64 a1, .int .i64 a2, .int .i64 a3] rfl mapx ?_; (with_reducible refine (Pcrf.joustref28_New.calls a1 a2 a3 t112 t113 t114 t115 t116 t117 t118 t119 t120 _ A8.out).mono ?_); rintro e w15 ⟨rfl, hb⟩; refine ⟨_, rfl, ?_⟩; have n0_ := Aside0.mk (blk_below (g := gb101) (o := .cells #[.int .i64 a0_0, .int .i64 a0_1, .int .i64 a0_2, .int .i64 a0_3, .int .u8 a0_4, .bool a0_5, .int .i64 a0_6, .int .u8 a0_7] 24 (0, 0)) (by (with_reducible repeat (first | refine bN ?_ _ | refine bD ?_ | refine bA ?_ _)); (iterate 8 refine blk_far ?_ NB101_111.out _); exact ofA BK101) hb); have n1_ := Aside0.mk (blk_below (g := gb111) (o := .cells #[.int .i64 t102, .int .i64 t103, .int .i64 t104, .int .i64 t105, .int .u8 t106, .bool t107, .int .i64 t108, .int .u8 t109] 24 (0, 0)) (by (with_reducible repeat (first | refine bN ?_ _ | refine bD ?_ | refine bA ?_ _)); refine blk_put (cs := #[.int .i64 t102, .int .i64 t103, .int .i64 t104, .int .i64 t105, .int .u8 t106, .bool t107, .int .i64 t108, .int .u8 0]) ?_ 7 _ rfl; refine blk_put (cs := #[.int .i64 t102, .int .i64 t103, .int .i64 t104, .int .i64 t105, .int .u8 t106, .bool t107, .int .i64 0, .int .u8 0]) ?_ 6 _ rfl; refine blk_put (cs := #[.int .i64 t102, .int .i64 t103, .int .i64 t104, .int .i64 t105, .int .u8 t106, .bool false, .int .i64 0, .int .u8 0]) ?_ 5 _ rfl; refine blk_put (cs := #[.int .i64 t102, .int .i64 t103, .int .i64 t104, .int .i64 t105, .int .u8 0, .bool false, .int .i64 0, .int .u8 0]) ?_ 4 _ rfl; refine blk_put (cs := #[.int .i64 t102, .int .i64 t103, .int .i64 t104, .int .i64 0, .int .u8 0, .bool false, .int .i64 0, .int .u8 0]) ?_ 3 _ rfl; refine blk_put (cs := #[.int .i64 t102, .int .i64 t103, .int .i64 0, .int .i64 0, .int .u8 0, .bool false, .int .i64 0, .int .u8 0]) ?_ 2 _ rfl; refine blk_put (cs := #[.int .i64 t102, .int .i64 0, .int .i64 0, .int .i64 0, .int .u8 0, .bool false, .int .i64 0, .int .u8 0]) ?_ 1 _ rfl; refine blk_put (cs := #[.int .i64 0, .int .i64 0, .int .i64 0, .int .i64 0, .int .u8 0, .bool false, .int .i64 0, .int .u8 0]) ?_ 0 _ rfl; exact ofA BK111) hb); have n2_ := Aside0.mk (below_step (low HB) hb); clear BK101; clear BK111; clear HB; have BK101 := n0_; have BK111 := n1_; have HB := n2_; clear n0_ n1_ n2_; (try clear hb); (try clear hb2); (try clear hk); (try clear hi)) | ((with_reducible refine gate_dst (N := 15) rfl ?_); refine box_event ?hg (N := 15) ?hd (cs := #[.int .i64 0, .int .i64 0, .int .i64 0, .int .i64 0, .int .u8 0, .bool false, .int .i64 0, .int .u8 0]) (t := 24) ?hr ?_; (case hd => rfl); (case hg => rfl); (case hr => first | (go_simp; done) | (go_simp; rfl)); intro gb121 hg w16 hbox hb; have n0_ := Aside0.mk (blk_below (g := gb101) (o := .cells #[.int .i64 a0_0, .int .i64 a0_1, .int .i64 a0_2, .int .i64 a0_3, .int .u8 a0_4, .bool a0_5, .int .i64 a0_6, .int .u8 a0_7] 24 (0, 0)) (ofA BK101) hb); have n1_ := Aside0.mk (blk_below (g := gb111) (o := .cells #[.int .i64 t102, .int .i64 t103, .int .i64 t104, .int .i64 t105, .int .u8 t106, .bool t107, .int .i64 t108, .int .u8 t109] 24 (0, 0)) (ofA BK111) hb); have n2_ := Aside0.mk (below_step (low HB) hb); have n3_ := Aside0.mk (hbox); have n4_ := Aside0.mk ((by rw [hg]; exact (below_size (low HB)) : w.heap.size ≤ gb121)); have n5_ := Aside0.mk ((by rw [hg]; exact (below_size (low HB)) : w.heap.size ≤ gb121)); have n6_ := Aside0.mk ((by rw [hg]; exact Nat.ne_of_lt (blk_lt (g := gb101) (o := .cells #[.int .i64 a0_0, .int .i64 a0_1, .int .i64 a0_2, .int .i64 a0_3, .int .u8 a0_4, .bool a0_5, .int .i64 a0_6, .int .u8 a0_7] 24 (0, 0)) (ofA BK101)) : gb101 ≠ gb121)); have n7_ := Aside0.mk ((by rw [hg]; exact Nat.ne_of_gt (blk_lt (g := gb101) (o := .cells #[.int .i64 a0_0, .int .i64 a0_1, .int .i64 a0_2, .int .i64 a0_3, .int .u8 a0_4, .bool a0_5, .int .i64 a0_6, .int .u8 a0_7] 24 (0, 0)) (ofA BK101)) : gb121 ≠ gb101)); have n8_ := Aside0.mk ((by rw [hg]; exact Nat.ne_of_lt (blk_lt (g := gb111) (o := .cells #[.int .i64 t102, .int .i64 t103, .int .i64 t104, .int .i64 t105, .int .u8 t106, .bool t107, .int .i64 t108, .int .u8 t109] 24 (0, 0)) (ofA BK111)) : gb111 ≠ gb121)); have n9_ := Aside0.mk ((by rw [hg]; exact Nat.ne_of_gt (blk_lt (g := gb111) (o := .cells #[.int .i64 t102, .int .i64 t103, .int .i64 t104, .int .i64 t105, .int .u8 t106, .bool t107, .int .i64 t108, .int .u8 t109] 24 (0, 0)) (ofA BK111)) : gb121 ≠ gb111)); clear BK101; clear BK111; clear HB; have BK101 := n0_; have BK111 := n1_; have HB := n2_; have BK121 := n3_; have GW121 := n4_; have GE121 := n5_; have NB101_121 := n6_; have NB121_101 := n7_; have NB111_121 := n8_; have NB121_111 := n9_; clear n0_ n1_ n2_ n3_ n4_ n5_ n6_ n7_ n8_ n9_; clear hb hbox hg; have hnb17 := NB121_101.out; have hnc17 := NB101_121.out; have hnb18 := NB121_111.out; have hnc18 := NB111_121.out; obtain ⟨hcz19_0, hcz19_1, hcz19_2, hcz19_3, hcz19_4, hcz19_5, hcz19_6, hcz19_7, hfz19_0, hfz19_1, hfz19_2, hfz19_3, hfz19_4, hfz19_5, hfz19_6, hfz19_7⟩ := cells8 BK121.out))
 (try simp only [Act.put, List.setIfInBounds_toArray, List.set_cons_zero, List.set_cons_succ])
 go_cut [62] (fun v62 wc => ∃ (kq : Nat) (x62_8 : Bool), v62 = .bool x62_8 ∧ Aside0 (joustlaw28_ClockTells.j0 kq a4 a5 x62_8 a0_0 a0_1 a0_2 a0_3 a0_4 a0_5 a0_6 a0_7 = some r) ∧ Aside0 (kq ≤ k) ∧ Aside0 (wc.heap[gb101]? = some (.cells #[.int .i64 a0_0, .int .i64 a0_1, .int .i64 a0_2, .int .i64 a0_3, .int .u8 a0_4, .bool a0_5, .int .i64 a0_6, .int .u8 a0_7] 24 (0, 0))) ∧ Aside0 (wc.heap[gb111]? = some (.cells #[.int .i64 t102, .int .i64 t103, .int .i64 t104, .int .i64 t105, .int .u8 t106, .bool t107, .int .i64 t108, .int .u8 t109] 24 (0, 0))) ∧ Aside0 (wc.heap[gb121]? = some (.cells #[.int .i64 t112, .int .i64 t113, .int .i64 t114, .int .i64 t115, .int .u8 t116, .bool t117, .int .i64 t118, .int .u8 t119] 24 (0, 0))) ∧ Aside0 (Below w.heap.size w wc))
 case first =>
  have H := HC9.out
  clear HC9
  by_cases c20 : ((!(t102 == t112) || (!(t103 == t113))) || (!(t104 == t114) || (!(t105 == t115) || (!(t106 == t116) || (!(t107 == t117) || (!(t108 == t118) || (!(t109 == t119)))))))) = true
  ·
   rw [if_pos c20] at H
   have c20b0 : ((!(t102 == t112) || (!(t103 == t113))) || (!(t104 == t114) || (!(t105 == t115) || (!(t106 == t116) || (!(t107 == t117) || (!(t108 == t118) || (!(t109 == t119)))))))) = true := c20
   clear c20
   (first | rw [c20b0] | (simp only [i64_w, i32_w]; rw [c20b0]) | skip)
   have H' := Aside0.mk H
   clear H
   try go_wp2
   have n0_ : Aside0 (((((((((w16.setCell ⟨gb121, 0, none⟩ (.int .i64 t112)).setCell ⟨gb121, 1, none⟩ (.int .i64 t113)).setCell ⟨gb121, 2, none⟩ (.int .i64 t114)).setCell ⟨gb121, 3, none⟩ (.int .i64 t115)).setCell ⟨gb121, 4, none⟩ (.int .u8 t116)).setCell ⟨gb121, 5, none⟩ (.bool t117)).setCell ⟨gb121, 6, none⟩ (.int .i64 t118)).setCell ⟨gb121, 7, none⟩ (.int .u8 t119)).heap[gb101]? = some (.cells #[.int .i64 a0_0, .int .i64 a0_1, .int .i64 a0_2, .int .i64 a0_3, .int .u8 a0_4, .bool a0_5, .int .i64 a0_6, .int .u8 a0_7] 24 (0, 0))) := ⟨by (with_reducible repeat (first | refine bN ?_ _ | refine bD ?_ | refine bA ?_ _)); (iterate 8 refine blk_far ?_ NB101_121.out _); exact ofA BK101⟩
   have n1_ : Aside0 (((((((((w16.setCell ⟨gb121, 0, none⟩ (.int .i64 t112)).setCell ⟨gb121, 1, none⟩ (.int .i64 t113)).setCell ⟨gb121, 2, none⟩ (.int .i64 t114)).setCell ⟨gb121, 3, none⟩ (.int .i64 t115)).setCell ⟨gb121, 4, none⟩ (.int .u8 t116)).setCell ⟨gb121, 5, none⟩ (.bool t117)).setCell ⟨gb121, 6, none⟩ (.int .i64 t118)).setCell ⟨gb121, 7, none⟩ (.int .u8 t119)).heap[gb111]? = some (.cells #[.int .i64 t102, .int .i64 t103, .int .i64 t104, .int .i64 t105, .int .u8 t106, .bool t107, .int .i64 t108, .int .u8 t109] 24 (0, 0))) := ⟨by (with_reducible repeat (first | refine bN ?_ _ | refine bD ?_ | refine bA ?_ _)); (iterate 8 refine blk_far ?_ NB111_121.out _); exact ofA BK111⟩
   have n2_ : Aside0 (((((((((w16.setCell ⟨gb121, 0, none⟩ (.int .i64 t112)).setCell ⟨gb121, 1, none⟩ (.int .i64 t113)).setCell ⟨gb121, 2, none⟩ (.int .i64 t114)).setCell ⟨gb121, 3, none⟩ (.int .i64 t115)).setCell ⟨gb121, 4, none⟩ (.int .u8 t116)).setCell ⟨gb121, 5, none⟩ (.bool t117)).setCell ⟨gb121, 6, none⟩ (.int .i64 t118)).setCell ⟨gb121, 7, none⟩ (.int .u8 t119)).heap[gb121]? = some (.cells #[.int .i64 t112, .int .i64 t113, .int .i64 t114, .int .i64 t115, .int .u8 t116, .bool t117, .int .i64 t118, .int .u8 t119] 24 (0, 0))) := ⟨by (with_reducible repeat (first | refine bN ?_ _ | refine bD ?_ | refine bA ?_ _)); refine blk_put (cs := #[.int .i64 t112, .int .i64 t113, .int .i64 t114, .int .i64 t115, .int .u8 t116, .bool t117, .int .i64 t118, .int .u8 0]) ?_ 7 _ rfl; refine blk_put (cs := #[.int .i64 t112, .int .i64 t113, .int .i64 t114, .int .i64 t115, .int .u8 t116, .bool t117, .int .i64 0, .int .u8 0]) ?_ 6 _ rfl; refine blk_put (cs := #[.int .i64 t112, .int .i64 t113, .int .i64 t114, .int .i64 t115, .int .u8 t116, .bool false, .int .i64 0, .int .u8 0]) ?_ 5 _ rfl; refine blk_put (cs := #[.int .i64 t112, .int .i64 t113, .int .i64 t114, .int .i64 t115, .int .u8 0, .bool false, .int .i64 0, .int .u8 0]) ?_ 4 _ rfl; refine blk_put (cs := #[.int .i64 t112, .int .i64 t113, .int .i64 t114, .int .i64 0, .int .u8 0, .bool false, .int .i64 0, .int .u8 0]) ?_ 3 _ rfl; refine blk_put (cs := #[.int .i64 t112, .int .i64 t113, .int .i64 0, .int .i64 0, .int .u8 0, .bool false, .int .i64 0, .int .u8 0]) ?_ 2 _ rfl; refine blk_put (cs := #[.int .i64 t112, .int .i64 0, .int .i64 0, .int .i64 0, .int .u8 0, .bool false, .int .i64 0, .int .u8 0]) ?_ 1 _ rfl; refine blk_put (cs := #[.int .i64 0, .int .i64 0, .int .i64 0, .int .i64 0, .int .u8 0, .bool false, .int .i64 0, .int .u8 0]) ?_ 0 _ rfl; exact ofA BK121⟩
   have n3_ : Aside0 (Below w.heap.size w ((((((((w16.setCell ⟨gb121, 0, none⟩ (.int .i64 t112)).setCell ⟨gb121, 1, none⟩ (.int .i64 t113)).setCell ⟨gb121, 2, none⟩ (.int .i64 t114)).setCell ⟨gb121, 3, none⟩ (.int .i64 t115)).setCell ⟨gb121, 4, none⟩ (.int .u8 t116)).setCell ⟨gb121, 5, none⟩ (.bool t117)).setCell ⟨gb121, 6, none⟩ (.int .i64 t118)).setCell ⟨gb121, 7, none⟩ (.int .u8 t119))) := ⟨low HB⟩
   (try clear BK101)
   (try clear BK111)
   (try clear BK121)
   (try clear HB)
   generalize ((((((((w16.setCell ⟨gb121, 0, none⟩ (.int .i64 t112)).setCell ⟨gb121, 1, none⟩ (.int .i64 t113)).setCell ⟨gb121, 2, none⟩ (.int .i64 t114)).setCell ⟨gb121, 3, none⟩ (.int .i64 t115)).setCell ⟨gb121, 4, none⟩ (.int .u8 t116)).setCell ⟨gb121, 5, none⟩ (.bool t117)).setCell ⟨gb121, 6, none⟩ (.int .i64 t118)).setCell ⟨gb121, 7, none⟩ (.int .u8 t119)) = w21 at n0_ n1_ n2_ n3_ ⊢
   have BK101 := n0_
   have BK111 := n1_
   have BK121 := n2_
   have HB := n3_
   clear n0_ n1_ n2_ n3_
   have n0_ := Aside0.mk (blk_drew BK101.out)
   have n1_ := Aside0.mk (blk_drew BK111.out)
   have n2_ := Aside0.mk (blk_drew BK121.out)
   have n3_ := Aside0.mk (below_drew1 HB.out)
   clear BK101
   clear BK111
   clear BK121
   clear HB
   have BK101 := n0_
   have BK111 := n1_
   have BK121 := n2_
   have HB := n3_
   clear n0_ n1_ n2_ n3_
   refine start_ (n := 24) (S := fun w' => w'.cell? ⟨gb111, 0, none⟩ = some (.int .i64 t102) ∧ w'.cell? ⟨gb111, 1, none⟩ = some (.int .i64 t103) ∧ w'.cell? ⟨gb111, 2, none⟩ = some (.int .i64 t104) ∧ w'.cell? ⟨gb111, 3, none⟩ = some (.int .i64 t105) ∧ w'.cell? ⟨gb111, 4, none⟩ = some (.int .u8 t106) ∧ w'.cell? ⟨gb111, 5, none⟩ = some (.bool t107) ∧ w'.cell? ⟨gb111, 6, none⟩ = some (.int .i64 t108) ∧ w'.cell? ⟨gb111, 7, none⟩ = some (.int .u8 t109) ∧ w'.cell? ⟨gb121, 0, none⟩ = some (.int .i64 t112) ∧ w'.cell? ⟨gb121, 1, none⟩ = some (.int .i64 t113) ∧ w'.cell? ⟨gb121, 2, none⟩ = some (.int .i64 t114) ∧ w'.cell? ⟨gb121, 3, none⟩ = some (.int .i64 t115) ∧ w'.cell? ⟨gb121, 4, none⟩ = some (.int .u8 t116) ∧ w'.cell? ⟨gb121, 5, none⟩ = some (.bool t117) ∧ w'.cell? ⟨gb121, 6, none⟩ = some (.int .i64 t118) ∧ w'.cell? ⟨gb121, 7, none⟩ = some (.int .u8 t119)) (ds := []) #[false, false, false, false, false, false, false, false, false, false, false, false, false, false, false, false, false, false, false, false, false, false, false, false] (by kernel_rfl) rfl rfl ⟨(blk_cell BK111.out 0).trans rfl, (blk_cell BK111.out 1).trans rfl, (blk_cell BK111.out 2).trans rfl, (blk_cell BK111.out 3).trans rfl, (blk_cell BK111.out 4).trans rfl, (blk_cell BK111.out 5).trans rfl, (blk_cell BK111.out 6).trans rfl, (blk_cell BK111.out 7).trans rfl, (blk_cell BK121.out 0).trans rfl, (blk_cell BK121.out 1).trans rfl, (blk_cell BK121.out 2).trans rfl, (blk_cell BK121.out 3).trans rfl, (blk_cell BK121.out 4).trans rfl, (blk_cell BK121.out 5).trans rfl, (blk_cell BK121.out 6).trans rfl, (blk_cell BK121.out 7).trans rfl⟩ (fun hHeld => ?_); refine with_tabW joustlaw28_ClockTells.tab3 joustlaw28_ClockTells.bits3 (fun HT_ HW_ => ?_)
   generalize w21.drew = w22 at BK101 BK111 BK121 HB hHeld ⊢
   refine take_ (i := 0) (N := some 39) (v := ?_) (a' := ?_) #[true, false, false, false, false, false, false, false, false, false, false, false, false, false, false, false, false, false, false, false, false, false, false, false] rfl rfl (take_ofW HT_.out HW_.out (by kernel_rfl)) (fun _ _ _ h => h) (Or.inl ⟨by rfl, ?_⟩) hHeld ?_ ?_
   rotate_left
   ·
    rintro w' ⟨s0, s1, s2, s3, s4, s5, s6, s7, s8, s9, s10, s11, s12, s13, s14, s15⟩
    go_simp
    with_reducible rfl
   rotate_left
   ·
    simp only [Act.put, List.setIfInBounds_toArray, List.set_cons_zero, List.set_cons_succ, i64_w, i32_w]
    rfl
   refine take_ (i := 1) (N := some 40) (v := ?_) (a' := ?_) #[true, true, false, false, false, false, false, false, false, false, false, false, false, false, false, false, false, false, false, false, false, false, false, false] rfl rfl (take_ofW HT_.out HW_.out (by kernel_rfl)) (fun _ _ _ h => h) (Or.inl ⟨by rfl, ?_⟩) hHeld ?_ ?_
   rotate_left
   ·
    rintro w' ⟨s0, s1, s2, s3, s4, s5, s6, s7, s8, s9, s10, s11, s12, s13, s14, s15⟩
    go_simp
    with_reducible rfl
   rotate_left
   ·
    simp only [Act.put, List.setIfInBounds_toArray, List.set_cons_zero, List.set_cons_succ, i64_w, i32_w]
    rfl
   refine pure_ (i := 2) (N := some 41) (v := ?_) (a' := ?_) #[true, true, true, false, false, false, false, false, false, false, false, false, false, false, false, false, false, false, false, false, false, false, false, false] rfl rfl (any_of HT_.out (by kernel_rfl)) (fun _ _ _ h => h) (Or.inl ⟨by rfl, ?_⟩) ?_ ?_
   rotate_left
   ·
    intro w'
    go_simp
    with_reducible rfl
   rotate_left
   ·
    simp only [Act.put, List.setIfInBounds_toArray, List.set_cons_zero, List.set_cons_succ, i64_w, i32_w]
    rfl
   refine pure_ (i := 3) (N := some 42) (v := ?_) (a' := ?_) #[true, true, true, true, false, false, false, false, false, false, false, false, false, false, false, false, false, false, false, false, false, false, false, false] rfl rfl (any_of HT_.out (by kernel_rfl)) (fun _ _ _ h => h) (Or.inl ⟨by rfl, ?_⟩) ?_ ?_
   rotate_left
   ·
    intro w'
    go_simp
    with_reducible rfl
   rotate_left
   ·
    simp only [Act.put, List.setIfInBounds_toArray, List.set_cons_zero, List.set_cons_succ, i64_w, i32_w]
    rfl
   refine pure_ (i := 4) (N := some 43) (v := undef) (a' := ?_) #[true, true, true, true, true, false, false, false, false, false, false, false, false, false, false, false, false, false, false, false, false, false, false, false] rfl rfl (any_of HT_.out (by kernel_rfl)) (fun _ _ _ h => h) (Or.inr ⟨by rfl, rfl⟩) ?_ ?_
   rotate_left
   ·
    simp only [Act.put, List.setIfInBounds_toArray, List.set_cons_zero, List.set_cons_succ, i64_w, i32_w]
    rfl
   refine pure_ (i := 5) (N := some 44) (v := undef) (a' := ?_) #[true, true, true, true, true, true, false, false, false, false, false, false, false, false, false, false, false, false, false, false, false, false, false, false] rfl rfl (any_of HT_.out (by kernel_rfl)) (fun _ _ _ h => h) (Or.inr ⟨by rfl, rfl⟩) ?_ ?_
   rotate_left
   ·
    simp only [Act.put, List.setIfInBounds_toArray, List.set_cons_zero, List.set_cons_succ, i64_w, i32_w]
    rfl
   refine pure_ (i := 6) (N := some 45) (v := undef) (a' := ?_) #[true, true, true, true, true, true, true, false, false, false, false, false, false, false, false, false, false, false, false, false, false, false, false, false] rfl rfl (any_of HT_.out (by kernel_rfl)) (fun _ _ _ h => h) (Or.inr ⟨by rfl, rfl⟩) ?_ ?_
   rotate_left
   ·
    simp only [Act.put, List.setIfInBounds_toArray, List.set_cons_zero, List.set_cons_succ, i64_w, i32_w]
    rfl
   refine pure_ (i := 7) (N := some 46) (v := ?_) (a' := ?_) #[true, true, true, true, true, true, true, true, false, false, false, false, false, false, false, false, false, false, false, false, false, false, false, false] rfl rfl (any_of HT_.out (by kernel_rfl)) (fun _ _ _ h => h) (Or.inl ⟨by rfl, ?_⟩) ?_ ?_
   rotate_left
   ·
    intro w'
    go_simp
    with_reducible rfl
   rotate_left
   ·
    simp only [Act.put, List.setIfInBounds_toArray, List.set_cons_zero, List.set_cons_succ, i64_w, i32_w]
    rfl
   refine pure_ (i := 8) (N := some 47) (v := ?_) (a' := ?_) #[true, true, true, true, true, true, true, true, true, false, false, false, false, false, false, false, false, false, false, false, false, false, false, false] rfl rfl (any_of HT_.out (by kernel_rfl)) (fun _ _ _ h => h) (Or.inl ⟨by rfl, ?_⟩) ?_ ?_
   rotate_left
   ·
    intro w'
    go_simp
    with_reducible rfl
   rotate_left
   ·
    simp only [Act.put, List.setIfInBounds_toArray, List.set_cons_zero, List.set_cons_succ, i64_w, i32_w]
    rfl
   refine pure_ (i := 9) (N := some 48) (v := undef) (a' := ?_) #[true, true, true, true, true, true, true, true, true, true, false, false, false, false, false, false, false, false, false, false, false, false, false, false] rfl rfl (any_of HT_.out (by kernel_rfl)) (fun _ _ _ h => h) (Or.inr ⟨by rfl, rfl⟩) ?_ ?_
   rotate_left
   ·
    simp only [Act.put, List.setIfInBounds_toArray, List.set_cons_zero, List.set_cons_succ, i64_w, i32_w]
    rfl
   refine pure_ (i := 10) (N := some 49) (v := undef) (a' := ?_) #[true, true, true, true, true, true, true, true, true, true, true, false, false, false, false, false, false, false, false, false, false, false, false, false] rfl rfl (any_of HT_.out (by kernel_rfl)) (fun _ _ _ h => h) (Or.inr ⟨by rfl, rfl⟩) ?_ ?_
   rotate_left
   ·
    simp only [Act.put, List.setIfInBounds_toArray, List.set_cons_zero, List.set_cons_succ, i64_w, i32_w]
    rfl
   refine pure_ (i := 11) (N := some 50) (v := undef) (a' := ?_) #[true, true, true, true, true, true, true, true, true, true, true, true, false, false, false, false, false, false, false, false, false, false, false, false] rfl rfl (any_of HT_.out (by kernel_rfl)) (fun _ _ _ h => h) (Or.inr ⟨by rfl, rfl⟩) ?_ ?_
   rotate_left
   ·
    simp only [Act.put, List.setIfInBounds_toArray, List.set_cons_zero, List.set_cons_succ, i64_w, i32_w]
    rfl
   refine pure_ (i := 12) (N := some 51) (v := undef) (a' := ?_) #[true, true, true, true, true, true, true, true, true, true, true, true, true, false, false, false, false, false, false, false, false, false, false, false] rfl rfl (any_of HT_.out (by kernel_rfl)) (fun _ _ _ h => h) (Or.inr ⟨by rfl, rfl⟩) ?_ ?_
   rotate_left
   ·
    simp only [Act.put, List.setIfInBounds_toArray, List.set_cons_zero, List.set_cons_succ, i64_w, i32_w]
    rfl
   refine pure_ (i := 13) (N := some 52) (v := undef) (a' := ?_) #[true, true, true, true, true, true, true, true, true, true, true, true, true, true, false, false, false, false, false, false, false, false, false, false] rfl rfl (any_of HT_.out (by kernel_rfl)) (fun _ _ _ h => h) (Or.inr ⟨by rfl, rfl⟩) ?_ ?_
   rotate_left
   ·
    simp only [Act.put, List.setIfInBounds_toArray, List.set_cons_zero, List.set_cons_succ, i64_w, i32_w]
    rfl
   refine pure_ (i := 14) (N := some 53) (v := ?_) (a' := ?_) #[true, true, true, true, true, true, true, true, true, true, true, true, true, true, true, false, false, false, false, false, false, false, false, false] rfl rfl (any_of HT_.out (by kernel_rfl)) (fun _ _ _ h => h) (Or.inl ⟨by rfl, ?_⟩) ?_ ?_
   rotate_left
   ·
    intro w'
    go_simp
    with_reducible rfl
   rotate_left
   ·
    simp only [Act.put, List.setIfInBounds_toArray, List.set_cons_zero, List.set_cons_succ, i64_w, i32_w]
    rfl
   refine pure_ (i := 15) (N := some 54) (v := ?_) (a' := ?_) #[true, true, true, true, true, true, true, true, true, true, true, true, true, true, true, true, false, false, false, false, false, false, false, false] rfl rfl (any_of HT_.out (by kernel_rfl)) (fun _ _ _ h => h) (Or.inl ⟨by rfl, ?_⟩) ?_ ?_
   rotate_left
   ·
    intro w'
    go_simp
    with_reducible rfl
   rotate_left
   ·
    simp only [Act.put, List.setIfInBounds_toArray, List.set_cons_zero, List.set_cons_succ, i64_w, i32_w]
    rfl
   refine pure_ (i := 16) (N := some 55) (v := undef) (a' := ?_) #[true, true, true, true, true, true, true, true, true, true, true, true, true, true, true, true, true, false, false, false, false, false, false, false] rfl rfl (any_of HT_.out (by kernel_rfl)) (fun _ _ _ h => h) (Or.inr ⟨by rfl, rfl⟩) ?_ ?_
   rotate_left
   ·
    simp only [Act.put, List.setIfInBounds_toArray, List.set_cons_zero, List.set_cons_succ, i64_w, i32_w]
    rfl
   refine pure_ (i := 17) (N := some 56) (v := undef) (a' := ?_) #[true, true, true, true, true, true, true, true, true, true, true, true, true, true, true, true, true, true, false, false, false, false, false, false] rfl rfl (any_of HT_.out (by kernel_rfl)) (fun _ _ _ h => h) (Or.inr ⟨by rfl, rfl⟩) ?_ ?_
   rotate_left
   ·
    simp only [Act.put, List.setIfInBounds_toArray, List.set_cons_zero, List.set_cons_succ, i64_w, i32_w]
    rfl
   refine pure_ (i := 18) (N := some 57) (v := undef) (a' := ?_) #[true, true, true, true, true, true, true, true, true, true, true, true, true, true, true, true, true, true, true, false, false, false, false, false] rfl rfl (any_of HT_.out (by kernel_rfl)) (fun _ _ _ h => h) (Or.inr ⟨by rfl, rfl⟩) ?_ ?_
   rotate_left
   ·
    simp only [Act.put, List.setIfInBounds_toArray, List.set_cons_zero, List.set_cons_succ, i64_w, i32_w]
    rfl
   refine pure_ (i := 19) (N := some 58) (v := undef) (a' := ?_) #[true, true, true, true, true, true, true, true, true, true, true, true, true, true, true, true, true, true, true, true, false, false, false, false] rfl rfl (any_of HT_.out (by kernel_rfl)) (fun _ _ _ h => h) (Or.inr ⟨by rfl, rfl⟩) ?_ ?_
   rotate_left
   ·
    simp only [Act.put, List.setIfInBounds_toArray, List.set_cons_zero, List.set_cons_succ, i64_w, i32_w]
    rfl
   refine pure_ (i := 20) (N := some 59) (v := undef) (a' := ?_) #[true, true, true, true, true, true, true, true, true, true, true, true, true, true, true, true, true, true, true, true, true, false, false, false] rfl rfl (any_of HT_.out (by kernel_rfl)) (fun _ _ _ h => h) (Or.inr ⟨by rfl, rfl⟩) ?_ ?_
   rotate_left
   ·
    simp only [Act.put, List.setIfInBounds_toArray, List.set_cons_zero, List.set_cons_succ, i64_w, i32_w]
    rfl
   refine pure_ (i := 21) (N := some 60) (v := undef) (a' := ?_) #[true, true, true, true, true, true, true, true, true, true, true, true, true, true, true, true, true, true, true, true, true, true, false, false] rfl rfl (any_of HT_.out (by kernel_rfl)) (fun _ _ _ h => h) (Or.inr ⟨by rfl, rfl⟩) ?_ ?_
   rotate_left
   ·
    simp only [Act.put, List.setIfInBounds_toArray, List.set_cons_zero, List.set_cons_succ, i64_w, i32_w]
    rfl
   refine pure_ (i := 22) (N := some 61) (v := undef) (a' := ?_) #[true, true, true, true, true, true, true, true, true, true, true, true, true, true, true, true, true, true, true, true, true, true, true, false] rfl rfl (any_of HT_.out (by kernel_rfl)) (fun _ _ _ h => h) (Or.inr ⟨by rfl, rfl⟩) ?_ ?_
   rotate_left
   ·
    simp only [Act.put, List.setIfInBounds_toArray, List.set_cons_zero, List.set_cons_succ, i64_w, i32_w]
    rfl
   refine pure_ (i := 23) (N := some 62) (v := ?_) (a' := ?_) #[true, true, true, true, true, true, true, true, true, true, true, true, true, true, true, true, true, true, true, true, true, true, true, true] rfl rfl (any_of HT_.out (by kernel_rfl)) (fun _ _ _ h => h) (Or.inl ⟨by rfl, ?_⟩) ?_ ?_
   rotate_left
   ·
    intro w'
    go_simp
    with_reducible rfl
   rotate_left
   ·
    simp only [Act.put, List.setIfInBounds_toArray, List.set_cons_zero, List.set_cons_succ, i64_w, i32_w]
    rfl
   refine done_ (done_of HT_.out (by kernel_rfl)) ?_
   try go_wp2
   go_meet
   case rel => exact ⟨_, (true), eqx, H', ⟨by first | omega | exact Nat.le_refl _⟩, ⟨ofA BK101⟩, ⟨ofA BK111⟩, ⟨ofA BK121⟩, ⟨low HB⟩⟩
  ·
   rw [if_neg c20] at H
   have c20b0 : ((!(t102 == t112) || (!(t103 == t113))) || (!(t104 == t114) || (!(t105 == t115) || (!(t106 == t116) || (!(t107 == t117) || (!(t108 == t118) || (!(t109 == t119)))))))) = false := by simpa using c20
   clear c20
   (first | rw [c20b0] | (simp only [i64_w, i32_w]; rw [c20b0]) | skip)
   by_cases c23 : t110 = t120
   ·
    rw [if_pos c23] at H
    have c23b0 : (t110 == t120) = true := beq_iff_eq.mpr c23
    have c23b1 : (t110 != t120) = false := bne_eq_false_iff_eq.mpr c23
    clear c23
    replace H := Option.bind_eq_some_iff.mp H
    obtain ⟨t122, A240, H⟩ := H
    replace H : ((Pcrf.joustref28_May.f k a0_0 a0_1 a0_2 a0_3 a0_4 a0_5 a0_6 a0_7).bind fun t123 => (if (t122 != t123) = true then (joustlaw28_ClockTells.j0 k a4 a5 true a0_0 a0_1 a0_2 a0_3 a0_4 a0_5 a0_6 a0_7) else ((Pclk.clock_Text.f k a0_0 a0_1 a0_2 a0_3 a0_4 a0_5 a0_6 a0_7 a5).bind fun t124 => ((Pcrt.joustref28_Text.f k a0_0 a0_1 a0_2 a0_3 a0_4 a0_5 a0_6 a0_7 a5).bind fun t125 => (joustlaw28_ClockTells.j0 k a4 a5 (t124.toList != t125.toList) a0_0 a0_1 a0_2 a0_3 a0_4 a0_5 a0_6 a0_7))))) = some r := H
    have A24 := Aside0.mk A240
    clear A240
    replace H := Option.bind_eq_some_iff.mp H
    obtain ⟨t123, A250, H⟩ := H
    replace H : (if (t122 != t123) = true then (joustlaw28_ClockTells.j0 k a4 a5 true a0_0 a0_1 a0_2 a0_3 a0_4 a0_5 a0_6 a0_7) else ((Pclk.clock_Text.f k a0_0 a0_1 a0_2 a0_3 a0_4 a0_5 a0_6 a0_7 a5).bind fun t124 => ((Pcrt.joustref28_Text.f k a0_0 a0_1 a0_2 a0_3 a0_4 a0_5 a0_6 a0_7 a5).bind fun t125 => (joustlaw28_ClockTells.j0 k a4 a5 (t124.toList != t125.toList) a0_0 a0_1 a0_2 a0_3 a0_4 a0_5 a0_6 a0_7)))) = some r := H
    have A25 := Aside0.mk A250
    clear A250
    by_cases c26 : (t122 != t123) = true
    ·
     rw [if_pos c26] at H
     have c26b0 : (t122 != t123) = true := c26
     (try (have c26b1 : decide (t122 = t123) = false := by simpa using c26))
     (try (have c26b2 : (t122 == t123) = false := by simpa using c26))
     (try (have c26b3 : ¬ (t122 = t123) := by simpa using c26))
     clear c26
     have H' := Aside0.mk H
     clear H
     try go_wp2
     have n0_ : Aside0 (((((((((w16.setCell ⟨gb121, 0, none⟩ (.int .i64 t112)).setCell ⟨gb121, 1, none⟩ (.int .i64 t113)).setCell ⟨gb121, 2, none⟩ (.int .i64 t114)).setCell ⟨gb121, 3, none⟩ (.int .i64 t115)).setCell ⟨gb121, 4, none⟩ (.int .u8 t116)).setCell ⟨gb121, 5, none⟩ (.bool t117)).setCell ⟨gb121, 6, none⟩ (.int .i64 t118)).setCell ⟨gb121, 7, none⟩ (.int .u8 t119)).heap[gb101]? = some (.cells #[.int .i64 a0_0, .int .i64 a0_1, .int .i64 a0_2, .int .i64 a0_3, .int .u8 a0_4, .bool a0_5, .int .i64 a0_6, .int .u8 a0_7] 24 (0, 0))) := ⟨by (with_reducible repeat (first | refine bN ?_ _ | refine bD ?_ | refine bA ?_ _)); (iterate 8 refine blk_far ?_ NB101_121.out _); exact ofA BK101⟩
     have n1_ : Aside0 (((((((((w16.setCell ⟨gb121, 0, none⟩ (.int .i64 t112)).setCell ⟨gb121, 1, none⟩ (.int .i64 t113)).setCell ⟨gb121, 2, none⟩ (.int .i64 t114)).setCell ⟨gb121, 3, none⟩ (.int .i64 t115)).setCell ⟨gb121, 4, none⟩ (.int .u8 t116)).setCell ⟨gb121, 5, none⟩ (.bool t117)).setCell ⟨gb121, 6, none⟩ (.int .i64 t118)).setCell ⟨gb121, 7, none⟩ (.int .u8 t119)).heap[gb111]? = some (.cells #[.int .i64 t102, .int .i64 t103, .int .i64 t104, .int .i64 t105, .int .u8 t106, .bool t107, .int .i64 t108, .int .u8 t109] 24 (0, 0))) := ⟨by (with_reducible repeat (first | refine bN ?_ _ | refine bD ?_ | refine bA ?_ _)); (iterate 8 refine blk_far ?_ NB111_121.out _); exact ofA BK111⟩
     have n2_ : Aside0 (((((((((w16.setCell ⟨gb121, 0, none⟩ (.int .i64 t112)).setCell ⟨gb121, 1, none⟩ (.int .i64 t113)).setCell ⟨gb121, 2, none⟩ (.int .i64 t114)).setCell ⟨gb121, 3, none⟩ (.int .i64 t115)).setCell ⟨gb121, 4, none⟩ (.int .u8 t116)).setCell ⟨gb121, 5, none⟩ (.bool t117)).setCell ⟨gb121, 6, none⟩ (.int .i64 t118)).setCell ⟨gb121, 7, none⟩ (.int .u8 t119)).heap[gb121]? = some (.cells #[.int .i64 t112, .int .i64 t113, .int .i64 t114, .int .i64 t115, .int .u8 t116, .bool t117, .int .i64 t118, .int .u8 t119] 24 (0, 0))) := ⟨by (with_reducible repeat (first | refine bN ?_ _ | refine bD ?_ | refine bA ?_ _)); refine blk_put (cs := #[.int .i64 t112, .int .i64 t113, .int .i64 t114, .int .i64 t115, .int .u8 t116, .bool t117, .int .i64 t118, .int .u8 0]) ?_ 7 _ rfl; refine blk_put (cs := #[.int .i64 t112, .int .i64 t113, .int .i64 t114, .int .i64 t115, .int .u8 t116, .bool t117, .int .i64 0, .int .u8 0]) ?_ 6 _ rfl; refine blk_put (cs := #[.int .i64 t112, .int .i64 t113, .int .i64 t114, .int .i64 t115, .int .u8 t116, .bool false, .int .i64 0, .int .u8 0]) ?_ 5 _ rfl; refine blk_put (cs := #[.int .i64 t112, .int .i64 t113, .int .i64 t114, .int .i64 t115, .int .u8 0, .bool false, .int .i64 0, .int .u8 0]) ?_ 4 _ rfl; refine blk_put (cs := #[.int .i64 t112, .int .i64 t113, .int .i64 t114, .int .i64 0, .int .u8 0, .bool false, .int .i64 0, .int .u8 0]) ?_ 3 _ rfl; refine blk_put (cs := #[.int .i64 t112, .int .i64 t113, .int .i64 0, .int .i64 0, .int .u8 0, .bool false, .int .i64 0, .int .u8 0]) ?_ 2 _ rfl; refine blk_put (cs := #[.int .i64 t112, .int .i64 0, .int .i64 0, .int .i64 0, .int .u8 0, .bool false, .int .i64 0, .int .u8 0]) ?_ 1 _ rfl; refine blk_put (cs := #[.int .i64 0, .int .i64 0, .int .i64 0, .int .i64 0, .int .u8 0, .bool false, .int .i64 0, .int .u8 0]) ?_ 0 _ rfl; exact ofA BK121⟩
     have n3_ : Aside0 (Below w.heap.size w ((((((((w16.setCell ⟨gb121, 0, none⟩ (.int .i64 t112)).setCell ⟨gb121, 1, none⟩ (.int .i64 t113)).setCell ⟨gb121, 2, none⟩ (.int .i64 t114)).setCell ⟨gb121, 3, none⟩ (.int .i64 t115)).setCell ⟨gb121, 4, none⟩ (.int .u8 t116)).setCell ⟨gb121, 5, none⟩ (.bool t117)).setCell ⟨gb121, 6, none⟩ (.int .i64 t118)).setCell ⟨gb121, 7, none⟩ (.int .u8 t119))) := ⟨low HB⟩
     (try clear BK101)
     (try clear BK111)
     (try clear BK121)
     (try clear HB)
     generalize ((((((((w16.setCell ⟨gb121, 0, none⟩ (.int .i64 t112)).setCell ⟨gb121, 1, none⟩ (.int .i64 t113)).setCell ⟨gb121, 2, none⟩ (.int .i64 t114)).setCell ⟨gb121, 3, none⟩ (.int .i64 t115)).setCell ⟨gb121, 4, none⟩ (.int .u8 t116)).setCell ⟨gb121, 5, none⟩ (.bool t117)).setCell ⟨gb121, 6, none⟩ (.int .i64 t118)).setCell ⟨gb121, 7, none⟩ (.int .u8 t119)) = w27 at n0_ n1_ n2_ n3_ ⊢
     have BK101 := n0_
     have BK111 := n1_
     have BK121 := n2_
     have HB := n3_
     clear n0_ n1_ n2_ n3_
     have n0_ := Aside0.mk (blk_drew BK101.out)
     have n1_ := Aside0.mk (blk_drew BK111.out)
     have n2_ := Aside0.mk (blk_drew BK121.out)
     have n3_ := Aside0.mk (below_drew1 HB.out)
     clear BK101
     clear BK111
     clear BK121
     clear HB
     have BK101 := n0_
     have BK111 := n1_
     have BK121 := n2_
     have HB := n3_
     clear n0_ n1_ n2_ n3_
     refine start_ (n := 24) (S := fun w' => w'.cell? ⟨gb111, 0, none⟩ = some (.int .i64 t102) ∧ w'.cell? ⟨gb111, 1, none⟩ = some (.int .i64 t103) ∧ w'.cell? ⟨gb111, 2, none⟩ = some (.int .i64 t104) ∧ w'.cell? ⟨gb111, 3, none⟩ = some (.int .i64 t105) ∧ w'.cell? ⟨gb111, 4, none⟩ = some (.int .u8 t106) ∧ w'.cell? ⟨gb111, 5, none⟩ = some (.bool t107) ∧ w'.cell? ⟨gb111, 6, none⟩ = some (.int .i64 t108) ∧ w'.cell? ⟨gb111, 7, none⟩ = some (.int .u8 t109) ∧ w'.cell? ⟨gb121, 0, none⟩ = some (.int .i64 t112) ∧ w'.cell? ⟨gb121, 1, none⟩ = some (.int .i64 t113) ∧ w'.cell? ⟨gb121, 2, none⟩ = some (.int .i64 t114) ∧ w'.cell? ⟨gb121, 3, none⟩ = some (.int .i64 t115) ∧ w'.cell? ⟨gb121, 4, none⟩ = some (.int .u8 t116) ∧ w'.cell? ⟨gb121, 5, none⟩ = some (.bool t117) ∧ w'.cell? ⟨gb121, 6, none⟩ = some (.int .i64 t118) ∧ w'.cell? ⟨gb121, 7, none⟩ = some (.int .u8 t119) ∧ w'.cell? ⟨gb101, 0, none⟩ = some (.int .i64 a0_0) ∧ w'.cell? ⟨gb101, 1, none⟩ = some (.int .i64 a0_1) ∧ w'.cell? ⟨gb101, 2, none⟩ = some (.int .i64 a0_2) ∧ w'.cell? ⟨gb101, 3, none⟩ = some (.int .i64 a0_3) ∧ w'.cell? ⟨gb101, 4, none⟩ = some (.int .u8 a0_4) ∧ w'.cell? ⟨gb101, 5, none⟩ = some (.bool a0_5) ∧ w'.cell? ⟨gb101, 6, none⟩ = some (.int .i64 a0_6) ∧ w'.cell? ⟨gb101, 7, none⟩ = some (.int .u8 a0_7)) (ds := []) #[false, false, false, false, false, false, false, false, false, false, false, false, false, false, false, false, false, false, false, false, false, false, false, false] (by kernel_rfl) rfl rfl ⟨(blk_cell BK111.out 0).trans rfl, (blk_cell BK111.out 1).trans rfl, (blk_cell BK111.out 2).trans rfl, (blk_cell BK111.out 3).trans rfl, (blk_cell BK111.out 4).trans rfl, (blk_cell BK111.out 5).trans rfl, (blk_cell BK111.out 6).trans rfl, (blk_cell BK111.out 7).trans rfl, (blk_cell BK121.out 0).trans rfl, (blk_cell BK121.out 1).trans rfl, (blk_cell BK121.out 2).trans rfl, (blk_cell BK121.out 3).trans rfl, (blk_cell BK121.out 4).trans rfl, (blk_cell BK121.out 5).trans rfl, (blk_cell BK121.out 6).trans rfl, (blk_cell BK121.out 7).trans rfl, (blk_cell BK101.out 0).trans rfl, (blk_cell BK101.out 1).trans rfl, (blk_cell BK101.out 2).trans rfl, (blk_cell BK101.out 3).trans rfl, (blk_cell BK101.out 4).trans rfl, (blk_cell BK101.out 5).trans rfl, (blk_cell BK101.out 6).trans rfl, (blk_cell BK101.out 7).trans rfl⟩ (fun hHeld => ?_); refine with_tabW joustlaw28_ClockTells.tab3 joustlaw28_ClockTells.bits3 (fun HT_ HW_ => ?_)
     generalize w27.drew = w28 at BK101 BK111 BK121 HB hHeld ⊢
     refine take_ (i := 0) (N := some 39) (v := ?_) (a' := ?_) #[true, false, false, false, false, false, false, false, false, false, false, false, false, false, false, false, false, false, false, false, false, false, false, false] rfl rfl (take_ofW HT_.out HW_.out (by kernel_rfl)) (fun _ _ _ h => h) (Or.inl ⟨by rfl, ?_⟩) hHeld ?_ ?_
     rotate_left
     ·
      rintro w' ⟨s0, s1, s2, s3, s4, s5, s6, s7, s8, s9, s10, s11, s12, s13, s14, s15, s16, s17, s18, s19, s20, s21, s22, s23⟩
      go_simp
      with_reducible rfl
     rotate_left
     ·
      simp only [Act.put, List.setIfInBounds_toArray, List.set_cons_zero, List.set_cons_succ, i64_w, i32_w]
      rfl
     refine take_ (i := 1) (N := some 40) (v := ?_) (a' := ?_) #[true, true, false, false, false, false, false, false, false, false, false, false, false, false, false, false, false, false, false, false, false, false, false, false] rfl rfl (take_ofW HT_.out HW_.out (by kernel_rfl)) (fun _ _ _ h => h) (Or.inl ⟨by rfl, ?_⟩) hHeld ?_ ?_
     rotate_left
     ·
      rintro w' ⟨s0, s1, s2, s3, s4, s5, s6, s7, s8, s9, s10, s11, s12, s13, s14, s15, s16, s17, s18, s19, s20, s21, s22, s23⟩
      go_simp
      with_reducible rfl
     rotate_left
     ·
      simp only [Act.put, List.setIfInBounds_toArray, List.set_cons_zero, List.set_cons_succ, i64_w, i32_w]
      rfl
     refine pure_ (i := 2) (N := some 41) (v := ?_) (a' := ?_) #[true, true, true, false, false, false, false, false, false, false, false, false, false, false, false, false, false, false, false, false, false, false, false, false] rfl rfl (any_of HT_.out (by kernel_rfl)) (fun _ _ _ h => h) (Or.inl ⟨by rfl, ?_⟩) ?_ ?_
     rotate_left
     ·
      intro w'
      go_simp
      with_reducible rfl
     rotate_left
     ·
      simp only [Act.put, List.setIfInBounds_toArray, List.set_cons_zero, List.set_cons_succ, i64_w, i32_w]
      rfl
     refine pure_ (i := 3) (N := some 42) (v := ?_) (a' := ?_) #[true, true, true, true, false, false, false, false, false, false, false, false, false, false, false, false, false, false, false, false, false, false, false, false] rfl rfl (any_of HT_.out (by kernel_rfl)) (fun _ _ _ h => h) (Or.inl ⟨by rfl, ?_⟩) ?_ ?_
     rotate_left
     ·
      intro w'
      go_simp
      with_reducible rfl
     rotate_left
     ·
      simp only [Act.put, List.setIfInBounds_toArray, List.set_cons_zero, List.set_cons_succ, i64_w, i32_w]
      rfl
     refine pure_ (i := 4) (N := some 43) (v := ?_) (a' := ?_) #[true, true, true, true, true, false, false, false, false, false, false, false, false, false, false, false, false, false, false, false, false, false, false, false] rfl rfl (any_of HT_.out (by kernel_rfl)) (fun _ _ _ h => h) (Or.inl ⟨by rfl, ?_⟩) ?_ ?_
     rotate_left
     ·
      intro w'
      go_simp
      with_reducible rfl
     rotate_left
     ·
      simp only [Act.put, List.setIfInBounds_toArray, List.set_cons_zero, List.set_cons_succ, i64_w, i32_w]
      rfl
     refine pure_ (i := 5) (N := some 44) (v := ?_) (a' := ?_) #[true, true, true, true, true, true, false, false, false, false, false, false, false, false, false, false, false, false, false, false, false, false, false, false] rfl rfl (any_of HT_.out (by kernel_rfl)) (fun _ _ _ h => h) (Or.inl ⟨by rfl, ?_⟩) ?_ ?_
     rotate_left
     ·
      intro w'
      go_simp
      with_reducible rfl
     rotate_left
     ·
      simp only [Act.put, List.setIfInBounds_toArray, List.set_cons_zero, List.set_cons_succ, i64_w, i32_w]
      rfl
     refine pure_ (i := 6) (N := some 45) (v := ?_) (a' := ?_) #[true, true, true, true, true, true, true, false, false, false, false, false, false, false, false, false, false, false, false, false, false, false, false, false] rfl rfl (any_of HT_.out (by kernel_rfl)) (fun _ _ _ h => h) (Or.inl ⟨by rfl, ?_⟩) ?_ ?_
     rotate_left
     ·
      intro w'
      go_simp
      with_reducible rfl
     rotate_left
     ·
      simp only [Act.put, List.setIfInBounds_toArray, List.set_cons_zero, List.set_cons_succ, i64_w, i32_w]
      rfl
     refine pure_ (i := 7) (N := some 46) (v := ?_) (a' := ?_) #[true, true, true, true, true, true, true, true, false, false, false, false, false, false, false, false, false, false, false, false, false, false, false, false] rfl rfl (any_of HT_.out (by kernel_rfl)) (fun _ _ _ h => h) (Or.inl ⟨by rfl, ?_⟩) ?_ ?_
     rotate_left
     ·
      intro w'
      go_simp
      with_reducible rfl
     rotate_left
     ·
      simp only [Act.put, List.setIfInBounds_toArray, List.set_cons_zero, List.set_cons_succ, i64_w, i32_w]
      rfl
     refine pure_ (i := 8) (N := some 47) (v := ?_) (a' := ?_) #[true, true, true, true, true, true, true, true, true, false, false, false, false, false, false, false, false, false, false, false, false, false, false, false] rfl rfl (any_of HT_.out (by kernel_rfl)) (fun _ _ _ h => h) (Or.inl ⟨by rfl, ?_⟩) ?_ ?_
     rotate_left
     ·
      intro w'
      go_simp
      with_reducible rfl
     rotate_left
     ·
      simp only [Act.put, List.setIfInBounds_toArray, List.set_cons_zero, List.set_cons_succ, i64_w, i32_w]
      rfl
     refine take_ (i := 9) (N := some 48) (v := ?_) (a' := ?_) #[true, true, true, true, true, true, true, true, true, true, false, false, false, false, false, false, false, false, false, false, false, false, false, false] rfl rfl (take_ofW HT_.out HW_.out (by kernel_rfl)) (fun _ _ _ h => h) (Or.inl ⟨by rfl, ?_⟩) hHeld ?_ ?_
     rotate_left
     ·
      rintro w' ⟨s0, s1, s2, s3, s4, s5, s6, s7, s8, s9, s10, s11, s12, s13, s14, s15, s16, s17, s18, s19, s20, s21, s22, s23⟩
      go_simp
      with_reducible rfl
     rotate_left
     ·
      simp only [Act.put, List.setIfInBounds_toArray, List.set_cons_zero, List.set_cons_succ, i64_w, i32_w]
      rfl
     refine take_ (i := 11) (N := some 50) (v := ?_) (a' := ?_) #[true, true, true, true, true, true, true, true, true, true, false, true, false, false, false, false, false, false, false, false, false, false, false, false] rfl rfl (take_ofW HT_.out HW_.out (by kernel_rfl)) (fun _ _ _ h => h) (Or.inl ⟨by rfl, ?_⟩) hHeld ?_ ?_
     rotate_left
     ·
      rintro w' ⟨s0, s1, s2, s3, s4, s5, s6, s7, s8, s9, s10, s11, s12, s13, s14, s15, s16, s17, s18, s19, s20, s21, s22, s23⟩
      go_simp
      with_reducible rfl
     rotate_left
     ·
      simp only [Act.put, List.setIfInBounds_toArray, List.set_cons_zero, List.set_cons_succ, i64_w, i32_w]
      rfl
     refine one_ (i := 10) (N := some 49) #[true, true, true, true, true, true, true, true, true, true, true, true, false, false, false, false, false, false, false, false, false, false, false, false] rfl rfl (one_of HT_.out (by kernel_rfl)) (by decide) (fun K hK => ?_)
     refine goes_ Tryd.func15 (by kernel_rfl) rfl #[.agg #[.int .i64 a0_0, .int .i64 a0_1, .int .i64 a0_2, .int .i64 a0_3, .int .u8 a0_4, .bool a0_5, .int .i64 a0_6, .int .u8 a0_7]] (by rfl) rfl rfl mapx ?_
     with_reducible refine (Pclk.clock_May.calls k a0_0 a0_1 a0_2 a0_3 a0_4 a0_5 a0_6 a0_7 t122 _ A24.out).mono ?_
     rintro e w29 ⟨rfl, hb⟩
     refine ⟨_, rfl, ?_⟩
     have n0_ := Aside0.mk (blk_below (g := gb101) (o := .cells #[.int .i64 a0_0, .int .i64 a0_1, .int .i64 a0_2, .int .i64 a0_3, .int .u8 a0_4, .bool a0_5, .int .i64 a0_6, .int .u8 a0_7] 24 (0, 0)) (ofA BK101) hb)
     have n1_ := Aside0.mk (blk_below (g := gb111) (o := .cells #[.int .i64 t102, .int .i64 t103, .int .i64 t104, .int .i64 t105, .int .u8 t106, .bool t107, .int .i64 t108, .int .u8 t109] 24 (0, 0)) (ofA BK111) hb)
     have n2_ := Aside0.mk (blk_below (g := gb121) (o := .cells #[.int .i64 t112, .int .i64 t113, .int .i64 t114, .int .i64 t115, .int .u8 t116, .bool t117, .int .i64 t118, .int .u8 t119] 24 (0, 0)) (ofA BK121) hb)
     have n3_ := Aside0.mk (below_step (low HB) hb)
     clear BK101
     clear BK111
     clear BK121
     clear HB
     have BK101 := n0_
     have BK111 := n1_
     have BK121 := n2_
     have HB := n3_
     clear n0_ n1_ n2_ n3_
     (try clear hb)
     (try clear hb2)
     (try clear hk)
     (try clear hi)
     refine hK.out _ _ ⟨(blk_cell BK111.out 0).trans rfl, (blk_cell BK111.out 1).trans rfl, (blk_cell BK111.out 2).trans rfl, (blk_cell BK111.out 3).trans rfl, (blk_cell BK111.out 4).trans rfl, (blk_cell BK111.out 5).trans rfl, (blk_cell BK111.out 6).trans rfl, (blk_cell BK111.out 7).trans rfl, (blk_cell BK121.out 0).trans rfl, (blk_cell BK121.out 1).trans rfl, (blk_cell BK121.out 2).trans rfl, (blk_cell BK121.out 3).trans rfl, (blk_cell BK121.out 4).trans rfl, (blk_cell BK121.out 5).trans rfl, (blk_cell BK121.out 6).trans rfl, (blk_cell BK121.out 7).trans rfl, (blk_cell BK101.out 0).trans rfl, (blk_cell BK101.out 1).trans rfl, (blk_cell BK101.out 2).trans rfl, (blk_cell BK101.out 3).trans rfl, (blk_cell BK101.out 4).trans rfl, (blk_cell BK101.out 5).trans rfl, (blk_cell BK101.out 6).trans rfl, (blk_cell BK101.out 7).trans rfl⟩ (fun hHeld => ?_)
     clear hK K
     refine norm_ (a' := ?_) ?_ ?_
     rotate_left
     ·
      show Act.put _ (some 49) _ = _
      simp only [Act.put, List.setIfInBounds_toArray, List.set_cons_zero, List.set_cons_succ, i64_w, i32_w]
      rfl
     refine one_ (i := 12) (N := some 51) #[true, true, true, true, true, true, true, true, true, true, true, true, true, false, false, false, false, false, false, false, false, false, false, false] rfl rfl (one_of HT_.out (by kernel_rfl)) (by decide) (fun K hK => ?_)
     refine goes_ Tryd.func16 (by kernel_rfl) rfl #[.agg #[.int .i64 a0_0, .int .i64 a0_1, .int .i64 a0_2, .int .i64 a0_3, .int .u8 a0_4, .bool a0_5, .int .i64 a0_6, .int .u8 a0_7]] (by rfl) rfl rfl mapx ?_
     with_reducible refine (Pcrf.joustref28_May.calls k a0_0 a0_1 a0_2 a0_3 a0_4 a0_5 a0_6 a0_7 t123 _ A25.out).mono ?_
     rintro e w30 ⟨rfl, hb⟩
     refine ⟨_, rfl, ?_⟩
     have n0_ := Aside0.mk (blk_below (g := gb101) (o := .cells #[.int .i64 a0_0, .int .i64 a0_1, .int .i64 a0_2, .int .i64 a0_3, .int .u8 a0_4, .bool a0_5, .int .i64 a0_6, .int .u8 a0_7] 24 (0, 0)) (ofA BK101) hb)
     have n1_ := Aside0.mk (blk_below (g := gb111) (o := .cells #[.int .i64 t102, .int .i64 t103, .int .i64 t104, .int .i64 t105, .int .u8 t106, .bool t107, .int .i64 t108, .int .u8 t109] 24 (0, 0)) (ofA BK111) hb)
     have n2_ := Aside0.mk (blk_below (g := gb121) (o := .cells #[.int .i64 t112, .int .i64 t113, .int .i64 t114, .int .i64 t115, .int .u8 t116, .bool t117, .int .i64 t118, .int .u8 t119] 24 (0, 0)) (ofA BK121) hb)
     have n3_ := Aside0.mk (below_step (low HB) hb)
     clear BK101
     clear BK111
     clear BK121
     clear HB
     have BK101 := n0_
     have BK111 := n1_
     have BK121 := n2_
     have HB := n3_
     clear n0_ n1_ n2_ n3_
     (try clear hb)
     (try clear hb2)
     (try clear hk)
     (try clear hi)
     refine hK.out _ _ ⟨(blk_cell BK111.out 0).trans rfl, (blk_cell BK111.out 1).trans rfl, (blk_cell BK111.out 2).trans rfl, (blk_cell BK111.out 3).trans rfl, (blk_cell BK111.out 4).trans rfl, (blk_cell BK111.out 5).trans rfl, (blk_cell BK111.out 6).trans rfl, (blk_cell BK111.out 7).trans rfl, (blk_cell BK121.out 0).trans rfl, (blk_cell BK121.out 1).trans rfl, (blk_cell BK121.out 2).trans rfl, (blk_cell BK121.out 3).trans rfl, (blk_cell BK121.out 4).trans rfl, (blk_cell BK121.out 5).trans rfl, (blk_cell BK121.out 6).trans rfl, (blk_cell BK121.out 7).trans rfl, (blk_cell BK101.out 0).trans rfl, (blk_cell BK101.out 1).trans rfl, (blk_cell BK101.out 2).trans rfl, (blk_cell BK101.out 3).trans rfl, (blk_cell BK101.out 4).trans rfl, (blk_cell BK101.out 5).trans rfl, (blk_cell BK101.out 6).trans rfl, (blk_cell BK101.out 7).trans rfl⟩ (fun hHeld => ?_)
     clear hK K
     refine norm_ (a' := ?_) ?_ ?_
     rotate_left
     ·
      show Act.put _ (some 51) _ = _
      simp only [Act.put, List.setIfInBounds_toArray, List.set_cons_zero, List.set_cons_succ, i64_w, i32_w]
      rfl
     refine pure_ (i := 13) (N := some 52) (v := ?_) (a' := ?_) #[true, true, true, true, true, true, true, true, true, true, true, true, true, true, false, false, false, false, false, false, false, false, false, false] rfl rfl (any_of HT_.out (by kernel_rfl)) (fun _ _ _ h => h) (Or.inl ⟨by rfl, ?_⟩) ?_ ?_
     rotate_left
     ·
      intro w'
      go_simp
      with_reducible rfl
     rotate_left
     ·
      simp only [Act.put, List.setIfInBounds_toArray, List.set_cons_zero, List.set_cons_succ, i64_w, i32_w]
      rfl
     refine pure_ (i := 14) (N := some 53) (v := ?_) (a' := ?_) #[true, true, true, true, true, true, true, true, true, true, true, true, true, true, true, false, false, false, false, false, false, false, false, false] rfl rfl (any_of HT_.out (by kernel_rfl)) (fun _ _ _ h => h) (Or.inl ⟨by rfl, ?_⟩) ?_ ?_
     rotate_left
     ·
      intro w'
      go_simp
      with_reducible rfl
     rotate_left
     ·
      simp only [Act.put, List.setIfInBounds_toArray, List.set_cons_zero, List.set_cons_succ, i64_w, i32_w]
      rfl
     refine pure_ (i := 15) (N := some 54) (v := ?_) (a' := ?_) #[true, true, true, true, true, true, true, true, true, true, true, true, true, true, true, true, false, false, false, false, false, false, false, false] rfl rfl (any_of HT_.out (by kernel_rfl)) (fun _ _ _ h => h) (Or.inl ⟨by rfl, ?_⟩) ?_ ?_
     rotate_left
     ·
      intro w'
      go_simp
      with_reducible rfl
     rotate_left
     ·
      simp only [Act.put, List.setIfInBounds_toArray, List.set_cons_zero, List.set_cons_succ, i64_w, i32_w]
      rfl
     refine pure_ (i := 16) (N := some 55) (v := undef) (a' := ?_) #[true, true, true, true, true, true, true, true, true, true, true, true, true, true, true, true, true, false, false, false, false, false, false, false] rfl rfl (any_of HT_.out (by kernel_rfl)) (fun _ _ _ h => h) (Or.inr ⟨by rfl, rfl⟩) ?_ ?_
     rotate_left
     ·
      simp only [Act.put, List.setIfInBounds_toArray, List.set_cons_zero, List.set_cons_succ, i64_w, i32_w]
      rfl
     refine pure_ (i := 17) (N := some 56) (v := undef) (a' := ?_) #[true, true, true, true, true, true, true, true, true, true, true, true, true, true, true, true, true, true, false, false, false, false, false, false] rfl rfl (any_of HT_.out (by kernel_rfl)) (fun _ _ _ h => h) (Or.inr ⟨by rfl, rfl⟩) ?_ ?_
     rotate_left
     ·
      simp only [Act.put, List.setIfInBounds_toArray, List.set_cons_zero, List.set_cons_succ, i64_w, i32_w]
      rfl
     refine pure_ (i := 18) (N := some 57) (v := undef) (a' := ?_) #[true, true, true, true, true, true, true, true, true, true, true, true, true, true, true, true, true, true, true, false, false, false, false, false] rfl rfl (any_of HT_.out (by kernel_rfl)) (fun _ _ _ h => h) (Or.inr ⟨by rfl, rfl⟩) ?_ ?_
     rotate_left
     ·
      simp only [Act.put, List.setIfInBounds_toArray, List.set_cons_zero, List.set_cons_succ, i64_w, i32_w]
      rfl
     refine pure_ (i := 19) (N := some 58) (v := undef) (a' := ?_) #[true, true, true, true, true, true, true, true, true, true, true, true, true, true, true, true, true, true, true, true, false, false, false, false] rfl rfl (any_of HT_.out (by kernel_rfl)) (fun _ _ _ h => h) (Or.inr ⟨by rfl, rfl⟩) ?_ ?_
     rotate_left
     ·
      simp only [Act.put, List.setIfInBounds_toArray, List.set_cons_zero, List.set_cons_succ, i64_w, i32_w]
      rfl
     refine pure_ (i := 20) (N := some 59) (v := undef) (a' := ?_) #[true, true, true, true, true, true, true, true, true, true, true, true, true, true, true, true, true, true, true, true, true, false, false, false] rfl rfl (any_of HT_.out (by kernel_rfl)) (fun _ _ _ h => h) (Or.inr ⟨by rfl, rfl⟩) ?_ ?_
     rotate_left
     ·
      simp only [Act.put, List.setIfInBounds_toArray, List.set_cons_zero, List.set_cons_succ, i64_w, i32_w]
      rfl
     refine pure_ (i := 21) (N := some 60) (v := undef) (a' := ?_) #[true, true, true, true, true, true, true, true, true, true, true, true, true, true, true, true, true, true, true, true, true, true, false, false] rfl rfl (any_of HT_.out (by kernel_rfl)) (fun _ _ _ h => h) (Or.inr ⟨by rfl, rfl⟩) ?_ ?_
     rotate_left
     ·
      simp only [Act.put, List.setIfInBounds_toArray, List.set_cons_zero, List.set_cons_succ, i64_w, i32_w]
      rfl
     refine pure_ (i := 22) (N := some 61) (v := undef) (a' := ?_) #[true, true, true, true, true, true, true, true, true, true, true, true, true, true, true, true, true, true, true, true, true, true, true, false] rfl rfl (any_of HT_.out (by kernel_rfl)) (fun _ _ _ h => h) (Or.inr ⟨by rfl, rfl⟩) ?_ ?_
     rotate_left
     ·
      simp only [Act.put, List.setIfInBounds_toArray, List.set_cons_zero, List.set_cons_succ, i64_w, i32_w]
      rfl
     refine pure_ (i := 23) (N := some 62) (v := ?_) (a' := ?_) #[true, true, true, true, true, true, true, true, true, true, true, true, true, true, true, true, true, true, true, true, true, true, true, true] rfl rfl (any_of HT_.out (by kernel_rfl)) (fun _ _ _ h => h) (Or.inl ⟨by rfl, ?_⟩) ?_ ?_
     rotate_left
     ·
      intro w'
      go_simp
      with_reducible rfl
     rotate_left
     ·
      simp only [Act.put, List.setIfInBounds_toArray, List.set_cons_zero, List.set_cons_succ, i64_w, i32_w]
      rfl
     refine done_ (done_of HT_.out (by kernel_rfl)) ?_
     try go_wp2
     go_meet
     case rel => exact ⟨_, (true), eqx, H', ⟨by first | omega | exact Nat.le_refl _⟩, ⟨ofA BK101⟩, ⟨ofA BK111⟩, ⟨ofA BK121⟩, ⟨low HB⟩⟩
    ·
     rw [if_neg c26] at H
     have c26b0 : (t122 != t123) = false := by simpa using c26
     (try (have c26b1 : decide (t122 = t123) = true := by simpa using c26))
     (try (have c26b2 : (t122 == t123) = true := by simpa using c26))
     clear c26
     replace H := Option.bind_eq_some_iff.mp H
     obtain ⟨t124, A310, H⟩ := H
     replace H : ((Pcrt.joustref28_Text.f k a0_0 a0_1 a0_2 a0_3 a0_4 a0_5 a0_6 a0_7 a5).bind fun t125 => (joustlaw28_ClockTells.j0 k a4 a5 (t124.toList != t125.toList) a0_0 a0_1 a0_2 a0_3 a0_4 a0_5 a0_6 a0_7)) = some r := H
     have A31 := Aside0.mk A310
     clear A310
     replace H := Option.bind_eq_some_iff.mp H
     obtain ⟨t125, A320, H⟩ := H
     replace H : (joustlaw28_ClockTells.j0 k a4 a5 (t124.toList != t125.toList) a0_0 a0_1 a0_2 a0_3 a0_4 a0_5 a0_6 a0_7) = some r := H
     have A32 := Aside0.mk A320
     clear A320
     have H' := Aside0.mk H
     clear H
     try go_wp2
     have n0_ : Aside0 (((((((((w16.setCell ⟨gb121, 0, none⟩ (.int .i64 t112)).setCell ⟨gb121, 1, none⟩ (.int .i64 t113)).setCell ⟨gb121, 2, none⟩ (.int .i64 t114)).setCell ⟨gb121, 3, none⟩ (.int .i64 t115)).setCell ⟨gb121, 4, none⟩ (.int .u8 t116)).setCell ⟨gb121, 5, none⟩ (.bool t117)).setCell ⟨gb121, 6, none⟩ (.int .i64 t118)).setCell ⟨gb121, 7, none⟩ (.int .u8 t119)).heap[gb101]? = some (.cells #[.int .i64 a0_0, .int .i64 a0_1, .int .i64 a0_2, .int .i64 a0_3, .int .u8 a0_4, .bool a0_5, .int .i64 a0_6, .int .u8 a0_7] 24 (0, 0))) := ⟨by (with_reducible repeat (first | refine bN ?_ _ | refine bD ?_ | refine bA ?_ _)); (iterate 8 refine blk_far ?_ NB101_121.out _); exact ofA BK101⟩
     have n1_ : Aside0 (((((((((w16.setCell ⟨gb121, 0, none⟩ (.int .i64 t112)).setCell ⟨gb121, 1, none⟩ (.int .i64 t113)).setCell ⟨gb121, 2, none⟩ (.int .i64 t114)).setCell ⟨gb121, 3, none⟩ (.int .i64 t115)).setCell ⟨gb121, 4, none⟩ (.int .u8 t116)).setCell ⟨gb121, 5, none⟩ (.bool t117)).setCell ⟨gb121, 6, none⟩ (.int .i64 t118)).setCell ⟨gb121, 7, none⟩ (.int .u8 t119)).heap[gb111]? = some (.cells #[.int .i64 t102, .int .i64 t103, .int .i64 t104, .int .i64 t105, .int .u8 t106, .bool t107, .int .i64 t108, .int .u8 t109] 24 (0, 0))) := ⟨by (with_reducible repeat (first | refine bN ?_ _ | refine bD ?_ | refine bA ?_ _)); (iterate 8 refine blk_far ?_ NB111_121.out _); exact ofA BK111⟩
     have n2_ : Aside0 (((((((((w16.setCell ⟨gb121, 0, none⟩ (.int .i64 t112)).setCell ⟨gb121, 1, none⟩ (.int .i64 t113)).setCell ⟨gb121, 2, none⟩ (.int .i64 t114)).setCell ⟨gb121, 3, none⟩ (.int .i64 t115)).setCell ⟨gb121, 4, none⟩ (.int .u8 t116)).setCell ⟨gb121, 5, none⟩ (.bool t117)).setCell ⟨gb121, 6, none⟩ (.int .i64 t118)).setCell ⟨gb121, 7, none⟩ (.int .u8 t119)).heap[gb121]? = some (.cells #[.int .i64 t112, .int .i64 t113, .int .i64 t114, .int .i64 t115, .int .u8 t116, .bool t117, .int .i64 t118, .int .u8 t119] 24 (0, 0))) := ⟨by (with_reducible repeat (first | refine bN ?_ _ | refine bD ?_ | refine bA ?_ _)); refine blk_put (cs := #[.int .i64 t112, .int .i64 t113, .int .i64 t114, .int .i64 t115, .int .u8 t116, .bool t117, .int .i64 t118, .int .u8 0]) ?_ 7 _ rfl; refine blk_put (cs := #[.int .i64 t112, .int .i64 t113, .int .i64 t114, .int .i64 t115, .int .u8 t116, .bool t117, .int .i64 0, .int .u8 0]) ?_ 6 _ rfl; refine blk_put (cs := #[.int .i64 t112, .int .i64 t113, .int .i64 t114, .int .i64 t115, .int .u8 t116, .bool false, .int .i64 0, .int .u8 0]) ?_ 5 _ rfl; refine blk_put (cs := #[.int .i64 t112, .int .i64 t113, .int .i64 t114, .int .i64 t115, .int .u8 0, .bool false, .int .i64 0, .int .u8 0]) ?_ 4 _ rfl; refine blk_put (cs := #[.int .i64 t112, .int .i64 t113, .int .i64 t114, .int .i64 0, .int .u8 0, .bool false, .int .i64 0, .int .u8 0]) ?_ 3 _ rfl; refine blk_put (cs := #[.int .i64 t112, .int .i64 t113, .int .i64 0, .int .i64 0, .int .u8 0, .bool false, .int .i64 0, .int .u8 0]) ?_ 2 _ rfl; refine blk_put (cs := #[.int .i64 t112, .int .i64 0, .int .i64 0, .int .i64 0, .int .u8 0, .bool false, .int .i64 0, .int .u8 0]) ?_ 1 _ rfl; refine blk_put (cs := #[.int .i64 0, .int .i64 0, .int .i64 0, .int .i64 0, .int .u8 0, .bool false, .int .i64 0, .int .u8 0]) ?_ 0 _ rfl; exact ofA BK121⟩
     have n3_ : Aside0 (Below w.heap.size w ((((((((w16.setCell ⟨gb121, 0, none⟩ (.int .i64 t112)).setCell ⟨gb121, 1, none⟩ (.int .i64 t113)).setCell ⟨gb121, 2, none⟩ (.int .i64 t114)).setCell ⟨gb121, 3, none⟩ (.int .i64 t115)).setCell ⟨gb121, 4, none⟩ (.int .u8 t116)).setCell ⟨gb121, 5, none⟩ (.bool t117)).setCell ⟨gb121, 6, none⟩ (.int .i64 t118)).setCell ⟨gb121, 7, none⟩ (.int .u8 t119))) := ⟨low HB⟩
     (try clear BK101)
     (try clear BK111)
     (try clear BK121)
     (try clear HB)
     generalize ((((((((w16.setCell ⟨gb121, 0, none⟩ (.int .i64 t112)).setCell ⟨gb121, 1, none⟩ (.int .i64 t113)).setCell ⟨gb121, 2, none⟩ (.int .i64 t114)).setCell ⟨gb121, 3, none⟩ (.int .i64 t115)).setCell ⟨gb121, 4, none⟩ (.int .u8 t116)).setCell ⟨gb121, 5, none⟩ (.bool t117)).setCell ⟨gb121, 6, none⟩ (.int .i64 t118)).setCell ⟨gb121, 7, none⟩ (.int .u8 t119)) = w33 at n0_ n1_ n2_ n3_ ⊢
     have BK101 := n0_
     have BK111 := n1_
     have BK121 := n2_
     have HB := n3_
     clear n0_ n1_ n2_ n3_
     have n0_ := Aside0.mk (blk_drew BK101.out)
     have n1_ := Aside0.mk (blk_drew BK111.out)
     have n2_ := Aside0.mk (blk_drew BK121.out)
     have n3_ := Aside0.mk (below_drew1 HB.out)
     clear BK101
     clear BK111
     clear BK121
     clear HB
     have BK101 := n0_
     have BK111 := n1_
     have BK121 := n2_
     have HB := n3_
     clear n0_ n1_ n2_ n3_
     refine start_ (n := 24) (S := fun w' => w'.cell? ⟨gb111, 0, none⟩ = some (.int .i64 t102) ∧ w'.cell? ⟨gb111, 1, none⟩ = some (.int .i64 t103) ∧ w'.cell? ⟨gb111, 2, none⟩ = some (.int .i64 t104) ∧ w'.cell? ⟨gb111, 3, none⟩ = some (.int .i64 t105) ∧ w'.cell? ⟨gb111, 4, none⟩ = some (.int .u8 t106) ∧ w'.cell? ⟨gb111, 5, none⟩ = some (.bool t107) ∧ w'.cell? ⟨gb111, 6, none⟩ = some (.int .i64 t108) ∧ w'.cell? ⟨gb111, 7, none⟩ = some (.int .u8 t109) ∧ w'.cell? ⟨gb121, 0, none⟩ = some (.int .i64 t112) ∧ w'.cell? ⟨gb121, 1, none⟩ = some (.int .i64 t113) ∧ w'.cell? ⟨gb121, 2, none⟩ = some (.int .i64 t114) ∧ w'.cell? ⟨gb121, 3, none⟩ = some (.int .i64 t115) ∧ w'.cell? ⟨gb121, 4, none⟩ = some (.int .u8 t116) ∧ w'.cell? ⟨gb121, 5, none⟩ = some (.bool t117) ∧ w'.cell? ⟨gb121, 6, none⟩ = some (.int .i64 t118) ∧ w'.cell? ⟨gb121, 7, none⟩ = some (.int .u8 t119) ∧ w'.cell? ⟨gb101, 0, none⟩ = some (.int .i64 a0_0) ∧ w'.cell? ⟨gb101, 1, none⟩ = some (.int .i64 a0_1) ∧ w'.cell? ⟨gb101, 2, none⟩ = some (.int .i64 a0_2) ∧ w'.cell? ⟨gb101, 3, none⟩ = some (.int .i64 a0_3) ∧ w'.cell? ⟨gb101, 4, none⟩ = some (.int .u8 a0_4) ∧ w'.cell? ⟨gb101, 5, none⟩ = some (.bool a0_5) ∧ w'.cell? ⟨gb101, 6, none⟩ = some (.int .i64 a0_6) ∧ w'.cell? ⟨gb101, 7, none⟩ = some (.int .u8 a0_7)) (ds := []) #[false, false, false, false, false, false, false, false, false, false, false, false, false, false, false, false, false, false, false, false, false, false, false, false] (by kernel_rfl) rfl rfl ⟨(blk_cell BK111.out 0).trans rfl, (blk_cell BK111.out 1).trans rfl, (blk_cell BK111.out 2).trans rfl, (blk_cell BK111.out 3).trans rfl, (blk_cell BK111.out 4).trans rfl, (blk_cell BK111.out 5).trans rfl, (blk_cell BK111.out 6).trans rfl, (blk_cell BK111.out 7).trans rfl, (blk_cell BK121.out 0).trans rfl, (blk_cell BK121.out 1).trans rfl, (blk_cell BK121.out 2).trans rfl, (blk_cell BK121.out 3).trans rfl, (blk_cell BK121.out 4).trans rfl, (blk_cell BK121.out 5).trans rfl, (blk_cell BK121.out 6).trans rfl, (blk_cell BK121.out 7).trans rfl, (blk_cell BK101.out 0).trans rfl, (blk_cell BK101.out 1).trans rfl, (blk_cell BK101.out 2).trans rfl, (blk_cell BK101.out 3).trans rfl, (blk_cell BK101.out 4).trans rfl, (blk_cell BK101.out 5).trans rfl, (blk_cell BK101.out 6).trans rfl, (blk_cell BK101.out 7).trans rfl⟩ (fun hHeld => ?_); refine with_tabW joustlaw28_ClockTells.tab3 joustlaw28_ClockTells.bits3 (fun HT_ HW_ => ?_)
     generalize w33.drew = w34 at BK101 BK111 BK121 HB hHeld ⊢
     refine take_ (i := 0) (N := some 39) (v := ?_) (a' := ?_) #[true, false, false, false, false, false, false, false, false, false, false, false, false, false, false, false, false, false, false, false, false, false, false, false] rfl rfl (take_ofW HT_.out HW_.out (by kernel_rfl)) (fun _ _ _ h => h) (Or.inl ⟨by rfl, ?_⟩) hHeld ?_ ?_
     rotate_left
     ·
      rintro w' ⟨s0, s1, s2, s3, s4, s5, s6, s7, s8, s9, s10, s11, s12, s13, s14, s15, s16, s17, s18, s19, s20, s21, s22, s23⟩
      go_simp
      with_reducible rfl
     rotate_left
     ·
      simp only [Act.put, List.setIfInBounds_toArray, List.set_cons_zero, List.set_cons_succ, i64_w, i32_w]
      rfl
     refine take_ (i := 1) (N := some 40) (v := ?_) (a' := ?_) #[true, true, false, false, false, false, false, false, false, false, false, false, false, false, false, false, false, false, false, false, false, false, false, false] rfl rfl (take_ofW HT_.out HW_.out (by kernel_rfl)) (fun _ _ _ h => h) (Or.inl ⟨by rfl, ?_⟩) hHeld ?_ ?_
     rotate_left
     ·
      rintro w' ⟨s0, s1, s2, s3, s4, s5, s6, s7, s8, s9, s10, s11, s12, s13, s14, s15, s16, s17, s18, s19, s20, s21, s22, s23⟩
      go_simp
      with_reducible rfl
     rotate_left
     ·
      simp only [Act.put, List.setIfInBounds_toArray, List.set_cons_zero, List.set_cons_succ, i64_w, i32_w]
      rfl
     refine pure_ (i := 2) (N := some 41) (v := ?_) (a' := ?_) #[true, true, true, false, false, false, false, false, false, false, false, false, false, false, false, false, false, false, false, false, false, false, false, false] rfl rfl (any_of HT_.out (by kernel_rfl)) (fun _ _ _ h => h) (Or.inl ⟨by rfl, ?_⟩) ?_ ?_
     rotate_left
     ·
      intro w'
      go_simp
      with_reducible rfl
     rotate_left
     ·
      simp only [Act.put, List.setIfInBounds_toArray, List.set_cons_zero, List.set_cons_succ, i64_w, i32_w]
      rfl
     refine pure_ (i := 3) (N := some 42) (v := ?_) (a' := ?_) #[true, true, true, true, false, false, false, false, false, false, false, false, false, false, false, false, false, false, false, false, false, false, false, false] rfl rfl (any_of HT_.out (by kernel_rfl)) (fun _ _ _ h => h) (Or.inl ⟨by rfl, ?_⟩) ?_ ?_
     rotate_left
     ·
      intro w'
      go_simp
      with_reducible rfl
     rotate_left
     ·
      simp only [Act.put, List.setIfInBounds_toArray, List.set_cons_zero, List.set_cons_succ, i64_w, i32_w]
      rfl
     refine pure_ (i := 4) (N := some 43) (v := ?_) (a' := ?_) #[true, true, true, true, true, false, false, false, false, false, false, false, false, false, false, false, false, false, false, false, false, false, false, false] rfl rfl (any_of HT_.out (by kernel_rfl)) (fun _ _ _ h => h) (Or.inl ⟨by rfl, ?_⟩) ?_ ?_
     rotate_left
     ·
      intro w'
      go_simp
      with_reducible rfl
     rotate_left
     ·
      simp only [Act.put, List.setIfInBounds_toArray, List.set_cons_zero, List.set_cons_succ, i64_w, i32_w]
      rfl
     refine pure_ (i := 5) (N := some 44) (v := ?_) (a' := ?_) #[true, true, true, true, true, true, false, false, false, false, false, false, false, false, false, false, false, false, false, false, false, false, false, false] rfl rfl (any_of HT_.out (by kernel_rfl)) (fun _ _ _ h => h) (Or.inl ⟨by rfl, ?_⟩) ?_ ?_
     rotate_left
     ·
      intro w'
      go_simp
      with_reducible rfl
     rotate_left
     ·
      simp only [Act.put, List.setIfInBounds_toArray, List.set_cons_zero, List.set_cons_succ, i64_w, i32_w]
      rfl
     refine pure_ (i := 6) (N := some 45) (v := ?_) (a' := ?_) #[true, true, true, true, true, true, true, false, false, false, false, false, false, false, false, false, false, false, false, false, false, false, false, false] rfl rfl (any_of HT_.out (by kernel_rfl)) (fun _ _ _ h => h) (Or.inl ⟨by rfl, ?_⟩) ?_ ?_
     rotate_left
     ·
      intro w'
      go_simp
      with_reducible rfl
     rotate_left
     ·
      simp only [Act.put, List.setIfInBounds_toArray, List.set_cons_zero, List.set_cons_succ, i64_w, i32_w]
      rfl
     refine pure_ (i := 7) (N := some 46) (v := ?_) (a' := ?_) #[true, true, true, true, true, true, true, true, false, false, false, false, false, false, false, false, false, false, false, false, false, false, false, false] rfl rfl (any_of HT_.out (by kernel_rfl)) (fun _ _ _ h => h) (Or.inl ⟨by rfl, ?_⟩) ?_ ?_
     rotate_left
     ·
      intro w'
      go_simp
      with_reducible rfl
     rotate_left
     ·
      simp only [Act.put, List.setIfInBounds_toArray, List.set_cons_zero, List.set_cons_succ, i64_w, i32_w]
      rfl
     refine pure_ (i := 8) (N := some 47) (v := ?_) (a' := ?_) #[true, true, true, true, true, true, true, true, true, false, false, false, false, false, false, false, false, false, false, false, false, false, false, false] rfl rfl (any_of HT_.out (by kernel_rfl)) (fun _ _ _ h => h) (Or.inl ⟨by rfl, ?_⟩) ?_ ?_
     rotate_left
     ·
      intro w'
      go_simp
      with_reducible rfl
     rotate_left
     ·
      simp only [Act.put, List.setIfInBounds_toArray, List.set_cons_zero, List.set_cons_succ, i64_w, i32_w]
      rfl
     refine take_ (i := 9) (N := some 48) (v := ?_) (a' := ?_) #[true, true, true, true, true, true, true, true, true, true, false, false, false, false, false, false, false, false, false, false, false, false, false, false] rfl rfl (take_ofW HT_.out HW_.out (by kernel_rfl)) (fun _ _ _ h => h) (Or.inl ⟨by rfl, ?_⟩) hHeld ?_ ?_
     rotate_left
     ·
      rintro w' ⟨s0, s1, s2, s3, s4, s5, s6, s7, s8, s9, s10, s11, s12, s13, s14, s15, s16, s17, s18, s19, s20, s21, s22, s23⟩
      go_simp
      with_reducible rfl
     rotate_left
     ·
      simp only [Act.put, List.setIfInBounds_toArray, List.set_cons_zero, List.set_cons_succ, i64_w, i32_w]
      rfl
     refine take_ (i := 11) (N := some 50) (v := ?_) (a' := ?_) #[true, true, true, true, true, true, true, true, true, true, false, true, false, false, false, false, false, false, false, false, false, false, false, false] rfl rfl (take_ofW HT_.out HW_.out (by kernel_rfl)) (fun _ _ _ h => h) (Or.inl ⟨by rfl, ?_⟩) hHeld ?_ ?_
     rotate_left
     ·
      rintro w' ⟨s0, s1, s2, s3, s4, s5, s6, s7, s8, s9, s10, s11, s12, s13, s14, s15, s16, s17, s18, s19, s20, s21, s22, s23⟩
      go_simp
      with_reducible rfl
     rotate_left
     ·
      simp only [Act.put, List.setIfInBounds_toArray, List.set_cons_zero, List.set_cons_succ, i64_w, i32_w]
      rfl
     refine one_ (i := 10) (N := some 49) #[true, true, true, true, true, true, true, true, true, true, true, true, false, false, false, false, false, false, false, false, false, false, false, false] rfl rfl (one_of HT_.out (by kernel_rfl)) (by decide) (fun K hK => ?_)
     refine goes_ Tryd.func15 (by kernel_rfl) rfl #[.agg #[.int .i64 a0_0, .int .i64 a0_1, .int .i64 a0_2, .int .i64 a0_3, .int .u8 a0_4, .bool a0_5, .int .i64 a0_6, .int .u8 a0_7]] (by rfl) rfl rfl mapx ?_
     with_reducible refine (Pclk.clock_May.calls k a0_0 a0_1 a0_2 a0_3 a0_4 a0_5 a0_6 a0_7 t122 _ A24.out).mono ?_
     rintro e w35 ⟨rfl, hb⟩
     refine ⟨_, rfl, ?_⟩
     have n0_ := Aside0.mk (blk_below (g := gb101) (o := .cells #[.int .i64 a0_0, .int .i64 a0_1, .int .i64 a0_2, .int .i64 a0_3, .int .u8 a0_4, .bool a0_5, .int .i64 a0_6, .int .u8 a0_7] 24 (0, 0)) (ofA BK101) hb)
     have n1_ := Aside0.mk (blk_below (g := gb111) (o := .cells #[.int .i64 t102, .int .i64 t103, .int .i64 t104, .int .i64 t105, .int .u8 t106, .bool t107, .int .i64 t108, .int .u8 t109] 24 (0, 0)) (ofA BK111) hb)
     have n2_ := Aside0.mk (blk_below (g := gb121) (o := .cells #[.int .i64 t112, .int .i64 t113, .int .i64 t114, .int .i64 t115, .int .u8 t116, .bool t117, .int .i64 t118, .int .u8 t119] 24 (0, 0)) (ofA BK121) hb)
     have n3_ := Aside0.mk (below_step (low HB) hb)
     clear BK101
     clear BK111
     clear BK121
     clear HB
     have BK101 := n0_
     have BK111 := n1_
     have BK121 := n2_
     have HB := n3_
     clear n0_ n1_ n2_ n3_
     (try clear hb)
     (try clear hb2)
     (try clear hk)
     (try clear hi)
     refine hK.out _ _ ⟨(blk_cell BK111.out 0).trans rfl, (blk_cell BK111.out 1).trans rfl, (blk_cell BK111.out 2).trans rfl, (blk_cell BK111.out 3).trans rfl, (blk_cell BK111.out 4).trans rfl, (blk_cell BK111.out 5).trans rfl, (blk_cell BK111.out 6).trans rfl, (blk_cell BK111.out 7).trans rfl, (blk_cell BK121.out 0).trans rfl, (blk_cell BK121.out 1).trans rfl, (blk_cell BK121.out 2).trans rfl, (blk_cell BK121.out 3).trans rfl, (blk_cell BK121.out 4).trans rfl, (blk_cell BK121.out 5).trans rfl, (blk_cell BK121.out 6).trans rfl, (blk_cell BK121.out 7).trans rfl, (blk_cell BK101.out 0).trans rfl, (blk_cell BK101.out 1).trans rfl, (blk_cell BK101.out 2).trans rfl, (blk_cell BK101.out 3).trans rfl, (blk_cell BK101.out 4).trans rfl, (blk_cell BK101.out 5).trans rfl, (blk_cell BK101.out 6).trans rfl, (blk_cell BK101.out 7).trans rfl⟩ (fun hHeld => ?_)
     clear hK K
     refine norm_ (a' := ?_) ?_ ?_
     rotate_left
     ·
      show Act.put _ (some 49) _ = _
      simp only [Act.put, List.setIfInBounds_toArray, List.set_cons_zero, List.set_cons_succ, i64_w, i32_w]
      rfl
     refine one_ (i := 12) (N := some 51) #[true, true, true, true, true, true, true, true, true, true, true, true, true, false, false, false, false, false, false, false, false, false, false, false] rfl rfl (one_of HT_.out (by kernel_rfl)) (by decide) (fun K hK => ?_)
     refine goes_ Tryd.func16 (by kernel_rfl) rfl #[.agg #[.int .i64 a0_0, .int .i64 a0_1, .int .i64 a0_2, .int .i64 a0_3, .int .u8 a0_4, .bool a0_5, .int .i64 a0_6, .int .u8 a0_7]] (by rfl) rfl rfl mapx ?_
     with_reducible refine (Pcrf.joustref28_May.calls k a0_0 a0_1 a0_2 a0_3 a0_4 a0_5 a0_6 a0_7 t123 _ A25.out).mono ?_
     rintro e w36 ⟨rfl, hb⟩
     refine ⟨_, rfl, ?_⟩
     have n0_ := Aside0.mk (blk_below (g := gb101) (o := .cells #[.int .i64 a0_0, .int .i64 a0_1, .int .i64 a0_2, .int .i64 a0_3, .int .u8 a0_4, .bool a0_5, .int .i64 a0_6, .int .u8 a0_7] 24 (0, 0)) (ofA BK101) hb)
     have n1_ := Aside0.mk (blk_below (g := gb111) (o := .cells #[.int .i64 t102, .int .i64 t103, .int .i64 t104, .int .i64 t105, .int .u8 t106, .bool t107, .int .i64 t108, .int .u8 t109] 24 (0, 0)) (ofA BK111) hb)
     have n2_ := Aside0.mk (blk_below (g := gb121) (o := .cells #[.int .i64 t112, .int .i64 t113, .int .i64 t114, .int .i64 t115, .int .u8 t116, .bool t117, .int .i64 t118, .int .u8 t119] 24 (0, 0)) (ofA BK121) hb)
     have n3_ := Aside0.mk (below_step (low HB) hb)
     clear BK101
     clear BK111
     clear BK121
     clear HB
     have BK101 := n0_
     have BK111 := n1_
     have BK121 := n2_
     have HB := n3_
     clear n0_ n1_ n2_ n3_
     (try clear hb)
     (try clear hb2)
     (try clear hk)
     (try clear hi)
     refine hK.out _ _ ⟨(blk_cell BK111.out 0).trans rfl, (blk_cell BK111.out 1).trans rfl, (blk_cell BK111.out 2).trans rfl, (blk_cell BK111.out 3).trans rfl, (blk_cell BK111.out 4).trans rfl, (blk_cell BK111.out 5).trans rfl, (blk_cell BK111.out 6).trans rfl, (blk_cell BK111.out 7).trans rfl, (blk_cell BK121.out 0).trans rfl, (blk_cell BK121.out 1).trans rfl, (blk_cell BK121.out 2).trans rfl, (blk_cell BK121.out 3).trans rfl, (blk_cell BK121.out 4).trans rfl, (blk_cell BK121.out 5).trans rfl, (blk_cell BK121.out 6).trans rfl, (blk_cell BK121.out 7).trans rfl, (blk_cell BK101.out 0).trans rfl, (blk_cell BK101.out 1).trans rfl, (blk_cell BK101.out 2).trans rfl, (blk_cell BK101.out 3).trans rfl, (blk_cell BK101.out 4).trans rfl, (blk_cell BK101.out 5).trans rfl, (blk_cell BK101.out 6).trans rfl, (blk_cell BK101.out 7).trans rfl⟩ (fun hHeld => ?_)
     clear hK K
     refine norm_ (a' := ?_) ?_ ?_
     rotate_left
     ·
      show Act.put _ (some 51) _ = _
      simp only [Act.put, List.setIfInBounds_toArray, List.set_cons_zero, List.set_cons_succ, i64_w, i32_w]
      rfl
     refine pure_ (i := 13) (N := some 52) (v := ?_) (a' := ?_) #[true, true, true, true, true, true, true, true, true, true, true, true, true, true, false, false, false, false, false, false, false, false, false, false] rfl rfl (any_of HT_.out (by kernel_rfl)) (fun _ _ _ h => h) (Or.inl ⟨by rfl, ?_⟩) ?_ ?_
     rotate_left
     ·
      intro w'
      go_simp
      with_reducible rfl
     rotate_left
     ·
      simp only [Act.put, List.setIfInBounds_toArray, List.set_cons_zero, List.set_cons_succ, i64_w, i32_w]
      rfl
     refine pure_ (i := 14) (N := some 53) (v := ?_) (a' := ?_) #[true, true, true, true, true, true, true, true, true, true, true, true, true, true, true, false, false, false, false, false, false, false, false, false] rfl rfl (any_of HT_.out (by kernel_rfl)) (fun _ _ _ h => h) (Or.inl ⟨by rfl, ?_⟩) ?_ ?_
     rotate_left
     ·
      intro w'
      go_simp
      with_reducible rfl
     rotate_left
     ·
      simp only [Act.put, List.setIfInBounds_toArray, List.set_cons_zero, List.set_cons_succ, i64_w, i32_w]
      rfl
     refine pure_ (i := 15) (N := some 54) (v := ?_) (a' := ?_) #[true, true, true, true, true, true, true, true, true, true, true, true, true, true, true, true, false, false, false, false, false, false, false, false] rfl rfl (any_of HT_.out (by kernel_rfl)) (fun _ _ _ h => h) (Or.inl ⟨by rfl, ?_⟩) ?_ ?_
     rotate_left
     ·
      intro w'
      go_simp
      with_reducible rfl
     rotate_left
     ·
      simp only [Act.put, List.setIfInBounds_toArray, List.set_cons_zero, List.set_cons_succ, i64_w, i32_w]
      rfl
     refine pure_ (i := 17) (N := some 56) (v := ?_) (a' := ?_) #[true, true, true, true, true, true, true, true, true, true, true, true, true, true, true, true, false, true, false, false, false, false, false, false] rfl rfl (any_of HT_.out (by kernel_rfl)) (fun _ _ _ h => h) (Or.inl ⟨by rfl, ?_⟩) ?_ ?_
     rotate_left
     ·
      intro w'
      go_simp
      with_reducible rfl
     rotate_left
     ·
      simp only [Act.put, List.setIfInBounds_toArray, List.set_cons_zero, List.set_cons_succ, i64_w, i32_w]
      rfl
     refine pure_ (i := 20) (N := some 59) (v := ?_) (a' := ?_) #[true, true, true, true, true, true, true, true, true, true, true, true, true, true, true, true, false, true, false, false, true, false, false, false] rfl rfl (any_of HT_.out (by kernel_rfl)) (fun _ _ _ h => h) (Or.inl ⟨by rfl, ?_⟩) ?_ ?_
     rotate_left
     ·
      intro w'
      go_simp
      with_reducible rfl
     rotate_left
     ·
      simp only [Act.put, List.setIfInBounds_toArray, List.set_cons_zero, List.set_cons_succ, i64_w, i32_w]
      rfl
     refine take_ (i := 16) (N := some 55) (v := ?_) (a' := ?_) #[true, true, true, true, true, true, true, true, true, true, true, true, true, true, true, true, true, true, false, false, true, false, false, false] rfl rfl (take_ofW HT_.out HW_.out (by kernel_rfl)) (fun _ _ _ h => h) (Or.inl ⟨by rfl, ?_⟩) hHeld ?_ ?_
     rotate_left
     ·
      rintro w' ⟨s0, s1, s2, s3, s4, s5, s6, s7, s8, s9, s10, s11, s12, s13, s14, s15, s16, s17, s18, s19, s20, s21, s22, s23⟩
      go_simp
      with_reducible rfl
     rotate_left
     ·
      simp only [Act.put, List.setIfInBounds_toArray, List.set_cons_zero, List.set_cons_succ, i64_w, i32_w]
      rfl
     refine take_ (i := 19) (N := some 58) (v := ?_) (a' := ?_) #[true, true, true, true, true, true, true, true, true, true, true, true, true, true, true, true, true, true, false, true, true, false, false, false] rfl rfl (take_ofW HT_.out HW_.out (by kernel_rfl)) (fun _ _ _ h => h) (Or.inl ⟨by rfl, ?_⟩) hHeld ?_ ?_
     rotate_left
     ·
      rintro w' ⟨s0, s1, s2, s3, s4, s5, s6, s7, s8, s9, s10, s11, s12, s13, s14, s15, s16, s17, s18, s19, s20, s21, s22, s23⟩
      go_simp
      with_reducible rfl
     rotate_left
     ·
      simp only [Act.put, List.setIfInBounds_toArray, List.set_cons_zero, List.set_cons_succ, i64_w, i32_w]
      rfl
     refine one_ (i := 18) (N := some 57) #[true, true, true, true, true, true, true, true, true, true, true, true, true, true, true, true, true, true, true, true, true, false, false, false] rfl rfl (one_of HT_.out (by kernel_rfl)) (by decide) (fun K hK => ?_)
     refine goes_ Tryd.func17 (by kernel_rfl) rfl #[.agg #[.int .i64 a0_0, .int .i64 a0_1, .int .i64 a0_2, .int .i64 a0_3, .int .u8 a0_4, .bool a0_5, .int .i64 a0_6, .int .u8 a0_7], .int .i64 a5] (by rfl) rfl rfl mapx ?_
     with_reducible refine (Pclk.clock_Text.calls k a0_0 a0_1 a0_2 a0_3 a0_4 a0_5 a0_6 a0_7 a5 t124 _ ?side1 A31.out).mono ?_
     (case side1 => repeat (first | exact (GoodW.below HGW.out (low HB)) | (with_reducible refine GoodW.alloc ?_ _) | (with_reducible refine GoodW.drewN ?_ _) | (with_reducible refine GoodW.drew ?_)))
     rintro e w37 ⟨rfl, hb⟩
     refine ⟨_, rfl, ?_⟩
     have n0_ := Aside0.mk (blk_below (g := gb101) (o := .cells #[.int .i64 a0_0, .int .i64 a0_1, .int .i64 a0_2, .int .i64 a0_3, .int .u8 a0_4, .bool a0_5, .int .i64 a0_6, .int .u8 a0_7] 24 (0, 0)) (ofA BK101) hb)
     have n1_ := Aside0.mk (blk_below (g := gb111) (o := .cells #[.int .i64 t102, .int .i64 t103, .int .i64 t104, .int .i64 t105, .int .u8 t106, .bool t107, .int .i64 t108, .int .u8 t109] 24 (0, 0)) (ofA BK111) hb)
     have n2_ := Aside0.mk (blk_below (g := gb121) (o := .cells #[.int .i64 t112, .int .i64 t113, .int .i64 t114, .int .i64 t115, .int .u8 t116, .bool t117, .int .i64 t118, .int .u8 t119] 24 (0, 0)) (ofA BK121) hb)
     have n3_ := Aside0.mk (below_step (low HB) hb)
     clear BK101
     clear BK111
     clear BK121
     clear HB
     have BK101 := n0_
     have BK111 := n1_
     have BK121 := n2_
     have HB := n3_
     clear n0_ n1_ n2_ n3_
     (try clear hb)
     (try clear hb2)
     (try clear hk)
     (try clear hi)
     refine hK.out _ _ ⟨(blk_cell BK111.out 0).trans rfl, (blk_cell BK111.out 1).trans rfl, (blk_cell BK111.out 2).trans rfl, (blk_cell BK111.out 3).trans rfl, (blk_cell BK111.out 4).trans rfl, (blk_cell BK111.out 5).trans rfl, (blk_cell BK111.out 6).trans rfl, (blk_cell BK111.out 7).trans rfl, (blk_cell BK121.out 0).trans rfl, (blk_cell BK121.out 1).trans rfl, (blk_cell BK121.out 2).trans rfl, (blk_cell BK121.out 3).trans rfl, (blk_cell BK121.out 4).trans rfl, (blk_cell BK121.out 5).trans rfl, (blk_cell BK121.out 6).trans rfl, (blk_cell BK121.out 7).trans rfl, (blk_cell BK101.out 0).trans rfl, (blk_cell BK101.out 1).trans rfl, (blk_cell BK101.out 2).trans rfl, (blk_cell BK101.out 3).trans rfl, (blk_cell BK101.out 4).trans rfl, (blk_cell BK101.out 5).trans rfl, (blk_cell BK101.out 6).trans rfl, (blk_cell BK101.out 7).trans rfl⟩ (fun hHeld => ?_)
     clear hK K
     refine norm_ (a' := ?_) ?_ ?_
     rotate_left
     ·
      show Act.put _ (some 57) _ = _
      simp only [Act.put, List.setIfInBounds_toArray, List.set_cons_zero, List.set_cons_succ, i64_w, i32_w]
      rfl
     refine one_ (i := 21) (N := some 60) #[true, true, true, true, true, true, true, true, true, true, true, true, true, true, true, true, true, true, true, true, true, true, false, false] rfl rfl (one_of HT_.out (by kernel_rfl)) (by decide) (fun K hK => ?_)
     refine goes_ Tryd.func18 (by kernel_rfl) rfl #[.agg #[.int .i64 a0_0, .int .i64 a0_1, .int .i64 a0_2, .int .i64 a0_3, .int .u8 a0_4, .bool a0_5, .int .i64 a0_6, .int .u8 a0_7], .int .i64 a5] (by rfl) rfl rfl mapx ?_
     with_reducible refine (Pcrt.joustref28_Text.calls k a0_0 a0_1 a0_2 a0_3 a0_4 a0_5 a0_6 a0_7 a5 t125 _ A32.out).mono ?_
     rintro e w38 ⟨rfl, hb⟩
     refine ⟨_, rfl, ?_⟩
     have n0_ := Aside0.mk (blk_below (g := gb101) (o := .cells #[.int .i64 a0_0, .int .i64 a0_1, .int .i64 a0_2, .int .i64 a0_3, .int .u8 a0_4, .bool a0_5, .int .i64 a0_6, .int .u8 a0_7] 24 (0, 0)) (ofA BK101) hb)
     have n1_ := Aside0.mk (blk_below (g := gb111) (o := .cells #[.int .i64 t102, .int .i64 t103, .int .i64 t104, .int .i64 t105, .int .u8 t106, .bool t107, .int .i64 t108, .int .u8 t109] 24 (0, 0)) (ofA BK111) hb)
     have n2_ := Aside0.mk (blk_below (g := gb121) (o := .cells #[.int .i64 t112, .int .i64 t113, .int .i64 t114, .int .i64 t115, .int .u8 t116, .bool t117, .int .i64 t118, .int .u8 t119] 24 (0, 0)) (ofA BK121) hb)
     have n3_ := Aside0.mk (below_step (low HB) hb)
     clear BK101
     clear BK111
     clear BK121
     clear HB
     have BK101 := n0_
     have BK111 := n1_
     have BK121 := n2_
     have HB := n3_
     clear n0_ n1_ n2_ n3_
     (try clear hb)
     (try clear hb2)
     (try clear hk)
     (try clear hi)
     refine hK.out _ _ ⟨(blk_cell BK111.out 0).trans rfl, (blk_cell BK111.out 1).trans rfl, (blk_cell BK111.out 2).trans rfl, (blk_cell BK111.out 3).trans rfl, (blk_cell BK111.out 4).trans rfl, (blk_cell BK111.out 5).trans rfl, (blk_cell BK111.out 6).trans rfl, (blk_cell BK111.out 7).trans rfl, (blk_cell BK121.out 0).trans rfl, (blk_cell BK121.out 1).trans rfl, (blk_cell BK121.out 2).trans rfl, (blk_cell BK121.out 3).trans rfl, (blk_cell BK121.out 4).trans rfl, (blk_cell BK121.out 5).trans rfl, (blk_cell BK121.out 6).trans rfl, (blk_cell BK121.out 7).trans rfl, (blk_cell BK101.out 0).trans rfl, (blk_cell BK101.out 1).trans rfl, (blk_cell BK101.out 2).trans rfl, (blk_cell BK101.out 3).trans rfl, (blk_cell BK101.out 4).trans rfl, (blk_cell BK101.out 5).trans rfl, (blk_cell BK101.out 6).trans rfl, (blk_cell BK101.out 7).trans rfl⟩ (fun hHeld => ?_)
     clear hK K
     refine norm_ (a' := ?_) ?_ ?_
     rotate_left
     ·
      show Act.put _ (some 60) _ = _
      simp only [Act.put, List.setIfInBounds_toArray, List.set_cons_zero, List.set_cons_succ, i64_w, i32_w]
      rfl
     refine pure_ (i := 22) (N := some 61) (v := ?_) (a' := ?_) #[true, true, true, true, true, true, true, true, true, true, true, true, true, true, true, true, true, true, true, true, true, true, true, false] rfl rfl (any_of HT_.out (by kernel_rfl)) (fun _ _ _ h => h) (Or.inl ⟨by rfl, ?_⟩) ?_ ?_
     rotate_left
     ·
      intro w'
      go_simp
      with_reducible rfl
     rotate_left
     ·
      simp only [Act.put, List.setIfInBounds_toArray, List.set_cons_zero, List.set_cons_succ, i64_w, i32_w]
      rfl
     refine pure_ (i := 23) (N := some 62) (v := ?_) (a' := ?_) #[true, true, true, true, true, true, true, true, true, true, true, true, true, true, true, true, true, true, true, true, true, true, true, true] rfl rfl (any_of HT_.out (by kernel_rfl)) (fun _ _ _ h => h) (Or.inl ⟨by rfl, ?_⟩) ?_ ?_
     rotate_left
     ·
      intro w'
      go_simp
      with_reducible rfl
     rotate_left
     ·
      simp only [Act.put, List.setIfInBounds_toArray, List.set_cons_zero, List.set_cons_succ, i64_w, i32_w]
      rfl
     refine done_ (done_of HT_.out (by kernel_rfl)) ?_
     try go_wp2
     go_meet
     case rel => exact ⟨_, ((t124.toList != t125.toList)), eqx, H', ⟨by first | omega | exact Nat.le_refl _⟩, ⟨ofA BK101⟩, ⟨ofA BK111⟩, ⟨ofA BK121⟩, ⟨low HB⟩⟩
   ·
    rw [if_neg c23] at H
    have c23b0 : (t110 == t120) = false := beq_eq_false_iff_ne.mpr c23
    have c23b1 : (t110 != t120) = true := bne_iff_ne.mpr c23
    have H' := Aside0.mk H
    clear H
    try go_wp2
    have n0_ : Aside0 (((((((((w16.setCell ⟨gb121, 0, none⟩ (.int .i64 t112)).setCell ⟨gb121, 1, none⟩ (.int .i64 t113)).setCell ⟨gb121, 2, none⟩ (.int .i64 t114)).setCell ⟨gb121, 3, none⟩ (.int .i64 t115)).setCell ⟨gb121, 4, none⟩ (.int .u8 t116)).setCell ⟨gb121, 5, none⟩ (.bool t117)).setCell ⟨gb121, 6, none⟩ (.int .i64 t118)).setCell ⟨gb121, 7, none⟩ (.int .u8 t119)).heap[gb101]? = some (.cells #[.int .i64 a0_0, .int .i64 a0_1, .int .i64 a0_2, .int .i64 a0_3, .int .u8 a0_4, .bool a0_5, .int .i64 a0_6, .int .u8 a0_7] 24 (0, 0))) := ⟨by (with_reducible repeat (first | refine bN ?_ _ | refine bD ?_ | refine bA ?_ _)); (iterate 8 refine blk_far ?_ NB101_121.out _); exact ofA BK101⟩
    have n1_ : Aside0 (((((((((w16.setCell ⟨gb121, 0, none⟩ (.int .i64 t112)).setCell ⟨gb121, 1, none⟩ (.int .i64 t113)).setCell ⟨gb121, 2, none⟩ (.int .i64 t114)).setCell ⟨gb121, 3, none⟩ (.int .i64 t115)).setCell ⟨gb121, 4, none⟩ (.int .u8 t116)).setCell ⟨gb121, 5, none⟩ (.bool t117)).setCell ⟨gb121, 6, none⟩ (.int .i64 t118)).setCell ⟨gb121, 7, none⟩ (.int .u8 t119)).heap[gb111]? = some (.cells #[.int .i64 t102, .int .i64 t103, .int .i64 t104, .int .i64 t105, .int .u8 t106, .bool t107, .int .i64 t108, .int .u8 t109] 24 (0, 0))) := ⟨by (with_reducible repeat (first | refine bN ?_ _ | refine bD ?_ | refine bA ?_ _)); (iterate 8 refine blk_far ?_ NB111_121.out _); exact ofA BK111⟩
    have n2_ : Aside0 (((((((((w16.setCell ⟨gb121, 0, none⟩ (.int .i64 t112)).setCell ⟨gb121, 1, none⟩ (.int .i64 t113)).setCell ⟨gb121, 2, none⟩ (.int .i64 t114)).setCell ⟨gb121, 3, none⟩ (.int .i64 t115)).setCell ⟨gb121, 4, none⟩ (.int .u8 t116)).setCell ⟨gb121, 5, none⟩ (.bool t117)).setCell ⟨gb121, 6, none⟩ (.int .i64 t118)).setCell ⟨gb121, 7, none⟩ (.int .u8 t119)).heap[gb121]? = some (.cells #[.int .i64 t112, .int .i64 t113, .int .i64 t114, .int .i64 t115, .int .u8 t116, .bool t117, .int .i64 t118, .int .u8 t119] 24 (0, 0))) := ⟨by (with_reducible repeat (first | refine bN ?_ _ | refine bD ?_ | refine bA ?_ _)); refine blk_put (cs := #[.int .i64 t112, .int .i64 t113, .int .i64 t114, .int .i64 t115, .int .u8 t116, .bool t117, .int .i64 t118, .int .u8 0]) ?_ 7 _ rfl; refine blk_put (cs := #[.int .i64 t112, .int .i64 t113, .int .i64 t114, .int .i64 t115, .int .u8 t116, .bool t117, .int .i64 0, .int .u8 0]) ?_ 6 _ rfl; refine blk_put (cs := #[.int .i64 t112, .int .i64 t113, .int .i64 t114, .int .i64 t115, .int .u8 t116, .bool false, .int .i64 0, .int .u8 0]) ?_ 5 _ rfl; refine blk_put (cs := #[.int .i64 t112, .int .i64 t113, .int .i64 t114, .int .i64 t115, .int .u8 0, .bool false, .int .i64 0, .int .u8 0]) ?_ 4 _ rfl; refine blk_put (cs := #[.int .i64 t112, .int .i64 t113, .int .i64 t114, .int .i64 0, .int .u8 0, .bool false, .int .i64 0, .int .u8 0]) ?_ 3 _ rfl; refine blk_put (cs := #[.int .i64 t112, .int .i64 t113, .int .i64 0, .int .i64 0, .int .u8 0, .bool false, .int .i64 0, .int .u8 0]) ?_ 2 _ rfl; refine blk_put (cs := #[.int .i64 t112, .int .i64 0, .int .i64 0, .int .i64 0, .int .u8 0, .bool false, .int .i64 0, .int .u8 0]) ?_ 1 _ rfl; refine blk_put (cs := #[.int .i64 0, .int .i64 0, .int .i64 0, .int .i64 0, .int .u8 0, .bool false, .int .i64 0, .int .u8 0]) ?_ 0 _ rfl; exact ofA BK121⟩
    have n3_ : Aside0 (Below w.heap.size w ((((((((w16.setCell ⟨gb121, 0, none⟩ (.int .i64 t112)).setCell ⟨gb121, 1, none⟩ (.int .i64 t113)).setCell ⟨gb121, 2, none⟩ (.int .i64 t114)).setCell ⟨gb121, 3, none⟩ (.int .i64 t115)).setCell ⟨gb121, 4, none⟩ (.int .u8 t116)).setCell ⟨gb121, 5, none⟩ (.bool t117)).setCell ⟨gb121, 6, none⟩ (.int .i64 t118)).setCell ⟨gb121, 7, none⟩ (.int .u8 t119))) := ⟨low HB⟩
    (try clear BK101)
    (try clear BK111)
    (try clear BK121)
    (try clear HB)
    generalize ((((((((w16.setCell ⟨gb121, 0, none⟩ (.int .i64 t112)).setCell ⟨gb121, 1, none⟩ (.int .i64 t113)).setCell ⟨gb121, 2, none⟩ (.int .i64 t114)).setCell ⟨gb121, 3, none⟩ (.int .i64 t115)).setCell ⟨gb121, 4, none⟩ (.int .u8 t116)).setCell ⟨gb121, 5, none⟩ (.bool t117)).setCell ⟨gb121, 6, none⟩ (.int .i64 t118)).setCell ⟨gb121, 7, none⟩ (.int .u8 t119)) = w39 at n0_ n1_ n2_ n3_ ⊢
    have BK101 := n0_
    have BK111 := n1_
    have BK121 := n2_
    have HB := n3_
    clear n0_ n1_ n2_ n3_
    have n0_ := Aside0.mk (blk_drew BK101.out)
    have n1_ := Aside0.mk (blk_drew BK111.out)
    have n2_ := Aside0.mk (blk_drew BK121.out)
    have n3_ := Aside0.mk (below_drew1 HB.out)
    clear BK101
    clear BK111
    clear BK121
    clear HB
    have BK101 := n0_
    have BK111 := n1_
    have BK121 := n2_
    have HB := n3_
    clear n0_ n1_ n2_ n3_
    refine start_ (n := 24) (S := fun w' => w'.cell? ⟨gb111, 0, none⟩ = some (.int .i64 t102) ∧ w'.cell? ⟨gb111, 1, none⟩ = some (.int .i64 t103) ∧ w'.cell? ⟨gb111, 2, none⟩ = some (.int .i64 t104) ∧ w'.cell? ⟨gb111, 3, none⟩ = some (.int .i64 t105) ∧ w'.cell? ⟨gb111, 4, none⟩ = some (.int .u8 t106) ∧ w'.cell? ⟨gb111, 5, none⟩ = some (.bool t107) ∧ w'.cell? ⟨gb111, 6, none⟩ = some (.int .i64 t108) ∧ w'.cell? ⟨gb111, 7, none⟩ = some (.int .u8 t109) ∧ w'.cell? ⟨gb121, 0, none⟩ = some (.int .i64 t112) ∧ w'.cell? ⟨gb121, 1, none⟩ = some (.int .i64 t113) ∧ w'.cell? ⟨gb121, 2, none⟩ = some (.int .i64 t114) ∧ w'.cell? ⟨gb121, 3, none⟩ = some (.int .i64 t115) ∧ w'.cell? ⟨gb121, 4, none⟩ = some (.int .u8 t116) ∧ w'.cell? ⟨gb121, 5, none⟩ = some (.bool t117) ∧ w'.cell? ⟨gb121, 6, none⟩ = some (.int .i64 t118) ∧ w'.cell? ⟨gb121, 7, none⟩ = some (.int .u8 t119)) (ds := []) #[false, false, false, false, false, false, false, false, false, false, false, false, false, false, false, false, false, false, false, false, false, false, false, false] (by kernel_rfl) rfl rfl ⟨(blk_cell BK111.out 0).trans rfl, (blk_cell BK111.out 1).trans rfl, (blk_cell BK111.out 2).trans rfl, (blk_cell BK111.out 3).trans rfl, (blk_cell BK111.out 4).trans rfl, (blk_cell BK111.out 5).trans rfl, (blk_cell BK111.out 6).trans rfl, (blk_cell BK111.out 7).trans rfl, (blk_cell BK121.out 0).trans rfl, (blk_cell BK121.out 1).trans rfl, (blk_cell BK121.out 2).trans rfl, (blk_cell BK121.out 3).trans rfl, (blk_cell BK121.out 4).trans rfl, (blk_cell BK121.out 5).trans rfl, (blk_cell BK121.out 6).trans rfl, (blk_cell BK121.out 7).trans rfl⟩ (fun hHeld => ?_); refine with_tabW joustlaw28_ClockTells.tab3 joustlaw28_ClockTells.bits3 (fun HT_ HW_ => ?_)
    generalize w39.drew = w40 at BK101 BK111 BK121 HB hHeld ⊢
    refine take_ (i := 0) (N := some 39) (v := ?_) (a' := ?_) #[true, false, false, false, false, false, false, false, false, false, false, false, false, false, false, false, false, false, false, false, false, false, false, false] rfl rfl (take_ofW HT_.out HW_.out (by kernel_rfl)) (fun _ _ _ h => h) (Or.inl ⟨by rfl, ?_⟩) hHeld ?_ ?_
    rotate_left
    ·
     rintro w' ⟨s0, s1, s2, s3, s4, s5, s6, s7, s8, s9, s10, s11, s12, s13, s14, s15⟩
     go_simp
     with_reducible rfl
    rotate_left
    ·
     simp only [Act.put, List.setIfInBounds_toArray, List.set_cons_zero, List.set_cons_succ, i64_w, i32_w]
     rfl
    refine take_ (i := 1) (N := some 40) (v := ?_) (a' := ?_) #[true, true, false, false, false, false, false, false, false, false, false, false, false, false, false, false, false, false, false, false, false, false, false, false] rfl rfl (take_ofW HT_.out HW_.out (by kernel_rfl)) (fun _ _ _ h => h) (Or.inl ⟨by rfl, ?_⟩) hHeld ?_ ?_
    rotate_left
    ·
     rintro w' ⟨s0, s1, s2, s3, s4, s5, s6, s7, s8, s9, s10, s11, s12, s13, s14, s15⟩
     go_simp
     with_reducible rfl
    rotate_left
    ·
     simp only [Act.put, List.setIfInBounds_toArray, List.set_cons_zero, List.set_cons_succ, i64_w, i32_w]
     rfl
    refine pure_ (i := 2) (N := some 41) (v := ?_) (a' := ?_) #[true, true, true, false, false, false, false, false, false, false, false, false, false, false, false, false, false, false, false, false, false, false, false, false] rfl rfl (any_of HT_.out (by kernel_rfl)) (fun _ _ _ h => h) (Or.inl ⟨by rfl, ?_⟩) ?_ ?_
    rotate_left
    ·
     intro w'
     go_simp
     with_reducible rfl
    rotate_left
    ·
     simp only [Act.put, List.setIfInBounds_toArray, List.set_cons_zero, List.set_cons_succ, i64_w, i32_w]
     rfl
    refine pure_ (i := 3) (N := some 42) (v := ?_) (a' := ?_) #[true, true, true, true, false, false, false, false, false, false, false, false, false, false, false, false, false, false, false, false, false, false, false, false] rfl rfl (any_of HT_.out (by kernel_rfl)) (fun _ _ _ h => h) (Or.inl ⟨by rfl, ?_⟩) ?_ ?_
    rotate_left
    ·
     intro w'
     go_simp
     with_reducible rfl
    rotate_left
    ·
     simp only [Act.put, List.setIfInBounds_toArray, List.set_cons_zero, List.set_cons_succ, i64_w, i32_w]
     rfl
    refine pure_ (i := 4) (N := some 43) (v := ?_) (a' := ?_) #[true, true, true, true, true, false, false, false, false, false, false, false, false, false, false, false, false, false, false, false, false, false, false, false] rfl rfl (any_of HT_.out (by kernel_rfl)) (fun _ _ _ h => h) (Or.inl ⟨by rfl, ?_⟩) ?_ ?_
    rotate_left
    ·
     intro w'
     go_simp
     with_reducible rfl
    rotate_left
    ·
     simp only [Act.put, List.setIfInBounds_toArray, List.set_cons_zero, List.set_cons_succ, i64_w, i32_w]
     rfl
    refine pure_ (i := 5) (N := some 44) (v := ?_) (a' := ?_) #[true, true, true, true, true, true, false, false, false, false, false, false, false, false, false, false, false, false, false, false, false, false, false, false] rfl rfl (any_of HT_.out (by kernel_rfl)) (fun _ _ _ h => h) (Or.inl ⟨by rfl, ?_⟩) ?_ ?_
    rotate_left
    ·
     intro w'
     go_simp
     with_reducible rfl
    rotate_left
    ·
     simp only [Act.put, List.setIfInBounds_toArray, List.set_cons_zero, List.set_cons_succ, i64_w, i32_w]
     rfl
    refine pure_ (i := 6) (N := some 45) (v := ?_) (a' := ?_) #[true, true, true, true, true, true, true, false, false, false, false, false, false, false, false, false, false, false, false, false, false, false, false, false] rfl rfl (any_of HT_.out (by kernel_rfl)) (fun _ _ _ h => h) (Or.inl ⟨by rfl, ?_⟩) ?_ ?_
    rotate_left
    ·
     intro w'
     go_simp
     with_reducible rfl
    rotate_left
    ·
     simp only [Act.put, List.setIfInBounds_toArray, List.set_cons_zero, List.set_cons_succ, i64_w, i32_w]
     rfl
    refine pure_ (i := 7) (N := some 46) (v := ?_) (a' := ?_) #[true, true, true, true, true, true, true, true, false, false, false, false, false, false, false, false, false, false, false, false, false, false, false, false] rfl rfl (any_of HT_.out (by kernel_rfl)) (fun _ _ _ h => h) (Or.inl ⟨by rfl, ?_⟩) ?_ ?_
    rotate_left
    ·
     intro w'
     go_simp
     with_reducible rfl
    rotate_left
    ·
     simp only [Act.put, List.setIfInBounds_toArray, List.set_cons_zero, List.set_cons_succ, i64_w, i32_w]
     rfl
    refine pure_ (i := 8) (N := some 47) (v := ?_) (a' := ?_) #[true, true, true, true, true, true, true, true, true, false, false, false, false, false, false, false, false, false, false, false, false, false, false, false] rfl rfl (any_of HT_.out (by kernel_rfl)) (fun _ _ _ h => h) (Or.inl ⟨by rfl, ?_⟩) ?_ ?_
    rotate_left
    ·
     intro w'
     go_simp
     with_reducible rfl
    rotate_left
    ·
     simp only [Act.put, List.setIfInBounds_toArray, List.set_cons_zero, List.set_cons_succ, i64_w, i32_w]
     rfl
    refine pure_ (i := 9) (N := some 48) (v := undef) (a' := ?_) #[true, true, true, true, true, true, true, true, true, true, false, false, false, false, false, false, false, false, false, false, false, false, false, false] rfl rfl (any_of HT_.out (by kernel_rfl)) (fun _ _ _ h => h) (Or.inr ⟨by rfl, rfl⟩) ?_ ?_
    rotate_left
    ·
     simp only [Act.put, List.setIfInBounds_toArray, List.set_cons_zero, List.set_cons_succ, i64_w, i32_w]
     rfl
    refine pure_ (i := 10) (N := some 49) (v := undef) (a' := ?_) #[true, true, true, true, true, true, true, true, true, true, true, false, false, false, false, false, false, false, false, false, false, false, false, false] rfl rfl (any_of HT_.out (by kernel_rfl)) (fun _ _ _ h => h) (Or.inr ⟨by rfl, rfl⟩) ?_ ?_
    rotate_left
    ·
     simp only [Act.put, List.setIfInBounds_toArray, List.set_cons_zero, List.set_cons_succ, i64_w, i32_w]
     rfl
    refine pure_ (i := 11) (N := some 50) (v := undef) (a' := ?_) #[true, true, true, true, true, true, true, true, true, true, true, true, false, false, false, false, false, false, false, false, false, false, false, false] rfl rfl (any_of HT_.out (by kernel_rfl)) (fun _ _ _ h => h) (Or.inr ⟨by rfl, rfl⟩) ?_ ?_
    rotate_left
    ·
     simp only [Act.put, List.setIfInBounds_toArray, List.set_cons_zero, List.set_cons_succ, i64_w, i32_w]
     rfl
    refine pure_ (i := 12) (N := some 51) (v := undef) (a' := ?_) #[true, true, true, true, true, true, true, true, true, true, true, true, true, false, false, false, false, false, false, false, false, false, false, false] rfl rfl (any_of HT_.out (by kernel_rfl)) (fun _ _ _ h => h) (Or.inr ⟨by rfl, rfl⟩) ?_ ?_
    rotate_left
    ·
     simp only [Act.put, List.setIfInBounds_toArray, List.set_cons_zero, List.set_cons_succ, i64_w, i32_w]
     rfl
    refine pure_ (i := 13) (N := some 52) (v := undef) (a' := ?_) #[true, true, true, true, true, true, true, true, true, true, true, true, true, true, false, false, false, false, false, false, false, false, false, false] rfl rfl (any_of HT_.out (by kernel_rfl)) (fun _ _ _ h => h) (Or.inr ⟨by rfl, rfl⟩) ?_ ?_
    rotate_left
    ·
     simp only [Act.put, List.setIfInBounds_toArray, List.set_cons_zero, List.set_cons_succ, i64_w, i32_w]
     rfl
    refine pure_ (i := 14) (N := some 53) (v := ?_) (a' := ?_) #[true, true, true, true, true, true, true, true, true, true, true, true, true, true, true, false, false, false, false, false, false, false, false, false] rfl rfl (any_of HT_.out (by kernel_rfl)) (fun _ _ _ h => h) (Or.inl ⟨by rfl, ?_⟩) ?_ ?_
    rotate_left
    ·
     intro w'
     go_simp
     with_reducible rfl
    rotate_left
    ·
     simp only [Act.put, List.setIfInBounds_toArray, List.set_cons_zero, List.set_cons_succ, i64_w, i32_w]
     rfl
    refine pure_ (i := 15) (N := some 54) (v := ?_) (a' := ?_) #[true, true, true, true, true, true, true, true, true, true, true, true, true, true, true, true, false, false, false, false, false, false, false, false] rfl rfl (any_of HT_.out (by kernel_rfl)) (fun _ _ _ h => h) (Or.inl ⟨by rfl, ?_⟩) ?_ ?_
    rotate_left
    ·
     intro w'
     go_simp
     with_reducible rfl
    rotate_left
    ·
     simp only [Act.put, List.setIfInBounds_toArray, List.set_cons_zero, List.set_cons_succ, i64_w, i32_w]
     rfl
    refine pure_ (i := 16) (N := some 55) (v := undef) (a' := ?_) #[true, true, true, true, true, true, true, true, true, true, true, true, true, true, true, true, true, false, false, false, false, false, false, false] rfl rfl (any_of HT_.out (by kernel_rfl)) (fun _ _ _ h => h) (Or.inr ⟨by rfl, rfl⟩) ?_ ?_
    rotate_left
    ·
     simp only [Act.put, List.setIfInBounds_toArray, List.set_cons_zero, List.set_cons_succ, i64_w, i32_w]
     rfl
    refine pure_ (i := 17) (N := some 56) (v := undef) (a' := ?_) #[true, true, true, true, true, true, true, true, true, true, true, true, true, true, true, true, true, true, false, false, false, false, false, false] rfl rfl (any_of HT_.out (by kernel_rfl)) (fun _ _ _ h => h) (Or.inr ⟨by rfl, rfl⟩) ?_ ?_
    rotate_left
    ·
     simp only [Act.put, List.setIfInBounds_toArray, List.set_cons_zero, List.set_cons_succ, i64_w, i32_w]
     rfl
    refine pure_ (i := 18) (N := some 57) (v := undef) (a' := ?_) #[true, true, true, true, true, true, true, true, true, true, true, true, true, true, true, true, true, true, true, false, false, false, false, false] rfl rfl (any_of HT_.out (by kernel_rfl)) (fun _ _ _ h => h) (Or.inr ⟨by rfl, rfl⟩) ?_ ?_
    rotate_left
    ·
     simp only [Act.put, List.setIfInBounds_toArray, List.set_cons_zero, List.set_cons_succ, i64_w, i32_w]
     rfl
    refine pure_ (i := 19) (N := some 58) (v := undef) (a' := ?_) #[true, true, true, true, true, true, true, true, true, true, true, true, true, true, true, true, true, true, true, true, false, false, false, false] rfl rfl (any_of HT_.out (by kernel_rfl)) (fun _ _ _ h => h) (Or.inr ⟨by rfl, rfl⟩) ?_ ?_
    rotate_left
    ·
     simp only [Act.put, List.setIfInBounds_toArray, List.set_cons_zero, List.set_cons_succ, i64_w, i32_w]
     rfl
    refine pure_ (i := 20) (N := some 59) (v := undef) (a' := ?_) #[true, true, true, true, true, true, true, true, true, true, true, true, true, true, true, true, true, true, true, true, true, false, false, false] rfl rfl (any_of HT_.out (by kernel_rfl)) (fun _ _ _ h => h) (Or.inr ⟨by rfl, rfl⟩) ?_ ?_
    rotate_left
    ·
     simp only [Act.put, List.setIfInBounds_toArray, List.set_cons_zero, List.set_cons_succ, i64_w, i32_w]
     rfl
    refine pure_ (i := 21) (N := some 60) (v := undef) (a' := ?_) #[true, true, true, true, true, true, true, true, true, true, true, true, true, true, true, true, true, true, true, true, true, true, false, false] rfl rfl (any_of HT_.out (by kernel_rfl)) (fun _ _ _ h => h) (Or.inr ⟨by rfl, rfl⟩) ?_ ?_
    rotate_left
    ·
     simp only [Act.put, List.setIfInBounds_toArray, List.set_cons_zero, List.set_cons_succ, i64_w, i32_w]
     rfl
    refine pure_ (i := 22) (N := some 61) (v := undef) (a' := ?_) #[true, true, true, true, true, true, true, true, true, true, true, true, true, true, true, true, true, true, true, true, true, true, true, false] rfl rfl (any_of HT_.out (by kernel_rfl)) (fun _ _ _ h => h) (Or.inr ⟨by rfl, rfl⟩) ?_ ?_
    rotate_left
    ·
     simp only [Act.put, List.setIfInBounds_toArray, List.set_cons_zero, List.set_cons_succ, i64_w, i32_w]
     rfl
    refine pure_ (i := 23) (N := some 62) (v := ?_) (a' := ?_) #[true, true, true, true, true, true, true, true, true, true, true, true, true, true, true, true, true, true, true, true, true, true, true, true] rfl rfl (any_of HT_.out (by kernel_rfl)) (fun _ _ _ h => h) (Or.inl ⟨by rfl, ?_⟩) ?_ ?_
    rotate_left
    ·
     intro w'
     go_simp
     with_reducible rfl
    rotate_left
    ·
     simp only [Act.put, List.setIfInBounds_toArray, List.set_cons_zero, List.set_cons_succ, i64_w, i32_w]
     rfl
    refine done_ (done_of HT_.out (by kernel_rfl)) ?_
    try go_wp2
    go_meet
    case rel => exact ⟨_, (true), eqx, H', ⟨by first | omega | exact Nat.le_refl _⟩, ⟨ofA BK101⟩, ⟨ofA BK111⟩, ⟨ofA BK121⟩, ⟨low HB⟩⟩
 case rest =>
  clear HC9
  try clear c1
  try clear c2
  try clear p2
  try clear c15
  try clear c16
  try clear c17
  try clear c18
  try clear c23
  try clear c23b0
  try clear c23b1
  try clear c26
  try clear c26b0
  try clear c26b1
  try clear c26b2
  obtain ⟨kq, x62_8, rfl, HA, HJ8, BK101, BK111, BK121, HB⟩ := hcut
  cases kq with
  | zero => exact absurd HA.out (by simp [joustlaw28_ClockTells.j0])
  | succ kj8 =>
   have H := HA.out
   clear HA
   simp only [joustlaw28_ClockTells.j0] at H
   by_cases c41 : x62_8 = true
   ·
    subst c41
    have H1 : (some false) = some r := by rw [if_pos rfl] at H; exact H
    clear H
    have H := H1
    clear H1
    obtain rfl := Option.some.inj H
    go_wp2
    go_ret
    exact ⟨by first | rfl | (simp [errW_none, errW_some] <;> rfl) | (simp [*, errW_none, errW_some] <;> rfl), low HB⟩
   ·
    replace c41 := Bool.eq_false_iff.mpr c41
    subst c41
    have H1 : ((Pclk.clock_Start.f kj8 a0_0 a0_1 a0_2 a0_3 a0_4 a0_5 a0_6 a0_7 a4 a5).bind fun bt126 => ((Pcrf.joustref28_Start.f kj8 a0_0 a0_1 a0_2 a0_3 a0_4 a0_5 a0_6 a0_7 a4 a5).bind fun bt135 => (if ((!(bt126.1 == bt135.1) || (!(bt126.2.1 == bt135.2.1))) || (!(bt126.2.2.1 == bt135.2.2.1) || (!(bt126.2.2.2.1 == bt135.2.2.2.1) || (!(bt126.2.2.2.2.1 == bt135.2.2.2.2.1) || (!(bt126.2.2.2.2.2.1 == bt135.2.2.2.2.2.1) || (!(bt126.2.2.2.2.2.2.1 == bt135.2.2.2.2.2.2.1) || (!(bt126.2.2.2.2.2.2.2.1 == bt135.2.2.2.2.2.2.2.1)))))))) = true then (joustlaw28_ClockTells.j1 kj8 a5 true a0_0 a0_1 a0_2 a0_3 a0_4 a0_5 a0_6 a0_7) else (joustlaw28_ClockTells.j1 kj8 a5 (bt126.2.2.2.2.2.2.2.2 != bt135.2.2.2.2.2.2.2.2) a0_0 a0_1 a0_2 a0_3 a0_4 a0_5 a0_6 a0_7)))) = some r := by rw [if_neg (show ¬ (false = true) by decide)] at H; exact H
    clear H
    have H := H1
    clear H1
    replace H := Option.bind_eq_some_iff.mp H
    obtain ⟨⟨t126, t127, t128, t129, t130, t131, t132, t133, t134⟩, A420, H⟩ := H
    replace H : ((Pcrf.joustref28_Start.f kj8 a0_0 a0_1 a0_2 a0_3 a0_4 a0_5 a0_6 a0_7 a4 a5).bind fun bt135 => (if ((!(t126 == bt135.1) || (!(t127 == bt135.2.1))) || (!(t128 == bt135.2.2.1) || (!(t129 == bt135.2.2.2.1) || (!(t130 == bt135.2.2.2.2.1) || (!(t131 == bt135.2.2.2.2.2.1) || (!(t132 == bt135.2.2.2.2.2.2.1) || (!(t133 == bt135.2.2.2.2.2.2.2.1)))))))) = true then (joustlaw28_ClockTells.j1 kj8 a5 true a0_0 a0_1 a0_2 a0_3 a0_4 a0_5 a0_6 a0_7) else (joustlaw28_ClockTells.j1 kj8 a5 (t134 != bt135.2.2.2.2.2.2.2.2) a0_0 a0_1 a0_2 a0_3 a0_4 a0_5 a0_6 a0_7))) = some r := H
    have A42 := Aside0.mk A420
    clear A420
    replace H := Option.bind_eq_some_iff.mp H
    obtain ⟨⟨t135, t136, t137, t138, t139, t140, t141, t142, t143⟩, A430, H⟩ := H
    replace H : (if ((!(t126 == t135) || (!(t127 == t136))) || (!(t128 == t137) || (!(t129 == t138) || (!(t130 == t139) || (!(t131 == t140) || (!(t132 == t141) || (!(t133 == t142)))))))) = true then (joustlaw28_ClockTells.j1 kj8 a5 true a0_0 a0_1 a0_2 a0_3 a0_4 a0_5 a0_6 a0_7) else (joustlaw28_ClockTells.j1 kj8 a5 (t134 != t143) a0_0 a0_1 a0_2 a0_3 a0_4 a0_5 a0_6 a0_7)) = some r := H
    have A43 := Aside0.mk A430
    clear A430
    have HC44 := Aside0.mk H
    clear H
    have hnb45 := NB101_111.out
    have hnc45 := NB111_101.out
    have hnb46 := NB101_121.out
    have hnc46 := NB121_101.out
    have hcz47_0 : wc.cell? ⟨gb101, 0, none⟩ = some (.int .i64 a0_0) := (blk_cell BK101.out 0).trans rfl
    have hcz47_1 : wc.cell? ⟨gb101, 1, none⟩ = some (.int .i64 a0_1) := (blk_cell BK101.out 1).trans rfl
    have hcz47_2 : wc.cell? ⟨gb101, 2, none⟩ = some (.int .i64 a0_2) := (blk_cell BK101.out 2).trans rfl
    have hcz47_3 : wc.cell? ⟨gb101, 3, none⟩ = some (.int .i64 a0_3) := (blk_cell BK101.out 3).trans rfl
    have hcz47_4 : wc.cell? ⟨gb101, 4, none⟩ = some (.int .u8 a0_4) := (blk_cell BK101.out 4).trans rfl
    have hcz47_5 : wc.cell? ⟨gb101, 5, none⟩ = some (.bool a0_5) := (blk_cell BK101.out 5).trans rfl
    have hcz47_6 : wc.cell? ⟨gb101, 6, none⟩ = some (.int .i64 a0_6) := (blk_cell BK101.out 6).trans rfl
    have hcz47_7 : wc.cell? ⟨gb101, 7, none⟩ = some (.int .u8 a0_7) := (blk_cell BK101.out 7).trans rfl
    have hfz47_0 := blk_frozen BK101.out 0
    have hfz47_1 := blk_frozen BK101.out 1
    have hfz47_2 := blk_frozen BK101.out 2
    have hfz47_3 := blk_frozen BK101.out 3
    have hfz47_4 := blk_frozen BK101.out 4
    have hfz47_5 := blk_frozen BK101.out 5
    have hfz47_6 := blk_frozen BK101.out 6
    have hfz47_7 := blk_frozen BK101.out 7
    go_upto_region 7 with (first | ((with_reducible refine gate_callee (f := 19) rfl ?_); refine goesL_ (some 67) rfl rfl Tryd.func19 (by kernel_rfl) rfl #[.agg #[.int .i64 a0_0, .int .i64 a0_1, .int .i64 a0_2, .int .i64 a0_3, .int .u8 a0_4, .bool a0_5, .int .i64 a0_6, .int .u8 a0_7], .int .u8 a4, .int .i64 a5] rfl mapx ?_; (with_reducible refine (Pclk.clock_Start.calls kj8 a0_0 a0_1 a0_2 a0_3 a0_4 a0_5 a0_6 a0_7 a4 a5 t126 t127 t128 t129 t130 t131 t132 t133 t134 _ A42.out).mono ?_); rintro e w48 ⟨rfl, hb⟩; refine ⟨_, rfl, ?_⟩; have n0_ := Aside0.mk (blk_below (g := gb101) (o := .cells #[.int .i64 a0_0, .int .i64 a0_1, .int .i64 a0_2, .int .i64 a0_3, .int .u8 a0_4, .bool a0_5, .int .i64 a0_6, .int .u8 a0_7] 24 (0, 0)) (ofA BK101) hb); have n1_ := Aside0.mk (blk_below (g := gb111) (o := .cells #[.int .i64 t102, .int .i64 t103, .int .i64 t104, .int .i64 t105, .int .u8 t106, .bool t107, .int .i64 t108, .int .u8 t109] 24 (0, 0)) (ofA BK111) hb); have n2_ := Aside0.mk (blk_below (g := gb121) (o := .cells #[.int .i64 t112, .int .i64 t113, .int .i64 t114, .int .i64 t115, .int .u8 t116, .bool t117, .int .i64 t118, .int .u8 t119] 24 (0, 0)) (ofA BK121) hb); have n3_ := Aside0.mk (below_step (low HB) hb); clear BK101; clear BK111; clear BK121; clear HB; have BK101 := n0_; have BK111 := n1_; have BK121 := n2_; have HB := n3_; clear n0_ n1_ n2_ n3_; (try clear hb); (try clear hb2); (try clear hk); (try clear hi); have hnb49 := NB111_121.out; have hnc49 := NB121_111.out; obtain ⟨hcz50_0, hcz50_1, hcz50_2, hcz50_3, hcz50_4, hcz50_5, hcz50_6, hcz50_7, hfz50_0, hfz50_1, hfz50_2, hfz50_3, hfz50_4, hfz50_5, hfz50_6, hfz50_7⟩ := cells8 BK111.out; obtain ⟨hcz51_0, hcz51_1, hcz51_2, hcz51_3, hcz51_4, hcz51_5, hcz51_6, hcz51_7, hfz51_0, hfz51_1, hfz51_2, hfz51_3, hfz51_4, hfz51_5, hfz51_6, hfz51_7⟩ := cells8 BK101.out) | ((with_reducible refine gate_callee (f := 20) rfl ?_); refine goesL_ (some 74) rfl rfl Tryd.func20 (by kernel_rfl) rfl #[.agg #[.int .i64 a0_0, .int .i64 a0_1, .int .i64 a0_2, .int .i64 a0_3, .int .u8 a0_4, .bool a0_5, .int .i64 a0_6, .int .u8 a0_7], .int .u8 a4, .int .i64 a5] rfl mapx ?_; (with_reducible refine (Pcrf.joustref28_Start.calls kj8 a0_0 a0_1 a0_2 a0_3 a0_4 a0_5 a0_6 a0_7 a4 a5 t135 t136 t137 t138 t139 t140 t141 t142 t143 _ A43.out).mono ?_); rintro e w52 ⟨rfl, hb⟩; refine ⟨_, rfl, ?_⟩; have n0_ := Aside0.mk (blk_below (g := gb101) (o := .cells #[.int .i64 a0_0, .int .i64 a0_1, .int .i64 a0_2, .int .i64 a0_3, .int .u8 a0_4, .bool a0_5, .int .i64 a0_6, .int .u8 a0_7] 24 (0, 0)) (by (with_reducible repeat (first | refine bN ?_ _ | refine bD ?_ | refine bA ?_ _)); (iterate 8 refine blk_far ?_ NB101_111.out _); exact ofA BK101) hb); have n1_ := Aside0.mk (blk_below (g := gb111) (o := .cells #[.int .i64 t126, .int .i64 t127, .int .i64 t128, .int .i64 t129, .int .u8 t130, .bool t131, .int .i64 t132, .int .u8 t133] 24 (0, 0)) (by (with_reducible repeat (first | refine bN ?_ _ | refine bD ?_ | refine bA ?_ _)); refine blk_put (cs := #[.int .i64 t126, .int .i64 t127, .int .i64 t128, .int .i64 t129, .int .u8 t130, .bool t131, .int .i64 t132, .int .u8 t109]) ?_ 7 _ rfl; refine blk_put (cs := #[.int .i64 t126, .int .i64 t127, .int .i64 t128, .int .i64 t129, .int .u8 t130, .bool t131, .int .i64 t108, .int .u8 t109]) ?_ 6 _ rfl; refine blk_put (cs := #[.int .i64 t126, .int .i64 t127, .int .i64 t128, .int .i64 t129, .int .u8 t130, .bool t107, .int .i64 t108, .int .u8 t109]) ?_ 5 _ rfl; refine blk_put (cs := #[.int .i64 t126, .int .i64 t127, .int .i64 t128, .int .i64 t129, .int .u8 t106, .bool t107, .int .i64 t108, .int .u8 t109]) ?_ 4 _ rfl; refine blk_put (cs := #[.int .i64 t126, .int .i64 t127, .int .i64 t128, .int .i64 t105, .int .u8 t106, .bool t107, .int .i64 t108, .int .u8 t109]) ?_ 3 _ rfl; refine blk_put (cs := #[.int .i64 t126, .int .i64 t127, .int .i64 t104, .int .i64 t105, .int .u8 t106, .bool t107, .int .i64 t108, .int .u8 t109]) ?_ 2 _ rfl; refine blk_put (cs := #[.int .i64 t126, .int .i64 t103, .int .i64 t104, .int .i64 t105, .int .u8 t106, .bool t107, .int .i64 t108, .int .u8 t109]) ?_ 1 _ rfl; refine blk_put (cs := #[.int .i64 t102, .int .i64 t103, .int .i64 t104, .int .i64 t105, .int .u8 t106, .bool t107, .int .i64 t108, .int .u8 t109]) ?_ 0 _ rfl; exact ofA BK111) hb); have n2_ := Aside0.mk (blk_below (g := gb121) (o := .cells #[.int .i64 t112, .int .i64 t113, .int .i64 t114, .int .i64 t115, .int .u8 t116, .bool t117, .int .i64 t118, .int .u8 t119] 24 (0, 0)) (by (with_reducible repeat (first | refine bN ?_ _ | refine bD ?_ | refine bA ?_ _)); (iterate 8 refine blk_far ?_ NB121_111.out _); exact ofA BK121) hb); have n3_ := Aside0.mk (below_step (low HB) hb); clear BK101; clear BK111; clear BK121; clear HB; have BK101 := n0_; have BK111 := n1_; have BK121 := n2_; have HB := n3_; clear n0_ n1_ n2_ n3_; (try clear hb); (try clear hb2); (try clear hk); (try clear hi); obtain ⟨hcz53_0, hcz53_1, hcz53_2, hcz53_3, hcz53_4, hcz53_5, hcz53_6, hcz53_7, hfz53_0, hfz53_1, hfz53_2, hfz53_3, hfz53_4, hfz53_5, hfz53_6, hfz53_7⟩ := cells8 BK121.out))
    (try simp only [Act.put, List.setIfInBounds_toArray, List.set_cons_zero, List.set_cons_succ])
    go_cut [84] (fun v84 wc => ∃ (kq : Nat) (x84_43 : Bool), v84 = .bool x84_43 ∧ Aside0 (joustlaw28_ClockTells.j1 kq a5 x84_43 a0_0 a0_1 a0_2 a0_3 a0_4 a0_5 a0_6 a0_7 = some r) ∧ Aside0 (kq ≤ kj8) ∧ Aside0 (wc.heap[gb101]? = some (.cells #[.int .i64 a0_0, .int .i64 a0_1, .int .i64 a0_2, .int .i64 a0_3, .int .u8 a0_4, .bool a0_5, .int .i64 a0_6, .int .u8 a0_7] 24 (0, 0))) ∧ Aside0 (wc.heap[gb111]? = some (.cells #[.int .i64 t126, .int .i64 t127, .int .i64 t128, .int .i64 t129, .int .u8 t130, .bool t131, .int .i64 t132, .int .u8 t133] 24 (0, 0))) ∧ Aside0 (wc.heap[gb121]? = some (.cells #[.int .i64 t135, .int .i64 t136, .int .i64 t137, .int .i64 t138, .int .u8 t139, .bool t140, .int .i64 t141, .int .u8 t142] 24 (0, 0))) ∧ Aside0 (Below w.heap.size w wc))
    case first =>
     have H := HC44.out
     clear HC44
     by_cases c54 : ((!(t126 == t135) || (!(t127 == t136))) || (!(t128 == t137) || (!(t129 == t138) || (!(t130 == t139) || (!(t131 == t140) || (!(t132 == t141) || (!(t133 == t142)))))))) = true
     ·
      rw [if_pos c54] at H
      have c54b0 : ((!(t126 == t135) || (!(t127 == t136))) || (!(t128 == t137) || (!(t129 == t138) || (!(t130 == t139) || (!(t131 == t140) || (!(t132 == t141) || (!(t133 == t142)))))))) = true := c54
      clear c54
      (first | rw [c54b0] | (simp only [i64_w, i32_w]; rw [c54b0]) | skip)
      have H' := Aside0.mk H
      clear H
      have hnb55 := NB111_101.out
      have hnc55 := NB101_111.out
      have hnb56 := NB111_121.out
      have hnc56 := NB121_111.out
      have hcz57_0 : w52.cell? ⟨gb111, 0, none⟩ = some (.int .i64 t126) := (blk_cell BK111.out 0).trans rfl
      have hcz57_1 : w52.cell? ⟨gb111, 1, none⟩ = some (.int .i64 t127) := (blk_cell BK111.out 1).trans rfl
      have hcz57_2 : w52.cell? ⟨gb111, 2, none⟩ = some (.int .i64 t128) := (blk_cell BK111.out 2).trans rfl
      have hcz57_3 : w52.cell? ⟨gb111, 3, none⟩ = some (.int .i64 t129) := (blk_cell BK111.out 3).trans rfl
      have hcz57_4 : w52.cell? ⟨gb111, 4, none⟩ = some (.int .u8 t130) := (blk_cell BK111.out 4).trans rfl
      have hcz57_5 : w52.cell? ⟨gb111, 5, none⟩ = some (.bool t131) := (blk_cell BK111.out 5).trans rfl
      have hcz57_6 : w52.cell? ⟨gb111, 6, none⟩ = some (.int .i64 t132) := (blk_cell BK111.out 6).trans rfl
      have hcz57_7 : w52.cell? ⟨gb111, 7, none⟩ = some (.int .u8 t133) := (blk_cell BK111.out 7).trans rfl
      have hfz57_0 := blk_frozen BK111.out 0
      have hfz57_1 := blk_frozen BK111.out 1
      have hfz57_2 := blk_frozen BK111.out 2
      have hfz57_3 := blk_frozen BK111.out 3
      have hfz57_4 := blk_frozen BK111.out 4
      have hfz57_5 := blk_frozen BK111.out 5
      have hfz57_6 := blk_frozen BK111.out 6
      have hfz57_7 := blk_frozen BK111.out 7
      have hnb58 := NB121_101.out
      have hnc58 := NB101_121.out
      have hcz59_0 : w52.cell? ⟨gb121, 0, none⟩ = some (.int .i64 t112) := (blk_cell BK121.out 0).trans rfl
      have hcz59_1 : w52.cell? ⟨gb121, 1, none⟩ = some (.int .i64 t113) := (blk_cell BK121.out 1).trans rfl
      have hcz59_2 : w52.cell? ⟨gb121, 2, none⟩ = some (.int .i64 t114) := (blk_cell BK121.out 2).trans rfl
      have hcz59_3 : w52.cell? ⟨gb121, 3, none⟩ = some (.int .i64 t115) := (blk_cell BK121.out 3).trans rfl
      have hcz59_4 : w52.cell? ⟨gb121, 4, none⟩ = some (.int .u8 t116) := (blk_cell BK121.out 4).trans rfl
      have hcz59_5 : w52.cell? ⟨gb121, 5, none⟩ = some (.bool t117) := (blk_cell BK121.out 5).trans rfl
      have hcz59_6 : w52.cell? ⟨gb121, 6, none⟩ = some (.int .i64 t118) := (blk_cell BK121.out 6).trans rfl
      have hcz59_7 : w52.cell? ⟨gb121, 7, none⟩ = some (.int .u8 t119) := (blk_cell BK121.out 7).trans rfl
      have hfz59_0 := blk_frozen BK121.out 0
      have hfz59_1 := blk_frozen BK121.out 1
      have hfz59_2 := blk_frozen BK121.out 2
      have hfz59_3 := blk_frozen BK121.out 3
      have hfz59_4 := blk_frozen BK121.out 4
      have hfz59_5 := blk_frozen BK121.out 5
      have hfz59_6 := blk_frozen BK121.out 6
      have hfz59_7 := blk_frozen BK121.out 7
      go_wp2
      go_meet
      case rel => exact ⟨_, (true), eqx, H', ⟨by have := HJ8.out; first | omega | exact Nat.le_refl _⟩, ⟨by (with_reducible repeat (first | refine bN ?_ _ | refine bD ?_ | refine bA ?_ _)); (iterate 8 refine blk_far ?_ NB101_121.out _); exact ofA BK101⟩, ⟨by (with_reducible repeat (first | refine bN ?_ _ | refine bD ?_ | refine bA ?_ _)); (iterate 8 refine blk_far ?_ NB111_121.out _); exact ofA BK111⟩, ⟨by (with_reducible repeat (first | refine bN ?_ _ | refine bD ?_ | refine bA ?_ _)); refine blk_put (cs := #[.int .i64 t135, .int .i64 t136, .int .i64 t137, .int .i64 t138, .int .u8 t139, .bool t140, .int .i64 t141, .int .u8 t119]) ?_ 7 _ rfl; refine blk_put (cs := #[.int .i64 t135, .int .i64 t136, .int .i64 t137, .int .i64 t138, .int .u8 t139, .bool t140, .int .i64 t118, .int .u8 t119]) ?_ 6 _ rfl; refine blk_put (cs := #[.int .i64 t135, .int .i64 t136, .int .i64 t137, .int .i64 t138, .int .u8 t139, .bool t117, .int .i64 t118, .int .u8 t119]) ?_ 5 _ rfl; refine blk_put (cs := #[.int .i64 t135, .int .i64 t136, .int .i64 t137, .int .i64 t138, .int .u8 t116, .bool t117, .int .i64 t118, .int .u8 t119]) ?_ 4 _ rfl; refine blk_put (cs := #[.int .i64 t135, .int .i64 t136, .int .i64 t137, .int .i64 t115, .int .u8 t116, .bool t117, .int .i64 t118, .int .u8 t119]) ?_ 3 _ rfl; refine blk_put (cs := #[.int .i64 t135, .int .i64 t136, .int .i64 t114, .int .i64 t115, .int .u8 t116, .bool t117, .int .i64 t118, .int .u8 t119]) ?_ 2 _ rfl; refine blk_put (cs := #[.int .i64 t135, .int .i64 t113, .int .i64 t114, .int .i64 t115, .int .u8 t116, .bool t117, .int .i64 t118, .int .u8 t119]) ?_ 1 _ rfl; refine blk_put (cs := #[.int .i64 t112, .int .i64 t113, .int .i64 t114, .int .i64 t115, .int .u8 t116, .bool t117, .int .i64 t118, .int .u8 t119]) ?_ 0 _ rfl; exact ofA BK121⟩, ⟨low HB⟩⟩
     ·
      rw [if_neg c54] at H
      have c54b0 : ((!(t126 == t135) || (!(t127 == t136))) || (!(t128 == t137) || (!(t129 == t138) || (!(t130 == t139) || (!(t131 == t140) || (!(t132 == t141) || (!(t133 == t142)))))))) = false := by simpa using c54
      clear c54
      (first | rw [c54b0] | (simp only [i64_w, i32_w]; rw [c54b0]) | skip)
      have H' := Aside0.mk H
      clear H
      have hnb60 := NB111_101.out
      have hnc60 := NB101_111.out
      have hnb61 := NB111_121.out
      have hnc61 := NB121_111.out
      have hcz62_0 : w52.cell? ⟨gb111, 0, none⟩ = some (.int .i64 t126) := (blk_cell BK111.out 0).trans rfl
      have hcz62_1 : w52.cell? ⟨gb111, 1, none⟩ = some (.int .i64 t127) := (blk_cell BK111.out 1).trans rfl
      have hcz62_2 : w52.cell? ⟨gb111, 2, none⟩ = some (.int .i64 t128) := (blk_cell BK111.out 2).trans rfl
      have hcz62_3 : w52.cell? ⟨gb111, 3, none⟩ = some (.int .i64 t129) := (blk_cell BK111.out 3).trans rfl
      have hcz62_4 : w52.cell? ⟨gb111, 4, none⟩ = some (.int .u8 t130) := (blk_cell BK111.out 4).trans rfl
      have hcz62_5 : w52.cell? ⟨gb111, 5, none⟩ = some (.bool t131) := (blk_cell BK111.out 5).trans rfl
      have hcz62_6 : w52.cell? ⟨gb111, 6, none⟩ = some (.int .i64 t132) := (blk_cell BK111.out 6).trans rfl
      have hcz62_7 : w52.cell? ⟨gb111, 7, none⟩ = some (.int .u8 t133) := (blk_cell BK111.out 7).trans rfl
      have hfz62_0 := blk_frozen BK111.out 0
      have hfz62_1 := blk_frozen BK111.out 1
      have hfz62_2 := blk_frozen BK111.out 2
      have hfz62_3 := blk_frozen BK111.out 3
      have hfz62_4 := blk_frozen BK111.out 4
      have hfz62_5 := blk_frozen BK111.out 5
      have hfz62_6 := blk_frozen BK111.out 6
      have hfz62_7 := blk_frozen BK111.out 7
      have hnb63 := NB121_101.out
      have hnc63 := NB101_121.out
      have hcz64_0 : w52.cell? ⟨gb121, 0, none⟩ = some (.int .i64 t112) := (blk_cell BK121.out 0).trans rfl
      have hcz64_1 : w52.cell? ⟨gb121, 1, none⟩ = some (.int .i64 t113) := (blk_cell BK121.out 1).trans rfl
      have hcz64_2 : w52.cell? ⟨gb121, 2, none⟩ = some (.int .i64 t114) := (blk_cell BK121.out 2).trans rfl
      have hcz64_3 : w52.cell? ⟨gb121, 3, none⟩ = some (.int .i64 t115) := (blk_cell BK121.out 3).trans rfl
      have hcz64_4 : w52.cell? ⟨gb121, 4, none⟩ = some (.int .u8 t116) := (blk_cell BK121.out 4).trans rfl
      have hcz64_5 : w52.cell? ⟨gb121, 5, none⟩ = some (.bool t117) := (blk_cell BK121.out 5).trans rfl
      have hcz64_6 : w52.cell? ⟨gb121, 6, none⟩ = some (.int .i64 t118) := (blk_cell BK121.out 6).trans rfl
      have hcz64_7 : w52.cell? ⟨gb121, 7, none⟩ = some (.int .u8 t119) := (blk_cell BK121.out 7).trans rfl
      have hfz64_0 := blk_frozen BK121.out 0
      have hfz64_1 := blk_frozen BK121.out 1
      have hfz64_2 := blk_frozen BK121.out 2
      have hfz64_3 := blk_frozen BK121.out 3
      have hfz64_4 := blk_frozen BK121.out 4
      have hfz64_5 := blk_frozen BK121.out 5
      have hfz64_6 := blk_frozen BK121.out 6
      have hfz64_7 := blk_frozen BK121.out 7
      go_wp2
      go_meet
      case rel => exact ⟨_, ((t134 != t143)), eqx, H', ⟨by have := HJ8.out; first | omega | exact Nat.le_refl _⟩, ⟨by (with_reducible repeat (first | refine bN ?_ _ | refine bD ?_ | refine bA ?_ _)); (iterate 8 refine blk_far ?_ NB101_121.out _); exact ofA BK101⟩, ⟨by (with_reducible repeat (first | refine bN ?_ _ | refine bD ?_ | refine bA ?_ _)); (iterate 8 refine blk_far ?_ NB111_121.out _); exact ofA BK111⟩, ⟨by (with_reducible repeat (first | refine bN ?_ _ | refine bD ?_ | refine bA ?_ _)); refine blk_put (cs := #[.int .i64 t135, .int .i64 t136, .int .i64 t137, .int .i64 t138, .int .u8 t139, .bool t140, .int .i64 t141, .int .u8 t119]) ?_ 7 _ rfl; refine blk_put (cs := #[.int .i64 t135, .int .i64 t136, .int .i64 t137, .int .i64 t138, .int .u8 t139, .bool t140, .int .i64 t118, .int .u8 t119]) ?_ 6 _ rfl; refine blk_put (cs := #[.int .i64 t135, .int .i64 t136, .int .i64 t137, .int .i64 t138, .int .u8 t139, .bool t117, .int .i64 t118, .int .u8 t119]) ?_ 5 _ rfl; refine blk_put (cs := #[.int .i64 t135, .int .i64 t136, .int .i64 t137, .int .i64 t138, .int .u8 t116, .bool t117, .int .i64 t118, .int .u8 t119]) ?_ 4 _ rfl; refine blk_put (cs := #[.int .i64 t135, .int .i64 t136, .int .i64 t137, .int .i64 t115, .int .u8 t116, .bool t117, .int .i64 t118, .int .u8 t119]) ?_ 3 _ rfl; refine blk_put (cs := #[.int .i64 t135, .int .i64 t136, .int .i64 t114, .int .i64 t115, .int .u8 t116, .bool t117, .int .i64 t118, .int .u8 t119]) ?_ 2 _ rfl; refine blk_put (cs := #[.int .i64 t135, .int .i64 t113, .int .i64 t114, .int .i64 t115, .int .u8 t116, .bool t117, .int .i64 t118, .int .u8 t119]) ?_ 1 _ rfl; refine blk_put (cs := #[.int .i64 t112, .int .i64 t113, .int .i64 t114, .int .i64 t115, .int .u8 t116, .bool t117, .int .i64 t118, .int .u8 t119]) ?_ 0 _ rfl; exact ofA BK121⟩, ⟨low HB⟩⟩
    case rest =>
     clear HC44
     try clear c1
     try clear c2
     try clear p2
     try clear c4
     try clear c5
     try clear c6
     try clear c15
     try clear c16
     try clear c17
     try clear c18
     try clear c19
     try clear c20
     try clear c23
     try clear c23b0
     try clear c23b1
     try clear c26
     try clear c26b0
     try clear c26b1
     try clear c26b2
     try clear c41
     try clear c45
     try clear c46
     try clear c49
     try clear c54
     try clear c54b0
     try clear c55
     try clear c56
     try clear c58
     try clear c60
     try clear c61
     try clear c63
     try clear hcz47_0
     try clear hcz47_1
     try clear hcz47_2
     try clear hcz47_3
     try clear hcz47_4
     try clear hcz47_5
     try clear hcz47_6
     try clear hcz47_7
     try clear hcz50_0
     try clear hcz50_1
     try clear hcz50_2
     try clear hcz50_3
     try clear hcz50_4
     try clear hcz50_5
     try clear hcz50_6
     try clear hcz50_7
     try clear hcz51_0
     try clear hcz51_1
     try clear hcz51_2
     try clear hcz51_3
     try clear hcz51_4
     try clear hcz51_5
     try clear hcz51_6
     try clear hcz51_7
     try clear hcz53_0
     try clear hcz53_1
     try clear hcz53_2
     try clear hcz53_3
     try clear hcz53_4
     try clear hcz53_5
     try clear hcz53_6
     try clear hcz53_7
     try clear hcz57_0
     try clear hcz57_1
     try clear hcz57_2
     try clear hcz57_3
     try clear hcz57_4
     try clear hcz57_5
     try clear hcz57_6
     try clear hcz57_7
     try clear hcz59_0
     try clear hcz59_1
     try clear hcz59_2
     try clear hcz59_3
     try clear hcz59_4
     try clear hcz59_5
     try clear hcz59_6
     try clear hcz59_7
     try clear hcz62_0
     try clear hcz62_1
     try clear hcz62_2
     try clear hcz62_3
     try clear hcz62_4
     try clear hcz62_5
     try clear hcz62_6
     try clear hcz62_7
     try clear hcz64_0
     try clear hcz64_1
     try clear hcz64_2
     try clear hcz64_3
     try clear hcz64_4
     try clear hcz64_5
     try clear hcz64_6
     try clear hcz64_7
     try clear hfz47_0
     try clear hfz47_1
     try clear hfz47_2
     try clear hfz47_3
     try clear hfz47_4
     try clear hfz47_5
     try clear hfz47_6
     try clear hfz47_7
     try clear hfz50_0
     try clear hfz50_1
     try clear hfz50_2
     try clear hfz50_3
     try clear hfz50_4
     try clear hfz50_5
     try clear hfz50_6
     try clear hfz50_7
     try clear hfz51_0
     try clear hfz51_1
     try clear hfz51_2
     try clear hfz51_3
     try clear hfz51_4
     try clear hfz51_5
     try clear hfz51_6
     try clear hfz51_7
     try clear hfz53_0
     try clear hfz53_1
     try clear hfz53_2
     try clear hfz53_3
     try clear hfz53_4
     try clear hfz53_5
     try clear hfz53_6
     try clear hfz53_7
     try clear hfz57_0
     try clear hfz57_1
     try clear hfz57_2
     try clear hfz57_3
     try clear hfz57_4
     try clear hfz57_5
     try clear hfz57_6
     try clear hfz57_7
     try clear hfz59_0
     try clear hfz59_1
     try clear hfz59_2
     try clear hfz59_3
     try clear hfz59_4
     try clear hfz59_5
     try clear hfz59_6
     try clear hfz59_7
     try clear hfz62_0
     try clear hfz62_1
     try clear hfz62_2
     try clear hfz62_3
     try clear hfz62_4
     try clear hfz62_5
     try clear hfz62_6
     try clear hfz62_7
     try clear hfz64_0
     try clear hfz64_1
     try clear hfz64_2
     try clear hfz64_3
     try clear hfz64_4
     try clear hfz64_5
     try clear hfz64_6
     try clear hfz64_7
     try clear p2
     obtain ⟨kq, x84_43, rfl, HA, HJ43, BK101, BK111, BK121, HB⟩ := hcut
     cases kq with
     | zero => exact absurd HA.out (by simp [joustlaw28_ClockTells.j1])
     | succ kj43 =>
      have H := HA.out
      clear HA
      simp only [joustlaw28_ClockTells.j1] at H
      by_cases c65 : x84_43 = true
      ·
       subst c65
       have H1 : (some false) = some r := by rw [if_pos rfl] at H; exact H
       clear H
       have H := H1
       clear H1
       obtain rfl := Option.some.inj H
       go_wp2
       go_ret
       exact ⟨by first | rfl | (simp [errW_none, errW_some] <;> rfl) | (simp [*, errW_none, errW_some] <;> rfl), low HB⟩
      ·
       replace c65 := Bool.eq_false_iff.mpr c65
       subst c65
       have H1 : ((Pclk.clock_Stop.f kj43 a0_0 a0_1 a0_2 a0_3 a0_4 a0_5 a0_6 a0_7 a5).bind fun bt144 => ((Pcrf.joustref28_Stop.f kj43 a0_0 a0_1 a0_2 a0_3 a0_4 a0_5 a0_6 a0_7 a5).bind fun bt154 => (if ((!(bt144.1 == bt154.1) || (!(bt144.2.1 == bt154.2.1))) || (!(bt144.2.2.1 == bt154.2.2.1) || (!(bt144.2.2.2.1 == bt154.2.2.2.1) || (!(bt144.2.2.2.2.1 == bt154.2.2.2.2.1) || (!(bt144.2.2.2.2.2.1 == bt154.2.2.2.2.2.1) || (!(bt144.2.2.2.2.2.2.1 == bt154.2.2.2.2.2.2.1) || (!(bt144.2.2.2.2.2.2.2.1 == bt154.2.2.2.2.2.2.2.1)))))))) = true then (joustlaw28_ClockTells.j2 kj43 a5 true a0_0 a0_1 a0_2 a0_3 a0_4 a0_5 a0_6 a0_7) else (if (bt144.2.2.2.2.2.2.2.2.1 != bt154.2.2.2.2.2.2.2.2.1) = true then (joustlaw28_ClockTells.j2 kj43 a5 true a0_0 a0_1 a0_2 a0_3 a0_4 a0_5 a0_6 a0_7) else (joustlaw28_ClockTells.j2 kj43 a5 (bt144.2.2.2.2.2.2.2.2.2 != bt154.2.2.2.2.2.2.2.2.2) a0_0 a0_1 a0_2 a0_3 a0_4 a0_5 a0_6 a0_7))))) = some r := by rw [if_neg (show ¬ (false = true) by decide)] at H; exact H
       clear H
       have H := H1
       clear H1
       replace H := Option.bind_eq_some_iff.mp H
       obtain ⟨⟨t144, t145, t146, t147, t148, t149, t150, t151, t152, t153⟩, A660, H⟩ := H
       replace H : ((Pcrf.joustref28_Stop.f kj43 a0_0 a0_1 a0_2 a0_3 a0_4 a0_5 a0_6 a0_7 a5).bind fun bt154 => (if ((!(t144 == bt154.1) || (!(t145 == bt154.2.1))) || (!(t146 == bt154.2.2.1) || (!(t147 == bt154.2.2.2.1) || (!(t148 == bt154.2.2.2.2.1) || (!(t149 == bt154.2.2.2.2.2.1) || (!(t150 == bt154.2.2.2.2.2.2.1) || (!(t151 == bt154.2.2.2.2.2.2.2.1)))))))) = true then (joustlaw28_ClockTells.j2 kj43 a5 true a0_0 a0_1 a0_2 a0_3 a0_4 a0_5 a0_6 a0_7) else (if (t152 != bt154.2.2.2.2.2.2.2.2.1) = true then (joustlaw28_ClockTells.j2 kj43 a5 true a0_0 a0_1 a0_2 a0_3 a0_4 a0_5 a0_6 a0_7) else (joustlaw28_ClockTells.j2 kj43 a5 (t153 != bt154.2.2.2.2.2.2.2.2.2) a0_0 a0_1 a0_2 a0_3 a0_4 a0_5 a0_6 a0_7)))) = some r := H
       have A66 := Aside0.mk A660
       clear A660
       replace H := Option.bind_eq_some_iff.mp H
       obtain ⟨⟨t154, t155, t156, t157, t158, t159, t160, t161, t162, t163⟩, A670, H⟩ := H
       replace H : (if ((!(t144 == t154) || (!(t145 == t155))) || (!(t146 == t156) || (!(t147 == t157) || (!(t148 == t158) || (!(t149 == t159) || (!(t150 == t160) || (!(t151 == t161)))))))) = true then (joustlaw28_ClockTells.j2 kj43 a5 true a0_0 a0_1 a0_2 a0_3 a0_4 a0_5 a0_6 a0_7) else (if (t152 != t162) = true then (joustlaw28_ClockTells.j2 kj43 a5 true a0_0 a0_1 a0_2 a0_3 a0_4 a0_5 a0_6 a0_7) else (joustlaw28_ClockTells.j2 kj43 a5 (t153 != t163) a0_0 a0_1 a0_2 a0_3 a0_4 a0_5 a0_6 a0_7))) = some r := H
       have A67 := Aside0.mk A670
       clear A670
       have HC68 := Aside0.mk H
       clear H
       have hnb69 := NB101_111.out
       have hnc69 := NB111_101.out
       have hnb70 := NB101_121.out
       have hnc70 := NB121_101.out
       have hcz71_0 : wc.cell? ⟨gb101, 0, none⟩ = some (.int .i64 a0_0) := (blk_cell BK101.out 0).trans rfl
       have hcz71_1 : wc.cell? ⟨gb101, 1, none⟩ = some (.int .i64 a0_1) := (blk_cell BK101.out 1).trans rfl
       have hcz71_2 : wc.cell? ⟨gb101, 2, none⟩ = some (.int .i64 a0_2) := (blk_cell BK101.out 2).trans rfl
       have hcz71_3 : wc.cell? ⟨gb101, 3, none⟩ = some (.int .i64 a0_3) := (blk_cell BK101.out 3).trans rfl
       have hcz71_4 : wc.cell? ⟨gb101, 4, none⟩ = some (.int .u8 a0_4) := (blk_cell BK101.out 4).trans rfl
       have hcz71_5 : wc.cell? ⟨gb101, 5, none⟩ = some (.bool a0_5) := (blk_cell BK101.out 5).trans rfl
       have hcz71_6 : wc.cell? ⟨gb101, 6, none⟩ = some (.int .i64 a0_6) := (blk_cell BK101.out 6).trans rfl
       have hcz71_7 : wc.cell? ⟨gb101, 7, none⟩ = some (.int .u8 a0_7) := (blk_cell BK101.out 7).trans rfl
       have hfz71_0 := blk_frozen BK101.out 0
       have hfz71_1 := blk_frozen BK101.out 1
       have hfz71_2 := blk_frozen BK101.out 2
       have hfz71_3 := blk_frozen BK101.out 3
       have hfz71_4 := blk_frozen BK101.out 4
       have hfz71_5 := blk_frozen BK101.out 5
       have hfz71_6 := blk_frozen BK101.out 6
       have hfz71_7 := blk_frozen BK101.out 7
       go_upto_region 11 with (first | ((with_reducible refine gate_callee (f := 21) rfl ?_); refine goesL_ (some 88) rfl rfl Tryd.func21 (by kernel_rfl) rfl #[.agg #[.int .i64 a0_0, .int .i64 a0_1, .int .i64 a0_2, .int .i64 a0_3, .int .u8 a0_4, .bool a0_5, .int .i64 a0_6, .int .u8 a0_7], .int .i64 a5] rfl mapx ?_; (with_reducible refine (Pclk.clock_Stop.calls kj43 a0_0 a0_1 a0_2 a0_3 a0_4 a0_5 a0_6 a0_7 a5 t144 t145 t146 t147 t148 t149 t150 t151 t152 t153 _ A66.out).mono ?_); rintro e w72 ⟨rfl, hb⟩; refine ⟨_, rfl, ?_⟩; have n0_ := Aside0.mk (blk_below (g := gb101) (o := .cells #[.int .i64 a0_0, .int .i64 a0_1, .int .i64 a0_2, .int .i64 a0_3, .int .u8 a0_4, .bool a0_5, .int .i64 a0_6, .int .u8 a0_7] 24 (0, 0)) (ofA BK101) hb); have n1_ := Aside0.mk (blk_below (g := gb111) (o := .cells #[.int .i64 t126, .int .i64 t127, .int .i64 t128, .int .i64 t129, .int .u8 t130, .bool t131, .int .i64 t132, .int .u8 t133] 24 (0, 0)) (ofA BK111) hb); have n2_ := Aside0.mk (blk_below (g := gb121) (o := .cells #[.int .i64 t135, .int .i64 t136, .int .i64 t137, .int .i64 t138, .int .u8 t139, .bool t140, .int .i64 t141, .int .u8 t142] 24 (0, 0)) (ofA BK121) hb); have n3_ := Aside0.mk (below_step (low HB) hb); clear BK101; clear BK111; clear BK121; clear HB; have BK101 := n0_; have BK111 := n1_; have BK121 := n2_; have HB := n3_; clear n0_ n1_ n2_ n3_; (try clear hb); (try clear hb2); (try clear hk); (try clear hi); have hnb73 := NB111_121.out; have hnc73 := NB121_111.out; obtain ⟨hcz74_0, hcz74_1, hcz74_2, hcz74_3, hcz74_4, hcz74_5, hcz74_6, hcz74_7, hfz74_0, hfz74_1, hfz74_2, hfz74_3, hfz74_4, hfz74_5, hfz74_6, hfz74_7⟩ := cells8 BK111.out; obtain ⟨hcz75_0, hcz75_1, hcz75_2, hcz75_3, hcz75_4, hcz75_5, hcz75_6, hcz75_7, hfz75_0, hfz75_1, hfz75_2, hfz75_3, hfz75_4, hfz75_5, hfz75_6, hfz75_7⟩ := cells8 BK101.out) | ((with_reducible refine gate_callee (f := 22) rfl ?_); refine goesL_ (some 95) rfl rfl Tryd.func22 (by kernel_rfl) rfl #[.agg #[.int .i64 a0_0, .int .i64 a0_1, .int .i64 a0_2, .int .i64 a0_3, .int .u8 a0_4, .bool a0_5, .int .i64 a0_6, .int .u8 a0_7], .int .i64 a5] rfl mapx ?_; (with_reducible refine (Pcrf.joustref28_Stop.calls kj43 a0_0 a0_1 a0_2 a0_3 a0_4 a0_5 a0_6 a0_7 a5 t154 t155 t156 t157 t158 t159 t160 t161 t162 t163 _ A67.out).mono ?_); rintro e w76 ⟨rfl, hb⟩; refine ⟨_, rfl, ?_⟩; have n0_ := Aside0.mk (blk_below (g := gb101) (o := .cells #[.int .i64 a0_0, .int .i64 a0_1, .int .i64 a0_2, .int .i64 a0_3, .int .u8 a0_4, .bool a0_5, .int .i64 a0_6, .int .u8 a0_7] 24 (0, 0)) (by (with_reducible repeat (first | refine bN ?_ _ | refine bD ?_ | refine bA ?_ _)); (iterate 8 refine blk_far ?_ NB101_111.out _); exact ofA BK101) hb); have n1_ := Aside0.mk (blk_below (g := gb111) (o := .cells #[.int .i64 t144, .int .i64 t145, .int .i64 t146, .int .i64 t147, .int .u8 t148, .bool t149, .int .i64 t150, .int .u8 t151] 24 (0, 0)) (by (with_reducible repeat (first | refine bN ?_ _ | refine bD ?_ | refine bA ?_ _)); refine blk_put (cs := #[.int .i64 t144, .int .i64 t145, .int .i64 t146, .int .i64 t147, .int .u8 t148, .bool t149, .int .i64 t150, .int .u8 t133]) ?_ 7 _ rfl; refine blk_put (cs := #[.int .i64 t144, .int .i64 t145, .int .i64 t146, .int .i64 t147, .int .u8 t148, .bool t149, .int .i64 t132, .int .u8 t133]) ?_ 6 _ rfl; refine blk_put (cs := #[.int .i64 t144, .int .i64 t145, .int .i64 t146, .int .i64 t147, .int .u8 t148, .bool t131, .int .i64 t132, .int .u8 t133]) ?_ 5 _ rfl; refine blk_put (cs := #[.int .i64 t144, .int .i64 t145, .int .i64 t146, .int .i64 t147, .int .u8 t130, .bool t131, .int .i64 t132, .int .u8 t133]) ?_ 4 _ rfl; refine blk_put (cs := #[.int .i64 t144, .int .i64 t145, .int .i64 t146, .int .i64 t129, .int .u8 t130, .bool t131, .int .i64 t132, .int .u8 t133]) ?_ 3 _ rfl; refine blk_put (cs := #[.int .i64 t144, .int .i64 t145, .int .i64 t128, .int .i64 t129, .int .u8 t130, .bool t131, .int .i64 t132, .int .u8 t133]) ?_ 2 _ rfl; refine blk_put (cs := #[.int .i64 t144, .int .i64 t127, .int .i64 t128, .int .i64 t129, .int .u8 t130, .bool t131, .int .i64 t132, .int .u8 t133]) ?_ 1 _ rfl; refine blk_put (cs := #[.int .i64 t126, .int .i64 t127, .int .i64 t128, .int .i64 t129, .int .u8 t130, .bool t131, .int .i64 t132, .int .u8 t133]) ?_ 0 _ rfl; exact ofA BK111) hb); have n2_ := Aside0.mk (blk_below (g := gb121) (o := .cells #[.int .i64 t135, .int .i64 t136, .int .i64 t137, .int .i64 t138, .int .u8 t139, .bool t140, .int .i64 t141, .int .u8 t142] 24 (0, 0)) (by (with_reducible repeat (first | refine bN ?_ _ | refine bD ?_ | refine bA ?_ _)); (iterate 8 refine blk_far ?_ NB121_111.out _); exact ofA BK121) hb); have n3_ := Aside0.mk (below_step (low HB) hb); clear BK101; clear BK111; clear BK121; clear HB; have BK101 := n0_; have BK111 := n1_; have BK121 := n2_; have HB := n3_; clear n0_ n1_ n2_ n3_; (try clear hb); (try clear hb2); (try clear hk); (try clear hi); obtain ⟨hcz77_0, hcz77_1, hcz77_2, hcz77_3, hcz77_4, hcz77_5, hcz77_6, hcz77_7, hfz77_0, hfz77_1, hfz77_2, hfz77_3, hfz77_4, hfz77_5, hfz77_6, hfz77_7⟩ := cells8 BK121.out))
       (try simp only [Act.put, List.setIfInBounds_toArray, List.set_cons_zero, List.set_cons_succ])
       go_cut [111] (fun v111 wc => ∃ (kq : Nat) (x111_67 : Bool), v111 = .bool x111_67 ∧ Aside0 (joustlaw28_ClockTells.j2 kq a5 x111_67 a0_0 a0_1 a0_2 a0_3 a0_4 a0_5 a0_6 a0_7 = some r) ∧ Aside0 (kq ≤ kj43) ∧ Aside0 (wc.heap[gb101]? = some (.cells #[.int .i64 a0_0, .int .i64 a0_1, .int .i64 a0_2, .int .i64 a0_3, .int .u8 a0_4, .bool a0_5, .int .i64 a0_6, .int .u8 a0_7] 24 (0, 0))) ∧ Aside0 (wc.heap[gb111]? = some (.cells #[.int .i64 t144, .int .i64 t145, .int .i64 t146, .int .i64 t147, .int .u8 t148, .bool t149, .int .i64 t150, .int .u8 t151] 24 (0, 0))) ∧ Aside0 (wc.heap[gb121]? = some (.cells #[.int .i64 t154, .int .i64 t155, .int .i64 t156, .int .i64 t157, .int .u8 t158, .bool t159, .int .i64 t160, .int .u8 t161] 24 (0, 0))) ∧ Aside0 (Below w.heap.size w wc))
       case first =>
        have H := HC68.out
        clear HC68
        by_cases c78 : ((!(t144 == t154) || (!(t145 == t155))) || (!(t146 == t156) || (!(t147 == t157) || (!(t148 == t158) || (!(t149 == t159) || (!(t150 == t160) || (!(t151 == t161)))))))) = true
        ·
         rw [if_pos c78] at H
         have c78b0 : ((!(t144 == t154) || (!(t145 == t155))) || (!(t146 == t156) || (!(t147 == t157) || (!(t148 == t158) || (!(t149 == t159) || (!(t150 == t160) || (!(t151 == t161)))))))) = true := c78
         clear c78
         (first | rw [c78b0] | (simp only [i64_w, i32_w]; rw [c78b0]) | skip)
         have H' := Aside0.mk H
         clear H
         have hnb79 := NB111_101.out
         have hnc79 := NB101_111.out
         have hnb80 := NB111_121.out
         have hnc80 := NB121_111.out
         have hcz81_0 : w76.cell? ⟨gb111, 0, none⟩ = some (.int .i64 t144) := (blk_cell BK111.out 0).trans rfl
         have hcz81_1 : w76.cell? ⟨gb111, 1, none⟩ = some (.int .i64 t145) := (blk_cell BK111.out 1).trans rfl
         have hcz81_2 : w76.cell? ⟨gb111, 2, none⟩ = some (.int .i64 t146) := (blk_cell BK111.out 2).trans rfl
         have hcz81_3 : w76.cell? ⟨gb111, 3, none⟩ = some (.int .i64 t147) := (blk_cell BK111.out 3).trans rfl
         have hcz81_4 : w76.cell? ⟨gb111, 4, none⟩ = some (.int .u8 t148) := (blk_cell BK111.out 4).trans rfl
         have hcz81_5 : w76.cell? ⟨gb111, 5, none⟩ = some (.bool t149) := (blk_cell BK111.out 5).trans rfl
         have hcz81_6 : w76.cell? ⟨gb111, 6, none⟩ = some (.int .i64 t150) := (blk_cell BK111.out 6).trans rfl
         have hcz81_7 : w76.cell? ⟨gb111, 7, none⟩ = some (.int .u8 t151) := (blk_cell BK111.out 7).trans rfl
         have hfz81_0 := blk_frozen BK111.out 0
         have hfz81_1 := blk_frozen BK111.out 1
         have hfz81_2 := blk_frozen BK111.out 2
         have hfz81_3 := blk_frozen BK111.out 3
         have hfz81_4 := blk_frozen BK111.out 4
         have hfz81_5 := blk_frozen BK111.out 5
         have hfz81_6 := blk_frozen BK111.out 6
         have hfz81_7 := blk_frozen BK111.out 7
         have hnb82 := NB121_101.out
         have hnc82 := NB101_121.out
         have hcz83_0 : w76.cell? ⟨gb121, 0, none⟩ = some (.int .i64 t135) := (blk_cell BK121.out 0).trans rfl
         have hcz83_1 : w76.cell? ⟨gb121, 1, none⟩ = some (.int .i64 t136) := (blk_cell BK121.out 1).trans rfl
         have hcz83_2 : w76.cell? ⟨gb121, 2, none⟩ = some (.int .i64 t137) := (blk_cell BK121.out 2).trans rfl
         have hcz83_3 : w76.cell? ⟨gb121, 3, none⟩ = some (.int .i64 t138) := (blk_cell BK121.out 3).trans rfl
         have hcz83_4 : w76.cell? ⟨gb121, 4, none⟩ = some (.int .u8 t139) := (blk_cell BK121.out 4).trans rfl
         have hcz83_5 : w76.cell? ⟨gb121, 5, none⟩ = some (.bool t140) := (blk_cell BK121.out 5).trans rfl
         have hcz83_6 : w76.cell? ⟨gb121, 6, none⟩ = some (.int .i64 t141) := (blk_cell BK121.out 6).trans rfl
         have hcz83_7 : w76.cell? ⟨gb121, 7, none⟩ = some (.int .u8 t142) := (blk_cell BK121.out 7).trans rfl
         have hfz83_0 := blk_frozen BK121.out 0
         have hfz83_1 := blk_frozen BK121.out 1
         have hfz83_2 := blk_frozen BK121.out 2
         have hfz83_3 := blk_frozen BK121.out 3
         have hfz83_4 := blk_frozen BK121.out 4
         have hfz83_5 := blk_frozen BK121.out 5
         have hfz83_6 := blk_frozen BK121.out 6
         have hfz83_7 := blk_frozen BK121.out 7
         go_wp2
         go_meet
         case rel => exact ⟨_, (true), eqx, H', ⟨by have := HJ8.out; have := HJ43.out; first | omega | exact Nat.le_refl _⟩, ⟨by (with_reducible repeat (first | refine bN ?_ _ | refine bD ?_ | refine bA ?_ _)); (iterate 8 refine blk_far ?_ NB101_121.out _); exact ofA BK101⟩, ⟨by (with_reducible repeat (first | refine bN ?_ _ | refine bD ?_ | refine bA ?_ _)); (iterate 8 refine blk_far ?_ NB111_121.out _); exact ofA BK111⟩, ⟨by (with_reducible repeat (first | refine bN ?_ _ | refine bD ?_ | refine bA ?_ _)); refine blk_put (cs := #[.int .i64 t154, .int .i64 t155, .int .i64 t156, .int .i64 t157, .int .u8 t158, .bool t159, .int .i64 t160, .int .u8 t142]) ?_ 7 _ rfl; refine blk_put (cs := #[.int .i64 t154, .int .i64 t155, .int .i64 t156, .int .i64 t157, .int .u8 t158, .bool t159, .int .i64 t141, .int .u8 t142]) ?_ 6 _ rfl; refine blk_put (cs := #[.int .i64 t154, .int .i64 t155, .int .i64 t156, .int .i64 t157, .int .u8 t158, .bool t140, .int .i64 t141, .int .u8 t142]) ?_ 5 _ rfl; refine blk_put (cs := #[.int .i64 t154, .int .i64 t155, .int .i64 t156, .int .i64 t157, .int .u8 t139, .bool t140, .int .i64 t141, .int .u8 t142]) ?_ 4 _ rfl; refine blk_put (cs := #[.int .i64 t154, .int .i64 t155, .int .i64 t156, .int .i64 t138, .int .u8 t139, .bool t140, .int .i64 t141, .int .u8 t142]) ?_ 3 _ rfl; refine blk_put (cs := #[.int .i64 t154, .int .i64 t155, .int .i64 t137, .int .i64 t138, .int .u8 t139, .bool t140, .int .i64 t141, .int .u8 t142]) ?_ 2 _ rfl; refine blk_put (cs := #[.int .i64 t154, .int .i64 t136, .int .i64 t137, .int .i64 t138, .int .u8 t139, .bool t140, .int .i64 t141, .int .u8 t142]) ?_ 1 _ rfl; refine blk_put (cs := #[.int .i64 t135, .int .i64 t136, .int .i64 t137, .int .i64 t138, .int .u8 t139, .bool t140, .int .i64 t141, .int .u8 t142]) ?_ 0 _ rfl; exact ofA BK121⟩, ⟨low HB⟩⟩
        ·
         rw [if_neg c78] at H
         have c78b0 : ((!(t144 == t154) || (!(t145 == t155))) || (!(t146 == t156) || (!(t147 == t157) || (!(t148 == t158) || (!(t149 == t159) || (!(t150 == t160) || (!(t151 == t161)))))))) = false := by simpa using c78
         clear c78
         (first | rw [c78b0] | (simp only [i64_w, i32_w]; rw [c78b0]) | skip)
         by_cases c84 : (t152 != t162) = true
         ·
          rw [if_pos c84] at H
          have c84b0 : (t152 != t162) = true := c84
          (try (have c84b1 : decide (t152 = t162) = false := by simpa using c84))
          (try (have c84b2 : (t152 == t162) = false := by simpa using c84))
          (try (have c84b3 : ¬ (t152 = t162) := by simpa using c84))
          clear c84
          have H' := Aside0.mk H
          clear H
          have hnb85 := NB111_101.out
          have hnc85 := NB101_111.out
          have hnb86 := NB111_121.out
          have hnc86 := NB121_111.out
          have hcz87_0 : w76.cell? ⟨gb111, 0, none⟩ = some (.int .i64 t144) := (blk_cell BK111.out 0).trans rfl
          have hcz87_1 : w76.cell? ⟨gb111, 1, none⟩ = some (.int .i64 t145) := (blk_cell BK111.out 1).trans rfl
          have hcz87_2 : w76.cell? ⟨gb111, 2, none⟩ = some (.int .i64 t146) := (blk_cell BK111.out 2).trans rfl
          have hcz87_3 : w76.cell? ⟨gb111, 3, none⟩ = some (.int .i64 t147) := (blk_cell BK111.out 3).trans rfl
          have hcz87_4 : w76.cell? ⟨gb111, 4, none⟩ = some (.int .u8 t148) := (blk_cell BK111.out 4).trans rfl
          have hcz87_5 : w76.cell? ⟨gb111, 5, none⟩ = some (.bool t149) := (blk_cell BK111.out 5).trans rfl
          have hcz87_6 : w76.cell? ⟨gb111, 6, none⟩ = some (.int .i64 t150) := (blk_cell BK111.out 6).trans rfl
          have hcz87_7 : w76.cell? ⟨gb111, 7, none⟩ = some (.int .u8 t151) := (blk_cell BK111.out 7).trans rfl
          have hfz87_0 := blk_frozen BK111.out 0
          have hfz87_1 := blk_frozen BK111.out 1
          have hfz87_2 := blk_frozen BK111.out 2
          have hfz87_3 := blk_frozen BK111.out 3
          have hfz87_4 := blk_frozen BK111.out 4
          have hfz87_5 := blk_frozen BK111.out 5
          have hfz87_6 := blk_frozen BK111.out 6
          have hfz87_7 := blk_frozen BK111.out 7
          have hnb88 := NB121_101.out
          have hnc88 := NB101_121.out
          have hcz89_0 : w76.cell? ⟨gb121, 0, none⟩ = some (.int .i64 t135) := (blk_cell BK121.out 0).trans rfl
          have hcz89_1 : w76.cell? ⟨gb121, 1, none⟩ = some (.int .i64 t136) := (blk_cell BK121.out 1).trans rfl
          have hcz89_2 : w76.cell? ⟨gb121, 2, none⟩ = some (.int .i64 t137) := (blk_cell BK121.out 2).trans rfl
          have hcz89_3 : w76.cell? ⟨gb121, 3, none⟩ = some (.int .i64 t138) := (blk_cell BK121.out 3).trans rfl
          have hcz89_4 : w76.cell? ⟨gb121, 4, none⟩ = some (.int .u8 t139) := (blk_cell BK121.out 4).trans rfl
          have hcz89_5 : w76.cell? ⟨gb121, 5, none⟩ = some (.bool t140) := (blk_cell BK121.out 5).trans rfl
          have hcz89_6 : w76.cell? ⟨gb121, 6, none⟩ = some (.int .i64 t141) := (blk_cell BK121.out 6).trans rfl
          have hcz89_7 : w76.cell? ⟨gb121, 7, none⟩ = some (.int .u8 t142) := (blk_cell BK121.out 7).trans rfl
          have hfz89_0 := blk_frozen BK121.out 0
          have hfz89_1 := blk_frozen BK121.out 1
          have hfz89_2 := blk_frozen BK121.out 2
          have hfz89_3 := blk_frozen BK121.out 3
          have hfz89_4 := blk_frozen BK121.out 4
          have hfz89_5 := blk_frozen BK121.out 5
          have hfz89_6 := blk_frozen BK121.out 6
          have hfz89_7 := blk_frozen BK121.out 7
          go_wp2
          go_meet
          case rel => exact ⟨_, (true), eqx, H', ⟨by have := HJ8.out; have := HJ43.out; first | omega | exact Nat.le_refl _⟩, ⟨by (with_reducible repeat (first | refine bN ?_ _ | refine bD ?_ | refine bA ?_ _)); (iterate 8 refine blk_far ?_ NB101_121.out _); exact ofA BK101⟩, ⟨by (with_reducible repeat (first | refine bN ?_ _ | refine bD ?_ | refine bA ?_ _)); (iterate 8 refine blk_far ?_ NB111_121.out _); exact ofA BK111⟩, ⟨by (with_reducible repeat (first | refine bN ?_ _ | refine bD ?_ | refine bA ?_ _)); refine blk_put (cs := #[.int .i64 t154, .int .i64 t155, .int .i64 t156, .int .i64 t157, .int .u8 t158, .bool t159, .int .i64 t160, .int .u8 t142]) ?_ 7 _ rfl; refine blk_put (cs := #[.int .i64 t154, .int .i64 t155, .int .i64 t156, .int .i64 t157, .int .u8 t158, .bool t159, .int .i64 t141, .int .u8 t142]) ?_ 6 _ rfl; refine blk_put (cs := #[.int .i64 t154, .int .i64 t155, .int .i64 t156, .int .i64 t157, .int .u8 t158, .bool t140, .int .i64 t141, .int .u8 t142]) ?_ 5 _ rfl; refine blk_put (cs := #[.int .i64 t154, .int .i64 t155, .int .i64 t156, .int .i64 t157, .int .u8 t139, .bool t140, .int .i64 t141, .int .u8 t142]) ?_ 4 _ rfl; refine blk_put (cs := #[.int .i64 t154, .int .i64 t155, .int .i64 t156, .int .i64 t138, .int .u8 t139, .bool t140, .int .i64 t141, .int .u8 t142]) ?_ 3 _ rfl; refine blk_put (cs := #[.int .i64 t154, .int .i64 t155, .int .i64 t137, .int .i64 t138, .int .u8 t139, .bool t140, .int .i64 t141, .int .u8 t142]) ?_ 2 _ rfl; refine blk_put (cs := #[.int .i64 t154, .int .i64 t136, .int .i64 t137, .int .i64 t138, .int .u8 t139, .bool t140, .int .i64 t141, .int .u8 t142]) ?_ 1 _ rfl; refine blk_put (cs := #[.int .i64 t135, .int .i64 t136, .int .i64 t137, .int .i64 t138, .int .u8 t139, .bool t140, .int .i64 t141, .int .u8 t142]) ?_ 0 _ rfl; exact ofA BK121⟩, ⟨low HB⟩⟩
         ·
          rw [if_neg c84] at H
          have c84b0 : (t152 != t162) = false := by simpa using c84
          (try (have c84b1 : decide (t152 = t162) = true := by simpa using c84))
          (try (have c84b2 : (t152 == t162) = true := by simpa using c84))
          clear c84
          have H' := Aside0.mk H
          clear H
          have hnb90 := NB111_101.out
          have hnc90 := NB101_111.out
          have hnb91 := NB111_121.out
          have hnc91 := NB121_111.out
          have hcz92_0 : w76.cell? ⟨gb111, 0, none⟩ = some (.int .i64 t144) := (blk_cell BK111.out 0).trans rfl
          have hcz92_1 : w76.cell? ⟨gb111, 1, none⟩ = some (.int .i64 t145) := (blk_cell BK111.out 1).trans rfl
          have hcz92_2 : w76.cell? ⟨gb111, 2, none⟩ = some (.int .i64 t146) := (blk_cell BK111.out 2).trans rfl
          have hcz92_3 : w76.cell? ⟨gb111, 3, none⟩ = some (.int .i64 t147) := (blk_cell BK111.out 3).trans rfl
          have hcz92_4 : w76.cell? ⟨gb111, 4, none⟩ = some (.int .u8 t148) := (blk_cell BK111.out 4).trans rfl
          have hcz92_5 : w76.cell? ⟨gb111, 5, none⟩ = some (.bool t149) := (blk_cell BK111.out 5).trans rfl
          have hcz92_6 : w76.cell? ⟨gb111, 6, none⟩ = some (.int .i64 t150) := (blk_cell BK111.out 6).trans rfl
          have hcz92_7 : w76.cell? ⟨gb111, 7, none⟩ = some (.int .u8 t151) := (blk_cell BK111.out 7).trans rfl
          have hfz92_0 := blk_frozen BK111.out 0
          have hfz92_1 := blk_frozen BK111.out 1
          have hfz92_2 := blk_frozen BK111.out 2
          have hfz92_3 := blk_frozen BK111.out 3
          have hfz92_4 := blk_frozen BK111.out 4
          have hfz92_5 := blk_frozen BK111.out 5
          have hfz92_6 := blk_frozen BK111.out 6
          have hfz92_7 := blk_frozen BK111.out 7
          have hnb93 := NB121_101.out
          have hnc93 := NB101_121.out
          have hcz94_0 : w76.cell? ⟨gb121, 0, none⟩ = some (.int .i64 t135) := (blk_cell BK121.out 0).trans rfl
          have hcz94_1 : w76.cell? ⟨gb121, 1, none⟩ = some (.int .i64 t136) := (blk_cell BK121.out 1).trans rfl
          have hcz94_2 : w76.cell? ⟨gb121, 2, none⟩ = some (.int .i64 t137) := (blk_cell BK121.out 2).trans rfl
          have hcz94_3 : w76.cell? ⟨gb121, 3, none⟩ = some (.int .i64 t138) := (blk_cell BK121.out 3).trans rfl
          have hcz94_4 : w76.cell? ⟨gb121, 4, none⟩ = some (.int .u8 t139) := (blk_cell BK121.out 4).trans rfl
          have hcz94_5 : w76.cell? ⟨gb121, 5, none⟩ = some (.bool t140) := (blk_cell BK121.out 5).trans rfl
          have hcz94_6 : w76.cell? ⟨gb121, 6, none⟩ = some (.int .i64 t141) := (blk_cell BK121.out 6).trans rfl
          have hcz94_7 : w76.cell? ⟨gb121, 7, none⟩ = some (.int .u8 t142) := (blk_cell BK121.out 7).trans rfl
          have hfz94_0 := blk_frozen BK121.out 0
          have hfz94_1 := blk_frozen BK121.out 1
          have hfz94_2 := blk_frozen BK121.out 2
          have hfz94_3 := blk_frozen BK121.out 3
          have hfz94_4 := blk_frozen BK121.out 4
          have hfz94_5 := blk_frozen BK121.out 5
          have hfz94_6 := blk_frozen BK121.out 6
          have hfz94_7 := blk_frozen BK121.out 7
          go_wp2
          go_meet
          case rel => exact ⟨_, ((t153 != t163)), eqx, H', ⟨by have := HJ8.out; have := HJ43.out; first | omega | exact Nat.le_refl _⟩, ⟨by (with_reducible repeat (first | refine bN ?_ _ | refine bD ?_ | refine bA ?_ _)); (iterate 8 refine blk_far ?_ NB101_121.out _); exact ofA BK101⟩, ⟨by (with_reducible repeat (first | refine bN ?_ _ | refine bD ?_ | refine bA ?_ _)); (iterate 8 refine blk_far ?_ NB111_121.out _); exact ofA BK111⟩, ⟨by (with_reducible repeat (first | refine bN ?_ _ | refine bD ?_ | refine bA ?_ _)); refine blk_put (cs := #[.int .i64 t154, .int .i64 t155, .int .i64 t156, .int .i64 t157, .int .u8 t158, .bool t159, .int .i64 t160, .int .u8 t142]) ?_ 7 _ rfl; refine blk_put (cs := #[.int .i64 t154, .int .i64 t155, .int .i64 t156, .int .i64 t157, .int .u8 t158, .bool t159, .int .i64 t141, .int .u8 t142]) ?_ 6 _ rfl; refine blk_put (cs := #[.int .i64 t154, .int .i64 t155, .int .i64 t156, .int .i64 t157, .int .u8 t158, .bool t140, .int .i64 t141, .int .u8 t142]) ?_ 5 _ rfl; refine blk_put (cs := #[.int .i64 t154, .int .i64 t155, .int .i64 t156, .int .i64 t157, .int .u8 t139, .bool t140, .int .i64 t141, .int .u8 t142]) ?_ 4 _ rfl; refine blk_put (cs := #[.int .i64 t154, .int .i64 t155, .int .i64 t156, .int .i64 t138, .int .u8 t139, .bool t140, .int .i64 t141, .int .u8 t142]) ?_ 3 _ rfl; refine blk_put (cs := #[.int .i64 t154, .int .i64 t155, .int .i64 t137, .int .i64 t138, .int .u8 t139, .bool t140, .int .i64 t141, .int .u8 t142]) ?_ 2 _ rfl; refine blk_put (cs := #[.int .i64 t154, .int .i64 t136, .int .i64 t137, .int .i64 t138, .int .u8 t139, .bool t140, .int .i64 t141, .int .u8 t142]) ?_ 1 _ rfl; refine blk_put (cs := #[.int .i64 t135, .int .i64 t136, .int .i64 t137, .int .i64 t138, .int .u8 t139, .bool t140, .int .i64 t141, .int .u8 t142]) ?_ 0 _ rfl; exact ofA BK121⟩, ⟨low HB⟩⟩
       case rest =>
        clear HC68
        try clear c1
        try clear c2
        try clear p2
        try clear c4
        try clear c5
        try clear c6
        try clear c7
        try clear c8
        try clear c9
        try clear c15
        try clear c16
        try clear c17
        try clear c18
        try clear c19
        try clear c20
        try clear c21
        try clear c22
        try clear c23
        try clear c23b0
        try clear c23b1
        try clear c26
        try clear c26b0
        try clear c26b1
        try clear c26b2
        try clear c41
        try clear c45
        try clear c46
        try clear c49
        try clear c54
        try clear c54b0
        try clear c55
        try clear c56
        try clear c58
        try clear c60
        try clear c61
        try clear c63
        try clear c65
        try clear c69
        try clear c70
        try clear c73
        try clear c78
        try clear c78b0
        try clear c79
        try clear c80
        try clear c82
        try clear c84
        try clear c84b0
        try clear c84b1
        try clear c84b2
        try clear c85
        try clear c86
        try clear c88
        try clear c90
        try clear c91
        try clear c93
        try clear hcz47_0
        try clear hcz47_1
        try clear hcz47_2
        try clear hcz47_3
        try clear hcz47_4
        try clear hcz47_5
        try clear hcz47_6
        try clear hcz47_7
        try clear hcz50_0
        try clear hcz50_1
        try clear hcz50_2
        try clear hcz50_3
        try clear hcz50_4
        try clear hcz50_5
        try clear hcz50_6
        try clear hcz50_7
        try clear hcz51_0
        try clear hcz51_1
        try clear hcz51_2
        try clear hcz51_3
        try clear hcz51_4
        try clear hcz51_5
        try clear hcz51_6
        try clear hcz51_7
        try clear hcz53_0
        try clear hcz53_1
        try clear hcz53_2
        try clear hcz53_3
        try clear hcz53_4
        try clear hcz53_5
        try clear hcz53_6
        try clear hcz53_7
        try clear hcz57_0
        try clear hcz57_1
        try clear hcz57_2
        try clear hcz57_3
        try clear hcz57_4
        try clear hcz57_5
        try clear hcz57_6
        try clear hcz57_7
        try clear hcz59_0
        try clear hcz59_1
        try clear hcz59_2
        try clear hcz59_3
        try clear hcz59_4
        try clear hcz59_5
        try clear hcz59_6
        try clear hcz59_7
        try clear hcz62_0
        try clear hcz62_1
        try clear hcz62_2
        try clear hcz62_3
        try clear hcz62_4
        try clear hcz62_5
        try clear hcz62_6
        try clear hcz62_7
        try clear hcz64_0
        try clear hcz64_1
        try clear hcz64_2
        try clear hcz64_3
        try clear hcz64_4
        try clear hcz64_5
        try clear hcz64_6
        try clear hcz64_7
        try clear hcz71_0
        try clear hcz71_1
        try clear hcz71_2
        try clear hcz71_3
        try clear hcz71_4
        try clear hcz71_5
        try clear hcz71_6
        try clear hcz71_7
        try clear hcz74_0
        try clear hcz74_1
        try clear hcz74_2
        try clear hcz74_3
        try clear hcz74_4
        try clear hcz74_5
        try clear hcz74_6
        try clear hcz74_7
        try clear hcz75_0
        try clear hcz75_1
        try clear hcz75_2
        try clear hcz75_3
        try clear hcz75_4
        try clear hcz75_5
        try clear hcz75_6
        try clear hcz75_7
        try clear hcz77_0
        try clear hcz77_1
        try clear hcz77_2
        try clear hcz77_3
        try clear hcz77_4
        try clear hcz77_5
        try clear hcz77_6
        try clear hcz77_7
        try clear hcz81_0
        try clear hcz81_1
        try clear hcz81_2
        try clear hcz81_3
        try clear hcz81_4
        try clear hcz81_5
        try clear hcz81_6
        try clear hcz81_7
        try clear hcz83_0
        try clear hcz83_1
        try clear hcz83_2
        try clear hcz83_3
        try clear hcz83_4
        try clear hcz83_5
        try clear hcz83_6
        try clear hcz83_7
        try clear hcz87_0
        try clear hcz87_1
        try clear hcz87_2
        try clear hcz87_3
        try clear hcz87_4
        try clear hcz87_5
        try clear hcz87_6
        try clear hcz87_7
        try clear hcz89_0
        try clear hcz89_1
        try clear hcz89_2
        try clear hcz89_3
        try clear hcz89_4
        try clear hcz89_5
        try clear hcz89_6
        try clear hcz89_7
        try clear hcz92_0
        try clear hcz92_1
        try clear hcz92_2
        try clear hcz92_3
        try clear hcz92_4
        try clear hcz92_5
        try clear hcz92_6
        try clear hcz92_7
        try clear hcz94_0
        try clear hcz94_1
        try clear hcz94_2
        try clear hcz94_3
        try clear hcz94_4
        try clear hcz94_5
        try clear hcz94_6
        try clear hcz94_7
        try clear hfz47_0
        try clear hfz47_1
        try clear hfz47_2
        try clear hfz47_3
        try clear hfz47_4
        try clear hfz47_5
        try clear hfz47_6
        try clear hfz47_7
        try clear hfz50_0
        try clear hfz50_1
        try clear hfz50_2
        try clear hfz50_3
        try clear hfz50_4
        try clear hfz50_5
        try clear hfz50_6
        try clear hfz50_7
        try clear hfz51_0
        try clear hfz51_1
        try clear hfz51_2
        try clear hfz51_3
        try clear hfz51_4
        try clear hfz51_5
        try clear hfz51_6
        try clear hfz51_7
        try clear hfz53_0
        try clear hfz53_1
        try clear hfz53_2
        try clear hfz53_3
        try clear hfz53_4
        try clear hfz53_5
        try clear hfz53_6
        try clear hfz53_7
        try clear hfz57_0
        try clear hfz57_1
        try clear hfz57_2
        try clear hfz57_3
        try clear hfz57_4
        try clear hfz57_5
        try clear hfz57_6
        try clear hfz57_7
        try clear hfz59_0
        try clear hfz59_1
        try clear hfz59_2
        try clear hfz59_3
        try clear hfz59_4
        try clear hfz59_5
        try clear hfz59_6
        try clear hfz59_7
        try clear hfz62_0
        try clear hfz62_1
        try clear hfz62_2
        try clear hfz62_3
        try clear hfz62_4
        try clear hfz62_5
        try clear hfz62_6
        try clear hfz62_7
        try clear hfz64_0
        try clear hfz64_1
        try clear hfz64_2
        try clear hfz64_3
        try clear hfz64_4
        try clear hfz64_5
        try clear hfz64_6
        try clear hfz64_7
        try clear hfz71_0
        try clear hfz71_1
        try clear hfz71_2
        try clear hfz71_3
        try clear hfz71_4
        try clear hfz71_5
        try clear hfz71_6
        try clear hfz71_7
        try clear hfz74_0
        try clear hfz74_1
        try clear hfz74_2
        try clear hfz74_3
        try clear hfz74_4
        try clear hfz74_5
        try clear hfz74_6
        try clear hfz74_7
        try clear hfz75_0
        try clear hfz75_1
        try clear hfz75_2
        try clear hfz75_3
        try clear hfz75_4
        try clear hfz75_5
        try clear hfz75_6
        try clear hfz75_7
        try clear hfz77_0
        try clear hfz77_1
        try clear hfz77_2
        try clear hfz77_3
        try clear hfz77_4
        try clear hfz77_5
        try clear hfz77_6
        try clear hfz77_7
        try clear hfz81_0
        try clear hfz81_1
        try clear hfz81_2
        try clear hfz81_3
        try clear hfz81_4
        try clear hfz81_5
        try clear hfz81_6
        try clear hfz81_7
        try clear hfz83_0
        try clear hfz83_1
        try clear hfz83_2
        try clear hfz83_3
        try clear hfz83_4
        try clear hfz83_5
        try clear hfz83_6
        try clear hfz83_7
        try clear hfz87_0
        try clear hfz87_1
        try clear hfz87_2
        try clear hfz87_3
        try clear hfz87_4
        try clear hfz87_5
        try clear hfz87_6
        try clear hfz87_7
        try clear hfz89_0
        try clear hfz89_1
        try clear hfz89_2
        try clear hfz89_3
        try clear hfz89_4
        try clear hfz89_5
        try clear hfz89_6
        try clear hfz89_7
        try clear hfz92_0
        try clear hfz92_1
        try clear hfz92_2
        try clear hfz92_3
        try clear hfz92_4
        try clear hfz92_5
        try clear hfz92_6
        try clear hfz92_7
        try clear hfz94_0
        try clear hfz94_1
        try clear hfz94_2
        try clear hfz94_3
        try clear hfz94_4
        try clear hfz94_5
        try clear hfz94_6
        try clear hfz94_7
        try clear p2
        obtain ⟨kq, x111_67, rfl, HA, HJ67, BK101, BK111, BK121, HB⟩ := hcut
        cases kq with
        | zero => exact absurd HA.out (by simp [joustlaw28_ClockTells.j2])
        | succ kj67 =>
         have H := HA.out
         clear HA
         simp only [joustlaw28_ClockTells.j2] at H
         by_cases c95 : x111_67 = true
         ·
          subst c95
          have H1 : (some false) = some r := by rw [if_pos rfl] at H; exact H
          clear H
          have H := H1
          clear H1
          obtain rfl := Option.some.inj H
          go_wp2
          go_ret
          exact ⟨by first | rfl | (simp [errW_none, errW_some] <;> rfl) | (simp [*, errW_none, errW_some] <;> rfl), low HB⟩
         ·
          replace c95 := Bool.eq_false_iff.mpr c95
          subst c95
          have H1 : ((Pclk.clock_Look.f kj67 a0_0 a0_1 a0_2 a0_3 a0_4 a0_5 a0_6 a0_7 a5).bind fun bt164 => ((Pcrf.joustref28_Look.f kj67 a0_0 a0_1 a0_2 a0_3 a0_4 a0_5 a0_6 a0_7 a5).bind fun bt169 => ((Pclk.clock_When.f kj67 a0_0 a0_1 a0_2 a0_3 a0_4 a0_5 a0_6 a0_7).bind fun bt174 => ((Pcrf.joustref28_When.f kj67 a0_0 a0_1 a0_2 a0_3 a0_4 a0_5 a0_6 a0_7).bind fun bt176 => (if (bt164.1 == bt169.1 && (bt164.2.1 == bt169.2.1)) = true then (if (bt164.2.2.1 == bt169.2.2.1) = true then (if bt164.2.2.2 = bt169.2.2.2 then (if bt174.1 = bt176.1 then (if (bt174.2 == bt176.2) = true then ((clk_lives.f).bind fun t178 => (some t178)) else (some false)) else (some false)) else (some false)) else (some false)) else (some false)))))) = some r := by rw [if_neg (show ¬ (false = true) by decide)] at H; exact H
          clear H
          have H := H1
          clear H1
          replace H := Option.bind_eq_some_iff.mp H
          obtain ⟨⟨t164, t165, t166, t167⟩, A960, H⟩ := H
          replace H : ((Pcrf.joustref28_Look.f kj67 a0_0 a0_1 a0_2 a0_3 a0_4 a0_5 a0_6 a0_7 a5).bind fun bt169 => ((Pclk.clock_When.f kj67 a0_0 a0_1 a0_2 a0_3 a0_4 a0_5 a0_6 a0_7).bind fun bt174 => ((Pcrf.joustref28_When.f kj67 a0_0 a0_1 a0_2 a0_3 a0_4 a0_5 a0_6 a0_7).bind fun bt176 => (if (t164 == bt169.1 && (t165 == bt169.2.1)) = true then (if (t166 == bt169.2.2.1) = true then (if t167 = bt169.2.2.2 then (if bt174.1 = bt176.1 then (if (bt174.2 == bt176.2) = true then ((clk_lives.f).bind fun t178 => (some t178)) else (some false)) else (some false)) else (some false)) else (some false)) else (some false))))) = some r := H
          have A96 := Aside0.mk A960
          clear A960
          replace H := Option.bind_eq_some_iff.mp H
          obtain ⟨⟨t169, t170, t171, t172⟩, A970, H⟩ := H
          replace H : ((Pclk.clock_When.f kj67 a0_0 a0_1 a0_2 a0_3 a0_4 a0_5 a0_6 a0_7).bind fun bt174 => ((Pcrf.joustref28_When.f kj67 a0_0 a0_1 a0_2 a0_3 a0_4 a0_5 a0_6 a0_7).bind fun bt176 => (if (t164 == t169 && (t165 == t170)) = true then (if (t166 == t171) = true then (if t167 = t172 then (if bt174.1 = bt176.1 then (if (bt174.2 == bt176.2) = true then ((clk_lives.f).bind fun t178 => (some t178)) else (some false)) else (some false)) else (some false)) else (some false)) else (some false)))) = some r := H
          have A97 := Aside0.mk A970
          clear A970
          replace H := Option.bind_eq_some_iff.mp H
          obtain ⟨⟨t174, t175⟩, A980, H⟩ := H
          replace H : ((Pcrf.joustref28_When.f kj67 a0_0 a0_1 a0_2 a0_3 a0_4 a0_5 a0_6 a0_7).bind fun bt176 => (if (t164 == t169 && (t165 == t170)) = true then (if (t166 == t171) = true then (if t167 = t172 then (if t174 = bt176.1 then (if (t175 == bt176.2) = true then ((clk_lives.f).bind fun t178 => (some t178)) else (some false)) else (some false)) else (some false)) else (some false)) else (some false))) = some r := H
          have A98 := Aside0.mk A980
          clear A980
          replace H := Option.bind_eq_some_iff.mp H
          obtain ⟨⟨t176, t177⟩, A990, H⟩ := H
          replace H : (if (t164 == t169 && (t165 == t170)) = true then (if (t166 == t171) = true then (if t167 = t172 then (if t174 = t176 then (if (t175 == t177) = true then ((clk_lives.f).bind fun t178 => (some t178)) else (some false)) else (some false)) else (some false)) else (some false)) else (some false)) = some r := H
          have A99 := Aside0.mk A990
          clear A990
          by_cases c100 : (t164 == t169 && (t165 == t170)) = true
          ·
           rw [if_pos c100] at H
           have c100b0 : (t164 == t169 && (t165 == t170)) = true := c100
           (try (have c100b1 : decide (t164 = t169 && (t165 == t170)) = true := by simpa using c100))
           (try (have c100b2 : (t164 == t169 && (t165 == t170)) = true := by simpa using c100))
           clear c100
           by_cases c101 : (t166 == t171) = true
           ·
            rw [if_pos c101] at H
            have c101b0 : (t166 == t171) = true := c101
            (try (have c101b1 : decide (t166 = t171) = true := by simpa using c101))
            (try (have c101b2 : (t166 == t171) = true := by simpa using c101))
            clear c101
            by_cases c102 : t167 = t172
            ·
             rw [if_pos c102] at H
             have c102b0 : (t167 == t172) = true := beq_iff_eq.mpr c102
             have c102b1 : (t167 != t172) = false := bne_eq_false_iff_eq.mpr c102
             clear c102
             by_cases c103 : t174 = t176
             ·
              rw [if_pos c103] at H
              have c103b0 : (t174 == t176) = true := beq_iff_eq.mpr c103
              have c103b1 : (t174 != t176) = false := bne_eq_false_iff_eq.mpr c103
              clear c103
              by_cases c104 : (t175 == t177) = true
              ·
               rw [if_pos c104] at H
               have c104b0 : (t175 == t177) = true := c104
               (try (have c104b1 : decide (t175 = t177) = true := by simpa using c104))
               (try (have c104b2 : (t175 == t177) = true := by simpa using c104))
               clear c104
               replace H := Option.bind_eq_some_iff.mp H
               obtain ⟨t178, A1050, H⟩ := H
               replace H : (some t178) = some r := H
               have A105 := Aside0.mk A1050
               clear A1050
               obtain rfl := Option.some.inj H
               have hnb106 := NB101_111.out
               have hnc106 := NB111_101.out
               have hnb107 := NB101_121.out
               have hnc107 := NB121_101.out
               have hcz108_0 : wc.cell? ⟨gb101, 0, none⟩ = some (.int .i64 a0_0) := (blk_cell BK101.out 0).trans rfl
               have hcz108_1 : wc.cell? ⟨gb101, 1, none⟩ = some (.int .i64 a0_1) := (blk_cell BK101.out 1).trans rfl
               have hcz108_2 : wc.cell? ⟨gb101, 2, none⟩ = some (.int .i64 a0_2) := (blk_cell BK101.out 2).trans rfl
               have hcz108_3 : wc.cell? ⟨gb101, 3, none⟩ = some (.int .i64 a0_3) := (blk_cell BK101.out 3).trans rfl
               have hcz108_4 : wc.cell? ⟨gb101, 4, none⟩ = some (.int .u8 a0_4) := (blk_cell BK101.out 4).trans rfl
               have hcz108_5 : wc.cell? ⟨gb101, 5, none⟩ = some (.bool a0_5) := (blk_cell BK101.out 5).trans rfl
               have hcz108_6 : wc.cell? ⟨gb101, 6, none⟩ = some (.int .i64 a0_6) := (blk_cell BK101.out 6).trans rfl
               have hcz108_7 : wc.cell? ⟨gb101, 7, none⟩ = some (.int .u8 a0_7) := (blk_cell BK101.out 7).trans rfl
               have hfz108_0 := blk_frozen BK101.out 0
               have hfz108_1 := blk_frozen BK101.out 1
               have hfz108_2 := blk_frozen BK101.out 2
               have hfz108_3 := blk_frozen BK101.out 3
               have hfz108_4 := blk_frozen BK101.out 4
               have hfz108_5 := blk_frozen BK101.out 5
               have hfz108_6 := blk_frozen BK101.out 6
               have hfz108_7 := blk_frozen BK101.out 7
               go_wp2_with (first | ((with_reducible refine gate_callee (f := 23) rfl ?_); refine goesL_ (some 115) rfl rfl Tryd.func23 (by kernel_rfl) rfl #[.agg #[.int .i64 a0_0, .int .i64 a0_1, .int .i64 a0_2, .int .i64 a0_3, .int .u8 a0_4, .bool a0_5, .int .i64 a0_6, .int .u8 a0_7], .int .i64 a5] rfl mapx ?_; (with_reducible refine (Pclk.clock_Look.calls kj67 a0_0 a0_1 a0_2 a0_3 a0_4 a0_5 a0_6 a0_7 a5 t164 t165 t166 t167 _ A96.out).mono ?_); rintro e w109 ⟨rfl, hb⟩; refine ⟨_, rfl, ?_⟩; have n0_ := Aside0.mk (blk_below (g := gb101) (o := .cells #[.int .i64 a0_0, .int .i64 a0_1, .int .i64 a0_2, .int .i64 a0_3, .int .u8 a0_4, .bool a0_5, .int .i64 a0_6, .int .u8 a0_7] 24 (0, 0)) (ofA BK101) hb); have n1_ := Aside0.mk (blk_below (g := gb111) (o := .cells #[.int .i64 t144, .int .i64 t145, .int .i64 t146, .int .i64 t147, .int .u8 t148, .bool t149, .int .i64 t150, .int .u8 t151] 24 (0, 0)) (ofA BK111) hb); have n2_ := Aside0.mk (blk_below (g := gb121) (o := .cells #[.int .i64 t154, .int .i64 t155, .int .i64 t156, .int .i64 t157, .int .u8 t158, .bool t159, .int .i64 t160, .int .u8 t161] 24 (0, 0)) (ofA BK121) hb); have n3_ := Aside0.mk (below_step (low HB) hb); clear BK101; clear BK111; clear BK121; clear HB; have BK101 := n0_; have BK111 := n1_; have BK121 := n2_; have HB := n3_; clear n0_ n1_ n2_ n3_; (try clear hb); (try clear hb2); (try clear hk); (try clear hi)) | ((with_reducible refine gate_dst (N := 19) rfl ?_); refine box_event ?hg (N := 19) ?hd (cs := #[.int .i64 0, .int .i64 0]) (t := 22) ?hr ?_; (case hd => rfl); (case hg => rfl); (case hr => first | (go_simp; done) | (go_simp; rfl)); intro gb168 hg w110 hbox hb; have n0_ := Aside0.mk (blk_below (g := gb101) (o := .cells #[.int .i64 a0_0, .int .i64 a0_1, .int .i64 a0_2, .int .i64 a0_3, .int .u8 a0_4, .bool a0_5, .int .i64 a0_6, .int .u8 a0_7] 24 (0, 0)) (ofA BK101) hb); have n1_ := Aside0.mk (blk_below (g := gb111) (o := .cells #[.int .i64 t144, .int .i64 t145, .int .i64 t146, .int .i64 t147, .int .u8 t148, .bool t149, .int .i64 t150, .int .u8 t151] 24 (0, 0)) (ofA BK111) hb); have n2_ := Aside0.mk (blk_below (g := gb121) (o := .cells #[.int .i64 t154, .int .i64 t155, .int .i64 t156, .int .i64 t157, .int .u8 t158, .bool t159, .int .i64 t160, .int .u8 t161] 24 (0, 0)) (ofA BK121) hb); have n3_ := Aside0.mk (below_step (low HB) hb); have n4_ := Aside0.mk (hbox); have n5_ := Aside0.mk ((by rw [hg]; exact (below_size (low HB)) : w.heap.size ≤ gb168)); have n6_ := Aside0.mk ((by rw [hg]; exact (below_size (low HB)) : w.heap.size ≤ gb168)); have n7_ := Aside0.mk ((by rw [hg]; exact Nat.ne_of_lt (blk_lt (g := gb101) (o := .cells #[.int .i64 a0_0, .int .i64 a0_1, .int .i64 a0_2, .int .i64 a0_3, .int .u8 a0_4, .bool a0_5, .int .i64 a0_6, .int .u8 a0_7] 24 (0, 0)) (ofA BK101)) : gb101 ≠ gb168)); have n8_ := Aside0.mk ((by rw [hg]; exact Nat.ne_of_gt (blk_lt (g := gb101) (o := .cells #[.int .i64 a0_0, .int .i64 a0_1, .int .i64 a0_2, .int .i64 a0_3, .int .u8 a0_4, .bool a0_5, .int .i64 a0_6, .int .u8 a0_7] 24 (0, 0)) (ofA BK101)) : gb168 ≠ gb101)); have n9_ := Aside0.mk ((by rw [hg]; exact Nat.ne_of_lt (blk_lt (g := gb111) (o := .cells #[.int .i64 t144, .int .i64 t145, .int .i64 t146, .int .i64 t147, .int .u8 t148, .bool t149, .int .i64 t150, .int .u8 t151] 24 (0, 0)) (ofA BK111)) : gb111 ≠ gb168)); have n10_ := Aside0.mk ((by rw [hg]; exact Nat.ne_of_gt (blk_lt (g := gb111) (o := .cells #[.int .i64 t144, .int .i64 t145, .int .i64 t146, .int .i64 t147, .int .u8 t148, .bool t149, .int .i64 t150, .int .u8 t151] 24 (0, 0)) (ofA BK111)) : gb168 ≠ gb111)); have n11_ := Aside0.mk ((by rw [hg]; exact Nat.ne_of_lt (blk_lt (g := gb121) (o := .cells #[.int .i64 t154, .int .i64 t155, .int .i64 t156, .int .i64 t157, .int .u8 t158, .bool t159, .int .i64 t160, .int .u8 t161] 24 (0, 0)) (ofA BK121)) : gb121 ≠ gb168)); have n12_ := Aside0.mk ((by rw [hg]; exact Nat.ne_of_gt (blk_lt (g := gb121) (o := .cells #[.int .i64 t154, .int .i64 t155, .int .i64 t156, .int .i64 t157, .int .u8 t158, .bool t159, .int .i64 t160, .int .u8 t161] 24 (0, 0)) (ofA BK121)) : gb168 ≠ gb121)); clear BK101; clear BK111; clear BK121; clear HB; have BK101 := n0_; have BK111 := n1_; have BK121 := n2_; have HB := n3_; have BK168 := n4_; have GW168 := n5_; have GE168 := n6_; have NB101_168 := n7_; have NB168_101 := n8_; have NB111_168 := n9_; have NB168_111 := n10_; have NB121_168 := n11_; have NB168_121 := n12_; clear n0_ n1_ n2_ n3_ n4_ n5_ n6_ n7_ n8_ n9_ n10_ n11_ n12_; clear hb hbox hg; have hnb111 := NB168_101.out; have hnc111 := NB101_168.out; have hnb112 := NB168_111.out; have hnc112 := NB111_168.out; have hnb113 := NB168_121.out; have hnc113 := NB121_168.out; obtain ⟨hcz114_0, hcz114_1, hfz114_0, hfz114_1⟩ := cells2 BK168.out; obtain ⟨hcz115_0, hcz115_1, hcz115_2, hcz115_3, hcz115_4, hcz115_5, hcz115_6, hcz115_7, hfz115_0, hfz115_1, hfz115_2, hfz115_3, hfz115_4, hfz115_5, hfz115_6, hfz115_7⟩ := cells8 BK101.out) | ((with_reducible refine gate_callee (f := 24) rfl ?_); refine goesL_ (some 122) rfl rfl Tryd.func24 (by kernel_rfl) rfl #[.agg #[.int .i64 a0_0, .int .i64 a0_1, .int .i64 a0_2, .int .i64 a0_3, .int .u8 a0_4, .bool a0_5, .int .i64 a0_6, .int .u8 a0_7], .int .i64 a5] rfl mapx ?_; (with_reducible refine (Pcrf.joustref28_Look.calls kj67 a0_0 a0_1 a0_2 a0_3 a0_4 a0_5 a0_6 a0_7 a5 t169 t170 t171 t172 _ A97.out).mono ?_); rintro e w116 ⟨rfl, hb⟩; refine ⟨_, rfl, ?_⟩; have n0_ := Aside0.mk (blk_below (g := gb101) (o := .cells #[.int .i64 a0_0, .int .i64 a0_1, .int .i64 a0_2, .int .i64 a0_3, .int .u8 a0_4, .bool a0_5, .int .i64 a0_6, .int .u8 a0_7] 24 (0, 0)) (by (with_reducible repeat (first | refine bN ?_ _ | refine bD ?_ | refine bA ?_ _)); (iterate 2 refine blk_far ?_ NB101_168.out _); exact ofA BK101) hb); have n1_ := Aside0.mk (blk_below (g := gb111) (o := .cells #[.int .i64 t144, .int .i64 t145, .int .i64 t146, .int .i64 t147, .int .u8 t148, .bool t149, .int .i64 t150, .int .u8 t151] 24 (0, 0)) (by (with_reducible repeat (first | refine bN ?_ _ | refine bD ?_ | refine bA ?_ _)); (iterate 2 refine blk_far ?_ NB111_168.out _); exact ofA BK111) hb); have n2_ := Aside0.mk (blk_below (g := gb121) (o := .cells #[.int .i64 t154, .int .i64 t155, .int .i64 t156, .int .i64 t157, .int .u8 t158, .bool t159, .int .i64 t160, .int .u8 t161] 24 (0, 0)) (by (with_reducible repeat (first | refine bN ?_ _ | refine bD ?_ | refine bA ?_ _)); (iterate 2 refine blk_far ?_ NB121_168.out _); exact ofA BK121) hb); have n3_ := Aside0.mk (blk_below (g := gb168) (o := .cells #[.int .i64 t164, .int .i64 t165] 22 (0, 0)) (by (with_reducible repeat (first | refine bN ?_ _ | refine bD ?_ | refine bA ?_ _)); refine blk_put (cs := #[.int .i64 t164, .int .i64 0]) ?_ 1 _ rfl; refine blk_put (cs := #[.int .i64 0, .int .i64 0]) ?_ 0 _ rfl; exact ofA BK168) hb); have n4_ := Aside0.mk (below_step (low HB) hb); clear BK101; clear BK111; clear BK121; clear BK168; clear HB; have BK101 := n0_; have BK111 := n1_; have BK121 := n2_; have BK168 := n3_; have HB := n4_; clear n0_ n1_ n2_ n3_ n4_; (try clear hb); (try clear hb2); (try clear hk); (try clear hi)) | ((with_reducible refine gate_dst (N := 20) rfl ?_); refine box_event ?hg (N := 20) ?hd (cs := #[.int .i64 0, .int .i64 0]) (t := 22) ?hr ?_; (case hd => rfl); (case hg => rfl); (case hr => first | (go_simp; done) | (go_simp; rfl)); intro gb173 hg w117 hbox hb; have n0_ := Aside0.mk (blk_below (g := gb101) (o := .cells #[.int .i64 a0_0, .int .i64 a0_1, .int .i64 a0_2, .int .i64 a0_3, .int .u8 a0_4, .bool a0_5, .int .i64 a0_6, .int .u8 a0_7] 24 (0, 0)) (ofA BK101) hb); have n1_ := Aside0.mk (blk_below (g := gb111) (o := .cells #[.int .i64 t144, .int .i64 t145, .int .i64 t146, .int .i64 t147, .int .u8 t148, .bool t149, .int .i64 t150, .int .u8 t151] 24 (0, 0)) (ofA BK111) hb); have n2_ := Aside0.mk (blk_below (g := gb121) (o := .cells #[.int .i64 t154, .int .i64 t155, .int .i64 t156, .int .i64 t157, .int .u8 t158, .bool t159, .int .i64 t160, .int .u8 t161] 24 (0, 0)) (ofA BK121) hb); have n3_ := Aside0.mk (blk_below (g := gb168) (o := .cells #[.int .i64 t164, .int .i64 t165] 22 (0, 0)) (ofA BK168) hb); have n4_ := Aside0.mk (below_step (low HB) hb); have n5_ := Aside0.mk (hbox); have n6_ := Aside0.mk ((by rw [hg]; exact (below_size (low HB)) : w.heap.size ≤ gb173)); have n7_ := Aside0.mk ((by rw [hg]; exact (below_size (low HB)) : w.heap.size ≤ gb173)); have n8_ := Aside0.mk ((by rw [hg]; exact Nat.ne_of_lt (blk_lt (g := gb101) (o := .cells #[.int .i64 a0_0, .int .i64 a0_1, .int .i64 a0_2, .int .i64 a0_3, .int .u8 a0_4, .bool a0_5, .int .i64 a0_6, .int .u8 a0_7] 24 (0, 0)) (ofA BK101)) : gb101 ≠ gb173)); have n9_ := Aside0.mk ((by rw [hg]; exact Nat.ne_of_gt (blk_lt (g := gb101) (o := .cells #[.int .i64 a0_0, .int .i64 a0_1, .int .i64 a0_2, .int .i64 a0_3, .int .u8 a0_4, .bool a0_5, .int .i64 a0_6, .int .u8 a0_7] 24 (0, 0)) (ofA BK101)) : gb173 ≠ gb101)); have n10_ := Aside0.mk ((by rw [hg]; exact Nat.ne_of_lt (blk_lt (g := gb111) (o := .cells #[.int .i64 t144, .int .i64 t145, .int .i64 t146, .int .i64 t147, .int .u8 t148, .bool t149, .int .i64 t150, .int .u8 t151] 24 (0, 0)) (ofA BK111)) : gb111 ≠ gb173)); have n11_ := Aside0.mk ((by rw [hg]; exact Nat.ne_of_gt (blk_lt (g := gb111) (o := .cells #[.int .i64 t144, .int .i64 t145, .int .i64 t146, .int .i64 t147, .int .u8 t148, .bool t149, .int .i64 t150, .int .u8 t151] 24 (0, 0)) (ofA BK111)) : gb173 ≠ gb111)); have n12_ := Aside0.mk ((by rw [hg]; exact Nat.ne_of_lt (blk_lt (g := gb121) (o := .cells #[.int .i64 t154, .int .i64 t155, .int .i64 t156, .int .i64 t157, .int .u8 t158, .bool t159, .int .i64 t160, .int .u8 t161] 24 (0, 0)) (ofA BK121)) : gb121 ≠ gb173)); have n13_ := Aside0.mk ((by rw [hg]; exact Nat.ne_of_gt (blk_lt (g := gb121) (o := .cells #[.int .i64 t154, .int .i64 t155, .int .i64 t156, .int .i64 t157, .int .u8 t158, .bool t159, .int .i64 t160, .int .u8 t161] 24 (0, 0)) (ofA BK121)) : gb173 ≠ gb121)); have n14_ := Aside0.mk ((by rw [hg]; exact Nat.ne_of_lt (blk_lt (g := gb168) (o := .cells #[.int .i64 t164, .int .i64 t165] 22 (0, 0)) (ofA BK168)) : gb168 ≠ gb173)); have n15_ := Aside0.mk ((by rw [hg]; exact Nat.ne_of_gt (blk_lt (g := gb168) (o := .cells #[.int .i64 t164, .int .i64 t165] 22 (0, 0)) (ofA BK168)) : gb173 ≠ gb168)); clear BK101; clear BK111; clear BK121; clear BK168; clear HB; have BK101 := n0_; have BK111 := n1_; have BK121 := n2_; have BK168 := n3_; have HB := n4_; have BK173 := n5_; have GW173 := n6_; have GE173 := n7_; have NB101_173 := n8_; have NB173_101 := n9_; have NB111_173 := n10_; have NB173_111 := n11_; have NB121_173 := n12_; have NB173_121 := n13_; have NB168_173 := n14_; have NB173_168 := n15_; clear n0_ n1_ n2_ n3_ n4_ n5_ n6_ n7_ n8_ n9_ n10_ n11_ n12_ n13_ n14_ n15_; clear hb hbox hg; have hnb118 := NB173_101.out; have hnc118 := NB101_173.out; have hnb119 := NB173_111.out; have hnc119 := NB111_173.out; have hnb120 := NB173_121.out; have hnc120 := NB121_173.out; have hnb121 := NB173_168.out; have hnc121 := NB168_173.out; obtain ⟨hcz122_0, hcz122_1, hfz122_0, hfz122_1⟩ := cells2 BK173.out; obtain ⟨hcz123_0, hcz123_1, hcz123_2, hcz123_3, hcz123_4, hcz123_5, hcz123_6, hcz123_7, hfz123_0, hfz123_1, hfz123_2, hfz123_3, hfz123_4, hfz123_5, hfz123_6, hfz123_7⟩ := cells8 BK101.out) | ((with_reducible refine gate_callee (f := 25) rfl ?_); refine goesL_ (some 128) rfl rfl Tryd.func25 (by kernel_rfl) rfl #[.agg #[.int .i64 a0_0, .int .i64 a0_1, .int .i64 a0_2, .int .i64 a0_3, .int .u8 a0_4, .bool a0_5, .int .i64 a0_6, .int .u8 a0_7]] rfl mapx ?_; (with_reducible refine (Pclk.clock_When.calls kj67 a0_0 a0_1 a0_2 a0_3 a0_4 a0_5 a0_6 a0_7 t174 t175 _ A98.out).mono ?_); rintro e w124 ⟨rfl, hb⟩; refine ⟨_, rfl, ?_⟩; have n0_ := Aside0.mk (blk_below (g := gb101) (o := .cells #[.int .i64 a0_0, .int .i64 a0_1, .int .i64 a0_2, .int .i64 a0_3, .int .u8 a0_4, .bool a0_5, .int .i64 a0_6, .int .u8 a0_7] 24 (0, 0)) (by (with_reducible repeat (first | refine bN ?_ _ | refine bD ?_ | refine bA ?_ _)); (iterate 2 refine blk_far ?_ NB101_173.out _); exact ofA BK101) hb); have n1_ := Aside0.mk (blk_below (g := gb111) (o := .cells #[.int .i64 t144, .int .i64 t145, .int .i64 t146, .int .i64 t147, .int .u8 t148, .bool t149, .int .i64 t150, .int .u8 t151] 24 (0, 0)) (by (with_reducible repeat (first | refine bN ?_ _ | refine bD ?_ | refine bA ?_ _)); (iterate 2 refine blk_far ?_ NB111_173.out _); exact ofA BK111) hb); have n2_ := Aside0.mk (blk_below (g := gb121) (o := .cells #[.int .i64 t154, .int .i64 t155, .int .i64 t156, .int .i64 t157, .int .u8 t158, .bool t159, .int .i64 t160, .int .u8 t161] 24 (0, 0)) (by (with_reducible repeat (first | refine bN ?_ _ | refine bD ?_ | refine bA ?_ _)); (iterate 2 refine blk_far ?_ NB121_173.out _); exact ofA BK121) hb); have n3_ := Aside0.mk (blk_below (g := gb168) (o := .cells #[.int .i64 t164, .int .i64 t165] 22 (0, 0)) (by (with_reducible repeat (first | refine bN ?_ _ | refine bD ?_ | refine bA ?_ _)); (iterate 2 refine blk_far ?_ NB168_173.out _); exact ofA BK168) hb); have n4_ := Aside0.mk (blk_below (g := gb173) (o := .cells #[.int .i64 t169, .int .i64 t170] 22 (0, 0)) (by (with_reducible repeat (first | refine bN ?_ _ | refine bD ?_ | refine bA ?_ _)); refine blk_put (cs := #[.int .i64 t169, .int .i64 0]) ?_ 1 _ rfl; refine blk_put (cs := #[.int .i64 0, .int .i64 0]) ?_ 0 _ rfl; exact ofA BK173) hb); have n5_ := Aside0.mk (below_step (low HB) hb); clear BK101; clear BK111; clear BK121; clear BK168; clear BK173; clear HB; have BK101 := n0_; have BK111 := n1_; have BK121 := n2_; have BK168 := n3_; have BK173 := n4_; have HB := n5_; clear n0_ n1_ n2_ n3_ n4_ n5_; (try clear hb); (try clear hb2); (try clear hk); (try clear hi); obtain ⟨hcz125_0, hcz125_1, hcz125_2, hcz125_3, hcz125_4, hcz125_5, hcz125_6, hcz125_7, hfz125_0, hfz125_1, hfz125_2, hfz125_3, hfz125_4, hfz125_5, hfz125_6, hfz125_7⟩ := cells8 BK101.out) | ((with_reducible refine gate_callee (f := 26) rfl ?_); refine goesL_ (some 133) rfl rfl Tryd.func26 (by kernel_rfl) rfl #[.agg #[.int .i64 a0_0, .int .i64 a0_1, .int .i64 a0_2, .int .i64 a0_3, .int .u8 a0_4, .bool a0_5, .int .i64 a0_6, .int .u8 a0_7]] rfl mapx ?_; (with_reducible refine (Pcrf.joustref28_When.calls kj67 a0_0 a0_1 a0_2 a0_3 a0_4 a0_5 a0_6 a0_7 t176 t177 _ A99.out).mono ?_); rintro e w126 ⟨rfl, hb⟩; refine ⟨_, rfl, ?_⟩; have n0_ := Aside0.mk (blk_below (g := gb101) (o := .cells #[.int .i64 a0_0, .int .i64 a0_1, .int .i64 a0_2, .int .i64 a0_3, .int .u8 a0_4, .bool a0_5, .int .i64 a0_6, .int .u8 a0_7] 24 (0, 0)) (ofA BK101) hb); have n1_ := Aside0.mk (blk_below (g := gb111) (o := .cells #[.int .i64 t144, .int .i64 t145, .int .i64 t146, .int .i64 t147, .int .u8 t148, .bool t149, .int .i64 t150, .int .u8 t151] 24 (0, 0)) (ofA BK111) hb); have n2_ := Aside0.mk (blk_below (g := gb121) (o := .cells #[.int .i64 t154, .int .i64 t155, .int .i64 t156, .int .i64 t157, .int .u8 t158, .bool t159, .int .i64 t160, .int .u8 t161] 24 (0, 0)) (ofA BK121) hb); have n3_ := Aside0.mk (blk_below (g := gb168) (o := .cells #[.int .i64 t164, .int .i64 t165] 22 (0, 0)) (ofA BK168) hb); have n4_ := Aside0.mk (blk_below (g := gb173) (o := .cells #[.int .i64 t169, .int .i64 t170] 22 (0, 0)) (ofA BK173) hb); have n5_ := Aside0.mk (below_step (low HB) hb); clear BK101; clear BK111; clear BK121; clear BK168; clear BK173; clear HB; have BK101 := n0_; have BK111 := n1_; have BK121 := n2_; have BK168 := n3_; have BK173 := n4_; have HB := n5_; clear n0_ n1_ n2_ n3_ n4_ n5_; (try clear hb); (try clear hb2); (try clear hk); (try clear hi); obtain ⟨hcz127_0, hcz127_1, hfz127_0, hfz127_1⟩ := cells2 BK168.out; obtain ⟨hcz128_0, hcz128_1, hfz128_0, hfz128_1⟩ := cells2 BK173.out) | (go_at_call 27; (with_reducible refine (clk_lives.calls  t178 _ ?side1 A105.out).mono ?_); (case side1 => repeat (first | exact (GoodW.below HGW.out (low HB)) | (with_reducible refine GoodW.alloc ?_ _) | (with_reducible refine GoodW.drewN ?_ _) | (with_reducible refine GoodW.drew ?_))); rintro e w129 ⟨rfl, hb⟩; have n0_ := Aside0.mk (blk_below (g := gb101) (o := .cells #[.int .i64 a0_0, .int .i64 a0_1, .int .i64 a0_2, .int .i64 a0_3, .int .u8 a0_4, .bool a0_5, .int .i64 a0_6, .int .u8 a0_7] 24 (0, 0)) (ofA BK101) hb); have n1_ := Aside0.mk (blk_below (g := gb111) (o := .cells #[.int .i64 t144, .int .i64 t145, .int .i64 t146, .int .i64 t147, .int .u8 t148, .bool t149, .int .i64 t150, .int .u8 t151] 24 (0, 0)) (ofA BK111) hb); have n2_ := Aside0.mk (blk_below (g := gb121) (o := .cells #[.int .i64 t154, .int .i64 t155, .int .i64 t156, .int .i64 t157, .int .u8 t158, .bool t159, .int .i64 t160, .int .u8 t161] 24 (0, 0)) (ofA BK121) hb); have n3_ := Aside0.mk (blk_below (g := gb168) (o := .cells #[.int .i64 t164, .int .i64 t165] 22 (0, 0)) (ofA BK168) hb); have n4_ := Aside0.mk (blk_below (g := gb173) (o := .cells #[.int .i64 t169, .int .i64 t170] 22 (0, 0)) (ofA BK173) hb); have n5_ := Aside0.mk (below_step (low HB) hb); clear BK101; clear BK111; clear BK121; clear BK168; clear BK173; clear HB; have BK101 := n0_; have BK111 := n1_; have BK121 := n2_; have BK168 := n3_; have BK173 := n4_; have HB := n5_; clear n0_ n1_ n2_ n3_ n4_ n5_; (try clear hb); (try clear hb2); (try clear hk); (try clear hi)))
               go_ret
               exact ⟨by first | rfl | (simp [errW_none, errW_some] <;> rfl) | (simp [*, errW_none, errW_some] <;> rfl), low HB⟩
              ·
               rw [if_neg c104] at H
               have c104b0 : (t175 == t177) = false := by simpa using c104
               (try (have c104b1 : decide (t175 = t177) = false := by simpa using c104))
               (try (have c104b2 : (t175 == t177) = false := by simpa using c104))
               (try (have c104b3 : ¬ (t175 = t177) := by simpa using c104))
               clear c104
               obtain rfl := Option.some.inj H
               have hnb130 := NB101_111.out
               have hnc130 := NB111_101.out
               have hnb131 := NB101_121.out
               have hnc131 := NB121_101.out
               have hcz132_0 : wc.cell? ⟨gb101, 0, none⟩ = some (.int .i64 a0_0) := (blk_cell BK101.out 0).trans rfl
               have hcz132_1 : wc.cell? ⟨gb101, 1, none⟩ = some (.int .i64 a0_1) := (blk_cell BK101.out 1).trans rfl
               have hcz132_2 : wc.cell? ⟨gb101, 2, none⟩ = some (.int .i64 a0_2) := (blk_cell BK101.out 2).trans rfl
               have hcz132_3 : wc.cell? ⟨gb101, 3, none⟩ = some (.int .i64 a0_3) := (blk_cell BK101.out 3).trans rfl
               have hcz132_4 : wc.cell? ⟨gb101, 4, none⟩ = some (.int .u8 a0_4) := (blk_cell BK101.out 4).trans rfl
               have hcz132_5 : wc.cell? ⟨gb101, 5, none⟩ = some (.bool a0_5) := (blk_cell BK101.out 5).trans rfl
               have hcz132_6 : wc.cell? ⟨gb101, 6, none⟩ = some (.int .i64 a0_6) := (blk_cell BK101.out 6).trans rfl
               have hcz132_7 : wc.cell? ⟨gb101, 7, none⟩ = some (.int .u8 a0_7) := (blk_cell BK101.out 7).trans rfl
               have hfz132_0 := blk_frozen BK101.out 0
               have hfz132_1 := blk_frozen BK101.out 1
               have hfz132_2 := blk_frozen BK101.out 2
               have hfz132_3 := blk_frozen BK101.out 3
               have hfz132_4 := blk_frozen BK101.out 4
               have hfz132_5 := blk_frozen BK101.out 5
               have hfz132_6 := blk_frozen BK101.out 6
               have hfz132_7 := blk_frozen BK101.out 7
               go_wp2_with (first | ((with_reducible refine gate_callee (f := 23) rfl ?_); refine goesL_ (some 115) rfl rfl Tryd.func23 (by kernel_rfl) rfl #[.agg #[.int .i64 a0_0, .int .i64 a0_1, .int .i64 a0_2, .int .i64 a0_3, .int .u8 a0_4, .bool a0_5, .int .i64 a0_6, .int .u8 a0_7], .int .i64 a5] rfl mapx ?_; (with_reducible refine (Pclk.clock_Look.calls kj67 a0_0 a0_1 a0_2 a0_3 a0_4 a0_5 a0_6 a0_7 a5 t164 t165 t166 t167 _ A96.out).mono ?_); rintro e w133 ⟨rfl, hb⟩; refine ⟨_, rfl, ?_⟩; have n0_ := Aside0.mk (blk_below (g := gb101) (o := .cells #[.int .i64 a0_0, .int .i64 a0_1, .int .i64 a0_2, .int .i64 a0_3, .int .u8 a0_4, .bool a0_5, .int .i64 a0_6, .int .u8 a0_7] 24 (0, 0)) (ofA BK101) hb); have n1_ := Aside0.mk (blk_below (g := gb111) (o := .cells #[.int .i64 t144, .int .i64 t145, .int .i64 t146, .int .i64 t147, .int .u8 t148, .bool t149, .int .i64 t150, .int .u8 t151] 24 (0, 0)) (ofA BK111) hb); have n2_ := Aside0.mk (blk_below (g := gb121) (o := .cells #[.int .i64 t154, .int .i64 t155, .int .i64 t156, .int .i64 t157, .int .u8 t158, .bool t159, .int .i64 t160, .int .u8 t161] 24 (0, 0)) (ofA BK121) hb); have n3_ := Aside0.mk (below_step (low HB) hb); clear BK101; clear BK111; clear BK121; clear HB; have BK101 := n0_; have BK111 := n1_; have BK121 := n2_; have HB := n3_; clear n0_ n1_ n2_ n3_; (try clear hb); (try clear hb2); (try clear hk); (try clear hi)) | ((with_reducible refine gate_dst (N := 19) rfl ?_); refine box_event ?hg (N := 19) ?hd (cs := #[.int .i64 0, .int .i64 0]) (t := 22) ?hr ?_; (case hd => rfl); (case hg => rfl); (case hr => first | (go_simp; done) | (go_simp; rfl)); intro gb168 hg w134 hbox hb; have n0_ := Aside0.mk (blk_below (g := gb101) (o := .cells #[.int .i64 a0_0, .int .i64 a0_1, .int .i64 a0_2, .int .i64 a0_3, .int .u8 a0_4, .bool a0_5, .int .i64 a0_6, .int .u8 a0_7] 24 (0, 0)) (ofA BK101) hb); have n1_ := Aside0.mk (blk_below (g := gb111) (o := .cells #[.int .i64 t144, .int .i64 t145, .int .i64 t146, .int .i64 t147, .int .u8 t148, .bool t149, .int .i64 t150, .int .u8 t151] 24 (0, 0)) (ofA BK111) hb); have n2_ := Aside0.mk (blk_below (g := gb121) (o := .cells #[.int .i64 t154, .int .i64 t155, .int .i64 t156, .int .i64 t157, .int .u8 t158, .bool t159, .int .i64 t160, .int .u8 t161] 24 (0, 0)) (ofA BK121) hb); have n3_ := Aside0.mk (below_step (low HB) hb); have n4_ := Aside0.mk (hbox); have n5_ := Aside0.mk ((by rw [hg]; exact (below_size (low HB)) : w.heap.size ≤ gb168)); have n6_ := Aside0.mk ((by rw [hg]; exact (below_size (low HB)) : w.heap.size ≤ gb168)); have n7_ := Aside0.mk ((by rw [hg]; exact Nat.ne_of_lt (blk_lt (g := gb101) (o := .cells #[.int .i64 a0_0, .int .i64 a0_1, .int .i64 a0_2, .int .i64 a0_3, .int .u8 a0_4, .bool a0_5, .int .i64 a0_6, .int .u8 a0_7] 24 (0, 0)) (ofA BK101)) : gb101 ≠ gb168)); have n8_ := Aside0.mk ((by rw [hg]; exact Nat.ne_of_gt (blk_lt (g := gb101) (o := .cells #[.int .i64 a0_0, .int .i64 a0_1, .int .i64 a0_2, .int .i64 a0_3, .int .u8 a0_4, .bool a0_5, .int .i64 a0_6, .int .u8 a0_7] 24 (0, 0)) (ofA BK101)) : gb168 ≠ gb101)); have n9_ := Aside0.mk ((by rw [hg]; exact Nat.ne_of_lt (blk_lt (g := gb111) (o := .cells #[.int .i64 t144, .int .i64 t145, .int .i64 t146, .int .i64 t147, .int .u8 t148, .bool t149, .int .i64 t150, .int .u8 t151] 24 (0, 0)) (ofA BK111)) : gb111 ≠ gb168)); have n10_ := Aside0.mk ((by rw [hg]; exact Nat.ne_of_gt (blk_lt (g := gb111) (o := .cells #[.int .i64 t144, .int .i64 t145, .int .i64 t146, .int .i64 t147, .int .u8 t148, .bool t149, .int .i64 t150, .int .u8 t151] 24 (0, 0)) (ofA BK111)) : gb168 ≠ gb111)); have n11_ := Aside0.mk ((by rw [hg]; exact Nat.ne_of_lt (blk_lt (g := gb121) (o := .cells #[.int .i64 t154, .int .i64 t155, .int .i64 t156, .int .i64 t157, .int .u8 t158, .bool t159, .int .i64 t160, .int .u8 t161] 24 (0, 0)) (ofA BK121)) : gb121 ≠ gb168)); have n12_ := Aside0.mk ((by rw [hg]; exact Nat.ne_of_gt (blk_lt (g := gb121) (o := .cells #[.int .i64 t154, .int .i64 t155, .int .i64 t156, .int .i64 t157, .int .u8 t158, .bool t159, .int .i64 t160, .int .u8 t161] 24 (0, 0)) (ofA BK121)) : gb168 ≠ gb121)); clear BK101; clear BK111; clear BK121; clear HB; have BK101 := n0_; have BK111 := n1_; have BK121 := n2_; have HB := n3_; have BK168 := n4_; have GW168 := n5_; have GE168 := n6_; have NB101_168 := n7_; have NB168_101 := n8_; have NB111_168 := n9_; have NB168_111 := n10_; have NB121_168 := n11_; have NB168_121 := n12_; clear n0_ n1_ n2_ n3_ n4_ n5_ n6_ n7_ n8_ n9_ n10_ n11_ n12_; clear hb hbox hg; have hnb135 := NB168_101.out; have hnc135 := NB101_168.out; have hnb136 := NB168_111.out; have hnc136 := NB111_168.out; have hnb137 := NB168_121.out; have hnc137 := NB121_168.out; obtain ⟨hcz138_0, hcz138_1, hfz138_0, hfz138_1⟩ := cells2 BK168.out; obtain ⟨hcz139_0, hcz139_1, hcz139_2, hcz139_3, hcz139_4, hcz139_5, hcz139_6, hcz139_7, hfz139_0, hfz139_1, hfz139_2, hfz139_3, hfz139_4, hfz139_5, hfz139_6, hfz139_7⟩ := cells8 BK101.out) | ((with_reducible refine gate_callee (f := 24) rfl ?_); refine goesL_ (some 122) rfl rfl Tryd.func24 (by kernel_rfl) rfl #[.agg #[.int .i64 a0_0, .int .i64 a0_1, .int .i64 a0_2, .int .i64 a0_3, .int .u8 a0_4, .bool a0_5, .int .i64 a0_6, .int .u8 a0_7], .int .i64 a5] rfl mapx ?_; (with_reducible refine (Pcrf.joustref28_Look.calls kj67 a0_0 a0_1 a0_2 a0_3 a0_4 a0_5 a0_6 a0_7 a5 t169 t170 t171 t172 _ A97.out).mono ?_); rintro e w140 ⟨rfl, hb⟩; refine ⟨_, rfl, ?_⟩; have n0_ := Aside0.mk (blk_below (g := gb101) (o := .cells #[.int .i64 a0_0, .int .i64 a0_1, .int .i64 a0_2, .int .i64 a0_3, .int .u8 a0_4, .bool a0_5, .int .i64 a0_6, .int .u8 a0_7] 24 (0, 0)) (by (with_reducible repeat (first | refine bN ?_ _ | refine bD ?_ | refine bA ?_ _)); (iterate 2 refine blk_far ?_ NB101_168.out _); exact ofA BK101) hb); have n1_ := Aside0.mk (blk_below (g := gb111) (o := .cells #[.int .i64 t144, .int .i64 t145, .int .i64 t146, .int .i64 t147, .int .u8 t148, .bool t149, .int .i64 t150, .int .u8 t151] 24 (0, 0)) (by (with_reducible repeat (first | refine bN ?_ _ | refine bD ?_ | refine bA ?_ _)); (iterate 2 refine blk_far ?_ NB111_168.out _); exact ofA BK111) hb); have n2_ := Aside0.mk (blk_below (g := gb121) (o := .cells #[.int .i64 t154, .int .i64 t155, .int .i64 t156, .int .i64 t157, .int .u8 t158, .bool t159, .int .i64 t160, .int .u8 t161] 24 (0, 0)) (by (with_reducible repeat (first | refine bN ?_ _ | refine bD ?_ | refine bA ?_ _)); (iterate 2 refine blk_far ?_ NB121_168.out _); exact ofA BK121) hb); have n3_ := Aside0.mk (blk_below (g := gb168) (o := .cells #[.int .i64 t164, .int .i64 t165] 22 (0, 0)) (by (with_reducible repeat (first | refine bN ?_ _ | refine bD ?_ | refine bA ?_ _)); refine blk_put (cs := #[.int .i64 t164, .int .i64 0]) ?_ 1 _ rfl; refine blk_put (cs := #[.int .i64 0, .int .i64 0]) ?_ 0 _ rfl; exact ofA BK168) hb); have n4_ := Aside0.mk (below_step (low HB) hb); clear BK101; clear BK111; clear BK121; clear BK168; clear HB; have BK101 := n0_; have BK111 := n1_; have BK121 := n2_; have BK168 := n3_; have HB := n4_; clear n0_ n1_ n2_ n3_ n4_; (try clear hb); (try clear hb2); (try clear hk); (try clear hi)) | ((with_reducible refine gate_dst (N := 20) rfl ?_); refine box_event ?hg (N := 20) ?hd (cs := #[.int .i64 0, .int .i64 0]) (t := 22) ?hr ?_; (case hd => rfl); (case hg => rfl); (case hr => first | (go_simp; done) | (go_simp; rfl)); intro gb173 hg w141 hbox hb; have n0_ := Aside0.mk (blk_below (g := gb101) (o := .cells #[.int .i64 a0_0, .int .i64 a0_1, .int .i64 a0_2, .int .i64 a0_3, .int .u8 a0_4, .bool a0_5, .int .i64 a0_6, .int .u8 a0_7] 24 (0, 0)) (ofA BK101) hb); have n1_ := Aside0.mk (blk_below (g := gb111) (o := .cells #[.int .i64 t144, .int .i64 t145, .int .i64 t146, .int .i64 t147, .int .u8 t148, .bool t149, .int .i64 t150, .int .u8 t151] 24 (0, 0)) (ofA BK111) hb); have n2_ := Aside0.mk (blk_below (g := gb121) (o := .cells #[.int .i64 t154, .int .i64 t155, .int .i64 t156, .int .i64 t157, .int .u8 t158, .bool t159, .int .i64 t160, .int .u8 t161] 24 (0, 0)) (ofA BK121) hb); have n3_ := Aside0.mk (blk_below (g := gb168) (o := .cells #[.int .i64 t164, .int .i64 t165] 22 (0, 0)) (ofA BK168) hb); have n4_ := Aside0.mk (below_step (low HB) hb); have n5_ := Aside0.mk (hbox); have n6_ := Aside0.mk ((by rw [hg]; exact (below_size (low HB)) : w.heap.size ≤ gb173)); have n7_ := Aside0.mk ((by rw [hg]; exact (below_size (low HB)) : w.heap.size ≤ gb173)); have n8_ := Aside0.mk ((by rw [hg]; exact Nat.ne_of_lt (blk_lt (g := gb101) (o := .cells #[.int .i64 a0_0, .int .i64 a0_1, .int .i64 a0_2, .int .i64 a0_3, .int .u8 a0_4, .bool a0_5, .int .i64 a0_6, .int .u8 a0_7] 24 (0, 0)) (ofA BK101)) : gb101 ≠ gb173)); have n9_ := Aside0.mk ((by rw [hg]; exact Nat.ne_of_gt (blk_lt (g := gb101) (o := .cells #[.int .i64 a0_0, .int .i64 a0_1, .int .i64 a0_2, .int .i64 a0_3, .int .u8 a0_4, .bool a0_5, .int .i64 a0_6, .int .u8 a0_7] 24 (0, 0)) (ofA BK101)) : gb173 ≠ gb101)); have n10_ := Aside0.mk ((by rw [hg]; exact Nat.ne_of_lt (blk_lt (g := gb111) (o := .cells #[.int .i64 t144, .int .i64 t145, .int .i64 t146, .int .i64 t147, .int .u8 t148, .bool t149, .int .i64 t150, .int .u8 t151] 24 (0, 0)) (ofA BK111)) : gb111 ≠ gb173)); have n11_ := Aside0.mk ((by rw [hg]; exact Nat.ne_of_gt (blk_lt (g := gb111) (o := .cells #[.int .i64 t144, .int .i64 t145, .int .i64 t146, .int .i64 t147, .int .u8 t148, .bool t149, .int .i64 t150, .int .u8 t151] 24 (0, 0)) (ofA BK111)) : gb173 ≠ gb111)); have n12_ := Aside0.mk ((by rw [hg]; exact Nat.ne_of_lt (blk_lt (g := gb121) (o := .cells #[.int .i64 t154, .int .i64 t155, .int .i64 t156, .int .i64 t157, .int .u8 t158, .bool t159, .int .i64 t160, .int .u8 t161] 24 (0, 0)) (ofA BK121)) : gb121 ≠ gb173)); have n13_ := Aside0.mk ((by rw [hg]; exact Nat.ne_of_gt (blk_lt (g := gb121) (o := .cells #[.int .i64 t154, .int .i64 t155, .int .i64 t156, .int .i64 t157, .int .u8 t158, .bool t159, .int .i64 t160, .int .u8 t161] 24 (0, 0)) (ofA BK121)) : gb173 ≠ gb121)); have n14_ := Aside0.mk ((by rw [hg]; exact Nat.ne_of_lt (blk_lt (g := gb168) (o := .cells #[.int .i64 t164, .int .i64 t165] 22 (0, 0)) (ofA BK168)) : gb168 ≠ gb173)); have n15_ := Aside0.mk ((by rw [hg]; exact Nat.ne_of_gt (blk_lt (g := gb168) (o := .cells #[.int .i64 t164, .int .i64 t165] 22 (0, 0)) (ofA BK168)) : gb173 ≠ gb168)); clear BK101; clear BK111; clear BK121; clear BK168; clear HB; have BK101 := n0_; have BK111 := n1_; have BK121 := n2_; have BK168 := n3_; have HB := n4_; have BK173 := n5_; have GW173 := n6_; have GE173 := n7_; have NB101_173 := n8_; have NB173_101 := n9_; have NB111_173 := n10_; have NB173_111 := n11_; have NB121_173 := n12_; have NB173_121 := n13_; have NB168_173 := n14_; have NB173_168 := n15_; clear n0_ n1_ n2_ n3_ n4_ n5_ n6_ n7_ n8_ n9_ n10_ n11_ n12_ n13_ n14_ n15_; clear hb hbox hg; have hnb142 := NB173_101.out; have hnc142 := NB101_173.out; have hnb143 := NB173_111.out; have hnc143 := NB111_173.out; have hnb144 := NB173_121.out; have hnc144 := NB121_173.out; have hnb145 := NB173_168.out; have hnc145 := NB168_173.out; obtain ⟨hcz146_0, hcz146_1, hfz146_0, hfz146_1⟩ := cells2 BK173.out; obtain ⟨hcz147_0, hcz147_1, hcz147_2, hcz147_3, hcz147_4, hcz147_5, hcz147_6, hcz147_7, hfz147_0, hfz147_1, hfz147_2, hfz147_3, hfz147_4, hfz147_5, hfz147_6, hfz147_7⟩ := cells8 BK101.out) | ((with_reducible refine gate_callee (f := 25) rfl ?_); refine goesL_ (some 128) rfl rfl Tryd.func25 (by kernel_rfl) rfl #[.agg #[.int .i64 a0_0, .int .i64 a0_1, .int .i64 a0_2, .int .i64 a0_3, .int .u8 a0_4, .bool a0_5, .int .i64 a0_6, .int .u8 a0_7]] rfl mapx ?_; (with_reducible refine (Pclk.clock_When.calls kj67 a0_0 a0_1 a0_2 a0_3 a0_4 a0_5 a0_6 a0_7 t174 t175 _ A98.out).mono ?_); rintro e w148 ⟨rfl, hb⟩; refine ⟨_, rfl, ?_⟩; have n0_ := Aside0.mk (blk_below (g := gb101) (o := .cells #[.int .i64 a0_0, .int .i64 a0_1, .int .i64 a0_2, .int .i64 a0_3, .int .u8 a0_4, .bool a0_5, .int .i64 a0_6, .int .u8 a0_7] 24 (0, 0)) (by (with_reducible repeat (first | refine bN ?_ _ | refine bD ?_ | refine bA ?_ _)); (iterate 2 refine blk_far ?_ NB101_173.out _); exact ofA BK101) hb); have n1_ := Aside0.mk (blk_below (g := gb111) (o := .cells #[.int .i64 t144, .int .i64 t145, .int .i64 t146, .int .i64 t147, .int .u8 t148, .bool t149, .int .i64 t150, .int .u8 t151] 24 (0, 0)) (by (with_reducible repeat (first | refine bN ?_ _ | refine bD ?_ | refine bA ?_ _)); (iterate 2 refine blk_far ?_ NB111_173.out _); exact ofA BK111) hb); have n2_ := Aside0.mk (blk_below (g := gb121) (o := .cells #[.int .i64 t154, .int .i64 t155, .int .i64 t156, .int .i64 t157, .int .u8 t158, .bool t159, .int .i64 t160, .int .u8 t161] 24 (0, 0)) (by (with_reducible repeat (first | refine bN ?_ _ | refine bD ?_ | refine bA ?_ _)); (iterate 2 refine blk_far ?_ NB121_173.out _); exact ofA BK121) hb); have n3_ := Aside0.mk (blk_below (g := gb168) (o := .cells #[.int .i64 t164, .int .i64 t165] 22 (0, 0)) (by (with_reducible repeat (first | refine bN ?_ _ | refine bD ?_ | refine bA ?_ _)); (iterate 2 refine blk_far ?_ NB168_173.out _); exact ofA BK168) hb); have n4_ := Aside0.mk (blk_below (g := gb173) (o := .cells #[.int .i64 t169, .int .i64 t170] 22 (0, 0)) (by (with_reducible repeat (first | refine bN ?_ _ | refine bD ?_ | refine bA ?_ _)); refine blk_put (cs := #[.int .i64 t169, .int .i64 0]) ?_ 1 _ rfl; refine blk_put (cs := #[.int .i64 0, .int .i64 0]) ?_ 0 _ rfl; exact ofA BK173) hb); have n5_ := Aside0.mk (below_step (low HB) hb); clear BK101; clear BK111; clear BK121; clear BK168; clear BK173; clear HB; have BK101 := n0_; have BK111 := n1_; have BK121 := n2_; have BK168 := n3_; have BK173 := n4_; have HB := n5_; clear n0_ n1_ n2_ n3_ n4_ n5_; (try clear hb); (try clear hb2); (try clear hk); (try clear hi); obtain ⟨hcz149_0, hcz149_1, hcz149_2, hcz149_3, hcz149_4, hcz149_5, hcz149_6, hcz149_7, hfz149_0, hfz149_1, hfz149_2, hfz149_3, hfz149_4, hfz149_5, hfz149_6, hfz149_7⟩ := cells8 BK101.out) | ((with_reducible refine gate_callee (f := 26) rfl ?_); refine goesL_ (some 133) rfl rfl Tryd.func26 (by kernel_rfl) rfl #[.agg #[.int .i64 a0_0, .int .i64 a0_1, .int .i64 a0_2, .int .i64 a0_3, .int .u8 a0_4, .bool a0_5, .int .i64 a0_6, .int .u8 a0_7]] rfl mapx ?_; (with_reducible refine (Pcrf.joustref28_When.calls kj67 a0_0 a0_1 a0_2 a0_3 a0_4 a0_5 a0_6 a0_7 t176 t177 _ A99.out).mono ?_); rintro e w150 ⟨rfl, hb⟩; refine ⟨_, rfl, ?_⟩; have n0_ := Aside0.mk (blk_below (g := gb101) (o := .cells #[.int .i64 a0_0, .int .i64 a0_1, .int .i64 a0_2, .int .i64 a0_3, .int .u8 a0_4, .bool a0_5, .int .i64 a0_6, .int .u8 a0_7] 24 (0, 0)) (ofA BK101) hb); have n1_ := Aside0.mk (blk_below (g := gb111) (o := .cells #[.int .i64 t144, .int .i64 t145, .int .i64 t146, .int .i64 t147, .int .u8 t148, .bool t149, .int .i64 t150, .int .u8 t151] 24 (0, 0)) (ofA BK111) hb); have n2_ := Aside0.mk (blk_below (g := gb121) (o := .cells #[.int .i64 t154, .int .i64 t155, .int .i64 t156, .int .i64 t157, .int .u8 t158, .bool t159, .int .i64 t160, .int .u8 t161] 24 (0, 0)) (ofA BK121) hb); have n3_ := Aside0.mk (blk_below (g := gb168) (o := .cells #[.int .i64 t164, .int .i64 t165] 22 (0, 0)) (ofA BK168) hb); have n4_ := Aside0.mk (blk_below (g := gb173) (o := .cells #[.int .i64 t169, .int .i64 t170] 22 (0, 0)) (ofA BK173) hb); have n5_ := Aside0.mk (below_step (low HB) hb); clear BK101; clear BK111; clear BK121; clear BK168; clear BK173; clear HB; have BK101 := n0_; have BK111 := n1_; have BK121 := n2_; have BK168 := n3_; have BK173 := n4_; have HB := n5_; clear n0_ n1_ n2_ n3_ n4_ n5_; (try clear hb); (try clear hb2); (try clear hk); (try clear hi); obtain ⟨hcz151_0, hcz151_1, hfz151_0, hfz151_1⟩ := cells2 BK168.out; obtain ⟨hcz152_0, hcz152_1, hfz152_0, hfz152_1⟩ := cells2 BK173.out))
               go_ret
               exact ⟨by first | rfl | (simp [errW_none, errW_some] <;> rfl) | (simp [*, errW_none, errW_some] <;> rfl), low HB⟩
             ·
              rw [if_neg c103] at H
              have c103b0 : (t174 == t176) = false := beq_eq_false_iff_ne.mpr c103
              have c103b1 : (t174 != t176) = true := bne_iff_ne.mpr c103
              obtain rfl := Option.some.inj H
              have hnb153 := NB101_111.out
              have hnc153 := NB111_101.out
              have hnb154 := NB101_121.out
              have hnc154 := NB121_101.out
              have hcz155_0 : wc.cell? ⟨gb101, 0, none⟩ = some (.int .i64 a0_0) := (blk_cell BK101.out 0).trans rfl
              have hcz155_1 : wc.cell? ⟨gb101, 1, none⟩ = some (.int .i64 a0_1) := (blk_cell BK101.out 1).trans rfl
              have hcz155_2 : wc.cell? ⟨gb101, 2, none⟩ = some (.int .i64 a0_2) := (blk_cell BK101.out 2).trans rfl
              have hcz155_3 : wc.cell? ⟨gb101, 3, none⟩ = some (.int .i64 a0_3) := (blk_cell BK101.out 3).trans rfl
              have hcz155_4 : wc.cell? ⟨gb101, 4, none⟩ = some (.int .u8 a0_4) := (blk_cell BK101.out 4).trans rfl
              have hcz155_5 : wc.cell? ⟨gb101, 5, none⟩ = some (.bool a0_5) := (blk_cell BK101.out 5).trans rfl
              have hcz155_6 : wc.cell? ⟨gb101, 6, none⟩ = some (.int .i64 a0_6) := (blk_cell BK101.out 6).trans rfl
              have hcz155_7 : wc.cell? ⟨gb101, 7, none⟩ = some (.int .u8 a0_7) := (blk_cell BK101.out 7).trans rfl
              have hfz155_0 := blk_frozen BK101.out 0
              have hfz155_1 := blk_frozen BK101.out 1
              have hfz155_2 := blk_frozen BK101.out 2
              have hfz155_3 := blk_frozen BK101.out 3
              have hfz155_4 := blk_frozen BK101.out 4
              have hfz155_5 := blk_frozen BK101.out 5
              have hfz155_6 := blk_frozen BK101.out 6
              have hfz155_7 := blk_frozen BK101.out 7
              go_wp2_with (first | ((with_reducible refine gate_callee (f := 23) rfl ?_); refine goesL_ (some 115) rfl rfl Tryd.func23 (by kernel_rfl) rfl #[.agg #[.int .i64 a0_0, .int .i64 a0_1, .int .i64 a0_2, .int .i64 a0_3, .int .u8 a0_4, .bool a0_5, .int .i64 a0_6, .int .u8 a0_7], .int .i64 a5] rfl mapx ?_; (with_reducible refine (Pclk.clock_Look.calls kj67 a0_0 a0_1 a0_2 a0_3 a0_4 a0_5 a0_6 a0_7 a5 t164 t165 t166 t167 _ A96.out).mono ?_); rintro e w156 ⟨rfl, hb⟩; refine ⟨_, rfl, ?_⟩; have n0_ := Aside0.mk (blk_below (g := gb101) (o := .cells #[.int .i64 a0_0, .int .i64 a0_1, .int .i64 a0_2, .int .i64 a0_3, .int .u8 a0_4, .bool a0_5, .int .i64 a0_6, .int .u8 a0_7] 24 (0, 0)) (ofA BK101) hb); have n1_ := Aside0.mk (blk_below (g := gb111) (o := .cells #[.int .i64 t144, .int .i64 t145, .int .i64 t146, .int .i64 t147, .int .u8 t148, .bool t149, .int .i64 t150, .int .u8 t151] 24 (0, 0)) (ofA BK111) hb); have n2_ := Aside0.mk (blk_below (g := gb121) (o := .cells #[.int .i64 t154, .int .i64 t155, .int .i64 t156, .int .i64 t157, .int .u8 t158, .bool t159, .int .i64 t160, .int .u8 t161] 24 (0, 0)) (ofA BK121) hb); have n3_ := Aside0.mk (below_step (low HB) hb); clear BK101; clear BK111; clear BK121; clear HB; have BK101 := n0_; have BK111 := n1_; have BK121 := n2_; have HB := n3_; clear n0_ n1_ n2_ n3_; (try clear hb); (try clear hb2); (try clear hk); (try clear hi)) | ((with_reducible refine gate_dst (N := 19) rfl ?_); refine box_event ?hg (N := 19) ?hd (cs := #[.int .i64 0, .int .i64 0]) (t := 22) ?hr ?_; (case hd => rfl); (case hg => rfl); (case hr => first | (go_simp; done) | (go_simp; rfl)); intro gb168 hg w157 hbox hb; have n0_ := Aside0.mk (blk_below (g := gb101) (o := .cells #[.int .i64 a0_0, .int .i64 a0_1, .int .i64 a0_2, .int .i64 a0_3, .int .u8 a0_4, .bool a0_5, .int .i64 a0_6, .int .u8 a0_7] 24 (0, 0)) (ofA BK101) hb); have n1_ := Aside0.mk (blk_below (g := gb111) (o := .cells #[.int .i64 t144, .int .i64 t145, .int .i64 t146, .int .i64 t147, .int .u8 t148, .bool t149, .int .i64 t150, .int .u8 t151] 24 (0, 0)) (ofA BK111) hb); have n2_ := Aside0.mk (blk_below (g := gb121) (o := .cells #[.int .i64 t154, .int .i64 t155, .int .i64 t156, .int .i64 t157, .int .u8 t158, .bool t159, .int .i64 t160, .int .u8 t161] 24 (0, 0)) (ofA BK121) hb); have n3_ := Aside0.mk (below_step (low HB) hb); have n4_ := Aside0.mk (hbox); have n5_ := Aside0.mk ((by rw [hg]; exact (below_size (low HB)) : w.heap.size ≤ gb168)); have n6_ := Aside0.mk ((by rw [hg]; exact (below_size (low HB)) : w.heap.size ≤ gb168)); have n7_ := Aside0.mk ((by rw [hg]; exact Nat.ne_of_lt (blk_lt (g := gb101) (o := .cells #[.int .i64 a0_0, .int .i64 a0_1, .int .i64 a0_2, .int .i64 a0_3, .int .u8 a0_4, .bool a0_5, .int .i64 a0_6, .int .u8 a0_7] 24 (0, 0)) (ofA BK101)) : gb101 ≠ gb168)); have n8_ := Aside0.mk ((by rw [hg]; exact Nat.ne_of_gt (blk_lt (g := gb101) (o := .cells #[.int .i64 a0_0, .int .i64 a0_1, .int .i64 a0_2, .int .i64 a0_3, .int .u8 a0_4, .bool a0_5, .int .i64 a0_6, .int .u8 a0_7] 24 (0, 0)) (ofA BK101)) : gb168 ≠ gb101)); have n9_ := Aside0.mk ((by rw [hg]; exact Nat.ne_of_lt (blk_lt (g := gb111) (o := .cells #[.int .i64 t144, .int .i64 t145, .int .i64 t146, .int .i64 t147, .int .u8 t148, .bool t149, .int .i64 t150, .int .u8 t151] 24 (0, 0)) (ofA BK111)) : gb111 ≠ gb168)); have n10_ := Aside0.mk ((by rw [hg]; exact Nat.ne_of_gt (blk_lt (g := gb111) (o := .cells #[.int .i64 t144, .int .i64 t145, .int .i64 t146, .int .i64 t147, .int .u8 t148, .bool t149, .int .i64 t150, .int .u8 t151] 24 (0, 0)) (ofA BK111)) : gb168 ≠ gb111)); have n11_ := Aside0.mk ((by rw [hg]; exact Nat.ne_of_lt (blk_lt (g := gb121) (o := .cells #[.int .i64 t154, .int .i64 t155, .int .i64 t156, .int .i64 t157, .int .u8 t158, .bool t159, .int .i64 t160, .int .u8 t161] 24 (0, 0)) (ofA BK121)) : gb121 ≠ gb168)); have n12_ := Aside0.mk ((by rw [hg]; exact Nat.ne_of_gt (blk_lt (g := gb121) (o := .cells #[.int .i64 t154, .int .i64 t155, .int .i64 t156, .int .i64 t157, .int .u8 t158, .bool t159, .int .i64 t160, .int .u8 t161] 24 (0, 0)) (ofA BK121)) : gb168 ≠ gb121)); clear BK101; clear BK111; clear BK121; clear HB; have BK101 := n0_; have BK111 := n1_; have BK121 := n2_; have HB := n3_; have BK168 := n4_; have GW168 := n5_; have GE168 := n6_; have NB101_168 := n7_; have NB168_101 := n8_; have NB111_168 := n9_; have NB168_111 := n10_; have NB121_168 := n11_; have NB168_121 := n12_; clear n0_ n1_ n2_ n3_ n4_ n5_ n6_ n7_ n8_ n9_ n10_ n11_ n12_; clear hb hbox hg; have hnb158 := NB168_101.out; have hnc158 := NB101_168.out; have hnb159 := NB168_111.out; have hnc159 := NB111_168.out; have hnb160 := NB168_121.out; have hnc160 := NB121_168.out; obtain ⟨hcz161_0, hcz161_1, hfz161_0, hfz161_1⟩ := cells2 BK168.out; obtain ⟨hcz162_0, hcz162_1, hcz162_2, hcz162_3, hcz162_4, hcz162_5, hcz162_6, hcz162_7, hfz162_0, hfz162_1, hfz162_2, hfz162_3, hfz162_4, hfz162_5, hfz162_6, hfz162_7⟩ := cells8 BK101.out) | ((with_reducible refine gate_callee (f := 24) rfl ?_); refine goesL_ (some 122) rfl rfl Tryd.func24 (by kernel_rfl) rfl #[.agg #[.int .i64 a0_0, .int .i64 a0_1, .int .i64 a0_2, .int .i64 a0_3, .int .u8 a0_4, .bool a0_5, .int .i64 a0_6, .int .u8 a0_7], .int .i64 a5] rfl mapx ?_; (with_reducible refine (Pcrf.joustref28_Look.calls kj67 a0_0 a0_1 a0_2 a0_3 a0_4 a0_5 a0_6 a0_7 a5 t169 t170 t171 t172 _ A97.out).mono ?_); rintro e w163 ⟨rfl, hb⟩; refine ⟨_, rfl, ?_⟩; have n0_ := Aside0.mk (blk_below (g := gb101) (o := .cells #[.int .i64 a0_0, .int .i64 a0_1, .int .i64 a0_2, .int .i64 a0_3, .int .u8 a0_4, .bool a0_5, .int .i64 a0_6, .int .u8 a0_7] 24 (0, 0)) (by (with_reducible repeat (first | refine bN ?_ _ | refine bD ?_ | refine bA ?_ _)); (iterate 2 refine blk_far ?_ NB101_168.out _); exact ofA BK101) hb); have n1_ := Aside0.mk (blk_below (g := gb111) (o := .cells #[.int .i64 t144, .int .i64 t145, .int .i64 t146, .int .i64 t147, .int .u8 t148, .bool t149, .int .i64 t150, .int .u8 t151] 24 (0, 0)) (by (with_reducible repeat (first | refine bN ?_ _ | refine bD ?_ | refine bA ?_ _)); (iterate 2 refine blk_far ?_ NB111_168.out _); exact ofA BK111) hb); have n2_ := Aside0.mk (blk_below (g := gb121) (o := .cells #[.int .i64 t154, .int .i64 t155, .int .i64 t156, .int .i64 t157, .int .u8 t158, .bool t159, .int .i64 t160, .int .u8 t161] 24 (0, 0)) (by (with_reducible repeat (first | refine bN ?_ _ | refine bD ?_ | refine bA ?_ _)); (iterate 2 refine blk_far ?_ NB121_168.out _); exact ofA BK121) hb); have n3_ := Aside0.mk (blk_below (g := gb168) (o := .cells #[.int .i64 t164, .int .i64 t165] 22 (0, 0)) (by (with_reducible repeat (first | refine bN ?_ _ | refine bD ?_ | refine bA ?_ _)); refine blk_put (cs := #[.int .i64 t164, .int .i64 0]) ?_ 1 _ rfl; refine blk_put (cs := #[.int .i64 0, .int .i64 0]) ?_ 0 _ rfl; exact ofA BK168) hb); have n4_ := Aside0.mk (below_step (low HB) hb); clear BK101; clear BK111; clear BK121; clear BK168; clear HB; have BK101 := n0_; have BK111 := n1_; have BK121 := n2_; have BK168 := n3_; have HB := n4_; clear n0_ n1_ n2_ n3_ n4_; (try clear hb); (try clear hb2); (try clear hk); (try clear hi)) | ((with_reducible refine gate_dst (N := 20) rfl ?_); refine box_event ?hg (N := 20) ?hd (cs := #[.int .i64 0, .int .i64 0]) (t := 22) ?hr ?_; (case hd => rfl); (case hg => rfl); (case hr => first | (go_simp; done) | (go_simp; rfl)); intro gb173 hg w164 hbox hb; have n0_ := Aside0.mk (blk_below (g := gb101) (o := .cells #[.int .i64 a0_0, .int .i64 a0_1, .int .i64 a0_2, .int .i64 a0_3, .int .u8 a0_4, .bool a0_5, .int .i64 a0_6, .int .u8 a0_7] 24 (0, 0)) (ofA BK101) hb); have n1_ := Aside0.mk (blk_below (g := gb111) (o := .cells #[.int .i64 t144, .int .i64 t145, .int .i64 t146, .int .i64 t147, .int .u8 t148, .bool t149, .int .i64 t150, .int .u8 t151] 24 (0, 0)) (ofA BK111) hb); have n2_ := Aside0.mk (blk_below (g := gb121) (o := .cells #[.int .i64 t154, .int .i64 t155, .int .i64 t156, .int .i64 t157, .int .u8 t158, .bool t159, .int .i64 t160, .int .u8 t161] 24 (0, 0)) (ofA BK121) hb); have n3_ := Aside0.mk (blk_below (g := gb168) (o := .cells #[.int .i64 t164, .int .i64 t165] 22 (0, 0)) (ofA BK168) hb); have n4_ := Aside0.mk (below_step (low HB) hb); have n5_ := Aside0.mk (hbox); have n6_ := Aside0.mk ((by rw [hg]; exact (below_size (low HB)) : w.heap.size ≤ gb173)); have n7_ := Aside0.mk ((by rw [hg]; exact (below_size (low HB)) : w.heap.size ≤ gb173)); have n8_ := Aside0.mk ((by rw [hg]; exact Nat.ne_of_lt (blk_lt (g := gb101) (o := .cells #[.int .i64 a0_0, .int .i64 a0_1, .int .i64 a0_2, .int .i64 a0_3, .int .u8 a0_4, .bool a0_5, .int .i64 a0_6, .int .u8 a0_7] 24 (0, 0)) (ofA BK101)) : gb101 ≠ gb173)); have n9_ := Aside0.mk ((by rw [hg]; exact Nat.ne_of_gt (blk_lt (g := gb101) (o := .cells #[.int .i64 a0_0, .int .i64 a0_1, .int .i64 a0_2, .int .i64 a0_3, .int .u8 a0_4, .bool a0_5, .int .i64 a0_6, .int .u8 a0_7] 24 (0, 0)) (ofA BK101)) : gb173 ≠ gb101)); have n10_ := Aside0.mk ((by rw [hg]; exact Nat.ne_of_lt (blk_lt (g := gb111) (o := .cells #[.int .i64 t144, .int .i64 t145, .int .i64 t146, .int .i64 t147, .int .u8 t148, .bool t149, .int .i64 t150, .int .u8 t151] 24 (0, 0)) (ofA BK111)) : gb111 ≠ gb173)); have n11_ := Aside0.mk ((by rw [hg]; exact Nat.ne_of_gt (blk_lt (g := gb111) (o := .cells #[.int .i64 t144, .int .i64 t145, .int .i64 t146, .int .i64 t147, .int .u8 t148, .bool t149, .int .i64 t150, .int .u8 t151] 24 (0, 0)) (ofA BK111)) : gb173 ≠ gb111)); have n12_ := Aside0.mk ((by rw [hg]; exact Nat.ne_of_lt (blk_lt (g := gb121) (o := .cells #[.int .i64 t154, .int .i64 t155, .int .i64 t156, .int .i64 t157, .int .u8 t158, .bool t159, .int .i64 t160, .int .u8 t161] 24 (0, 0)) (ofA BK121)) : gb121 ≠ gb173)); have n13_ := Aside0.mk ((by rw [hg]; exact Nat.ne_of_gt (blk_lt (g := gb121) (o := .cells #[.int .i64 t154, .int .i64 t155, .int .i64 t156, .int .i64 t157, .int .u8 t158, .bool t159, .int .i64 t160, .int .u8 t161] 24 (0, 0)) (ofA BK121)) : gb173 ≠ gb121)); have n14_ := Aside0.mk ((by rw [hg]; exact Nat.ne_of_lt (blk_lt (g := gb168) (o := .cells #[.int .i64 t164, .int .i64 t165] 22 (0, 0)) (ofA BK168)) : gb168 ≠ gb173)); have n15_ := Aside0.mk ((by rw [hg]; exact Nat.ne_of_gt (blk_lt (g := gb168) (o := .cells #[.int .i64 t164, .int .i64 t165] 22 (0, 0)) (ofA BK168)) : gb173 ≠ gb168)); clear BK101; clear BK111; clear BK121; clear BK168; clear HB; have BK101 := n0_; have BK111 := n1_; have BK121 := n2_; have BK168 := n3_; have HB := n4_; have BK173 := n5_; have GW173 := n6_; have GE173 := n7_; have NB101_173 := n8_; have NB173_101 := n9_; have NB111_173 := n10_; have NB173_111 := n11_; have NB121_173 := n12_; have NB173_121 := n13_; have NB168_173 := n14_; have NB173_168 := n15_; clear n0_ n1_ n2_ n3_ n4_ n5_ n6_ n7_ n8_ n9_ n10_ n11_ n12_ n13_ n14_ n15_; clear hb hbox hg; have hnb165 := NB173_101.out; have hnc165 := NB101_173.out; have hnb166 := NB173_111.out; have hnc166 := NB111_173.out; have hnb167 := NB173_121.out; have hnc167 := NB121_173.out; have hnb168 := NB173_168.out; have hnc168 := NB168_173.out; obtain ⟨hcz169_0, hcz169_1, hfz169_0, hfz169_1⟩ := cells2 BK173.out; obtain ⟨hcz170_0, hcz170_1, hcz170_2, hcz170_3, hcz170_4, hcz170_5, hcz170_6, hcz170_7, hfz170_0, hfz170_1, hfz170_2, hfz170_3, hfz170_4, hfz170_5, hfz170_6, hfz170_7⟩ := cells8 BK101.out) | ((with_reducible refine gate_callee (f := 25) rfl ?_); refine goesL_ (some 128) rfl rfl Tryd.func25 (by kernel_rfl) rfl #[.agg #[.int .i64 a0_0, .int .i64 a0_1, .int .i64 a0_2, .int .i64 a0_3, .int .u8 a0_4, .bool a0_5, .int .i64 a0_6, .int .u8 a0_7]] rfl mapx ?_; (with_reducible refine (Pclk.clock_When.calls kj67 a0_0 a0_1 a0_2 a0_3 a0_4 a0_5 a0_6 a0_7 t174 t175 _ A98.out).mono ?_); rintro e w171 ⟨rfl, hb⟩; refine ⟨_, rfl, ?_⟩; have n0_ := Aside0.mk (blk_below (g := gb101) (o := .cells #[.int .i64 a0_0, .int .i64 a0_1, .int .i64 a0_2, .int .i64 a0_3, .int .u8 a0_4, .bool a0_5, .int .i64 a0_6, .int .u8 a0_7] 24 (0, 0)) (by (with_reducible repeat (first | refine bN ?_ _ | refine bD ?_ | refine bA ?_ _)); (iterate 2 refine blk_far ?_ NB101_173.out _); exact ofA BK101) hb); have n1_ := Aside0.mk (blk_below (g := gb111) (o := .cells #[.int .i64 t144, .int .i64 t145, .int .i64 t146, .int .i64 t147, .int .u8 t148, .bool t149, .int .i64 t150, .int .u8 t151] 24 (0, 0)) (by (with_reducible repeat (first | refine bN ?_ _ | refine bD ?_ | refine bA ?_ _)); (iterate 2 refine blk_far ?_ NB111_173.out _); exact ofA BK111) hb); have n2_ := Aside0.mk (blk_below (g := gb121) (o := .cells #[.int .i64 t154, .int .i64 t155, .int .i64 t156, .int .i64 t157, .int .u8 t158, .bool t159, .int .i64 t160, .int .u8 t161] 24 (0, 0)) (by (with_reducible repeat (first | refine bN ?_ _ | refine bD ?_ | refine bA ?_ _)); (iterate 2 refine blk_far ?_ NB121_173.out _); exact ofA BK121) hb); have n3_ := Aside0.mk (blk_below (g := gb168) (o := .cells #[.int .i64 t164, .int .i64 t165] 22 (0, 0)) (by (with_reducible repeat (first | refine bN ?_ _ | refine bD ?_ | refine bA ?_ _)); (iterate 2 refine blk_far ?_ NB168_173.out _); exact ofA BK168) hb); have n4_ := Aside0.mk (blk_below (g := gb173) (o := .cells #[.int .i64 t169, .int .i64 t170] 22 (0, 0)) (by (with_reducible repeat (first | refine bN ?_ _ | refine bD ?_ | refine bA ?_ _)); refine blk_put (cs := #[.int .i64 t169, .int .i64 0]) ?_ 1 _ rfl; refine blk_put (cs := #[.int .i64 0, .int .i64 0]) ?_ 0 _ rfl; exact ofA BK173) hb); have n5_ := Aside0.mk (below_step (low HB) hb); clear BK101; clear BK111; clear BK121; clear BK168; clear BK173; clear HB; have BK101 := n0_; have BK111 := n1_; have BK121 := n2_; have BK168 := n3_; have BK173 := n4_; have HB := n5_; clear n0_ n1_ n2_ n3_ n4_ n5_; (try clear hb); (try clear hb2); (try clear hk); (try clear hi); obtain ⟨hcz172_0, hcz172_1, hcz172_2, hcz172_3, hcz172_4, hcz172_5, hcz172_6, hcz172_7, hfz172_0, hfz172_1, hfz172_2, hfz172_3, hfz172_4, hfz172_5, hfz172_6, hfz172_7⟩ := cells8 BK101.out) | ((with_reducible refine gate_callee (f := 26) rfl ?_); refine goesL_ (some 133) rfl rfl Tryd.func26 (by kernel_rfl) rfl #[.agg #[.int .i64 a0_0, .int .i64 a0_1, .int .i64 a0_2, .int .i64 a0_3, .int .u8 a0_4, .bool a0_5, .int .i64 a0_6, .int .u8 a0_7]] rfl mapx ?_; (with_reducible refine (Pcrf.joustref28_When.calls kj67 a0_0 a0_1 a0_2 a0_3 a0_4 a0_5 a0_6 a0_7 t176 t177 _ A99.out).mono ?_); rintro e w173 ⟨rfl, hb⟩; refine ⟨_, rfl, ?_⟩; have n0_ := Aside0.mk (blk_below (g := gb101) (o := .cells #[.int .i64 a0_0, .int .i64 a0_1, .int .i64 a0_2, .int .i64 a0_3, .int .u8 a0_4, .bool a0_5, .int .i64 a0_6, .int .u8 a0_7] 24 (0, 0)) (ofA BK101) hb); have n1_ := Aside0.mk (blk_below (g := gb111) (o := .cells #[.int .i64 t144, .int .i64 t145, .int .i64 t146, .int .i64 t147, .int .u8 t148, .bool t149, .int .i64 t150, .int .u8 t151] 24 (0, 0)) (ofA BK111) hb); have n2_ := Aside0.mk (blk_below (g := gb121) (o := .cells #[.int .i64 t154, .int .i64 t155, .int .i64 t156, .int .i64 t157, .int .u8 t158, .bool t159, .int .i64 t160, .int .u8 t161] 24 (0, 0)) (ofA BK121) hb); have n3_ := Aside0.mk (blk_below (g := gb168) (o := .cells #[.int .i64 t164, .int .i64 t165] 22 (0, 0)) (ofA BK168) hb); have n4_ := Aside0.mk (blk_below (g := gb173) (o := .cells #[.int .i64 t169, .int .i64 t170] 22 (0, 0)) (ofA BK173) hb); have n5_ := Aside0.mk (below_step (low HB) hb); clear BK101; clear BK111; clear BK121; clear BK168; clear BK173; clear HB; have BK101 := n0_; have BK111 := n1_; have BK121 := n2_; have BK168 := n3_; have BK173 := n4_; have HB := n5_; clear n0_ n1_ n2_ n3_ n4_ n5_; (try clear hb); (try clear hb2); (try clear hk); (try clear hi); obtain ⟨hcz174_0, hcz174_1, hfz174_0, hfz174_1⟩ := cells2 BK168.out; obtain ⟨hcz175_0, hcz175_1, hfz175_0, hfz175_1⟩ := cells2 BK173.out))
              go_ret
              exact ⟨by first | rfl | (simp [errW_none, errW_some] <;> rfl) | (simp [*, errW_none, errW_some] <;> rfl), low HB⟩
            ·
             rw [if_neg c102] at H
             have c102b0 : (t167 == t172) = false := beq_eq_false_iff_ne.mpr c102
             have c102b1 : (t167 != t172) = true := bne_iff_ne.mpr c102
             obtain rfl := Option.some.inj H
             have hnb176 := NB101_111.out
             have hnc176 := NB111_101.out
             have hnb177 := NB101_121.out
             have hnc177 := NB121_101.out
             have hcz178_0 : wc.cell? ⟨gb101, 0, none⟩ = some (.int .i64 a0_0) := (blk_cell BK101.out 0).trans rfl
             have hcz178_1 : wc.cell? ⟨gb101, 1, none⟩ = some (.int .i64 a0_1) := (blk_cell BK101.out 1).trans rfl
             have hcz178_2 : wc.cell? ⟨gb101, 2, none⟩ = some (.int .i64 a0_2) := (blk_cell BK101.out 2).trans rfl
             have hcz178_3 : wc.cell? ⟨gb101, 3, none⟩ = some (.int .i64 a0_3) := (blk_cell BK101.out 3).trans rfl
             have hcz178_4 : wc.cell? ⟨gb101, 4, none⟩ = some (.int .u8 a0_4) := (blk_cell BK101.out 4).trans rfl
             have hcz178_5 : wc.cell? ⟨gb101, 5, none⟩ = some (.bool a0_5) := (blk_cell BK101.out 5).trans rfl
             have hcz178_6 : wc.cell? ⟨gb101, 6, none⟩ = some (.int .i64 a0_6) := (blk_cell BK101.out 6).trans rfl
             have hcz178_7 : wc.cell? ⟨gb101, 7, none⟩ = some (.int .u8 a0_7) := (blk_cell BK101.out 7).trans rfl
             have hfz178_0 := blk_frozen BK101.out 0
             have hfz178_1 := blk_frozen BK101.out 1
             have hfz178_2 := blk_frozen BK101.out 2
             have hfz178_3 := blk_frozen BK101.out 3
             have hfz178_4 := blk_frozen BK101.out 4
             have hfz178_5 := blk_frozen BK101.out 5
             have hfz178_6 := blk_frozen BK101.out 6
             have hfz178_7 := blk_frozen BK101.out 7
             go_wp2_with (first | ((with_reducible refine gate_callee (f := 23) rfl ?_); refine goesL_ (some 115) rfl rfl Tryd.func23 (by kernel_rfl) rfl #[.agg #[.int .i64 a0_0, .int .i64 a0_1, .int .i64 a0_2, .int .i64 a0_3, .int .u8 a0_4, .bool a0_5, .int .i64 a0_6, .int .u8 a0_7], .int .i64 a5] rfl mapx ?_; (with_reducible refine (Pclk.clock_Look.calls kj67 a0_0 a0_1 a0_2 a0_3 a0_4 a0_5 a0_6 a0_7 a5 t164 t165 t166 t167 _ A96.out).mono ?_); rintro e w179 ⟨rfl, hb⟩; refine ⟨_, rfl, ?_⟩; have n0_ := Aside0.mk (blk_below (g := gb101) (o := .cells #[.int .i64 a0_0, .int .i64 a0_1, .int .i64 a0_2, .int .i64 a0_3, .int .u8 a0_4, .bool a0_5, .int .i64 a0_6, .int .u8 a0_7] 24 (0, 0)) (ofA BK101) hb); have n1_ := Aside0.mk (blk_below (g := gb111) (o := .cells #[.int .i64 t144, .int .i64 t145, .int .i64 t146, .int .i64 t147, .int .u8 t148, .bool t149, .int .i64 t150, .int .u8 t151] 24 (0, 0)) (ofA BK111) hb); have n2_ := Aside0.mk (blk_below (g := gb121) (o := .cells #[.int .i64 t154, .int .i64 t155, .int .i64 t156, .int .i64 t157, .int .u8 t158, .bool t159, .int .i64 t160, .int .u8 t161] 24 (0, 0)) (ofA BK121) hb); have n3_ := Aside0.mk (below_step (low HB) hb); clear BK101; clear BK111; clear BK121; clear HB; have BK101 := n0_; have BK111 := n1_; have BK121 := n2_; have HB := n3_; clear n0_ n1_ n2_ n3_; (try clear hb); (try clear hb2); (try clear hk); (try clear hi)) | ((with_reducible refine gate_dst (N := 19) rfl ?_); refine box_event ?hg (N := 19) ?hd (cs := #[.int .i64 0, .int .i64 0]) (t := 22) ?hr ?_; (case hd => rfl); (case hg => rfl); (case hr => first | (go_simp; done) | (go_simp; rfl)); intro gb168 hg w180 hbox hb; have n0_ := Aside0.mk (blk_below (g := gb101) (o := .cells #[.int .i64 a0_0, .int .i64 a0_1, .int .i64 a0_2, .int .i64 a0_3, .int .u8 a0_4, .bool a0_5, .int .i64 a0_6, .int .u8 a0_7] 24 (0, 0)) (ofA BK101) hb); have n1_ := Aside0.mk (blk_below (g := gb111) (o := .cells #[.int .i64 t144, .int .i64 t145, .int .i64 t146, .int .i64 t147, .int .u8 t148, .bool t149, .int .i64 t150, .int .u8 t151] 24 (0, 0)) (ofA BK111) hb); have n2_ := Aside0.mk (blk_below (g := gb121) (o := .cells #[.int .i64 t154, .int .i64 t155, .int .i64 t156, .int .i64 t157, .int .u8 t158, .bool t159, .int .i64 t160, .int .u8 t161] 24 (0, 0)) (ofA BK121) hb); have n3_ := Aside0.mk (below_step (low HB) hb); have n4_ := Aside0.mk (hbox); have n5_ := Aside0.mk ((by rw [hg]; exact (below_size (low HB)) : w.heap.size ≤ gb168)); have n6_ := Aside0.mk ((by rw [hg]; exact (below_size (low HB)) : w.heap.size ≤ gb168)); have n7_ := Aside0.mk ((by rw [hg]; exact Nat.ne_of_lt (blk_lt (g := gb101) (o := .cells #[.int .i64 a0_0, .int .i64 a0_1, .int .i64 a0_2, .int .i64 a0_3, .int .u8 a0_4, .bool a0_5, .int .i64 a0_6, .int .u8 a0_7] 24 (0, 0)) (ofA BK101)) : gb101 ≠ gb168)); have n8_ := Aside0.mk ((by rw [hg]; exact Nat.ne_of_gt (blk_lt (g := gb101) (o := .cells #[.int .i64 a0_0, .int .i64 a0_1, .int .i64 a0_2, .int .i64 a0_3, .int .u8 a0_4, .bool a0_5, .int .i64 a0_6, .int .u8 a0_7] 24 (0, 0)) (ofA BK101)) : gb168 ≠ gb101)); have n9_ := Aside0.mk ((by rw [hg]; exact Nat.ne_of_lt (blk_lt (g := gb111) (o := .cells #[.int .i64 t144, .int .i64 t145, .int .i64 t146, .int .i64 t147, .int .u8 t148, .bool t149, .int .i64 t150, .int .u8 t151] 24 (0, 0)) (ofA BK111)) : gb111 ≠ gb168)); have n10_ := Aside0.mk ((by rw [hg]; exact Nat.ne_of_gt (blk_lt (g := gb111) (o := .cells #[.int .i64 t144, .int .i64 t145, .int .i64 t146, .int .i64 t147, .int .u8 t148, .bool t149, .int .i64 t150, .int .u8 t151] 24 (0, 0)) (ofA BK111)) : gb168 ≠ gb111)); have n11_ := Aside0.mk ((by rw [hg]; exact Nat.ne_of_lt (blk_lt (g := gb121) (o := .cells #[.int .i64 t154, .int .i64 t155, .int .i64 t156, .int .i64 t157, .int .u8 t158, .bool t159, .int .i64 t160, .int .u8 t161] 24 (0, 0)) (ofA BK121)) : gb121 ≠ gb168)); have n12_ := Aside0.mk ((by rw [hg]; exact Nat.ne_of_gt (blk_lt (g := gb121) (o := .cells #[.int .i64 t154, .int .i64 t155, .int .i64 t156, .int .i64 t157, .int .u8 t158, .bool t159, .int .i64 t160, .int .u8 t161] 24 (0, 0)) (ofA BK121)) : gb168 ≠ gb121)); clear BK101; clear BK111; clear BK121; clear HB; have BK101 := n0_; have BK111 := n1_; have BK121 := n2_; have HB := n3_; have BK168 := n4_; have GW168 := n5_; have GE168 := n6_; have NB101_168 := n7_; have NB168_101 := n8_; have NB111_168 := n9_; have NB168_111 := n10_; have NB121_168 := n11_; have NB168_121 := n12_; clear n0_ n1_ n2_ n3_ n4_ n5_ n6_ n7_ n8_ n9_ n10_ n11_ n12_; clear hb hbox hg; have hnb181 := NB168_101.out; have hnc181 := NB101_168.out; have hnb182 := NB168_111.out; have hnc182 := NB111_168.out; have hnb183 := NB168_121.out; have hnc183 := NB121_168.out; obtain ⟨hcz184_0, hcz184_1, hfz184_0, hfz184_1⟩ := cells2 BK168.out; obtain ⟨hcz185_0, hcz185_1, hcz185_2, hcz185_3, hcz185_4, hcz185_5, hcz185_6, hcz185_7, hfz185_0, hfz185_1, hfz185_2, hfz185_3, hfz185_4, hfz185_5, hfz185_6, hfz185_7⟩ := cells8 BK101.out) | ((with_reducible refine gate_callee (f := 24) rfl ?_); refine goesL_ (some 122) rfl rfl Tryd.func24 (by kernel_rfl) rfl #[.agg #[.int .i64 a0_0, .int .i64 a0_1, .int .i64 a0_2, .int .i64 a0_3, .int .u8 a0_4, .bool a0_5, .int .i64 a0_6, .int .u8 a0_7], .int .i64 a5] rfl mapx ?_; (with_reducible refine (Pcrf.joustref28_Look.calls kj67 a0_0 a0_1 a0_2 a0_3 a0_4 a0_5 a0_6 a0_7 a5 t169 t170 t171 t172 _ A97.out).mono ?_); rintro e w186 ⟨rfl, hb⟩; refine ⟨_, rfl, ?_⟩; have n0_ := Aside0.mk (blk_below (g := gb101) (o := .cells #[.int .i64 a0_0, .int .i64 a0_1, .int .i64 a0_2, .int .i64 a0_3, .int .u8 a0_4, .bool a0_5, .int .i64 a0_6, .int .u8 a0_7] 24 (0, 0)) (by (with_reducible repeat (first | refine bN ?_ _ | refine bD ?_ | refine bA ?_ _)); (iterate 2 refine blk_far ?_ NB101_168.out _); exact ofA BK101) hb); have n1_ := Aside0.mk (blk_below (g := gb111) (o := .cells #[.int .i64 t144, .int .i64 t145, .int .i64 t146, .int .i64 t147, .int .u8 t148, .bool t149, .int .i64 t150, .int .u8 t151] 24 (0, 0)) (by (with_reducible repeat (first | refine bN ?_ _ | refine bD ?_ | refine bA ?_ _)); (iterate 2 refine blk_far ?_ NB111_168.out _); exact ofA BK111) hb); have n2_ := Aside0.mk (blk_below (g := gb121) (o := .cells #[.int .i64 t154, .int .i64 t155, .int .i64 t156, .int .i64 t157, .int .u8 t158, .bool t159, .int .i64 t160, .int .u8 t161] 24 (0, 0)) (by (with_reducible repeat (first | refine bN ?_ _ | refine bD ?_ | refine bA ?_ _)); (iterate 2 refine blk_far ?_ NB121_168.out _); exact ofA BK121) hb); have n3_ := Aside0.mk (blk_below (g := gb168) (o := .cells #[.int .i64 t164, .int .i64 t165] 22 (0, 0)) (by (with_reducible repeat (first | refine bN ?_ _ | refine bD ?_ | refine bA ?_ _)); refine blk_put (cs := #[.int .i64 t164, .int .i64 0]) ?_ 1 _ rfl; refine blk_put (cs := #[.int .i64 0, .int .i64 0]) ?_ 0 _ rfl; exact ofA BK168) hb); have n4_ := Aside0.mk (below_step (low HB) hb); clear BK101; clear BK111; clear BK121; clear BK168; clear HB; have BK101 := n0_; have BK111 := n1_; have BK121 := n2_; have BK168 := n3_; have HB := n4_; clear n0_ n1_ n2_ n3_ n4_; (try clear hb); (try clear hb2); (try clear hk); (try clear hi)) | ((with_reducible refine gate_dst (N := 20) rfl ?_); refine box_event ?hg (N := 20) ?hd (cs := #[.int .i64 0, .int .i64 0]) (t := 22) ?hr ?_; (case hd => rfl); (case hg => rfl); (case hr => first | (go_simp; done) | (go_simp; rfl)); intro gb173 hg w187 hbox hb; have n0_ := Aside0.mk (blk_below (g := gb101) (o := .cells #[.int .i64 a0_0, .int .i64 a0_1, .int .i64 a0_2, .int .i64 a0_3, .int .u8 a0_4, .bool a0_5, .int .i64 a0_6, .int .u8 a0_7] 24 (0, 0)) (ofA BK101) hb); have n1_ := Aside0.mk (blk_below (g := gb111) (o := .cells #[.int .i64 t144, .int .i64 t145, .int .i64 t146, .int .i64 t147, .int .u8 t148, .bool t149, .int .i64 t150, .int .u8 t151] 24 (0, 0)) (ofA BK111) hb); have n2_ := Aside0.mk (blk_below (g := gb121) (o := .cells #[.int .i64 t154, .int .i64 t155, .int .i64 t156, .int .i64 t157, .int .u8 t158, .bool t159, .int .i64 t160, .int .u8 t161] 24 (0, 0)) (ofA BK121) hb); have n3_ := Aside0.mk (blk_below (g := gb168) (o := .cells #[.int .i64 t164, .int .i64 t165] 22 (0, 0)) (ofA BK168) hb); have n4_ := Aside0.mk (below_step (low HB) hb); have n5_ := Aside0.mk (hbox); have n6_ := Aside0.mk ((by rw [hg]; exact (below_size (low HB)) : w.heap.size ≤ gb173)); have n7_ := Aside0.mk ((by rw [hg]; exact (below_size (low HB)) : w.heap.size ≤ gb173)); have n8_ := Aside0.mk ((by rw [hg]; exact Nat.ne_of_lt (blk_lt (g := gb101) (o := .cells #[.int .i64 a0_0, .int .i64 a0_1, .int .i64 a0_2, .int .i64 a0_3, .int .u8 a0_4, .bool a0_5, .int .i64 a0_6, .int .u8 a0_7] 24 (0, 0)) (ofA BK101)) : gb101 ≠ gb173)); have n9_ := Aside0.mk ((by rw [hg]; exact Nat.ne_of_gt (blk_lt (g := gb101) (o := .cells #[.int .i64 a0_0, .int .i64 a0_1, .int .i64 a0_2, .int .i64 a0_3, .int .u8 a0_4, .bool a0_5, .int .i64 a0_6, .int .u8 a0_7] 24 (0, 0)) (ofA BK101)) : gb173 ≠ gb101)); have n10_ := Aside0.mk ((by rw [hg]; exact Nat.ne_of_lt (blk_lt (g := gb111) (o := .cells #[.int .i64 t144, .int .i64 t145, .int .i64 t146, .int .i64 t147, .int .u8 t148, .bool t149, .int .i64 t150, .int .u8 t151] 24 (0, 0)) (ofA BK111)) : gb111 ≠ gb173)); have n11_ := Aside0.mk ((by rw [hg]; exact Nat.ne_of_gt (blk_lt (g := gb111) (o := .cells #[.int .i64 t144, .int .i64 t145, .int .i64 t146, .int .i64 t147, .int .u8 t148, .bool t149, .int .i64 t150, .int .u8 t151] 24 (0, 0)) (ofA BK111)) : gb173 ≠ gb111)); have n12_ := Aside0.mk ((by rw [hg]; exact Nat.ne_of_lt (blk_lt (g := gb121) (o := .cells #[.int .i64 t154, .int .i64 t155, .int .i64 t156, .int .i64 t157, .int .u8 t158, .bool t159, .int .i64 t160, .int .u8 t161] 24 (0, 0)) (ofA BK121)) : gb121 ≠ gb173)); have n13_ := Aside0.mk ((by rw [hg]; exact Nat.ne_of_gt (blk_lt (g := gb121) (o := .cells #[.int .i64 t154, .int .i64 t155, .int .i64 t156, .int .i64 t157, .int .u8 t158, .bool t159, .int .i64 t160, .int .u8 t161] 24 (0, 0)) (ofA BK121)) : gb173 ≠ gb121)); have n14_ := Aside0.mk ((by rw [hg]; exact Nat.ne_of_lt (blk_lt (g := gb168) (o := .cells #[.int .i64 t164, .int .i64 t165] 22 (0, 0)) (ofA BK168)) : gb168 ≠ gb173)); have n15_ := Aside0.mk ((by rw [hg]; exact Nat.ne_of_gt (blk_lt (g := gb168) (o := .cells #[.int .i64 t164, .int .i64 t165] 22 (0, 0)) (ofA BK168)) : gb173 ≠ gb168)); clear BK101; clear BK111; clear BK121; clear BK168; clear HB; have BK101 := n0_; have BK111 := n1_; have BK121 := n2_; have BK168 := n3_; have HB := n4_; have BK173 := n5_; have GW173 := n6_; have GE173 := n7_; have NB101_173 := n8_; have NB173_101 := n9_; have NB111_173 := n10_; have NB173_111 := n11_; have NB121_173 := n12_; have NB173_121 := n13_; have NB168_173 := n14_; have NB173_168 := n15_; clear n0_ n1_ n2_ n3_ n4_ n5_ n6_ n7_ n8_ n9_ n10_ n11_ n12_ n13_ n14_ n15_; clear hb hbox hg; have hnb188 := NB173_101.out; have hnc188 := NB101_173.out; have hnb189 := NB173_111.out; have hnc189 := NB111_173.out; have hnb190 := NB173_121.out; have hnc190 := NB121_173.out; have hnb191 := NB173_168.out; have hnc191 := NB168_173.out; obtain ⟨hcz192_0, hcz192_1, hfz192_0, hfz192_1⟩ := cells2 BK173.out; obtain ⟨hcz193_0, hcz193_1, hcz193_2, hcz193_3, hcz193_4, hcz193_5, hcz193_6, hcz193_7, hfz193_0, hfz193_1, hfz193_2, hfz193_3, hfz193_4, hfz193_5, hfz193_6, hfz193_7⟩ := cells8 BK101.out) | ((with_reducible refine gate_callee (f := 25) rfl ?_); refine goesL_ (some 128) rfl rfl Tryd.func25 (by kernel_rfl) rfl #[.agg #[.int .i64 a0_0, .int .i64 a0_1, .int .i64 a0_2, .int .i64 a0_3, .int .u8 a0_4, .bool a0_5, .int .i64 a0_6, .int .u8 a0_7]] rfl mapx ?_; (with_reducible refine (Pclk.clock_When.calls kj67 a0_0 a0_1 a0_2 a0_3 a0_4 a0_5 a0_6 a0_7 t174 t175 _ A98.out).mono ?_); rintro e w194 ⟨rfl, hb⟩; refine ⟨_, rfl, ?_⟩; have n0_ := Aside0.mk (blk_below (g := gb101) (o := .cells #[.int .i64 a0_0, .int .i64 a0_1, .int .i64 a0_2, .int .i64 a0_3, .int .u8 a0_4, .bool a0_5, .int .i64 a0_6, .int .u8 a0_7] 24 (0, 0)) (by (with_reducible repeat (first | refine bN ?_ _ | refine bD ?_ | refine bA ?_ _)); (iterate 2 refine blk_far ?_ NB101_173.out _); exact ofA BK101) hb); have n1_ := Aside0.mk (blk_below (g := gb111) (o := .cells #[.int .i64 t144, .int .i64 t145, .int .i64 t146, .int .i64 t147, .int .u8 t148, .bool t149, .int .i64 t150, .int .u8 t151] 24 (0, 0)) (by (with_reducible repeat (first | refine bN ?_ _ | refine bD ?_ | refine bA ?_ _)); (iterate 2 refine blk_far ?_ NB111_173.out _); exact ofA BK111) hb); have n2_ := Aside0.mk (blk_below (g := gb121) (o := .cells #[.int .i64 t154, .int .i64 t155, .int .i64 t156, .int .i64 t157, .int .u8 t158, .bool t159, .int .i64 t160, .int .u8 t161] 24 (0, 0)) (by (with_reducible repeat (first | refine bN ?_ _ | refine bD ?_ | refine bA ?_ _)); (iterate 2 refine blk_far ?_ NB121_173.out _); exact ofA BK121) hb); have n3_ := Aside0.mk (blk_below (g := gb168) (o := .cells #[.int .i64 t164, .int .i64 t165] 22 (0, 0)) (by (with_reducible repeat (first | refine bN ?_ _ | refine bD ?_ | refine bA ?_ _)); (iterate 2 refine blk_far ?_ NB168_173.out _); exact ofA BK168) hb); have n4_ := Aside0.mk (blk_below (g := gb173) (o := .cells #[.int .i64 t169, .int .i64 t170] 22 (0, 0)) (by (with_reducible repeat (first | refine bN ?_ _ | refine bD ?_ | refine bA ?_ _)); refine blk_put (cs := #[.int .i64 t169, .int .i64 0]) ?_ 1 _ rfl; refine blk_put (cs := #[.int .i64 0, .int .i64 0]) ?_ 0 _ rfl; exact ofA BK173) hb); have n5_ := Aside0.mk (below_step (low HB) hb); clear BK101; clear BK111; clear BK121; clear BK168; clear BK173; clear HB; have BK101 := n0_; have BK111 := n1_; have BK121 := n2_; have BK168 := n3_; have BK173 := n4_; have HB := n5_; clear n0_ n1_ n2_ n3_ n4_ n5_; (try clear hb); (try clear hb2); (try clear hk); (try clear hi); obtain ⟨hcz195_0, hcz195_1, hcz195_2, hcz195_3, hcz195_4, hcz195_5, hcz195_6, hcz195_7, hfz195_0, hfz195_1, hfz195_2, hfz195_3, hfz195_4, hfz195_5, hfz195_6, hfz195_7⟩ := cells8 BK101.out) | ((with_reducible refine gate_callee (f := 26) rfl ?_); refine goesL_ (some 133) rfl rfl Tryd.func26 (by kernel_rfl) rfl #[.agg #[.int .i64 a0_0, .int .i64 a0_1, .int .i64 a0_2, .int .i64 a0_3, .int .u8 a0_4, .bool a0_5, .int .i64 a0_6, .int .u8 a0_7]] rfl mapx ?_; (with_reducible refine (Pcrf.joustref28_When.calls kj67 a0_0 a0_1 a0_2 a0_3 a0_4 a0_5 a0_6 a0_7 t176 t177 _ A99.out).mono ?_); rintro e w196 ⟨rfl, hb⟩; refine ⟨_, rfl, ?_⟩; have n0_ := Aside0.mk (blk_below (g := gb101) (o := .cells #[.int .i64 a0_0, .int .i64 a0_1, .int .i64 a0_2, .int .i64 a0_3, .int .u8 a0_4, .bool a0_5, .int .i64 a0_6, .int .u8 a0_7] 24 (0, 0)) (ofA BK101) hb); have n1_ := Aside0.mk (blk_below (g := gb111) (o := .cells #[.int .i64 t144, .int .i64 t145, .int .i64 t146, .int .i64 t147, .int .u8 t148, .bool t149, .int .i64 t150, .int .u8 t151] 24 (0, 0)) (ofA BK111) hb); have n2_ := Aside0.mk (blk_below (g := gb121) (o := .cells #[.int .i64 t154, .int .i64 t155, .int .i64 t156, .int .i64 t157, .int .u8 t158, .bool t159, .int .i64 t160, .int .u8 t161] 24 (0, 0)) (ofA BK121) hb); have n3_ := Aside0.mk (blk_below (g := gb168) (o := .cells #[.int .i64 t164, .int .i64 t165] 22 (0, 0)) (ofA BK168) hb); have n4_ := Aside0.mk (blk_below (g := gb173) (o := .cells #[.int .i64 t169, .int .i64 t170] 22 (0, 0)) (ofA BK173) hb); have n5_ := Aside0.mk (below_step (low HB) hb); clear BK101; clear BK111; clear BK121; clear BK168; clear BK173; clear HB; have BK101 := n0_; have BK111 := n1_; have BK121 := n2_; have BK168 := n3_; have BK173 := n4_; have HB := n5_; clear n0_ n1_ n2_ n3_ n4_ n5_; (try clear hb); (try clear hb2); (try clear hk); (try clear hi); obtain ⟨hcz197_0, hcz197_1, hfz197_0, hfz197_1⟩ := cells2 BK168.out; obtain ⟨hcz198_0, hcz198_1, hfz198_0, hfz198_1⟩ := cells2 BK173.out))
             go_ret
             exact ⟨by first | rfl | (simp [errW_none, errW_some] <;> rfl) | (simp [*, errW_none, errW_some] <;> rfl), low HB⟩
           ·
            rw [if_neg c101] at H
            have c101b0 : (t166 == t171) = false := by simpa using c101
            (try (have c101b1 : decide (t166 = t171) = false := by simpa using c101))
            (try (have c101b2 : (t166 == t171) = false := by simpa using c101))
            (try (have c101b3 : ¬ (t166 = t171) := by simpa using c101))
            clear c101
            obtain rfl := Option.some.inj H
            have hnb199 := NB101_111.out
            have hnc199 := NB111_101.out
            have hnb200 := NB101_121.out
            have hnc200 := NB121_101.out
            have hcz201_0 : wc.cell? ⟨gb101, 0, none⟩ = some (.int .i64 a0_0) := (blk_cell BK101.out 0).trans rfl
            have hcz201_1 : wc.cell? ⟨gb101, 1, none⟩ = some (.int .i64 a0_1) := (blk_cell BK101.out 1).trans rfl
            have hcz201_2 : wc.cell? ⟨gb101, 2, none⟩ = some (.int .i64 a0_2) := (blk_cell BK101.out 2).trans rfl
            have hcz201_3 : wc.cell? ⟨gb101, 3, none⟩ = some (.int .i64 a0_3) := (blk_cell BK101.out 3).trans rfl
            have hcz201_4 : wc.cell? ⟨gb101, 4, none⟩ = some (.int .u8 a0_4) := (blk_cell BK101.out 4).trans rfl
            have hcz201_5 : wc.cell? ⟨gb101, 5, none⟩ = some (.bool a0_5) := (blk_cell BK101.out 5).trans rfl
            have hcz201_6 : wc.cell? ⟨gb101, 6, none⟩ = some (.int .i64 a0_6) := (blk_cell BK101.out 6).trans rfl
            have hcz201_7 : wc.cell? ⟨gb101, 7, none⟩ = some (.int .u8 a0_7) := (blk_cell BK101.out 7).trans rfl
            have hfz201_0 := blk_frozen BK101.out 0
            have hfz201_1 := blk_frozen BK101.out 1
            have hfz201_2 := blk_frozen BK101.out 2
            have hfz201_3 := blk_frozen BK101.out 3
            have hfz201_4 := blk_frozen BK101.out 4
            have hfz201_5 := blk_frozen BK101.out 5
            have hfz201_6 := blk_frozen BK101.out 6
            have hfz201_7 := blk_frozen BK101.out 7
            go_wp2_with (first | ((with_reducible refine gate_callee (f := 23) rfl ?_); refine goesL_ (some 115) rfl rfl Tryd.func23 (by kernel_rfl) rfl #[.agg #[.int .i64 a0_0, .int .i64 a0_1, .int .i64 a0_2, .int .i64 a0_3, .int .u8 a0_4, .bool a0_5, .int .i64 a0_6, .int .u8 a0_7], .int .i64 a5] rfl mapx ?_; (with_reducible refine (Pclk.clock_Look.calls kj67 a0_0 a0_1 a0_2 a0_3 a0_4 a0_5 a0_6 a0_7 a5 t164 t165 t166 t167 _ A96.out).mono ?_); rintro e w202 ⟨rfl, hb⟩; refine ⟨_, rfl, ?_⟩; have n0_ := Aside0.mk (blk_below (g := gb101) (o := .cells #[.int .i64 a0_0, .int .i64 a0_1, .int .i64 a0_2, .int .i64 a0_3, .int .u8 a0_4, .bool a0_5, .int .i64 a0_6, .int .u8 a0_7] 24 (0, 0)) (ofA BK101) hb); have n1_ := Aside0.mk (blk_below (g := gb111) (o := .cells #[.int .i64 t144, .int .i64 t145, .int .i64 t146, .int .i64 t147, .int .u8 t148, .bool t149, .int .i64 t150, .int .u8 t151] 24 (0, 0)) (ofA BK111) hb); have n2_ := Aside0.mk (blk_below (g := gb121) (o := .cells #[.int .i64 t154, .int .i64 t155, .int .i64 t156, .int .i64 t157, .int .u8 t158, .bool t159, .int .i64 t160, .int .u8 t161] 24 (0, 0)) (ofA BK121) hb); have n3_ := Aside0.mk (below_step (low HB) hb); clear BK101; clear BK111; clear BK121; clear HB; have BK101 := n0_; have BK111 := n1_; have BK121 := n2_; have HB := n3_; clear n0_ n1_ n2_ n3_; (try clear hb); (try clear hb2); (try clear hk); (try clear hi)) | ((with_reducible refine gate_dst (N := 19) rfl ?_); refine box_event ?hg (N := 19) ?hd (cs := #[.int .i64 0, .int .i64 0]) (t := 22) ?hr ?_; (case hd => rfl); (case hg => rfl); (case hr => first | (go_simp; done) | (go_simp; rfl)); intro gb168 hg w203 hbox hb; have n0_ := Aside0.mk (blk_below (g := gb101) (o := .cells #[.int .i64 a0_0, .int .i64 a0_1, .int .i64 a0_2, .int .i64 a0_3, .int .u8 a0_4, .bool a0_5, .int .i64 a0_6, .int .u8 a0_7] 24 (0, 0)) (ofA BK101) hb); have n1_ := Aside0.mk (blk_below (g := gb111) (o := .cells #[.int .i64 t144, .int .i64 t145, .int .i64 t146, .int .i64 t147, .int .u8 t148, .bool t149, .int .i64 t150, .int .u8 t151] 24 (0, 0)) (ofA BK111) hb); have n2_ := Aside0.mk (blk_below (g := gb121) (o := .cells #[.int .i64 t154, .int .i64 t155, .int .i64 t156, .int .i64 t157, .int .u8 t158, .bool t159, .int .i64 t160, .int .u8 t161] 24 (0, 0)) (ofA BK121) hb); have n3_ := Aside0.mk (below_step (low HB) hb); have n4_ := Aside0.mk (hbox); have n5_ := Aside0.mk ((by rw [hg]; exact (below_size (low HB)) : w.heap.size ≤ gb168)); have n6_ := Aside0.mk ((by rw [hg]; exact (below_size (low HB)) : w.heap.size ≤ gb168)); have n7_ := Aside0.mk ((by rw [hg]; exact Nat.ne_of_lt (blk_lt (g := gb101) (o := .cells #[.int .i64 a0_0, .int .i64 a0_1, .int .i64 a0_2, .int .i64 a0_3, .int .u8 a0_4, .bool a0_5, .int .i64 a0_6, .int .u8 a0_7] 24 (0, 0)) (ofA BK101)) : gb101 ≠ gb168)); have n8_ := Aside0.mk ((by rw [hg]; exact Nat.ne_of_gt (blk_lt (g := gb101) (o := .cells #[.int .i64 a0_0, .int .i64 a0_1, .int .i64 a0_2, .int .i64 a0_3, .int .u8 a0_4, .bool a0_5, .int .i64 a0_6, .int .u8 a0_7] 24 (0, 0)) (ofA BK101)) : gb168 ≠ gb101)); have n9_ := Aside0.mk ((by rw [hg]; exact Nat.ne_of_lt (blk_lt (g := gb111) (o := .cells #[.int .i64 t144, .int .i64 t145, .int .i64 t146, .int .i64 t147, .int .u8 t148, .bool t149, .int .i64 t150, .int .u8 t151] 24 (0, 0)) (ofA BK111)) : gb111 ≠ gb168)); have n10_ := Aside0.mk ((by rw [hg]; exact Nat.ne_of_gt (blk_lt (g := gb111) (o := .cells #[.int .i64 t144, .int .i64 t145, .int .i64 t146, .int .i64 t147, .int .u8 t148, .bool t149, .int .i64 t150, .int .u8 t151] 24 (0, 0)) (ofA BK111)) : gb168 ≠ gb111)); have n11_ := Aside0.mk ((by rw [hg]; exact Nat.ne_of_lt (blk_lt (g := gb121) (o := .cells #[.int .i64 t154, .int .i64 t155, .int .i64 t156, .int .i64 t157, .int .u8 t158, .bool t159, .int .i64 t160, .int .u8 t161] 24 (0, 0)) (ofA BK121)) : gb121 ≠ gb168)); have n12_ := Aside0.mk ((by rw [hg]; exact Nat.ne_of_gt (blk_lt (g := gb121) (o := .cells #[.int .i64 t154, .int .i64 t155, .int .i64 t156, .int .i64 t157, .int .u8 t158, .bool t159, .int .i64 t160, .int .u8 t161] 24 (0, 0)) (ofA BK121)) : gb168 ≠ gb121)); clear BK101; clear BK111; clear BK121; clear HB; have BK101 := n0_; have BK111 := n1_; have BK121 := n2_; have HB := n3_; have BK168 := n4_; have GW168 := n5_; have GE168 := n6_; have NB101_168 := n7_; have NB168_101 := n8_; have NB111_168 := n9_; have NB168_111 := n10_; have NB121_168 := n11_; have NB168_121 := n12_; clear n0_ n1_ n2_ n3_ n4_ n5_ n6_ n7_ n8_ n9_ n10_ n11_ n12_; clear hb hbox hg; have hnb204 := NB168_101.out; have hnc204 := NB101_168.out; have hnb205 := NB168_111.out; have hnc205 := NB111_168.out; have hnb206 := NB168_121.out; have hnc206 := NB121_168.out; obtain ⟨hcz207_0, hcz207_1, hfz207_0, hfz207_1⟩ := cells2 BK168.out; obtain ⟨hcz208_0, hcz208_1, hcz208_2, hcz208_3, hcz208_4, hcz208_5, hcz208_6, hcz208_7, hfz208_0, hfz208_1, hfz208_2, hfz208_3, hfz208_4, hfz208_5, hfz208_6, hfz208_7⟩ := cells8 BK101.out) | ((with_reducible refine gate_callee (f := 24) rfl ?_); refine goesL_ (some 122) rfl rfl Tryd.func24 (by kernel_rfl) rfl #[.agg #[.int .i64 a0_0, .int .i64 a0_1, .int .i64 a0_2, .int .i64 a0_3, .int .u8 a0_4, .bool a0_5, .int .i64 a0_6, .int .u8 a0_7], .int .i64 a5] rfl mapx ?_; (with_reducible refine (Pcrf.joustref28_Look.calls kj67 a0_0 a0_1 a0_2 a0_3 a0_4 a0_5 a0_6 a0_7 a5 t169 t170 t171 t172 _ A97.out).mono ?_); rintro e w209 ⟨rfl, hb⟩; refine ⟨_, rfl, ?_⟩; have n0_ := Aside0.mk (blk_below (g := gb101) (o := .cells #[.int .i64 a0_0, .int .i64 a0_1, .int .i64 a0_2, .int .i64 a0_3, .int .u8 a0_4, .bool a0_5, .int .i64 a0_6, .int .u8 a0_7] 24 (0, 0)) (by (with_reducible repeat (first | refine bN ?_ _ | refine bD ?_ | refine bA ?_ _)); (iterate 2 refine blk_far ?_ NB101_168.out _); exact ofA BK101) hb); have n1_ := Aside0.mk (blk_below (g := gb111) (o := .cells #[.int .i64 t144, .int .i64 t145, .int .i64 t146, .int .i64 t147, .int .u8 t148, .bool t149, .int .i64 t150, .int .u8 t151] 24 (0, 0)) (by (with_reducible repeat (first | refine bN ?_ _ | refine bD ?_ | refine bA ?_ _)); (iterate 2 refine blk_far ?_ NB111_168.out _); exact ofA BK111) hb); have n2_ := Aside0.mk (blk_below (g := gb121) (o := .cells #[.int .i64 t154, .int .i64 t155, .int .i64 t156, .int .i64 t157, .int .u8 t158, .bool t159, .int .i64 t160, .int .u8 t161] 24 (0, 0)) (by (with_reducible repeat (first | refine bN ?_ _ | refine bD ?_ | refine bA ?_ _)); (iterate 2 refine blk_far ?_ NB121_168.out _); exact ofA BK121) hb); have n3_ := Aside0.mk (blk_below (g := gb168) (o := .cells #[.int .i64 t164, .int .i64 t165] 22 (0, 0)) (by (with_reducible repeat (first | refine bN ?_ _ | refine bD ?_ | refine bA ?_ _)); refine blk_put (cs := #[.int .i64 t164, .int .i64 0]) ?_ 1 _ rfl; refine blk_put (cs := #[.int .i64 0, .int .i64 0]) ?_ 0 _ rfl; exact ofA BK168) hb); have n4_ := Aside0.mk (below_step (low HB) hb); clear BK101; clear BK111; clear BK121; clear BK168; clear HB; have BK101 := n0_; have BK111 := n1_; have BK121 := n2_; have BK168 := n3_; have HB := n4_; clear n0_ n1_ n2_ n3_ n4_; (try clear hb); (try clear hb2); (try clear hk); (try clear hi)) | ((with_reducible refine gate_dst (N := 20) rfl ?_); refine box_event ?hg (N := 20) ?hd (cs := #[.int .i64 0, .int .i64 0]) (t := 22) ?hr ?_; (case hd => rfl); (case hg => rfl); (case hr => first | (go_simp; done) | (go_simp; rfl)); intro gb173 hg w210 hbox hb; have n0_ := Aside0.mk (blk_below (g := gb101) (o := .cells #[.int .i64 a0_0, .int .i64 a0_1, .int .i64 a0_2, .int .i64 a0_3, .int .u8 a0_4, .bool a0_5, .int .i64 a0_6, .int .u8 a0_7] 24 (0, 0)) (ofA BK101) hb); have n1_ := Aside0.mk (blk_below (g := gb111) (o := .cells #[.int .i64 t144, .int .i64 t145, .int .i64 t146, .int .i64 t147, .int .u8 t148, .bool t149, .int .i64 t150, .int .u8 t151] 24 (0, 0)) (ofA BK111) hb); have n2_ := Aside0.mk (blk_below (g := gb121) (o := .cells #[.int .i64 t154, .int .i64 t155, .int .i64 t156, .int .i64 t157, .int .u8 t158, .bool t159, .int .i64 t160, .int .u8 t161] 24 (0, 0)) (ofA BK121) hb); have n3_ := Aside0.mk (blk_below (g := gb168) (o := .cells #[.int .i64 t164, .int .i64 t165] 22 (0, 0)) (ofA BK168) hb); have n4_ := Aside0.mk (below_step (low HB) hb); have n5_ := Aside0.mk (hbox); have n6_ := Aside0.mk ((by rw [hg]; exact (below_size (low HB)) : w.heap.size ≤ gb173)); have n7_ := Aside0.mk ((by rw [hg]; exact (below_size (low HB)) : w.heap.size ≤ gb173)); have n8_ := Aside0.mk ((by rw [hg]; exact Nat.ne_of_lt (blk_lt (g := gb101) (o := .cells #[.int .i64 a0_0, .int .i64 a0_1, .int .i64 a0_2, .int .i64 a0_3, .int .u8 a0_4, .bool a0_5, .int .i64 a0_6, .int .u8 a0_7] 24 (0, 0)) (ofA BK101)) : gb101 ≠ gb173)); have n9_ := Aside0.mk ((by rw [hg]; exact Nat.ne_of_gt (blk_lt (g := gb101) (o := .cells #[.int .i64 a0_0, .int .i64 a0_1, .int .i64 a0_2, .int .i64 a0_3, .int .u8 a0_4, .bool a0_5, .int .i64 a0_6, .int .u8 a0_7] 24 (0, 0)) (ofA BK101)) : gb173 ≠ gb101)); have n10_ := Aside0.mk ((by rw [hg]; exact Nat.ne_of_lt (blk_lt (g := gb111) (o := .cells #[.int .i64 t144, .int .i64 t145, .int .i64 t146, .int .i64 t147, .int .u8 t148, .bool t149, .int .i64 t150, .int .u8 t151] 24 (0, 0)) (ofA BK111)) : gb111 ≠ gb173)); have n11_ := Aside0.mk ((by rw [hg]; exact Nat.ne_of_gt (blk_lt (g := gb111) (o := .cells #[.int .i64 t144, .int .i64 t145, .int .i64 t146, .int .i64 t147, .int .u8 t148, .bool t149, .int .i64 t150, .int .u8 t151] 24 (0, 0)) (ofA BK111)) : gb173 ≠ gb111)); have n12_ := Aside0.mk ((by rw [hg]; exact Nat.ne_of_lt (blk_lt (g := gb121) (o := .cells #[.int .i64 t154, .int .i64 t155, .int .i64 t156, .int .i64 t157, .int .u8 t158, .bool t159, .int .i64 t160, .int .u8 t161] 24 (0, 0)) (ofA BK121)) : gb121 ≠ gb173)); have n13_ := Aside0.mk ((by rw [hg]; exact Nat.ne_of_gt (blk_lt (g := gb121) (o := .cells #[.int .i64 t154, .int .i64 t155, .int .i64 t156, .int .i64 t157, .int .u8 t158, .bool t159, .int .i64 t160, .int .u8 t161] 24 (0, 0)) (ofA BK121)) : gb173 ≠ gb121)); have n14_ := Aside0.mk ((by rw [hg]; exact Nat.ne_of_lt (blk_lt (g := gb168) (o := .cells #[.int .i64 t164, .int .i64 t165] 22 (0, 0)) (ofA BK168)) : gb168 ≠ gb173)); have n15_ := Aside0.mk ((by rw [hg]; exact Nat.ne_of_gt (blk_lt (g := gb168) (o := .cells #[.int .i64 t164, .int .i64 t165] 22 (0, 0)) (ofA BK168)) : gb173 ≠ gb168)); clear BK101; clear BK111; clear BK121; clear BK168; clear HB; have BK101 := n0_; have BK111 := n1_; have BK121 := n2_; have BK168 := n3_; have HB := n4_; have BK173 := n5_; have GW173 := n6_; have GE173 := n7_; have NB101_173 := n8_; have NB173_101 := n9_; have NB111_173 := n10_; have NB173_111 := n11_; have NB121_173 := n12_; have NB173_121 := n13_; have NB168_173 := n14_; have NB173_168 := n15_; clear n0_ n1_ n2_ n3_ n4_ n5_ n6_ n7_ n8_ n9_ n10_ n11_ n12_ n13_ n14_ n15_; clear hb hbox hg; have hnb211 := NB173_101.out; have hnc211 := NB101_173.out; have hnb212 := NB173_111.out; have hnc212 := NB111_173.out; have hnb213 := NB173_121.out; have hnc213 := NB121_173.out; have hnb214 := NB173_168.out; have hnc214 := NB168_173.out; obtain ⟨hcz215_0, hcz215_1, hfz215_0, hfz215_1⟩ := cells2 BK173.out; obtain ⟨hcz216_0, hcz216_1, hcz216_2, hcz216_3, hcz216_4, hcz216_5, hcz216_6, hcz216_7, hfz216_0, hfz216_1, hfz216_2, hfz216_3, hfz216_4, hfz216_5, hfz216_6, hfz216_7⟩ := cells8 BK101.out) | ((with_reducible refine gate_callee (f := 25) rfl ?_); refine goesL_ (some 128) rfl rfl Tryd.func25 (by kernel_rfl) rfl #[.agg #[.int .i64 a0_0, .int .i64 a0_1, .int .i64 a0_2, .int .i64 a0_3, .int .u8 a0_4, .bool a0_5, .int .i64 a0_6, .int .u8 a0_7]] rfl mapx ?_; (with_reducible refine (Pclk.clock_When.calls kj67 a0_0 a0_1 a0_2 a0_3 a0_4 a0_5 a0_6 a0_7 t174 t175 _ A98.out).mono ?_); rintro e w217 ⟨rfl, hb⟩; refine ⟨_, rfl, ?_⟩; have n0_ := Aside0.mk (blk_below (g := gb101) (o := .cells #[.int .i64 a0_0, .int .i64 a0_1, .int .i64 a0_2, .int .i64 a0_3, .int .u8 a0_4, .bool a0_5, .int .i64 a0_6, .int .u8 a0_7] 24 (0, 0)) (by (with_reducible repeat (first | refine bN ?_ _ | refine bD ?_ | refine bA ?_ _)); (iterate 2 refine blk_far ?_ NB101_173.out _); exact ofA BK101) hb); have n1_ := Aside0.mk (blk_below (g := gb111) (o := .cells #[.int .i64 t144, .int .i64 t145, .int .i64 t146, .int .i64 t147, .int .u8 t148, .bool t149, .int .i64 t150, .int .u8 t151] 24 (0, 0)) (by (with_reducible repeat (first | refine bN ?_ _ | refine bD ?_ | refine bA ?_ _)); (iterate 2 refine blk_far ?_ NB111_173.out _); exact ofA BK111) hb); have n2_ := Aside0.mk (blk_below (g := gb121) (o := .cells #[.int .i64 t154, .int .i64 t155, .int .i64 t156, .int .i64 t157, .int .u8 t158, .bool t159, .int .i64 t160, .int .u8 t161] 24 (0, 0)) (by (with_reducible repeat (first | refine bN ?_ _ | refine bD ?_ | refine bA ?_ _)); (iterate 2 refine blk_far ?_ NB121_173.out _); exact ofA BK121) hb); have n3_ := Aside0.mk (blk_below (g := gb168) (o := .cells #[.int .i64 t164, .int .i64 t165] 22 (0, 0)) (by (with_reducible repeat (first | refine bN ?_ _ | refine bD ?_ | refine bA ?_ _)); (iterate 2 refine blk_far ?_ NB168_173.out _); exact ofA BK168) hb); have n4_ := Aside0.mk (blk_below (g := gb173) (o := .cells #[.int .i64 t169, .int .i64 t170] 22 (0, 0)) (by (with_reducible repeat (first | refine bN ?_ _ | refine bD ?_ | refine bA ?_ _)); refine blk_put (cs := #[.int .i64 t169, .int .i64 0]) ?_ 1 _ rfl; refine blk_put (cs := #[.int .i64 0, .int .i64 0]) ?_ 0 _ rfl; exact ofA BK173) hb); have n5_ := Aside0.mk (below_step (low HB) hb); clear BK101; clear BK111; clear BK121; clear BK168; clear BK173; clear HB; have BK101 := n0_; have BK111 := n1_; have BK121 := n2_; have BK168 := n3_; have BK173 := n4_; have HB := n5_; clear n0_ n1_ n2_ n3_ n4_ n5_; (try clear hb); (try clear hb2); (try clear hk); (try clear hi); obtain ⟨hcz218_0, hcz218_1, hcz218_2, hcz218_3, hcz218_4, hcz218_5, hcz218_6, hcz218_7, hfz218_0, hfz218_1, hfz218_2, hfz218_3, hfz218_4, hfz218_5, hfz218_6, hfz218_7⟩ := cells8 BK101.out) | ((with_reducible refine gate_callee (f := 26) rfl ?_); refine goesL_ (some 133) rfl rfl Tryd.func26 (by kernel_rfl) rfl #[.agg #[.int .i64 a0_0, .int .i64 a0_1, .int .i64 a0_2, .int .i64 a0_3, .int .u8 a0_4, .bool a0_5, .int .i64 a0_6, .int .u8 a0_7]] rfl mapx ?_; (with_reducible refine (Pcrf.joustref28_When.calls kj67 a0_0 a0_1 a0_2 a0_3 a0_4 a0_5 a0_6 a0_7 t176 t177 _ A99.out).mono ?_); rintro e w219 ⟨rfl, hb⟩; refine ⟨_, rfl, ?_⟩; have n0_ := Aside0.mk (blk_below (g := gb101) (o := .cells #[.int .i64 a0_0, .int .i64 a0_1, .int .i64 a0_2, .int .i64 a0_3, .int .u8 a0_4, .bool a0_5, .int .i64 a0_6, .int .u8 a0_7] 24 (0, 0)) (ofA BK101) hb); have n1_ := Aside0.mk (blk_below (g := gb111) (o := .cells #[.int .i64 t144, .int .i64 t145, .int .i64 t146, .int .i64 t147, .int .u8 t148, .bool t149, .int .i64 t150, .int .u8 t151] 24 (0, 0)) (ofA BK111) hb); have n2_ := Aside0.mk (blk_below (g := gb121) (o := .cells #[.int .i64 t154, .int .i64 t155, .int .i64 t156, .int .i64 t157, .int .u8 t158, .bool t159, .int .i64 t160, .int .u8 t161] 24 (0, 0)) (ofA BK121) hb); have n3_ := Aside0.mk (blk_below (g := gb168) (o := .cells #[.int .i64 t164, .int .i64 t165] 22 (0, 0)) (ofA BK168) hb); have n4_ := Aside0.mk (blk_below (g := gb173) (o := .cells #[.int .i64 t169, .int .i64 t170] 22 (0, 0)) (ofA BK173) hb); have n5_ := Aside0.mk (below_step (low HB) hb); clear BK101; clear BK111; clear BK121; clear BK168; clear BK173; clear HB; have BK101 := n0_; have BK111 := n1_; have BK121 := n2_; have BK168 := n3_; have BK173 := n4_; have HB := n5_; clear n0_ n1_ n2_ n3_ n4_ n5_; (try clear hb); (try clear hb2); (try clear hk); (try clear hi); obtain ⟨hcz220_0, hcz220_1, hfz220_0, hfz220_1⟩ := cells2 BK168.out; obtain ⟨hcz221_0, hcz221_1, hfz221_0, hfz221_1⟩ := cells2 BK173.out))
            go_ret
            exact ⟨by first | rfl | (simp [errW_none, errW_some] <;> rfl) | (simp [*, errW_none, errW_some] <;> rfl), low HB⟩
          ·
           rw [if_neg c100] at H
           have c100b0 : (t164 == t169 && (t165 == t170)) = false := by simpa using c100
           (try (have c100b1 : decide (t164 = t169 && (t165 == t170)) = false := by simpa using c100))
           (try (have c100b2 : (t164 == t169 && (t165 == t170)) = false := by simpa using c100))
           (try (have c100b3 : ¬ (t164 = t169 && (t165 == t170)) := by simpa using c100))
           clear c100
           obtain rfl := Option.some.inj H
           have hnb222 := NB101_111.out
           have hnc222 := NB111_101.out
           have hnb223 := NB101_121.out
           have hnc223 := NB121_101.out
           have hcz224_0 : wc.cell? ⟨gb101, 0, none⟩ = some (.int .i64 a0_0) := (blk_cell BK101.out 0).trans rfl
           have hcz224_1 : wc.cell? ⟨gb101, 1, none⟩ = some (.int .i64 a0_1) := (blk_cell BK101.out 1).trans rfl
           have hcz224_2 : wc.cell? ⟨gb101, 2, none⟩ = some (.int .i64 a0_2) := (blk_cell BK101.out 2).trans rfl
           have hcz224_3 : wc.cell? ⟨gb101, 3, none⟩ = some (.int .i64 a0_3) := (blk_cell BK101.out 3).trans rfl
           have hcz224_4 : wc.cell? ⟨gb101, 4, none⟩ = some (.int .u8 a0_4) := (blk_cell BK101.out 4).trans rfl
           have hcz224_5 : wc.cell? ⟨gb101, 5, none⟩ = some (.bool a0_5) := (blk_cell BK101.out 5).trans rfl
           have hcz224_6 : wc.cell? ⟨gb101, 6, none⟩ = some (.int .i64 a0_6) := (blk_cell BK101.out 6).trans rfl
           have hcz224_7 : wc.cell? ⟨gb101, 7, none⟩ = some (.int .u8 a0_7) := (blk_cell BK101.out 7).trans rfl
           have hfz224_0 := blk_frozen BK101.out 0
           have hfz224_1 := blk_frozen BK101.out 1
           have hfz224_2 := blk_frozen BK101.out 2
           have hfz224_3 := blk_frozen BK101.out 3
           have hfz224_4 := blk_frozen BK101.out 4
           have hfz224_5 := blk_frozen BK101.out 5
           have hfz224_6 := blk_frozen BK101.out 6
           have hfz224_7 := blk_frozen BK101.out 7
           go_wp2_with (first | ((with_reducible refine gate_callee (f := 23) rfl ?_); refine goesL_ (some 115) rfl rfl Tryd.func23 (by kernel_rfl) rfl #[.agg #[.int .i64 a0_0, .int .i64 a0_1, .int .i64 a0_2, .int .i64 a0_3, .int .u8 a0_4, .bool a0_5, .int .i64 a0_6, .int .u8 a0_7], .int .i64 a5] rfl mapx ?_; (with_reducible refine (Pclk.clock_Look.calls kj67 a0_0 a0_1 a0_2 a0_3 a0_4 a0_5 a0_6 a0_7 a5 t164 t165 t166 t167 _ A96.out).mono ?_); rintro e w225 ⟨rfl, hb⟩; refine ⟨_, rfl, ?_⟩; have n0_ := Aside0.mk (blk_below (g := gb101) (o := .cells #[.int .i64 a0_0, .int .i64 a0_1, .int .i64 a0_2, .int .i64 a0_3, .int .u8 a0_4, .bool a0_5, .int .i64 a0_6, .int .u8 a0_7] 24 (0, 0)) (ofA BK101) hb); have n1_ := Aside0.mk (blk_below (g := gb111) (o := .cells #[.int .i64 t144, .int .i64 t145, .int .i64 t146, .int .i64 t147, .int .u8 t148, .bool t149, .int .i64 t150, .int .u8 t151] 24 (0, 0)) (ofA BK111) hb); have n2_ := Aside0.mk (blk_below (g := gb121) (o := .cells #[.int .i64 t154, .int .i64 t155, .int .i64 t156, .int .i64 t157, .int .u8 t158, .bool t159, .int .i64 t160, .int .u8 t161] 24 (0, 0)) (ofA BK121) hb); have n3_ := Aside0.mk (below_step (low HB) hb); clear BK101; clear BK111; clear BK121; clear HB; have BK101 := n0_; have BK111 := n1_; have BK121 := n2_; have HB := n3_; clear n0_ n1_ n2_ n3_; (try clear hb); (try clear hb2); (try clear hk); (try clear hi)) | ((with_reducible refine gate_dst (N := 19) rfl ?_); refine box_event ?hg (N := 19) ?hd (cs := #[.int .i64 0, .int .i64 0]) (t := 22) ?hr ?_; (case hd => rfl); (case hg => rfl); (case hr => first | (go_simp; done) | (go_simp; rfl)); intro gb168 hg w226 hbox hb; have n0_ := Aside0.mk (blk_below (g := gb101) (o := .cells #[.int .i64 a0_0, .int .i64 a0_1, .int .i64 a0_2, .int .i64 a0_3, .int .u8 a0_4, .bool a0_5, .int .i64 a0_6, .int .u8 a0_7] 24 (0, 0)) (ofA BK101) hb); have n1_ := Aside0.mk (blk_below (g := gb111) (o := .cells #[.int .i64 t144, .int .i64 t145, .int .i64 t146, .int .i64 t147, .int .u8 t148, .bool t149, .int .i64 t150, .int .u8 t151] 24 (0, 0)) (ofA BK111) hb); have n2_ := Aside0.mk (blk_below (g := gb121) (o := .cells #[.int .i64 t154, .int .i64 t155, .int .i64 t156, .int .i64 t157, .int .u8 t158, .bool t159, .int .i64 t160, .int .u8 t161] 24 (0, 0)) (ofA BK121) hb); have n3_ := Aside0.mk (below_step (low HB) hb); have n4_ := Aside0.mk (hbox); have n5_ := Aside0.mk ((by rw [hg]; exact (below_size (low HB)) : w.heap.size ≤ gb168)); have n6_ := Aside0.mk ((by rw [hg]; exact (below_size (low HB)) : w.heap.size ≤ gb168)); have n7_ := Aside0.mk ((by rw [hg]; exact Nat.ne_of_lt (blk_lt (g := gb101) (o := .cells #[.int .i64 a0_0, .int .i64 a0_1, .int .i64 a0_2, .int .i64 a0_3, .int .u8 a0_4, .bool a0_5, .int .i64 a0_6, .int .u8 a0_7] 24 (0, 0)) (ofA BK101)) : gb101 ≠ gb168)); have n8_ := Aside0.mk ((by rw [hg]; exact Nat.ne_of_gt (blk_lt (g := gb101) (o := .cells #[.int .i64 a0_0, .int .i64 a0_1, .int .i64 a0_2, .int .i64 a0_3, .int .u8 a0_4, .bool a0_5, .int .i64 a0_6, .int .u8 a0_7] 24 (0, 0)) (ofA BK101)) : gb168 ≠ gb101)); have n9_ := Aside0.mk ((by rw [hg]; exact Nat.ne_of_lt (blk_lt (g := gb111) (o := .cells #[.int .i64 t144, .int .i64 t145, .int .i64 t146, .int .i64 t147, .int .u8 t148, .bool t149, .int .i64 t150, .int .u8 t151] 24 (0, 0)) (ofA BK111)) : gb111 ≠ gb168)); have n10_ := Aside0.mk ((by rw [hg]; exact Nat.ne_of_gt (blk_lt (g := gb111) (o := .cells #[.int .i64 t144, .int .i64 t145, .int .i64 t146, .int .i64 t147, .int .u8 t148, .bool t149, .int .i64 t150, .int .u8 t151] 24 (0, 0)) (ofA BK111)) : gb168 ≠ gb111)); have n11_ := Aside0.mk ((by rw [hg]; exact Nat.ne_of_lt (blk_lt (g := gb121) (o := .cells #[.int .i64 t154, .int .i64 t155, .int .i64 t156, .int .i64 t157, .int .u8 t158, .bool t159, .int .i64 t160, .int .u8 t161] 24 (0, 0)) (ofA BK121)) : gb121 ≠ gb168)); have n12_ := Aside0.mk ((by rw [hg]; exact Nat.ne_of_gt (blk_lt (g := gb121) (o := .cells #[.int .i64 t154, .int .i64 t155, .int .i64 t156, .int .i64 t157, .int .u8 t158, .bool t159, .int .i64 t160, .int .u8 t161] 24 (0, 0)) (ofA BK121)) : gb168 ≠ gb121)); clear BK101; clear BK111; clear BK121; clear HB; have BK101 := n0_; have BK111 := n1_; have BK121 := n2_; have HB := n3_; have BK168 := n4_; have GW168 := n5_; have GE168 := n6_; have NB101_168 := n7_; have NB168_101 := n8_; have NB111_168 := n9_; have NB168_111 := n10_; have NB121_168 := n11_; have NB168_121 := n12_; clear n0_ n1_ n2_ n3_ n4_ n5_ n6_ n7_ n8_ n9_ n10_ n11_ n12_; clear hb hbox hg; have hnb227 := NB168_101.out; have hnc227 := NB101_168.out; have hnb228 := NB168_111.out; have hnc228 := NB111_168.out; have hnb229 := NB168_121.out; have hnc229 := NB121_168.out; obtain ⟨hcz230_0, hcz230_1, hfz230_0, hfz230_1⟩ := cells2 BK168.out; obtain ⟨hcz231_0, hcz231_1, hcz231_2, hcz231_3, hcz231_4, hcz231_5, hcz231_6, hcz231_7, hfz231_0, hfz231_1, hfz231_2, hfz231_3, hfz231_4, hfz231_5, hfz231_6, hfz231_7⟩ := cells8 BK101.out) | ((with_reducible refine gate_callee (f := 24) rfl ?_); refine goesL_ (some 122) rfl rfl Tryd.func24 (by kernel_rfl) rfl #[.agg #[.int .i64 a0_0, .int .i64 a0_1, .int .i64 a0_2, .int .i64 a0_3, .int .u8 a0_4, .bool a0_5, .int .i64 a0_6, .int .u8 a0_7], .int .i64 a5] rfl mapx ?_; (with_reducible refine (Pcrf.joustref28_Look.calls kj67 a0_0 a0_1 a0_2 a0_3 a0_4 a0_5 a0_6 a0_7 a5 t169 t170 t171 t172 _ A97.out).mono ?_); rintro e w232 ⟨rfl, hb⟩; refine ⟨_, rfl, ?_⟩; have n0_ := Aside0.mk (blk_below (g := gb101) (o := .cells #[.int .i64 a0_0, .int .i64 a0_1, .int .i64 a0_2, .int .i64 a0_3, .int .u8 a0_4, .bool a0_5, .int .i64 a0_6, .int .u8 a0_7] 24 (0, 0)) (by (with_reducible repeat (first | refine bN ?_ _ | refine bD ?_ | refine bA ?_ _)); (iterate 2 refine blk_far ?_ NB101_168.out _); exact ofA BK101) hb); have n1_ := Aside0.mk (blk_below (g := gb111) (o := .cells #[.int .i64 t144, .int .i64 t145, .int .i64 t146, .int .i64 t147, .int .u8 t148, .bool t149, .int .i64 t150, .int .u8 t151] 24 (0, 0)) (by (with_reducible repeat (first | refine bN ?_ _ | refine bD ?_ | refine bA ?_ _)); (iterate 2 refine blk_far ?_ NB111_168.out _); exact ofA BK111) hb); have n2_ := Aside0.mk (blk_below (g := gb121) (o := .cells #[.int .i64 t154, .int .i64 t155, .int .i64 t156, .int .i64 t157, .int .u8 t158, .bool t159, .int .i64 t160, .int .u8 t161] 24 (0, 0)) (by (with_reducible repeat (first | refine bN ?_ _ | refine bD ?_ | refine bA ?_ _)); (iterate 2 refine blk_far ?_ NB121_168.out _); exact ofA BK121) hb); have n3_ := Aside0.mk (blk_below (g := gb168) (o := .cells #[.int .i64 t164, .int .i64 t165] 22 (0, 0)) (by (with_reducible repeat (first | refine bN ?_ _ | refine bD ?_ | refine bA ?_ _)); refine blk_put (cs := #[.int .i64 t164, .int .i64 0]) ?_ 1 _ rfl; refine blk_put (cs := #[.int .i64 0, .int .i64 0]) ?_ 0 _ rfl; exact ofA BK168) hb); have n4_ := Aside0.mk (below_step (low HB) hb); clear BK101; clear BK111; clear BK121; clear BK168; clear HB; have BK101 := n0_; have BK111 := n1_; have BK121 := n2_; have BK168 := n3_; have HB := n4_; clear n0_ n1_ n2_ n3_ n4_; (try clear hb); (try clear hb2); (try clear hk); (try clear hi)) | ((with_reducible refine gate_dst (N := 20) rfl ?_); refine box_event ?hg (N := 20) ?hd (cs := #[.int .i64 0, .int .i64 0]) (t := 22) ?hr ?_; (case hd => rfl); (case hg => rfl); (case hr => first | (go_simp; done) | (go_simp; rfl)); intro gb173 hg w233 hbox hb; have n0_ := Aside0.mk (blk_below (g := gb101) (o := .cells #[.int .i64 a0_0, .int .i64 a0_1, .int .i64 a0_2, .int .i64 a0_3, .int .u8 a0_4, .bool a0_5, .int .i64 a0_6, .int .u8 a0_7] 24 (0, 0)) (ofA BK101) hb); have n1_ := Aside0.mk (blk_below (g := gb111) (o := .cells #[.int .i64 t144, .int .i64 t145, .int .i64 t146, .int .i64 t147, .int .u8 t148, .bool t149, .int .i64 t150, .int .u8 t151] 24 (0, 0)) (ofA BK111) hb); have n2_ := Aside0.mk (blk_below (g := gb121) (o := .cells #[.int .i64 t154, .int .i64 t155, .int .i64 t156, .int .i64 t157, .int .u8 t158, .bool t159, .int .i64 t160, .int .u8 t161] 24 (0, 0)) (ofA BK121) hb); have n3_ := Aside0.mk (blk_below (g := gb168) (o := .cells #[.int .i64 t164, .int .i64 t165] 22 (0, 0)) (ofA BK168) hb); have n4_ := Aside0.mk (below_step (low HB) hb); have n5_ := Aside0.mk (hbox); have n6_ := Aside0.mk ((by rw [hg]; exact (below_size (low HB)) : w.heap.size ≤ gb173)); have n7_ := Aside0.mk ((by rw [hg]; exact (below_size (low HB)) : w.heap.size ≤ gb173)); have n8_ := Aside0.mk ((by rw [hg]; exact Nat.ne_of_lt (blk_lt (g := gb101) (o := .cells #[.int .i64 a0_0, .int .i64 a0_1, .int .i64 a0_2, .int .i64 a0_3, .int .u8 a0_4, .bool a0_5, .int .i64 a0_6, .int .u8 a0_7] 24 (0, 0)) (ofA BK101)) : gb101 ≠ gb173)); have n9_ := Aside0.mk ((by rw [hg]; exact Nat.ne_of_gt (blk_lt (g := gb101) (o := .cells #[.int .i64 a0_0, .int .i64 a0_1, .int .i64 a0_2, .int .i64 a0_3, .int .u8 a0_4, .bool a0_5, .int .i64 a0_6, .int .u8 a0_7] 24 (0, 0)) (ofA BK101)) : gb173 ≠ gb101)); have n10_ := Aside0.mk ((by rw [hg]; exact Nat.ne_of_lt (blk_lt (g := gb111) (o := .cells #[.int .i64 t144, .int .i64 t145, .int .i64 t146, .int .i64 t147, .int .u8 t148, .bool t149, .int .i64 t150, .int .u8 t151] 24 (0, 0)) (ofA BK111)) : gb111 ≠ gb173)); have n11_ := Aside0.mk ((by rw [hg]; exact Nat.ne_of_gt (blk_lt (g := gb111) (o := .cells #[.int .i64 t144, .int .i64 t145, .int .i64 t146, .int .i64 t147, .int .u8 t148, .bool t149, .int .i64 t150, .int .u8 t151] 24 (0, 0)) (ofA BK111)) : gb173 ≠ gb111)); have n12_ := Aside0.mk ((by rw [hg]; exact Nat.ne_of_lt (blk_lt (g := gb121) (o := .cells #[.int .i64 t154, .int .i64 t155, .int .i64 t156, .int .i64 t157, .int .u8 t158, .bool t159, .int .i64 t160, .int .u8 t161] 24 (0, 0)) (ofA BK121)) : gb121 ≠ gb173)); have n13_ := Aside0.mk ((by rw [hg]; exact Nat.ne_of_gt (blk_lt (g := gb121) (o := .cells #[.int .i64 t154, .int .i64 t155, .int .i64 t156, .int .i64 t157, .int .u8 t158, .bool t159, .int .i64 t160, .int .u8 t161] 24 (0, 0)) (ofA BK121)) : gb173 ≠ gb121)); have n14_ := Aside0.mk ((by rw [hg]; exact Nat.ne_of_lt (blk_lt (g := gb168) (o := .cells #[.int .i64 t164, .int .i64 t165] 22 (0, 0)) (ofA BK168)) : gb168 ≠ gb173)); have n15_ := Aside0.mk ((by rw [hg]; exact Nat.ne_of_gt (blk_lt (g := gb168) (o := .cells #[.int .i64 t164, .int .i64 t165] 22 (0, 0)) (ofA BK168)) : gb173 ≠ gb168)); clear BK101; clear BK111; clear BK121; clear BK168; clear HB; have BK101 := n0_; have BK111 := n1_; have BK121 := n2_; have BK168 := n3_; have HB := n4_; have BK173 := n5_; have GW173 := n6_; have GE173 := n7_; have NB101_173 := n8_; have NB173_101 := n9_; have NB111_173 := n10_; have NB173_111 := n11_; have NB121_173 := n12_; have NB173_121 := n13_; have NB168_173 := n14_; have NB173_168 := n15_; clear n0_ n1_ n2_ n3_ n4_ n5_ n6_ n7_ n8_ n9_ n10_ n11_ n12_ n13_ n14_ n15_; clear hb hbox hg; have hnb234 := NB173_101.out; have hnc234 := NB101_173.out; have hnb235 := NB173_111.out; have hnc235 := NB111_173.out; have hnb236 := NB173_121.out; have hnc236 := NB121_173.out; have hnb237 := NB173_168.out; have hnc237 := NB168_173.out; obtain ⟨hcz238_0, hcz238_1, hfz238_0, hfz238_1⟩ := cells2 BK173.out; obtain ⟨hcz239_0, hcz239_1, hcz239_2, hcz239_3, hcz239_4, hcz239_5, hcz239_6, hcz239_7, hfz239_0, hfz239_1, hfz239_2, hfz239_3, hfz239_4, hfz239_5, hfz239_6, hfz239_7⟩ := cells8 BK101.out) | ((with_reducible refine gate_callee (f := 25) rfl ?_); refine goesL_ (some 128) rfl rfl Tryd.func25 (by kernel_rfl) rfl #[.agg #[.int .i64 a0_0, .int .i64 a0_1, .int .i64 a0_2, .int .i64 a0_3, .int .u8 a0_4, .bool a0_5, .int .i64 a0_6, .int .u8 a0_7]] rfl mapx ?_; (with_reducible refine (Pclk.clock_When.calls kj67 a0_0 a0_1 a0_2 a0_3 a0_4 a0_5 a0_6 a0_7 t174 t175 _ A98.out).mono ?_); rintro e w240 ⟨rfl, hb⟩; refine ⟨_, rfl, ?_⟩; have n0_ := Aside0.mk (blk_below (g := gb101) (o := .cells #[.int .i64 a0_0, .int .i64 a0_1, .int .i64 a0_2, .int .i64 a0_3, .int .u8 a0_4, .bool a0_5, .int .i64 a0_6, .int .u8 a0_7] 24 (0, 0)) (by (with_reducible repeat (first | refine bN ?_ _ | refine bD ?_ | refine bA ?_ _)); (iterate 2 refine blk_far ?_ NB101_173.out _); exact ofA BK101) hb); have n1_ := Aside0.mk (blk_below (g := gb111) (o := .cells #[.int .i64 t144, .int .i64 t145, .int .i64 t146, .int .i64 t147, .int .u8 t148, .bool t149, .int .i64 t150, .int .u8 t151] 24 (0, 0)) (by (with_reducible repeat (first | refine bN ?_ _ | refine bD ?_ | refine bA ?_ _)); (iterate 2 refine blk_far ?_ NB111_173.out _); exact ofA BK111) hb); have n2_ := Aside0.mk (blk_below (g := gb121) (o := .cells #[.int .i64 t154, .int .i64 t155, .int .i64 t156, .int .i64 t157, .int .u8 t158, .bool t159, .int .i64 t160, .int .u8 t161] 24 (0, 0)) (by (with_reducible repeat (first | refine bN ?_ _ | refine bD ?_ | refine bA ?_ _)); (iterate 2 refine blk_far ?_ NB121_173.out _); exact ofA BK121) hb); have n3_ := Aside0.mk (blk_below (g := gb168) (o := .cells #[.int .i64 t164, .int .i64 t165] 22 (0, 0)) (by (with_reducible repeat (first | refine bN ?_ _ | refine bD ?_ | refine bA ?_ _)); (iterate 2 refine blk_far ?_ NB168_173.out _); exact ofA BK168) hb); have n4_ := Aside0.mk (blk_below (g := gb173) (o := .cells #[.int .i64 t169, .int .i64 t170] 22 (0, 0)) (by (with_reducible repeat (first | refine bN ?_ _ | refine bD ?_ | refine bA ?_ _)); refine blk_put (cs := #[.int .i64 t169, .int .i64 0]) ?_ 1 _ rfl; refine blk_put (cs := #[.int .i64 0, .int .i64 0]) ?_ 0 _ rfl; exact ofA BK173) hb); have n5_ := Aside0.mk (below_step (low HB) hb); clear BK101; clear BK111; clear BK121; clear BK168; clear BK173; clear HB; have BK101 := n0_; have BK111 := n1_; have BK121 := n2_; have BK168 := n3_; have BK173 := n4_; have HB := n5_; clear n0_ n1_ n2_ n3_ n4_ n5_; (try clear hb); (try clear hb2); (try clear hk); (try clear hi); obtain ⟨hcz241_0, hcz241_1, hcz241_2, hcz241_3, hcz241_4, hcz241_5, hcz241_6, hcz241_7, hfz241_0, hfz241_1, hfz241_2, hfz241_3, hfz241_4, hfz241_5, hfz241_6, hfz241_7⟩ := cells8 BK101.out) | ((with_reducible refine gate_callee (f := 26) rfl ?_); refine goesL_ (some 133) rfl rfl Tryd.func26 (by kernel_rfl) rfl #[.agg #[.int .i64 a0_0, .int .i64 a0_1, .int .i64 a0_2, .int .i64 a0_3, .int .u8 a0_4, .bool a0_5, .int .i64 a0_6, .int .u8 a0_7]] rfl mapx ?_; (with_reducible refine (Pcrf.joustref28_When.calls kj67 a0_0 a0_1 a0_2 a0_3 a0_4 a0_5 a0_6 a0_7 t176 t177 _ A99.out).mono ?_); rintro e w242 ⟨rfl, hb⟩; refine ⟨_, rfl, ?_⟩; have n0_ := Aside0.mk (blk_below (g := gb101) (o := .cells #[.int .i64 a0_0, .int .i64 a0_1, .int .i64 a0_2, .int .i64 a0_3, .int .u8 a0_4, .bool a0_5, .int .i64 a0_6, .int .u8 a0_7] 24 (0, 0)) (ofA BK101) hb); have n1_ := Aside0.mk (blk_below (g := gb111) (o := .cells #[.int .i64 t144, .int .i64 t145, .int .i64 t146, .int .i64 t147, .int .u8 t148, .bool t149, .int .i64 t150, .int .u8 t151] 24 (0, 0)) (ofA BK111) hb); have n2_ := Aside0.mk (blk_below (g := gb121) (o := .cells #[.int .i64 t154, .int .i64 t155, .int .i64 t156, .int .i64 t157, .int .u8 t158, .bool t159, .int .i64 t160, .int .u8 t161] 24 (0, 0)) (ofA BK121) hb); have n3_ := Aside0.mk (blk_below (g := gb168) (o := .cells #[.int .i64 t164, .int .i64 t165] 22 (0, 0)) (ofA BK168) hb); have n4_ := Aside0.mk (blk_below (g := gb173) (o := .cells #[.int .i64 t169, .int .i64 t170] 22 (0, 0)) (ofA BK173) hb); have n5_ := Aside0.mk (below_step (low HB) hb); clear BK101; clear BK111; clear BK121; clear BK168; clear BK173; clear HB; have BK101 := n0_; have BK111 := n1_; have BK121 := n2_; have BK168 := n3_; have BK173 := n4_; have HB := n5_; clear n0_ n1_ n2_ n3_ n4_ n5_; (try clear hb); (try clear hb2); (try clear hk); (try clear hi); obtain ⟨hcz243_0, hcz243_1, hfz243_0, hfz243_1⟩ := cells2 BK168.out; obtain ⟨hcz244_0, hcz244_1, hfz244_0, hfz244_1⟩ := cells2 BK173.out))
           go_ret
           exact ⟨by first | rfl | (simp [errW_none, errW_some] <;> rfl) | (simp [*, errW_none, errW_some] <;> rfl), low HB⟩
end Go.Proofs.YtcdcpnhlmgmnkaaDoor.Pctl
end
