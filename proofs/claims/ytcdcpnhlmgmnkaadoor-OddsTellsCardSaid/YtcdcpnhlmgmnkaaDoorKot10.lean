/- Joined by a program of this session (pack.py) out of: Pos3x2 -/
import Derived.Test.YtcdcpnhlmgmnkaaDoorKot9
section
namespace Go.Proofs.YtcdcpnhlmgmnkaaDoor.Pos3
open Go.RowKit Go.Proofs.YtcdcpnhlmgmnkaaDoor.Base Go.Proofs.YtcdcpnhlmgmnkaaDoorW.PrintWords Go.Proofs.YtcdcpnhlmgmnkaaDoorW.PrintLast Go.Proofs.YtcdcpnhlmgmnkaaDoorW.PrintMore
attribute [local go_sem] max2_int min2_int max_two min_two max_three min_three max_four min_four   -- for this text's walks alone
set_option linter.unusedVariables false
set_option linter.unusedSimpArgs false
def odds_Sum.j0 : Nat → Bool → Int → Int → Int → Int → Option (Int × Int × Int)
 | 0, _, _, _, _, _ => none
 | k + 1, x20, x102000, x102001, x103000, x103001 => if x20 = true then (none) else ((Podd.odds_times.f x102000 x103001).bind fun bt106 => ((Podd.odds_times.f (IntKind.u64.wrap (x103001 - x103000)) x102001).bind fun bt108 => ((Podd.odds_wide_compare.f k bt106.1 bt106.2 bt108.1 bt108.2).bind fun t110 => (if t110 > 0 then (none) else ((Podd.odds_divisor.f k x102001 x103001).bind fun t111 => (if t111 = 0 then (none) else ((Podd.odds_times.f x102000 (IntKind.u64.wrap (Int.tdiv x103001 t111))).bind fun bt112 => ((Podd.odds_times.f x103000 (IntKind.u64.wrap (Int.tdiv x102001 t111))).bind fun bt114 => ((odds_wide_plus.f bt112.1 bt112.2 bt114.1 bt114.2).bind fun bt116 => (if bt116.2.2 = true then ((Podd.odds_wide_by.f k bt116.1 bt116.2.1 t111).bind fun bt120 => ((Podd.odds_divisor.f k t111 bt120.2.2).bind fun t124 => (if t124 = 0 then (none) else ((Podd.odds_times.f (IntKind.u64.wrap (Int.tdiv x102001 t111)) (IntKind.u64.wrap (Int.tdiv x103001 t124))).bind fun bt125 => (if bt125.1 > 0 then (some (0, 0, 3)) else (if bt125.2 > 9223372036854775807 then (some (0, 0, 3)) else ((Podd.odds_wide_by.f k bt116.1 bt116.2.1 t124).bind fun bt128 => (none)))))))) else (none)))))))))))
def odds_Sum.f (k : Nat) (a0_0 : Int) (a0_1 : Int) (a1_0 : Int) (a1_1 : Int) : Option (Int × Int × Int) := (Podd.odds_May.f k a0_0 a0_1).bind fun t104 => (if t104 = true then ((Podd.odds_May.f k a1_0 a1_1).bind fun t105 => (odds_Sum.j0 k (!t105) a0_0 a0_1 a1_0 a1_1)) else (odds_Sum.j0 k true a0_0 a0_1 a1_0 a1_1))
theorem odds_Sum.mono_l : ∀ k, (∀ y0 y1 y2 y3 y4, LeO (odds_Sum.j0 k y0 y1 y2 y3 y4) (odds_Sum.j0 (k + 1) y0 y1 y2 y3 y4))
 | 0 => fun _ _ _ _ _ r h => by simp [odds_Sum.j0] at h
 | k + 1 => by
  have ih0 := odds_Sum.mono_l k
  ·
   intro y0 y1 y2 y3 y4
   unfold odds_Sum.j0
   repeat' first
   | (with_reducible exact ih0 _ _ _ _ _)
   | (with_reducible exact Podd.odds_May.mono _ _ _)
   | (with_reducible exact Podd.odds_divisor.mono _ _ _)
   | (with_reducible exact Podd.odds_wide_by.mono _ _ _ _)
   | (with_reducible exact Podd.odds_wide_compare.mono _ _ _ _ _)
   | (with_reducible exact LeO.refl _)
   | (with_reducible exact LeO.none _)
   | (with_reducible refine LeO.ite ?_ ?_)
   | (with_reducible refine LeO.bind ?_ (fun _ => ?_))
   | exact ih0 _ _ _ _ _
   | exact Podd.odds_May.mono _ _ _
   | exact Podd.odds_divisor.mono _ _ _
   | exact Podd.odds_wide_by.mono _ _ _ _
   | exact Podd.odds_wide_compare.mono _ _ _ _ _
   | exact LeO.none _
   | refine LeO.ite ?_ ?_
   | refine LeO.bind ?_ (fun _ => ?_)
theorem odds_Sum.mono : ∀ a0 a1 a2 a3 k, LeO (odds_Sum.f k a0 a1 a2 a3) (odds_Sum.f (k + 1) a0 a1 a2 a3) := by
 intro a0 a1 a2 a3 k
 have ih0 := odds_Sum.mono_l k
 unfold odds_Sum.f
 repeat' first
   | (with_reducible exact ih0 _ _ _ _ _)
   | (with_reducible exact Podd.odds_May.mono _ _ _)
   | (with_reducible exact Podd.odds_divisor.mono _ _ _)
   | (with_reducible exact Podd.odds_wide_by.mono _ _ _ _)
   | (with_reducible exact Podd.odds_wide_compare.mono _ _ _ _ _)
   | (with_reducible exact LeO.refl _)
   | (with_reducible exact LeO.none _)
   | (with_reducible refine LeO.ite ?_ ?_)
   | (with_reducible refine LeO.bind ?_ (fun _ => ?_))
   | exact ih0 _ _ _ _ _
   | exact Podd.odds_May.mono _ _ _
   | exact Podd.odds_divisor.mono _ _ _
   | exact Podd.odds_wide_by.mono _ _ _ _
   | exact Podd.odds_wide_compare.mono _ _ _ _ _
   | exact LeO.none _
   | refine LeO.ite ?_ ?_
   | refine LeO.bind ?_ (fun _ => ?_)
def odds_Sum.T3 : Bool × List (List Nat × List Nat) := (true, [([], []), ([0], [0]), ([], []), ([2], [2]), ([1, 3], [1, 3]), ([], []), ([5], [5]), ([], []), ([7], [7]), ([6, 8], [6, 8]), ([], []), ([10], [10]), ([9, 11, 4], [9, 11]), ([4, 12, 12], [4, 12]), ([13], [13])])
def odds_Sum.B3 : List Nat := [0, 1, 0, 4, 15, 0, 32, 0, 128, 480, 0, 1024, 4095, 8191, 16383]
theorem odds_Sum.tab3 : rtab .any (opsOf Tryd.f36 3) = odds_Sum.T3 := by kernel_rfl
theorem odds_Sum.bits3 : waitsOk odds_Sum.T3.2 odds_Sum.B3 = true := by kernel_rfl
def odds_Sum.T6 : Bool × List (List Nat × List Nat) := (true, [([], []), ([0], [0]), ([], []), ([2], [2]), ([], []), ([3, 4], [3, 4]), ([1, 5], [1, 5]), ([], []), ([7], [7]), ([], []), ([9], [9]), ([], []), ([10, 11], [10, 11]), ([8, 12, 6], [8, 12]), ([6, 13, 13], [6, 13]), ([14], [14]), ([15], [15]), ([15], [15]), ([], []), ([18, 16, 14, 0, 1, 2, 3, 4, 5, 6, 7, 8, 9, 10, 11, 12, 13, 14, 15, 16, 18], [16, 18]), ([17, 19, 0, 1, 2, 3, 4, 5, 6, 7, 8, 9, 10, 11, 12, 13, 14, 15, 16, 17, 18, 19], [17])])
def odds_Sum.B6 : List Nat := [0, 1, 0, 4, 0, 28, 63, 0, 128, 0, 512, 0, 3584, 8191, 16383, 32767, 65535, 65535, 0, 393215, 1048575]
theorem odds_Sum.tab6 : rtab .any (opsOf Tryd.f36 6) = odds_Sum.T6 := by kernel_rfl
theorem odds_Sum.bits6 : waitsOk odds_Sum.T6.2 odds_Sum.B6 = true := by kernel_rfl
def odds_Sum.T11 : Bool × List (List Nat × List Nat) := (true, [([], []), ([0], [0]), ([], []), ([1, 2], [1, 2]), ([], []), ([4], [4]), ([], []), ([5, 6], [5, 6]), ([3, 7], [3, 7]), ([], []), ([9, 8, 8, 0, 1, 2, 3, 4, 5, 6, 7, 8, 9], [8, 9])])
def odds_Sum.B11 : List Nat := [0, 1, 0, 7, 0, 16, 0, 112, 255, 0, 1023]
theorem odds_Sum.tab11 : rtab .any (opsOf Tryd.f36 11) = odds_Sum.T11 := by kernel_rfl
theorem odds_Sum.bits11 : waitsOk odds_Sum.T11.2 odds_Sum.B11 = true := by kernel_rfl
set_option maxHeartbeats 8000000 in
set_option maxRecDepth 100000 in
theorem odds_Sum.calls (k : Nat) (a0_0 : Int) (a0_1 : Int) (a1_0 : Int) (a1_1 : Int) (r1 : Int) (r2 : Int) (r3 : Int) (w : World) (h : odds_Sum.f k a0_0 a0_1 a1_0 a1_1 = some (r1, r2, r3)) :
  Calls Tryd.prog 36 #[.agg #[.int .u64 a0_0, .int .u64 a0_1], .agg #[.int .u64 a1_0, .int .u64 a1_1]] w fun e w' => e = .returned (.tuple #[.agg #[.int .u64 r1, .int .u64 r2], .int .i64 r3]) ∧ Below w.heap.size w w' := by
 have hu47 := Tryd.underlying47
 have hu74 := Tryd.underlying74
 have HB := Aside0.mk (Below.refl w.heap.size w)
 have H : ((Podd.odds_May.f k a0_0 a0_1).bind fun t104 => (if t104 = true then ((Podd.odds_May.f k a1_0 a1_1).bind fun t105 => (odds_Sum.j0 k (!t105) a0_0 a0_1 a1_0 a1_1)) else (odds_Sum.j0 k true a0_0 a0_1 a1_0 a1_1))) = some (r1, r2, r3) := h
 clear h
 have HC3 := Aside0.mk H
 clear H
 go_enter Tryd.func36, Tryd.ntmps36
 go_upto_region 1 with (first | ((with_reducible refine gate_dst (N := 2) rfl ?_); refine box_event ?hg (N := 2) ?hd (cs := #[.int .u64 a0_0, .int .u64 a0_1]) (t := 47) ?hr ?_; (case hd => rfl); (case hg => rfl); (case hr => first | (go_simp; done) | (go_simp; rfl)); intro gb101 hg w4 hbox hb; have n0_ := Aside0.mk (below_step (low HB) hb); have n1_ := Aside0.mk (hbox); have n2_ := Aside0.mk ((by rw [hg]; exact (below_size (low HB)) : w.heap.size ≤ gb101)); have n3_ := Aside0.mk ((by rw [hg]; exact (below_size (low HB)) : w.heap.size ≤ gb101)); clear HB; have HB := n0_; have BK101 := n1_; have GW101 := n2_; have GE101 := n3_; clear n0_ n1_ n2_ n3_; clear hb hbox hg) | ((with_reducible refine gate_dst (N := 3) rfl ?_); refine box_event ?hg (N := 3) ?hd (cs := #[.int .u64 a1_0, .int .u64 a1_1]) (t := 47) ?hr ?_; (case hd => rfl); (case hg => rfl); (case hr => first | (go_simp; done) | (go_simp; rfl)); intro gb102 hg w5 hbox hb; have n0_ := Aside0.mk (blk_below (g := gb101) (o := .cells #[.int .u64 a0_0, .int .u64 a0_1] 47 (0, 0)) of_lies hb); have n1_ := Aside0.mk (below_step (low HB) hb); have n2_ := Aside0.mk (hbox); have n3_ := Aside0.mk ((by rw [hg]; exact (below_size (low HB)) : w.heap.size ≤ gb102)); have n4_ := Aside0.mk ((by rw [hg]; exact (below_size (low HB)) : w.heap.size ≤ gb102)); have n5_ := Aside0.mk ((by rw [hg]; exact Nat.ne_of_lt (blk_lt (g := gb101) (o := .cells #[.int .u64 a0_0, .int .u64 a0_1] 47 (0, 0)) of_lies) : gb101 ≠ gb102)); have n6_ := Aside0.mk ((by rw [hg]; exact Nat.ne_of_gt (blk_lt (g := gb101) (o := .cells #[.int .u64 a0_0, .int .u64 a0_1] 47 (0, 0)) of_lies) : gb102 ≠ gb101)); clear BK101; clear HB; have BK101 := n0_; have HB := n1_; have BK102 := n2_; have GW102 := n3_; have GE102 := n4_; have NB101_102 := n5_; have NB102_101 := n6_; clear n0_ n1_ n2_ n3_ n4_ n5_ n6_; clear hb hbox hg) | ((with_reducible refine gate_dst (N := 4) rfl ?_); refine box_event ?hg (N := 4) ?hd (cs := #[.int .u64 0, .int .u64 0]) (t := 47) ?hr ?_; (case hd => rfl); (case hg => rfl); (case hr => first | (go_simp; done) | (go_simp; rfl)); intro gb103 hg w6 hbox hb; have n0_ := Aside0.mk (blk_below (g := gb101) (o := .cells #[.int .u64 a0_0, .int .u64 a0_1] 47 (0, 0)) of_lies hb); have n1_ := Aside0.mk (blk_below (g := gb102) (o := .cells #[.int .u64 a1_0, .int .u64 a1_1] 47 (0, 0)) of_lies hb); have n2_ := Aside0.mk (below_step (low HB) hb); have n3_ := Aside0.mk (hbox); have n4_ := Aside0.mk ((by rw [hg]; exact (below_size (low HB)) : w.heap.size ≤ gb103)); have n5_ := Aside0.mk ((by rw [hg]; exact (below_size (low HB)) : w.heap.size ≤ gb103)); have n6_ := Aside0.mk ((by rw [hg]; exact Nat.ne_of_lt (blk_lt (g := gb101) (o := .cells #[.int .u64 a0_0, .int .u64 a0_1] 47 (0, 0)) of_lies) : gb101 ≠ gb103)); have n7_ := Aside0.mk ((by rw [hg]; exact Nat.ne_of_gt (blk_lt (g := gb101) (o := .cells #[.int .u64 a0_0, .int .u64 a0_1] 47 (0, 0)) of_lies) : gb103 ≠ gb101)); have n8_ := Aside0.mk ((by rw [hg]; exact Nat.ne_of_lt (blk_lt (g := gb102) (o := .cells #[.int .u64 a1_0, .int .u64 a1_1] 47 (0, 0)) of_lies) : gb102 ≠ gb103)); have n9_ := Aside0.mk ((by rw [hg]; exact Nat.ne_of_gt (blk_lt (g := gb102) (o := .cells #[.int .u64 a1_0, .int .u64 a1_1] 47 (0, 0)) of_lies) : gb103 ≠ gb102)); clear BK101; clear BK102; clear HB; have BK101 := n0_; have BK102 := n1_; have HB := n2_; have BK103 := n3_; have GW103 := n4_; have GE103 := n5_; have NB101_103 := n6_; have NB103_101 := n7_; have NB102_103 := n8_; have NB103_102 := n9_; clear n0_ n1_ n2_ n3_ n4_ n5_ n6_ n7_ n8_ n9_; clear hb hbox hg))
 (try simp only [Act.put, List.setIfInBounds_toArray, List.set_cons_zero, List.set_cons_succ])
 go_cut [20] (fun v20 wc => ∃ (kq : Nat) (x20_2 : Bool), v20 = .bool x20_2 ∧ Aside0 (odds_Sum.j0 kq x20_2 a0_0 a0_1 a1_0 a1_1 = some (r1, r2, r3)) ∧ Aside0 (kq ≤ k) ∧ Aside0 (wc.heap[gb101]? = some (.cells #[.int .u64 a0_0, .int .u64 a0_1] 47 (0, 0))) ∧ Aside0 (wc.heap[gb102]? = some (.cells #[.int .u64 a1_0, .int .u64 a1_1] 47 (0, 0))) ∧ Aside0 (wc.heap[gb103]? = some (.cells #[.int .u64 0, .int .u64 0] 47 (0, 0))) ∧ Aside0 (Below w.heap.size w wc))
 case first =>
  have H := HC3.out
  clear HC3
  replace H := Option.bind_eq_some_iff.mp H
  obtain ⟨t104, A70, H⟩ := H
  replace H : (if t104 = true then ((Podd.odds_May.f k a1_0 a1_1).bind fun t105 => (odds_Sum.j0 k (!t105) a0_0 a0_1 a1_0 a1_1)) else (odds_Sum.j0 k true a0_0 a0_1 a1_0 a1_1)) = some (r1, r2, r3) := H
  have A7 := Aside0.mk A70
  clear A70
  by_cases c8 : t104 = true
  ·
   subst c8
   have H1 : ((Podd.odds_May.f k a1_0 a1_1).bind fun t105 => (odds_Sum.j0 k (!t105) a0_0 a0_1 a1_0 a1_1)) = some (r1, r2, r3) := by rw [if_pos rfl] at H; exact H
   clear H
   have H := H1
   clear H1
   replace H := Option.bind_eq_some_iff.mp H
   obtain ⟨t105, A90, H⟩ := H
   replace H : (odds_Sum.j0 k (!t105) a0_0 a0_1 a1_0 a1_1) = some (r1, r2, r3) := H
   have A9 := Aside0.mk A90
   clear A90
   have H' := Aside0.mk H
   clear H
   have hnb10 := NB101_102.out
   have hnc10 := NB102_101.out
   have hnb11 := NB101_103.out
   have hnc11 := NB103_101.out
   have hcz12_0 : w6.cell? ⟨gb101, 0, none⟩ = some (.int .u64 a0_0) := (blk_cell BK101.out 0).trans rfl
   have hcz12_1 : w6.cell? ⟨gb101, 1, none⟩ = some (.int .u64 a0_1) := (blk_cell BK101.out 1).trans rfl
   have hfz12_0 := blk_frozen BK101.out 0
   have hfz12_1 := blk_frozen BK101.out 1
   go_wp2_with (first | ((with_reducible refine gate_callee (f := 38) rfl ?_); refine goesL_ (some 14) rfl rfl Tryd.func38 (by kernel_rfl) rfl #[.agg #[.int .u64 a0_0, .int .u64 a0_1]] rfl (by (try simp only [List.map_toArray, List.map_cons, List.map_nil]); first | done | rfl | (simp only [List.length_drop, List.length_take]; rfl)) ?_; (with_reducible refine (Podd.odds_May.calls k a0_0 a0_1 true _ A7.out).mono ?_); rintro e w13 ⟨rfl, hb⟩; refine ⟨_, rfl, ?_⟩; have n0_ := Aside0.mk (blk_below (g := gb101) (o := .cells #[.int .u64 a0_0, .int .u64 a0_1] 47 (0, 0)) of_lies hb); have n1_ := Aside0.mk (blk_below (g := gb102) (o := .cells #[.int .u64 a1_0, .int .u64 a1_1] 47 (0, 0)) of_lies hb); have n2_ := Aside0.mk (blk_below (g := gb103) (o := .cells #[.int .u64 0, .int .u64 0] 47 (0, 0)) of_lies hb); have n3_ := Aside0.mk (below_step (low HB) hb); clear BK101; clear BK102; clear BK103; clear HB; have BK101 := n0_; have BK102 := n1_; have BK103 := n2_; have HB := n3_; clear n0_ n1_ n2_ n3_; (try clear hb); (try clear hb2); (try clear hk); (try clear hi); have hnb14 := NB102_103.out; have hnc14 := NB103_102.out; obtain ⟨hcz15_0, hcz15_1, hfz15_0, hfz15_1⟩ := cells2 BK102.out) | (go_at_call 38; (with_reducible refine (Podd.odds_May.calls k a1_0 a1_1 t105 _ A9.out).mono ?_); rintro e w16 ⟨rfl, hb⟩; have n0_ := Aside0.mk (blk_below (g := gb101) (o := .cells #[.int .u64 a0_0, .int .u64 a0_1] 47 (0, 0)) of_lies hb); have n1_ := Aside0.mk (blk_below (g := gb102) (o := .cells #[.int .u64 a1_0, .int .u64 a1_1] 47 (0, 0)) of_lies hb); have n2_ := Aside0.mk (blk_below (g := gb103) (o := .cells #[.int .u64 0, .int .u64 0] 47 (0, 0)) of_lies hb); have n3_ := Aside0.mk (below_step (low HB) hb); clear BK101; clear BK102; clear BK103; clear HB; have BK101 := n0_; have BK102 := n1_; have BK103 := n2_; have HB := n3_; clear n0_ n1_ n2_ n3_; (try clear hb); (try clear hb2); (try clear hk); (try clear hi)))
   go_meet
   case rel => exact ⟨_, (!t105), (by first | rfl | (simp; done) | (simp [*]; done)), H', ⟨by first | omega | exact Nat.le_refl _⟩, ⟨of_lies⟩, ⟨of_lies⟩, ⟨of_lies⟩, ⟨low HB⟩⟩
  ·
   replace c8 := Bool.eq_false_iff.mpr c8
   subst c8
   have H1 : (odds_Sum.j0 k true a0_0 a0_1 a1_0 a1_1) = some (r1, r2, r3) := by rw [if_neg (show ¬ (false = true) by decide)] at H; exact H
   clear H
   have H := H1
   clear H1
   have H' := Aside0.mk H
   clear H
   have hnb17 := NB101_102.out
   have hnc17 := NB102_101.out
   have hnb18 := NB101_103.out
   have hnc18 := NB103_101.out
   have hcz19_0 : w6.cell? ⟨gb101, 0, none⟩ = some (.int .u64 a0_0) := (blk_cell BK101.out 0).trans rfl
   have hcz19_1 : w6.cell? ⟨gb101, 1, none⟩ = some (.int .u64 a0_1) := (blk_cell BK101.out 1).trans rfl
   have hfz19_0 := blk_frozen BK101.out 0
   have hfz19_1 := blk_frozen BK101.out 1
   go_wp2_with (first | ((with_reducible refine gate_callee (f := 38) rfl ?_); refine goesL_ (some 14) rfl rfl Tryd.func38 (by kernel_rfl) rfl #[.agg #[.int .u64 a0_0, .int .u64 a0_1]] rfl (by (try simp only [List.map_toArray, List.map_cons, List.map_nil]); first | done | rfl | (simp only [List.length_drop, List.length_take]; rfl)) ?_; (with_reducible refine (Podd.odds_May.calls k a0_0 a0_1 false _ A7.out).mono ?_); rintro e w20 ⟨rfl, hb⟩; refine ⟨_, rfl, ?_⟩; have n0_ := Aside0.mk (blk_below (g := gb101) (o := .cells #[.int .u64 a0_0, .int .u64 a0_1] 47 (0, 0)) of_lies hb); have n1_ := Aside0.mk (blk_below (g := gb102) (o := .cells #[.int .u64 a1_0, .int .u64 a1_1] 47 (0, 0)) of_lies hb); have n2_ := Aside0.mk (blk_below (g := gb103) (o := .cells #[.int .u64 0, .int .u64 0] 47 (0, 0)) of_lies hb); have n3_ := Aside0.mk (below_step (low HB) hb); clear BK101; clear BK102; clear BK103; clear HB; have BK101 := n0_; have BK102 := n1_; have BK103 := n2_; have HB := n3_; clear n0_ n1_ n2_ n3_; (try clear hb); (try clear hb2); (try clear hk); (try clear hi)))
   go_meet
   case rel => exact ⟨_, (true), (by first | rfl | (simp; done) | (simp [*]; done)), H', ⟨by first | omega | exact Nat.le_refl _⟩, ⟨of_lies⟩, ⟨of_lies⟩, ⟨of_lies⟩, ⟨low HB⟩⟩
 case rest =>
  clear HC3
  try clear c1
  try clear p2
  try clear c3
  try clear c8
  try clear c10
  try clear c11
  try clear c14
  try clear c17
  try clear c18
  try clear hcz12_0
  try clear hcz12_1
  try clear hcz15_0
  try clear hcz15_1
  try clear hcz19_0
  try clear hcz19_1
  try clear hfz12_0
  try clear hfz12_1
  try clear hfz15_0
  try clear hfz15_1
  try clear hfz19_0
  try clear hfz19_1
  obtain ⟨kq, x20_2, rfl, HA, HJ2, BK101, BK102, BK103, HB⟩ := hcut
  cases kq with
  | zero => exact absurd HA.out (by simp [odds_Sum.j0])
  | succ kj2 =>
   have H := HA.out
   clear HA
   simp only [odds_Sum.j0] at H
   by_cases c21 : x20_2 = true
   ·
    subst c21
    have H1 : (none) = some (r1, r2, r3) := by rw [if_pos rfl] at H; exact H
    clear H
    have H := H1
    clear H1
    exact absurd H (by simp)
   ·
    replace c21 := Bool.eq_false_iff.mpr c21
    subst c21
    have H1 : ((Podd.odds_times.f a0_0 a1_1).bind fun bt106 => ((Podd.odds_times.f (IntKind.u64.wrap (a1_1 - a1_0)) a0_1).bind fun bt108 => ((Podd.odds_wide_compare.f kj2 bt106.1 bt106.2 bt108.1 bt108.2).bind fun t110 => (if t110 > 0 then (none) else ((Podd.odds_divisor.f kj2 a0_1 a1_1).bind fun t111 => (if t111 = 0 then (none) else ((Podd.odds_times.f a0_0 (IntKind.u64.wrap (Int.tdiv a1_1 t111))).bind fun bt112 => ((Podd.odds_times.f a1_0 (IntKind.u64.wrap (Int.tdiv a0_1 t111))).bind fun bt114 => ((odds_wide_plus.f bt112.1 bt112.2 bt114.1 bt114.2).bind fun bt116 => (if bt116.2.2 = true then ((Podd.odds_wide_by.f kj2 bt116.1 bt116.2.1 t111).bind fun bt120 => ((Podd.odds_divisor.f kj2 t111 bt120.2.2).bind fun t124 => (if t124 = 0 then (none) else ((Podd.odds_times.f (IntKind.u64.wrap (Int.tdiv a0_1 t111)) (IntKind.u64.wrap (Int.tdiv a1_1 t124))).bind fun bt125 => (if bt125.1 > 0 then (some (0, 0, 3)) else (if bt125.2 > 9223372036854775807 then (some (0, 0, 3)) else ((Podd.odds_wide_by.f kj2 bt116.1 bt116.2.1 t124).bind fun bt128 => (none)))))))) else (none))))))))))) = some (r1, r2, r3) := by rw [if_neg (show ¬ (false = true) by decide)] at H; exact H
    clear H
    have H := H1
    clear H1
    replace H := Option.bind_eq_some_iff.mp H
    obtain ⟨⟨t106, t107⟩, A220, H⟩ := H
    replace H : ((Podd.odds_times.f (IntKind.u64.wrap (a1_1 - a1_0)) a0_1).bind fun bt108 => ((Podd.odds_wide_compare.f kj2 t106 t107 bt108.1 bt108.2).bind fun t110 => (if t110 > 0 then (none) else ((Podd.odds_divisor.f kj2 a0_1 a1_1).bind fun t111 => (if t111 = 0 then (none) else ((Podd.odds_times.f a0_0 (IntKind.u64.wrap (Int.tdiv a1_1 t111))).bind fun bt112 => ((Podd.odds_times.f a1_0 (IntKind.u64.wrap (Int.tdiv a0_1 t111))).bind fun bt114 => ((odds_wide_plus.f bt112.1 bt112.2 bt114.1 bt114.2).bind fun bt116 => (if bt116.2.2 = true then ((Podd.odds_wide_by.f kj2 bt116.1 bt116.2.1 t111).bind fun bt120 => ((Podd.odds_divisor.f kj2 t111 bt120.2.2).bind fun t124 => (if t124 = 0 then (none) else ((Podd.odds_times.f (IntKind.u64.wrap (Int.tdiv a0_1 t111)) (IntKind.u64.wrap (Int.tdiv a1_1 t124))).bind fun bt125 => (if bt125.1 > 0 then (some (0, 0, 3)) else (if bt125.2 > 9223372036854775807 then (some (0, 0, 3)) else ((Podd.odds_wide_by.f kj2 bt116.1 bt116.2.1 t124).bind fun bt128 => (none)))))))) else (none)))))))))) = some (r1, r2, r3) := H
    have A22 := Aside0.mk A220
    clear A220
    replace H := Option.bind_eq_some_iff.mp H
    obtain ⟨⟨t108, t109⟩, A230, H⟩ := H
    replace H : ((Podd.odds_wide_compare.f kj2 t106 t107 t108 t109).bind fun t110 => (if t110 > 0 then (none) else ((Podd.odds_divisor.f kj2 a0_1 a1_1).bind fun t111 => (if t111 = 0 then (none) else ((Podd.odds_times.f a0_0 (IntKind.u64.wrap (Int.tdiv a1_1 t111))).bind fun bt112 => ((Podd.odds_times.f a1_0 (IntKind.u64.wrap (Int.tdiv a0_1 t111))).bind fun bt114 => ((odds_wide_plus.f bt112.1 bt112.2 bt114.1 bt114.2).bind fun bt116 => (if bt116.2.2 = true then ((Podd.odds_wide_by.f kj2 bt116.1 bt116.2.1 t111).bind fun bt120 => ((Podd.odds_divisor.f kj2 t111 bt120.2.2).bind fun t124 => (if t124 = 0 then (none) else ((Podd.odds_times.f (IntKind.u64.wrap (Int.tdiv a0_1 t111)) (IntKind.u64.wrap (Int.tdiv a1_1 t124))).bind fun bt125 => (if bt125.1 > 0 then (some (0, 0, 3)) else (if bt125.2 > 9223372036854775807 then (some (0, 0, 3)) else ((Podd.odds_wide_by.f kj2 bt116.1 bt116.2.1 t124).bind fun bt128 => (none)))))))) else (none))))))))) = some (r1, r2, r3) := H
    have A23 := Aside0.mk A230
    clear A230
    replace H := Option.bind_eq_some_iff.mp H
    obtain ⟨t110, A240, H⟩ := H
    replace H : (if t110 > 0 then (none) else ((Podd.odds_divisor.f kj2 a0_1 a1_1).bind fun t111 => (if t111 = 0 then (none) else ((Podd.odds_times.f a0_0 (IntKind.u64.wrap (Int.tdiv a1_1 t111))).bind fun bt112 => ((Podd.odds_times.f a1_0 (IntKind.u64.wrap (Int.tdiv a0_1 t111))).bind fun bt114 => ((odds_wide_plus.f bt112.1 bt112.2 bt114.1 bt114.2).bind fun bt116 => (if bt116.2.2 = true then ((Podd.odds_wide_by.f kj2 bt116.1 bt116.2.1 t111).bind fun bt120 => ((Podd.odds_divisor.f kj2 t111 bt120.2.2).bind fun t124 => (if t124 = 0 then (none) else ((Podd.odds_times.f (IntKind.u64.wrap (Int.tdiv a0_1 t111)) (IntKind.u64.wrap (Int.tdiv a1_1 t124))).bind fun bt125 => (if bt125.1 > 0 then (some (0, 0, 3)) else (if bt125.2 > 9223372036854775807 then (some (0, 0, 3)) else ((Podd.odds_wide_by.f kj2 bt116.1 bt116.2.1 t124).bind fun bt128 => (none)))))))) else (none)))))))) = some (r1, r2, r3) := H
    have A24 := Aside0.mk A240
    clear A240
    by_cases c25 : t110 > 0
    ·
     rw [if_pos c25] at H
     have c25b0 : decide (0 < t110) = true := decide_eq_true c25
     clear c25
     exact absurd H (by simp)
    ·
     rw [if_neg c25] at H
     have c25b0 : decide (0 < t110) = false := decide_eq_false c25
     clear c25
     replace H := Option.bind_eq_some_iff.mp H
     obtain ⟨t111, A260, H⟩ := H
     replace H : (if t111 = 0 then (none) else ((Podd.odds_times.f a0_0 (IntKind.u64.wrap (Int.tdiv a1_1 t111))).bind fun bt112 => ((Podd.odds_times.f a1_0 (IntKind.u64.wrap (Int.tdiv a0_1 t111))).bind fun bt114 => ((odds_wide_plus.f bt112.1 bt112.2 bt114.1 bt114.2).bind fun bt116 => (if bt116.2.2 = true then ((Podd.odds_wide_by.f kj2 bt116.1 bt116.2.1 t111).bind fun bt120 => ((Podd.odds_divisor.f kj2 t111 bt120.2.2).bind fun t124 => (if t124 = 0 then (none) else ((Podd.odds_times.f (IntKind.u64.wrap (Int.tdiv a0_1 t111)) (IntKind.u64.wrap (Int.tdiv a1_1 t124))).bind fun bt125 => (if bt125.1 > 0 then (some (0, 0, 3)) else (if bt125.2 > 9223372036854775807 then (some (0, 0, 3)) else ((Podd.odds_wide_by.f kj2 bt116.1 bt116.2.1 t124).bind fun bt128 => (none)))))))) else (none)))))) = some (r1, r2, r3) := H
     have A26 := Aside0.mk A260
     clear A260
     by_cases c27 : t111 = 0
     ·
      rw [if_pos c27] at H
      exact absurd H (by simp)
     ·
      rw [if_neg c27] at H
      have c27b0 : (t111 == 0) = false := beq_eq_false_iff_ne.mpr c27
      have c27b1 : (t111 != 0) = true := bne_iff_ne.mpr c27
      replace H := Option.bind_eq_some_iff.mp H
      obtain ⟨⟨t112, t113⟩, A280, H⟩ := H
      replace H : ((Podd.odds_times.f a1_0 (IntKind.u64.wrap (Int.tdiv a0_1 t111))).bind fun bt114 => ((odds_wide_plus.f t112 t113 bt114.1 bt114.2).bind fun bt116 => (if bt116.2.2 = true then ((Podd.odds_wide_by.f kj2 bt116.1 bt116.2.1 t111).bind fun bt120 => ((Podd.odds_divisor.f kj2 t111 bt120.2.2).bind fun t124 => (if t124 = 0 then (none) else ((Podd.odds_times.f (IntKind.u64.wrap (Int.tdiv a0_1 t111)) (IntKind.u64.wrap (Int.tdiv a1_1 t124))).bind fun bt125 => (if bt125.1 > 0 then (some (0, 0, 3)) else (if bt125.2 > 9223372036854775807 then (some (0, 0, 3)) else ((Podd.odds_wide_by.f kj2 bt116.1 bt116.2.1 t124).bind fun bt128 => (none)))))))) else (none)))) = some (r1, r2, r3) := H
      have A28 := Aside0.mk A280
      clear A280
      replace H := Option.bind_eq_some_iff.mp H
      obtain ⟨⟨t114, t115⟩, A290, H⟩ := H
      replace H : ((odds_wide_plus.f t112 t113 t114 t115).bind fun bt116 => (if bt116.2.2 = true then ((Podd.odds_wide_by.f kj2 bt116.1 bt116.2.1 t111).bind fun bt120 => ((Podd.odds_divisor.f kj2 t111 bt120.2.2).bind fun t124 => (if t124 = 0 then (none) else ((Podd.odds_times.f (IntKind.u64.wrap (Int.tdiv a0_1 t111)) (IntKind.u64.wrap (Int.tdiv a1_1 t124))).bind fun bt125 => (if bt125.1 > 0 then (some (0, 0, 3)) else (if bt125.2 > 9223372036854775807 then (some (0, 0, 3)) else ((Podd.odds_wide_by.f kj2 bt116.1 bt116.2.1 t124).bind fun bt128 => (none)))))))) else (none))) = some (r1, r2, r3) := H
      have A29 := Aside0.mk A290
      clear A290
      replace H := Option.bind_eq_some_iff.mp H
      obtain ⟨⟨t116, t117, t118⟩, A300, H⟩ := H
      replace H : (if t118 = true then ((Podd.odds_wide_by.f kj2 t116 t117 t111).bind fun bt120 => ((Podd.odds_divisor.f kj2 t111 bt120.2.2).bind fun t124 => (if t124 = 0 then (none) else ((Podd.odds_times.f (IntKind.u64.wrap (Int.tdiv a0_1 t111)) (IntKind.u64.wrap (Int.tdiv a1_1 t124))).bind fun bt125 => (if bt125.1 > 0 then (some (0, 0, 3)) else (if bt125.2 > 9223372036854775807 then (some (0, 0, 3)) else ((Podd.odds_wide_by.f kj2 t116 t117 t124).bind fun bt128 => (none)))))))) else (none)) = some (r1, r2, r3) := H
      have A30 := Aside0.mk A300
      clear A300
      by_cases c31 : t118 = true
      ·
       subst c31
       have H1 : ((Podd.odds_wide_by.f kj2 t116 t117 t111).bind fun bt120 => ((Podd.odds_divisor.f kj2 t111 bt120.2.2).bind fun t124 => (if t124 = 0 then (none) else ((Podd.odds_times.f (IntKind.u64.wrap (Int.tdiv a0_1 t111)) (IntKind.u64.wrap (Int.tdiv a1_1 t124))).bind fun bt125 => (if bt125.1 > 0 then (some (0, 0, 3)) else (if bt125.2 > 9223372036854775807 then (some (0, 0, 3)) else ((Podd.odds_wide_by.f kj2 t116 t117 t124).bind fun bt128 => (none)))))))) = some (r1, r2, r3) := by rw [if_pos rfl] at H; exact H
       clear H
       have H := H1
       clear H1
       replace H := Option.bind_eq_some_iff.mp H
       obtain ⟨⟨t120, t121, t122⟩, A320, H⟩ := H
       replace H : ((Podd.odds_divisor.f kj2 t111 t122).bind fun t124 => (if t124 = 0 then (none) else ((Podd.odds_times.f (IntKind.u64.wrap (Int.tdiv a0_1 t111)) (IntKind.u64.wrap (Int.tdiv a1_1 t124))).bind fun bt125 => (if bt125.1 > 0 then (some (0, 0, 3)) else (if bt125.2 > 9223372036854775807 then (some (0, 0, 3)) else ((Podd.odds_wide_by.f kj2 t116 t117 t124).bind fun bt128 => (none))))))) = some (r1, r2, r3) := H
       have A32 := Aside0.mk A320
       clear A320
       replace H := Option.bind_eq_some_iff.mp H
       obtain ⟨t124, A330, H⟩ := H
       replace H : (if t124 = 0 then (none) else ((Podd.odds_times.f (IntKind.u64.wrap (Int.tdiv a0_1 t111)) (IntKind.u64.wrap (Int.tdiv a1_1 t124))).bind fun bt125 => (if bt125.1 > 0 then (some (0, 0, 3)) else (if bt125.2 > 9223372036854775807 then (some (0, 0, 3)) else ((Podd.odds_wide_by.f kj2 t116 t117 t124).bind fun bt128 => (none)))))) = some (r1, r2, r3) := H
       have A33 := Aside0.mk A330
       clear A330
       by_cases c34 : t124 = 0
       ·
        rw [if_pos c34] at H
        exact absurd H (by simp)
       ·
        rw [if_neg c34] at H
        have c34b0 : (t124 == 0) = false := beq_eq_false_iff_ne.mpr c34
        have c34b1 : (t124 != 0) = true := bne_iff_ne.mpr c34
        replace H := Option.bind_eq_some_iff.mp H
        obtain ⟨⟨t125, t126⟩, A350, H⟩ := H
        replace H : (if t125 > 0 then (some (0, 0, 3)) else (if t126 > 9223372036854775807 then (some (0, 0, 3)) else ((Podd.odds_wide_by.f kj2 t116 t117 t124).bind fun bt128 => (none)))) = some (r1, r2, r3) := H
        have A35 := Aside0.mk A350
        clear A350
        by_cases c36 : t125 > 0
        ·
         rw [if_pos c36] at H
         have c36b0 : decide (0 < t125) = true := decide_eq_true c36
         clear c36
         simp only [Option.some.injEq, Prod.mk.injEq] at H
         obtain ⟨rfl, rfl, rfl⟩ := H
         try go_wp2
         have n0_ := Aside0.mk (blk_drew BK101.out)
         have n1_ := Aside0.mk (blk_drew BK102.out)
         have n2_ := Aside0.mk (blk_drew BK103.out)
         have n3_ := Aside0.mk (below_drew1 HB.out)
         clear BK101
         clear BK102
         clear BK103
         clear HB
         have BK101 := n0_
         have BK102 := n1_
         have BK103 := n2_
         have HB := n3_
         clear n0_ n1_ n2_ n3_
         refine start_ (n := 15) (S := fun w' => w'.cell? ⟨gb101, 0, none⟩ = some (.int .u64 a0_0) ∧ w'.cell? ⟨gb101, 1, none⟩ = some (.int .u64 a0_1) ∧ w'.cell? ⟨gb102, 0, none⟩ = some (.int .u64 a1_0) ∧ w'.cell? ⟨gb102, 1, none⟩ = some (.int .u64 a1_1)) (ds := []) #[false, false, false, false, false, false, false, false, false, false, false, false, false, false, false] (by kernel_rfl) rfl rfl ⟨(blk_cell BK101.out 0).trans rfl, (blk_cell BK101.out 1).trans rfl, (blk_cell BK102.out 0).trans rfl, (blk_cell BK102.out 1).trans rfl⟩ (fun hHeld => ?_); refine with_tabW odds_Sum.tab3 odds_Sum.bits3 (fun HT_ HW_ => ?_)
         generalize wc.drew = w37 at BK101 BK102 BK103 HB hHeld ⊢
         refine pure_ (i := 0) (N := some 22) (v := ?_) (a' := ?_) #[true, false, false, false, false, false, false, false, false, false, false, false, false, false, false] rfl rfl (any_of HT_.out (by kernel_rfl)) (fun _ _ _ h => h) (Or.inl ⟨by rfl, ?_⟩) ?_ ?_
         rotate_left
         ·
          intro w'
          go_simp
          with_reducible rfl
         rotate_left
         ·
          simp only [Act.put, List.setIfInBounds_toArray, List.set_cons_zero, List.set_cons_succ, i64_w, i32_w]
          rfl
         refine pure_ (i := 2) (N := some 24) (v := ?_) (a' := ?_) #[true, false, true, false, false, false, false, false, false, false, false, false, false, false, false] rfl rfl (any_of HT_.out (by kernel_rfl)) (fun _ _ _ h => h) (Or.inl ⟨by rfl, ?_⟩) ?_ ?_
         rotate_left
         ·
          intro w'
          go_simp
          with_reducible rfl
         rotate_left
         ·
          simp only [Act.put, List.setIfInBounds_toArray, List.set_cons_zero, List.set_cons_succ, i64_w, i32_w]
          rfl
         refine pure_ (i := 5) (N := some 27) (v := ?_) (a' := ?_) #[true, false, true, false, false, true, false, false, false, false, false, false, false, false, false] rfl rfl (any_of HT_.out (by kernel_rfl)) (fun _ _ _ h => h) (Or.inl ⟨by rfl, ?_⟩) ?_ ?_
         rotate_left
         ·
          intro w'
          go_simp
          with_reducible rfl
         rotate_left
         ·
          simp only [Act.put, List.setIfInBounds_toArray, List.set_cons_zero, List.set_cons_succ, i64_w, i32_w]
          rfl
         refine pure_ (i := 7) (N := some 29) (v := ?_) (a' := ?_) #[true, false, true, false, false, true, false, true, false, false, false, false, false, false, false] rfl rfl (any_of HT_.out (by kernel_rfl)) (fun _ _ _ h => h) (Or.inl ⟨by rfl, ?_⟩) ?_ ?_
         rotate_left
         ·
          intro w'
          go_simp
          with_reducible rfl
         rotate_left
         ·
          simp only [Act.put, List.setIfInBounds_toArray, List.set_cons_zero, List.set_cons_succ, i64_w, i32_w]
          rfl
         refine pure_ (i := 10) (N := some 32) (v := ?_) (a' := ?_) #[true, false, true, false, false, true, false, true, false, false, true, false, false, false, false] rfl rfl (any_of HT_.out (by kernel_rfl)) (fun _ _ _ h => h) (Or.inl ⟨by rfl, ?_⟩) ?_ ?_
         rotate_left
         ·
          intro w'
          go_simp
          with_reducible rfl
         rotate_left
         ·
          simp only [Act.put, List.setIfInBounds_toArray, List.set_cons_zero, List.set_cons_succ, i64_w, i32_w]
          rfl
         refine take_ (i := 1) (N := some 23) (v := ?_) (a' := ?_) #[true, true, true, false, false, true, false, true, false, false, true, false, false, false, false] rfl rfl (take_ofW HT_.out HW_.out (by kernel_rfl)) (fun _ _ _ h => h) (Or.inl ⟨by rfl, ?_⟩) hHeld ?_ ?_
         rotate_left
         ·
          rintro w' ⟨s0, s1, s2, s3⟩
          go_simp
          with_reducible rfl
         rotate_left
         ·
          simp only [Act.put, List.setIfInBounds_toArray, List.set_cons_zero, List.set_cons_succ, i64_w, i32_w]
          rfl
         refine take_ (i := 3) (N := some 25) (v := ?_) (a' := ?_) #[true, true, true, true, false, true, false, true, false, false, true, false, false, false, false] rfl rfl (take_ofW HT_.out HW_.out (by kernel_rfl)) (fun _ _ _ h => h) (Or.inl ⟨by rfl, ?_⟩) hHeld ?_ ?_
         rotate_left
         ·
          rintro w' ⟨s0, s1, s2, s3⟩
          go_simp
          with_reducible rfl
         rotate_left
         ·
          simp only [Act.put, List.setIfInBounds_toArray, List.set_cons_zero, List.set_cons_succ, i64_w, i32_w]
          rfl
         refine take_ (i := 6) (N := some 28) (v := ?_) (a' := ?_) #[true, true, true, true, false, true, true, true, false, false, true, false, false, false, false] rfl rfl (take_ofW HT_.out HW_.out (by kernel_rfl)) (fun _ _ _ h => h) (Or.inl ⟨by rfl, ?_⟩) hHeld ?_ ?_
         rotate_left
         ·
          rintro w' ⟨s0, s1, s2, s3⟩
          go_simp
          with_reducible rfl
         rotate_left
         ·
          simp only [Act.put, List.setIfInBounds_toArray, List.set_cons_zero, List.set_cons_succ, i64_w, i32_w]
          rfl
         refine take_ (i := 8) (N := some 30) (v := ?_) (a' := ?_) #[true, true, true, true, false, true, true, true, true, false, true, false, false, false, false] rfl rfl (take_ofW HT_.out HW_.out (by kernel_rfl)) (fun _ _ _ h => h) (Or.inl ⟨by rfl, ?_⟩) hHeld ?_ ?_
         rotate_left
         ·
          rintro w' ⟨s0, s1, s2, s3⟩
          go_simp
          with_reducible rfl
         rotate_left
         ·
          simp only [Act.put, List.setIfInBounds_toArray, List.set_cons_zero, List.set_cons_succ, i64_w, i32_w]
          rfl
         refine pure_ (i := 9) (N := some 31) (v := ?_) (a' := ?_) #[true, true, true, true, false, true, true, true, true, true, true, false, false, false, false] rfl rfl (any_of HT_.out (by kernel_rfl)) (fun _ _ _ h => h) (Or.inl ⟨by rfl, ?_⟩) ?_ ?_
         rotate_left
         ·
          intro w'
          go_simp
          with_reducible rfl
         rotate_left
         ·
          simp only [Act.put, List.setIfInBounds_toArray, List.set_cons_zero, List.set_cons_succ, i64_w, i32_w]
          rfl
         refine take_ (i := 11) (N := some 33) (v := ?_) (a' := ?_) #[true, true, true, true, false, true, true, true, true, true, true, true, false, false, false] rfl rfl (take_ofW HT_.out HW_.out (by kernel_rfl)) (fun _ _ _ h => h) (Or.inl ⟨by rfl, ?_⟩) hHeld ?_ ?_
         rotate_left
         ·
          rintro w' ⟨s0, s1, s2, s3⟩
          go_simp
          with_reducible rfl
         rotate_left
         ·
          simp only [Act.put, List.setIfInBounds_toArray, List.set_cons_zero, List.set_cons_succ, i64_w, i32_w]
          rfl
         refine one_ (i := 4) (N := some 26) #[true, true, true, true, true, true, true, true, true, true, true, true, false, false, false] rfl rfl (one_of HT_.out (by kernel_rfl)) (by decide) (fun K hK => ?_)
         refine goes_ Tryd.func63 (by kernel_rfl) rfl #[.int .u64 a0_0, .int .u64 a1_1] (by rfl) rfl rfl (by (try simp only [List.map_toArray, List.map_cons, List.map_nil]); first | done | rfl | (simp only [List.length_drop, List.length_take]; rfl)) ?_
         with_reducible refine (Podd.odds_times.calls a0_0 a1_1 t106 t107 _ A22.out).mono ?_
         rintro e w38 ⟨rfl, hb⟩
         refine ⟨_, rfl, ?_⟩
         have n0_ := Aside0.mk (blk_below (g := gb101) (o := .cells #[.int .u64 a0_0, .int .u64 a0_1] 47 (0, 0)) of_lies hb)
         have n1_ := Aside0.mk (blk_below (g := gb102) (o := .cells #[.int .u64 a1_0, .int .u64 a1_1] 47 (0, 0)) of_lies hb)
         have n2_ := Aside0.mk (blk_below (g := gb103) (o := .cells #[.int .u64 0, .int .u64 0] 47 (0, 0)) of_lies hb)
         have n3_ := Aside0.mk (below_step (low HB) hb)
         clear BK101
         clear BK102
         clear BK103
         clear HB
         have BK101 := n0_
         have BK102 := n1_
         have BK103 := n2_
         have HB := n3_
         clear n0_ n1_ n2_ n3_
         (try clear hb)
         (try clear hb2)
         (try clear hk)
         (try clear hi)
         refine hK.out _ _ ⟨(blk_cell BK101.out 0).trans rfl, (blk_cell BK101.out 1).trans rfl, (blk_cell BK102.out 0).trans rfl, (blk_cell BK102.out 1).trans rfl⟩ (fun hHeld => ?_)
         clear hK K
         refine norm_ (a' := ?_) ?_ ?_
         rotate_left
         ·
          show Act.put _ (some 26) _ = _
          simp only [Act.put, List.setIfInBounds_toArray, List.set_cons_zero, List.set_cons_succ, i64_w, i32_w]
          rfl
         refine one_ (i := 12) (N := some 34) #[true, true, true, true, true, true, true, true, true, true, true, true, true, false, false] rfl rfl (one_of HT_.out (by kernel_rfl)) (by decide) (fun K hK => ?_)
         refine goes_ Tryd.func63 (by kernel_rfl) rfl #[.int .u64 (IntKind.u64.wrap (a1_1 - a1_0)), .int .u64 a0_1] (by rfl) rfl rfl (by (try simp only [List.map_toArray, List.map_cons, List.map_nil]); first | done | rfl | (simp only [List.length_drop, List.length_take]; rfl)) ?_
         with_reducible refine (Podd.odds_times.calls (IntKind.u64.wrap (a1_1 - a1_0)) a0_1 t108 t109 _ A23.out).mono ?_
         rintro e w39 ⟨rfl, hb⟩
         refine ⟨_, rfl, ?_⟩
         have n0_ := Aside0.mk (blk_below (g := gb101) (o := .cells #[.int .u64 a0_0, .int .u64 a0_1] 47 (0, 0)) of_lies hb)
         have n1_ := Aside0.mk (blk_below (g := gb102) (o := .cells #[.int .u64 a1_0, .int .u64 a1_1] 47 (0, 0)) of_lies hb)
         have n2_ := Aside0.mk (blk_below (g := gb103) (o := .cells #[.int .u64 0, .int .u64 0] 47 (0, 0)) of_lies hb)
         have n3_ := Aside0.mk (below_step (low HB) hb)
         clear BK101
         clear BK102
         clear BK103
         clear HB
         have BK101 := n0_
         have BK102 := n1_
         have BK103 := n2_
         have HB := n3_
         clear n0_ n1_ n2_ n3_
         (try clear hb)
         (try clear hb2)
         (try clear hk)
         (try clear hi)
         refine hK.out _ _ ⟨(blk_cell BK101.out 0).trans rfl, (blk_cell BK101.out 1).trans rfl, (blk_cell BK102.out 0).trans rfl, (blk_cell BK102.out 1).trans rfl⟩ (fun hHeld => ?_)
         clear hK K
         refine norm_ (a' := ?_) ?_ ?_
         rotate_left
         ·
          show Act.put _ (some 34) _ = _
          simp only [Act.put, List.setIfInBounds_toArray, List.set_cons_zero, List.set_cons_succ, i64_w, i32_w]
          rfl
         refine one_ (i := 13) (N := some 35) #[true, true, true, true, true, true, true, true, true, true, true, true, true, true, false] rfl rfl (one_of HT_.out (by kernel_rfl)) (by decide) (fun K hK => ?_)
         refine goes_ Tryd.func64 (by kernel_rfl) rfl #[.agg #[.int .u64 t106, .int .u64 t107], .agg #[.int .u64 t108, .int .u64 t109]] (by rfl) rfl rfl (by (try simp only [List.map_toArray, List.map_cons, List.map_nil]); first | done | rfl | (simp only [List.length_drop, List.length_take]; rfl)) ?_
         with_reducible refine (Podd.odds_wide_compare.calls kj2 t106 t107 t108 t109 t110 _ A24.out).mono ?_
         rintro e w40 ⟨rfl, hb⟩
         refine ⟨_, rfl, ?_⟩
         have n0_ := Aside0.mk (blk_below (g := gb101) (o := .cells #[.int .u64 a0_0, .int .u64 a0_1] 47 (0, 0)) of_lies hb)
         have n1_ := Aside0.mk (blk_below (g := gb102) (o := .cells #[.int .u64 a1_0, .int .u64 a1_1] 47 (0, 0)) of_lies hb)
         have n2_ := Aside0.mk (blk_below (g := gb103) (o := .cells #[.int .u64 0, .int .u64 0] 47 (0, 0)) of_lies hb)
         have n3_ := Aside0.mk (below_step (low HB) hb)
         clear BK101
         clear BK102
         clear BK103
         clear HB
         have BK101 := n0_
         have BK102 := n1_
         have BK103 := n2_
         have HB := n3_
         clear n0_ n1_ n2_ n3_
         (try clear hb)
         (try clear hb2)
         (try clear hk)
         (try clear hi)
         refine hK.out _ _ ⟨(blk_cell BK101.out 0).trans rfl, (blk_cell BK101.out 1).trans rfl, (blk_cell BK102.out 0).trans rfl, (blk_cell BK102.out 1).trans rfl⟩ (fun hHeld => ?_)
         clear hK K
         refine norm_ (a' := ?_) ?_ ?_
         rotate_left
         ·
          show Act.put _ (some 35) _ = _
          simp only [Act.put, List.setIfInBounds_toArray, List.set_cons_zero, List.set_cons_succ, i64_w, i32_w]
          rfl
         refine pure_ (i := 14) (N := some 36) (v := ?_) (a' := ?_) #[true, true, true, true, true, true, true, true, true, true, true, true, true, true, true] rfl rfl (any_of HT_.out (by kernel_rfl)) (fun _ _ _ h => h) (Or.inl ⟨by rfl, ?_⟩) ?_ ?_
         rotate_left
         ·
          intro w'
          go_simp
          with_reducible rfl
         rotate_left
         ·
          simp only [Act.put, List.setIfInBounds_toArray, List.set_cons_zero, List.set_cons_succ, i64_w, i32_w]
          rfl
         refine done_ (done_of HT_.out (by kernel_rfl)) ?_
         have hnb41 := NB101_102.out
         have hnc41 := NB102_101.out
         have hnb42 := NB101_103.out
         have hnc42 := NB103_101.out
         have hcz43_0 : w40.cell? ⟨gb101, 0, none⟩ = some (.int .u64 a0_0) := (blk_cell BK101.out 0).trans rfl
         have hcz43_1 : w40.cell? ⟨gb101, 1, none⟩ = some (.int .u64 a0_1) := (blk_cell BK101.out 1).trans rfl
         have hfz43_0 := blk_frozen BK101.out 0
         have hfz43_1 := blk_frozen BK101.out 1
         have hnb44 := NB102_103.out
         have hnc44 := NB103_102.out
         have hcz45_0 : w40.cell? ⟨gb102, 0, none⟩ = some (.int .u64 a1_0) := (blk_cell BK102.out 0).trans rfl
         have hcz45_1 : w40.cell? ⟨gb102, 1, none⟩ = some (.int .u64 a1_1) := (blk_cell BK102.out 1).trans rfl
         have hfz45_0 := blk_frozen BK102.out 0
         have hfz45_1 := blk_frozen BK102.out 1
         try go_wp2_with (first | ((with_reducible refine gate_callee (f := 65) rfl ?_); refine goesL_ (some 42) rfl rfl Tryd.func65 (by kernel_rfl) rfl #[.int .u64 a0_1, .int .u64 a1_1] rfl (by (try simp only [List.map_toArray, List.map_cons, List.map_nil]); first | done | rfl | (simp only [List.length_drop, List.length_take]; rfl)) ?_; (with_reducible refine (Podd.odds_divisor.calls kj2 a0_1 a1_1 t111 _ A26.out).mono ?_); rintro e w' ⟨rfl, ⟨nd, rfl⟩⟩; refine ⟨_, rfl, ?_⟩; (try (rw [drewN_self w40]; generalize hq_ : World.drewN w40 _ = w40; have n0_ : Aside0 (w40.heap[gb101]? = some (.cells #[.int .u64 a0_0, .int .u64 a0_1] 47 (0, 0))) := ⟨by rw [← hq_]; exact of_lies⟩; have n1_ : Aside0 (w40.heap[gb102]? = some (.cells #[.int .u64 a1_0, .int .u64 a1_1] 47 (0, 0))) := ⟨by rw [← hq_]; exact of_lies⟩; have n2_ : Aside0 (w40.heap[gb103]? = some (.cells #[.int .u64 0, .int .u64 0] 47 (0, 0))) := ⟨by rw [← hq_]; exact of_lies⟩; have n3_ : Aside0 (Below w.heap.size w w40) := ⟨by rw [← hq_]; exact (low HB)⟩; clear BK101 BK102 BK103 HB hq_; have BK101 := n0_; have BK102 := n1_; have BK103 := n2_; have HB := n3_; clear n0_ n1_ n2_ n3_))))
         have n0_ := Aside0.mk (blk_drew BK101.out)
         have n1_ := Aside0.mk (blk_drew BK102.out)
         have n2_ := Aside0.mk (blk_drew BK103.out)
         have n3_ := Aside0.mk (below_drew1 HB.out)
         clear BK101
         clear BK102
         clear BK103
         clear HB
         have BK101 := n0_
         have BK102 := n1_
         have BK103 := n2_
         have HB := n3_
         clear n0_ n1_ n2_ n3_
         refine start_ (n := 21) (S := fun w' => w'.cell? ⟨gb101, 0, none⟩ = some (.int .u64 a0_0) ∧ w'.cell? ⟨gb101, 1, none⟩ = some (.int .u64 a0_1) ∧ w'.cell? ⟨gb102, 0, none⟩ = some (.int .u64 a1_0) ∧ w'.cell? ⟨gb102, 1, none⟩ = some (.int .u64 a1_1)) (ds := []) #[false, false, false, false, false, false, false, false, false, false, false, false, false, false, false, false, false, false, false, false, false] (by kernel_rfl) rfl rfl ⟨(blk_cell BK101.out 0).trans rfl, (blk_cell BK101.out 1).trans rfl, (blk_cell BK102.out 0).trans rfl, (blk_cell BK102.out 1).trans rfl⟩ (fun hHeld => ?_); refine with_tabW odds_Sum.tab6 odds_Sum.bits6 (fun HT_ HW_ => ?_)
         generalize w40.drew = w46 at BK101 BK102 BK103 HB hHeld ⊢
         refine pure_ (i := 0) (N := some 44) (v := ?_) (a' := ?_) #[true, false, false, false, false, false, false, false, false, false, false, false, false, false, false, false, false, false, false, false, false] rfl rfl (any_of HT_.out (by kernel_rfl)) (fun _ _ _ h => h) (Or.inl ⟨by rfl, ?_⟩) ?_ ?_
         rotate_left
         ·
          intro w'
          go_simp
          with_reducible rfl
         rotate_left
         ·
          simp only [Act.put, List.setIfInBounds_toArray, List.set_cons_zero, List.set_cons_succ, i64_w, i32_w]
          rfl
         refine pure_ (i := 2) (N := some 46) (v := ?_) (a' := ?_) #[true, false, true, false, false, false, false, false, false, false, false, false, false, false, false, false, false, false, false, false, false] rfl rfl (any_of HT_.out (by kernel_rfl)) (fun _ _ _ h => h) (Or.inl ⟨by rfl, ?_⟩) ?_ ?_
         rotate_left
         ·
          intro w'
          go_simp
          with_reducible rfl
         rotate_left
         ·
          simp only [Act.put, List.setIfInBounds_toArray, List.set_cons_zero, List.set_cons_succ, i64_w, i32_w]
          rfl
         refine pure_ (i := 4) (N := some 48) (v := ?_) (a' := ?_) #[true, false, true, false, true, false, false, false, false, false, false, false, false, false, false, false, false, false, false, false, false] rfl rfl (any_of HT_.out (by kernel_rfl)) (fun _ _ _ h => h) (Or.inl ⟨by rfl, ?_⟩) ?_ ?_
         rotate_left
         ·
          intro w'
          go_simp
          with_reducible rfl
         rotate_left
         ·
          simp only [Act.put, List.setIfInBounds_toArray, List.set_cons_zero, List.set_cons_succ, i64_w, i32_w]
          rfl
         refine pure_ (i := 7) (N := some 51) (v := ?_) (a' := ?_) #[true, false, true, false, true, false, false, true, false, false, false, false, false, false, false, false, false, false, false, false, false] rfl rfl (any_of HT_.out (by kernel_rfl)) (fun _ _ _ h => h) (Or.inl ⟨by rfl, ?_⟩) ?_ ?_
         rotate_left
         ·
          intro w'
          go_simp
          with_reducible rfl
         rotate_left
         ·
          simp only [Act.put, List.setIfInBounds_toArray, List.set_cons_zero, List.set_cons_succ, i64_w, i32_w]
          rfl
         refine pure_ (i := 9) (N := some 53) (v := ?_) (a' := ?_) #[true, false, true, false, true, false, false, true, false, true, false, false, false, false, false, false, false, false, false, false, false] rfl rfl (any_of HT_.out (by kernel_rfl)) (fun _ _ _ h => h) (Or.inl ⟨by rfl, ?_⟩) ?_ ?_
         rotate_left
         ·
          intro w'
          go_simp
          with_reducible rfl
         rotate_left
         ·
          simp only [Act.put, List.setIfInBounds_toArray, List.set_cons_zero, List.set_cons_succ, i64_w, i32_w]
          rfl
         refine pure_ (i := 11) (N := some 55) (v := ?_) (a' := ?_) #[true, false, true, false, true, false, false, true, false, true, false, true, false, false, false, false, false, false, false, false, false] rfl rfl (any_of HT_.out (by kernel_rfl)) (fun _ _ _ h => h) (Or.inl ⟨by rfl, ?_⟩) ?_ ?_
         rotate_left
         ·
          intro w'
          go_simp
          with_reducible rfl
         rotate_left
         ·
          simp only [Act.put, List.setIfInBounds_toArray, List.set_cons_zero, List.set_cons_succ, i64_w, i32_w]
          rfl
         refine take_ (i := 1) (N := some 45) (v := ?_) (a' := ?_) #[true, true, true, false, true, false, false, true, false, true, false, true, false, false, false, false, false, false, false, false, false] rfl rfl (take_ofW HT_.out HW_.out (by kernel_rfl)) (fun _ _ _ h => h) (Or.inl ⟨by rfl, ?_⟩) hHeld ?_ ?_
         rotate_left
         ·
          rintro w' ⟨s0, s1, s2, s3⟩
          go_simp
          with_reducible rfl
         rotate_left
         ·
          simp only [Act.put, List.setIfInBounds_toArray, List.set_cons_zero, List.set_cons_succ, i64_w, i32_w]
          rfl
         refine take_ (i := 3) (N := some 47) (v := ?_) (a' := ?_) #[true, true, true, true, true, false, false, true, false, true, false, true, false, false, false, false, false, false, false, false, false] rfl rfl (take_ofW HT_.out HW_.out (by kernel_rfl)) (fun _ _ _ h => h) (Or.inl ⟨by rfl, ?_⟩) hHeld ?_ ?_
         rotate_left
         ·
          rintro w' ⟨s0, s1, s2, s3⟩
          go_simp
          with_reducible rfl
         rotate_left
         ·
          simp only [Act.put, List.setIfInBounds_toArray, List.set_cons_zero, List.set_cons_succ, i64_w, i32_w]
          rfl
         refine pure_ (i := 5) (N := some 49) (v := ?_) (a' := ?_) #[true, true, true, true, true, true, false, true, false, true, false, true, false, false, false, false, false, false, false, false, false] rfl rfl (any_of HT_.out (by kernel_rfl)) (fun _ _ _ h => h) (Or.inl ⟨by rfl, ?_⟩) ?_ ?_
         rotate_left
         ·
          intro w'
          go_simp
          with_reducible rfl
         rotate_left
         ·
          simp only [Act.put, List.setIfInBounds_toArray, List.set_cons_zero, List.set_cons_succ, i64_w, i32_w]
          rfl
         refine take_ (i := 8) (N := some 52) (v := ?_) (a' := ?_) #[true, true, true, true, true, true, false, true, true, true, false, true, false, false, false, false, false, false, false, false, false] rfl rfl (take_ofW HT_.out HW_.out (by kernel_rfl)) (fun _ _ _ h => h) (Or.inl ⟨by rfl, ?_⟩) hHeld ?_ ?_
         rotate_left
         ·
          rintro w' ⟨s0, s1, s2, s3⟩
          go_simp
          with_reducible rfl
         rotate_left
         ·
          simp only [Act.put, List.setIfInBounds_toArray, List.set_cons_zero, List.set_cons_succ, i64_w, i32_w]
          rfl
         refine take_ (i := 10) (N := some 54) (v := ?_) (a' := ?_) #[true, true, true, true, true, true, false, true, true, true, true, true, false, false, false, false, false, false, false, false, false] rfl rfl (take_ofW HT_.out HW_.out (by kernel_rfl)) (fun _ _ _ h => h) (Or.inl ⟨by rfl, ?_⟩) hHeld ?_ ?_
         rotate_left
         ·
          rintro w' ⟨s0, s1, s2, s3⟩
          go_simp
          with_reducible rfl
         rotate_left
         ·
          simp only [Act.put, List.setIfInBounds_toArray, List.set_cons_zero, List.set_cons_succ, i64_w, i32_w]
          rfl
         refine pure_ (i := 12) (N := some 56) (v := ?_) (a' := ?_) #[true, true, true, true, true, true, false, true, true, true, true, true, true, false, false, false, false, false, false, false, false] rfl rfl (any_of HT_.out (by kernel_rfl)) (fun _ _ _ h => h) (Or.inl ⟨by rfl, ?_⟩) ?_ ?_
         rotate_left
         ·
          intro w'
          go_simp
          with_reducible rfl
         rotate_left
         ·
          simp only [Act.put, List.setIfInBounds_toArray, List.set_cons_zero, List.set_cons_succ, i64_w, i32_w]
          rfl
         refine join_ (σ := Nat) 2 #[true, true, true, true, true, true, true, true, true, true, true, true, true, true, true, true, true, true, true, false, false] (fun s_ => [(50, .agg #[.int .u64 t112, .int .u64 t113]), (57, .agg #[.int .u64 t114, .int .u64 t115]), (58, .tuple #[.agg #[.int .u64 t116, .int .u64 t117], .bool true]), (7, .pointer (some ⟨s_, 0, none⟩)), (43, .tuple #[.agg #[.int .u64 t116, .int .u64 t117], .bool true]), (59, .agg #[.int .u64 t116, .int .u64 t117]), (60, .bool true)]) (fun s_ w' => (w'.cell? ⟨gb101, 0, none⟩ = some (.int .u64 a0_0) ∧ w'.cell? ⟨gb101, 1, none⟩ = some (.int .u64 a0_1) ∧ w'.cell? ⟨gb102, 0, none⟩ = some (.int .u64 a1_0) ∧ w'.cell? ⟨gb102, 1, none⟩ = some (.int .u64 a1_1)) ∧ (w'.heap[gb101]? = some (.cells #[.int .u64 a0_0, .int .u64 a0_1] 47 (0, 0))) ∧ (w'.heap[gb102]? = some (.cells #[.int .u64 a1_0, .int .u64 a1_1] 47 (0, 0))) ∧ (w'.heap[gb103]? = some (.cells #[.int .u64 0, .int .u64 0] 47 (0, 0))) ∧ (w'.heap[s_]? = some (.cells #[.int .u64 0, .int .u64 0] 74 (0, 0))) ∧ (w.heap.size ≤ s_) ∧ (w.heap.size ≤ s_) ∧ (gb101 ≠ s_) ∧ (s_ ≠ gb101) ∧ (gb102 ≠ s_) ∧ (s_ ≠ gb102) ∧ (gb103 ≠ s_) ∧ (s_ ≠ gb103) ∧ (Below w.heap.size w w')) ?_ ?_
         rotate_left
         ·
          intro hCont
          refine two_ (i := 6) (j := 18) (Ni := some 50) (Nj := some 7) #[true, true, true, true, true, true, true, true, true, true, true, true, true, false, false, false, false, false, false, false, false] #[true, true, true, true, true, true, false, true, true, true, true, true, true, false, false, false, false, false, true, false, false] rfl rfl rfl rfl (two_of HT_.out (by kernel_rfl)) (by decide) (by decide) (fun K hK => ?_) (fun K hK => ?_)
          ·
           skip
           refine goes_ Tryd.func63 (by kernel_rfl) rfl #[.int .u64 a0_0, .int .u64 (IntKind.u64.wrap (Int.tdiv a1_1 t111))] (by rfl) rfl rfl (by (try simp only [List.map_toArray, List.map_cons, List.map_nil]); first | done | rfl | (simp only [List.length_drop, List.length_take]; rfl)) ?_
           with_reducible refine (Podd.odds_times.calls a0_0 (IntKind.u64.wrap (Int.tdiv a1_1 t111)) t112 t113 _ A28.out).mono ?_
           rintro e w47 ⟨rfl, hb⟩
           refine ⟨_, rfl, ?_⟩
           have n0_ := Aside0.mk (blk_below (g := gb101) (o := .cells #[.int .u64 a0_0, .int .u64 a0_1] 47 (0, 0)) of_lies hb)
           have n1_ := Aside0.mk (blk_below (g := gb102) (o := .cells #[.int .u64 a1_0, .int .u64 a1_1] 47 (0, 0)) of_lies hb)
           have n2_ := Aside0.mk (blk_below (g := gb103) (o := .cells #[.int .u64 0, .int .u64 0] 47 (0, 0)) of_lies hb)
           have n3_ := Aside0.mk (below_step (low HB) hb)
           clear BK101
           clear BK102
           clear BK103
           clear HB
           have BK101 := n0_
           have BK102 := n1_
           have BK103 := n2_
           have HB := n3_
           clear n0_ n1_ n2_ n3_
           (try clear hb)
           (try clear hb2)
           (try clear hk)
           (try clear hi)
           refine hK.out _ _ ⟨(blk_cell BK101.out 0).trans rfl, (blk_cell BK101.out 1).trans rfl, (blk_cell BK102.out 0).trans rfl, (blk_cell BK102.out 1).trans rfl⟩ (fun hHeld => ?_)
           clear hK K
           refine norm_ (a' := ?_) ?_ ?_
           rotate_left
           ·
            show Act.put _ (some 50) _ = _
            simp only [Act.put, List.setIfInBounds_toArray, List.set_cons_zero, List.set_cons_succ, i64_w, i32_w]
            rfl
           refine two_ (i := 13) (j := 18) (Ni := some 57) (Nj := some 7) #[true, true, true, true, true, true, true, true, true, true, true, true, true, true, false, false, false, false, false, false, false] #[true, true, true, true, true, true, true, true, true, true, true, true, true, false, false, false, false, false, true, false, false] rfl rfl rfl rfl (two_of HT_.out (by kernel_rfl)) (by decide) (by decide) (fun K hK => ?_) (fun K hK => ?_)
           ·
            skip
            refine goes_ Tryd.func63 (by kernel_rfl) rfl #[.int .u64 a1_0, .int .u64 (IntKind.u64.wrap (Int.tdiv a0_1 t111))] (by rfl) rfl rfl (by (try simp only [List.map_toArray, List.map_cons, List.map_nil]); first | done | rfl | (simp only [List.length_drop, List.length_take]; rfl)) ?_
            with_reducible refine (Podd.odds_times.calls a1_0 (IntKind.u64.wrap (Int.tdiv a0_1 t111)) t114 t115 _ A29.out).mono ?_
            rintro e w48 ⟨rfl, hb⟩
            refine ⟨_, rfl, ?_⟩
            have n0_ := Aside0.mk (blk_below (g := gb101) (o := .cells #[.int .u64 a0_0, .int .u64 a0_1] 47 (0, 0)) of_lies hb)
            have n1_ := Aside0.mk (blk_below (g := gb102) (o := .cells #[.int .u64 a1_0, .int .u64 a1_1] 47 (0, 0)) of_lies hb)
            have n2_ := Aside0.mk (blk_below (g := gb103) (o := .cells #[.int .u64 0, .int .u64 0] 47 (0, 0)) of_lies hb)
            have n3_ := Aside0.mk (below_step (low HB) hb)
            clear BK101
            clear BK102
            clear BK103
            clear HB
            have BK101 := n0_
            have BK102 := n1_
            have BK103 := n2_
            have HB := n3_
            clear n0_ n1_ n2_ n3_
            (try clear hb)
            (try clear hb2)
            (try clear hk)
            (try clear hi)
            refine hK.out _ _ ⟨(blk_cell BK101.out 0).trans rfl, (blk_cell BK101.out 1).trans rfl, (blk_cell BK102.out 0).trans rfl, (blk_cell BK102.out 1).trans rfl⟩ (fun hHeld => ?_)
            clear hK K
            refine norm_ (a' := ?_) ?_ ?_
            rotate_left
            ·
             show Act.put _ (some 57) _ = _
             simp only [Act.put, List.setIfInBounds_toArray, List.set_cons_zero, List.set_cons_succ, i64_w, i32_w]
             rfl
            refine two_ (i := 14) (j := 18) (Ni := some 58) (Nj := some 7) #[true, true, true, true, true, true, true, true, true, true, true, true, true, true, true, false, false, false, false, false, false] #[true, true, true, true, true, true, true, true, true, true, true, true, true, true, false, false, false, false, true, false, false] rfl rfl rfl rfl (two_of HT_.out (by kernel_rfl)) (by decide) (by decide) (fun K hK => ?_) (fun K hK => ?_)
            ·
             skip
             refine goes_ Tryd.func66 (by kernel_rfl) rfl #[.agg #[.int .u64 t112, .int .u64 t113], .agg #[.int .u64 t114, .int .u64 t115]] (by rfl) rfl rfl (by (try simp only [List.map_toArray, List.map_cons, List.map_nil]); first | done | rfl | (simp only [List.length_drop, List.length_take]; rfl)) ?_
             with_reducible refine (odds_wide_plus.calls t112 t113 t114 t115 t116 t117 true _ A30.out).mono ?_
             rintro e w49 ⟨rfl, hb⟩
             refine ⟨_, rfl, ?_⟩
             have n0_ := Aside0.mk (blk_below (g := gb101) (o := .cells #[.int .u64 a0_0, .int .u64 a0_1] 47 (0, 0)) of_lies hb)
             have n1_ := Aside0.mk (blk_below (g := gb102) (o := .cells #[.int .u64 a1_0, .int .u64 a1_1] 47 (0, 0)) of_lies hb)
             have n2_ := Aside0.mk (blk_below (g := gb103) (o := .cells #[.int .u64 0, .int .u64 0] 47 (0, 0)) of_lies hb)
             have n3_ := Aside0.mk (below_step (low HB) hb)
             clear BK101
             clear BK102
             clear BK103
             clear HB
             have BK101 := n0_
             have BK102 := n1_
             have BK103 := n2_
             have HB := n3_
             clear n0_ n1_ n2_ n3_
             (try clear hb)
             (try clear hb2)
             (try clear hk)
             (try clear hi)
             refine hK.out _ _ ⟨(blk_cell BK101.out 0).trans rfl, (blk_cell BK101.out 1).trans rfl, (blk_cell BK102.out 0).trans rfl, (blk_cell BK102.out 1).trans rfl⟩ (fun hHeld => ?_)
             clear hK K
             refine norm_ (a' := ?_) ?_ ?_
             rotate_left
             ·
              show Act.put _ (some 58) _ = _
              simp only [Act.put, List.setIfInBounds_toArray, List.set_cons_zero, List.set_cons_succ, i64_w, i32_w]
              rfl
             refine pure_ (i := 15) (N := some 43) (v := ?_) (a' := ?_) #[true, true, true, true, true, true, true, true, true, true, true, true, true, true, true, true, false, false, false, false, false] rfl rfl (any_of HT_.out (by kernel_rfl)) (fun _ _ _ h => h) (Or.inl ⟨by rfl, ?_⟩) ?_ ?_
             rotate_left
             ·
              intro w'
              go_simp
              with_reducible rfl
             rotate_left
             ·
              simp only [Act.put, List.setIfInBounds_toArray, List.set_cons_zero, List.set_cons_succ, i64_w, i32_w]
              rfl
             refine pure_ (i := 16) (N := some 59) (v := ?_) (a' := ?_) #[true, true, true, true, true, true, true, true, true, true, true, true, true, true, true, true, true, false, false, false, false] rfl rfl (any_of HT_.out (by kernel_rfl)) (fun _ _ _ h => h) (Or.inl ⟨by rfl, ?_⟩) ?_ ?_
             rotate_left
             ·
              intro w'
              go_simp
              with_reducible rfl
             rotate_left
             ·
              simp only [Act.put, List.setIfInBounds_toArray, List.set_cons_zero, List.set_cons_succ, i64_w, i32_w]
              rfl
             refine pure_ (i := 17) (N := some 60) (v := ?_) (a' := ?_) #[true, true, true, true, true, true, true, true, true, true, true, true, true, true, true, true, true, true, false, false, false] rfl rfl (any_of HT_.out (by kernel_rfl)) (fun _ _ _ h => h) (Or.inl ⟨by rfl, ?_⟩) ?_ ?_
             rotate_left
             ·
              intro w'
              go_simp
              with_reducible rfl
             rotate_left
             ·
              simp only [Act.put, List.setIfInBounds_toArray, List.set_cons_zero, List.set_cons_succ, i64_w, i32_w]
              rfl
             refine one_ (i := 18) (N := some 7) #[true, true, true, true, true, true, true, true, true, true, true, true, true, true, true, true, true, true, true, false, false] rfl rfl (one_of HT_.out (by kernel_rfl)) (by decide) (fun K hK => ?_)
             refine box_step ?hg (N := 7) ?hd (cs := #[.int .u64 0, .int .u64 0]) (t := 74) ?hr ?_; (case hd => rfl); (case hg => rfl); (case hr => first | (go_simp; done) | (go_simp; rfl))
             intro gb119 hg w50 hbox hb
             have n0_ := Aside0.mk (blk_below (g := gb101) (o := .cells #[.int .u64 a0_0, .int .u64 a0_1] 47 (0, 0)) of_lies hb)
             have n1_ := Aside0.mk (blk_below (g := gb102) (o := .cells #[.int .u64 a1_0, .int .u64 a1_1] 47 (0, 0)) of_lies hb)
             have n2_ := Aside0.mk (blk_below (g := gb103) (o := .cells #[.int .u64 0, .int .u64 0] 47 (0, 0)) of_lies hb)
             have n3_ := Aside0.mk (below_step (low HB) hb)
             have n4_ := Aside0.mk (hbox)
             have n5_ := Aside0.mk ((by rw [hg]; exact (below_size (low HB)) : w.heap.size ≤ gb119))
             have n6_ := Aside0.mk ((by rw [hg]; exact (below_size (low HB)) : w.heap.size ≤ gb119))
             have n7_ := Aside0.mk ((by rw [hg]; exact Nat.ne_of_lt (blk_lt (g := gb101) (o := .cells #[.int .u64 a0_0, .int .u64 a0_1] 47 (0, 0)) of_lies) : gb101 ≠ gb119))
             have n8_ := Aside0.mk ((by rw [hg]; exact Nat.ne_of_gt (blk_lt (g := gb101) (o := .cells #[.int .u64 a0_0, .int .u64 a0_1] 47 (0, 0)) of_lies) : gb119 ≠ gb101))
             have n9_ := Aside0.mk ((by rw [hg]; exact Nat.ne_of_lt (blk_lt (g := gb102) (o := .cells #[.int .u64 a1_0, .int .u64 a1_1] 47 (0, 0)) of_lies) : gb102 ≠ gb119))
             have n10_ := Aside0.mk ((by rw [hg]; exact Nat.ne_of_gt (blk_lt (g := gb102) (o := .cells #[.int .u64 a1_0, .int .u64 a1_1] 47 (0, 0)) of_lies) : gb119 ≠ gb102))
             have n11_ := Aside0.mk ((by rw [hg]; exact Nat.ne_of_lt (blk_lt (g := gb103) (o := .cells #[.int .u64 0, .int .u64 0] 47 (0, 0)) of_lies) : gb103 ≠ gb119))
             have n12_ := Aside0.mk ((by rw [hg]; exact Nat.ne_of_gt (blk_lt (g := gb103) (o := .cells #[.int .u64 0, .int .u64 0] 47 (0, 0)) of_lies) : gb119 ≠ gb103))
             clear BK101
             clear BK102
             clear BK103
             clear HB
             have BK101 := n0_
             have BK102 := n1_
             have BK103 := n2_
             have HB := n3_
             have BK119 := n4_
             have GW119 := n5_
             have GE119 := n6_
             have NB101_119 := n7_
             have NB119_101 := n8_
             have NB102_119 := n9_
             have NB119_102 := n10_
             have NB103_119 := n11_
             have NB119_103 := n12_
             clear n0_ n1_ n2_ n3_ n4_ n5_ n6_ n7_ n8_ n9_ n10_ n11_ n12_
             clear hb hbox hg
             refine hK.out _ _ ⟨(blk_cell BK101.out 0).trans rfl, (blk_cell BK101.out 1).trans rfl, (blk_cell BK102.out 0).trans rfl, (blk_cell BK102.out 1).trans rfl⟩ (fun hHeld => ?_)
             clear hK K
             refine norm_ (a' := ?_) ?_ ?_
             rotate_left
             ·
              show Act.put _ (some 7) _ = _
              simp only [Act.put, List.setIfInBounds_toArray, List.set_cons_zero, List.set_cons_succ, i64_w, i32_w]
              rfl
             exact norm_ (by simp only [putAll, Act.put, List.setIfInBounds_toArray, List.set_cons_zero, List.set_cons_succ]) (hCont (gb119) _ ⟨hHeld, of_lies, of_lies, of_lies, of_lies, GW119.out, GE119.out, NB101_119.out, NB119_101.out, NB102_119.out, NB119_102.out, NB103_119.out, NB119_103.out, (low HB)⟩)
            ·
             skip
             refine box_step ?hg (N := 7) ?hd (cs := #[.int .u64 0, .int .u64 0]) (t := 74) ?hr ?_; (case hd => rfl); (case hg => rfl); (case hr => first | (go_simp; done) | (go_simp; rfl))
             intro gb119 hg w49 hbox hb
             have n0_ := Aside0.mk (blk_below (g := gb101) (o := .cells #[.int .u64 a0_0, .int .u64 a0_1] 47 (0, 0)) of_lies hb)
             have n1_ := Aside0.mk (blk_below (g := gb102) (o := .cells #[.int .u64 a1_0, .int .u64 a1_1] 47 (0, 0)) of_lies hb)
             have n2_ := Aside0.mk (blk_below (g := gb103) (o := .cells #[.int .u64 0, .int .u64 0] 47 (0, 0)) of_lies hb)
             have n3_ := Aside0.mk (below_step (low HB) hb)
             have n4_ := Aside0.mk (hbox)
             have n5_ := Aside0.mk ((by rw [hg]; exact (below_size (low HB)) : w.heap.size ≤ gb119))
             have n6_ := Aside0.mk ((by rw [hg]; exact (below_size (low HB)) : w.heap.size ≤ gb119))
             have n7_ := Aside0.mk ((by rw [hg]; exact Nat.ne_of_lt (blk_lt (g := gb101) (o := .cells #[.int .u64 a0_0, .int .u64 a0_1] 47 (0, 0)) of_lies) : gb101 ≠ gb119))
             have n8_ := Aside0.mk ((by rw [hg]; exact Nat.ne_of_gt (blk_lt (g := gb101) (o := .cells #[.int .u64 a0_0, .int .u64 a0_1] 47 (0, 0)) of_lies) : gb119 ≠ gb101))
             have n9_ := Aside0.mk ((by rw [hg]; exact Nat.ne_of_lt (blk_lt (g := gb102) (o := .cells #[.int .u64 a1_0, .int .u64 a1_1] 47 (0, 0)) of_lies) : gb102 ≠ gb119))
             have n10_ := Aside0.mk ((by rw [hg]; exact Nat.ne_of_gt (blk_lt (g := gb102) (o := .cells #[.int .u64 a1_0, .int .u64 a1_1] 47 (0, 0)) of_lies) : gb119 ≠ gb102))
             have n11_ := Aside0.mk ((by rw [hg]; exact Nat.ne_of_lt (blk_lt (g := gb103) (o := .cells #[.int .u64 0, .int .u64 0] 47 (0, 0)) of_lies) : gb103 ≠ gb119))
             have n12_ := Aside0.mk ((by rw [hg]; exact Nat.ne_of_gt (blk_lt (g := gb103) (o := .cells #[.int .u64 0, .int .u64 0] 47 (0, 0)) of_lies) : gb119 ≠ gb103))
             clear BK101
             clear BK102
             clear BK103
             clear HB
             have BK101 := n0_
             have BK102 := n1_
             have BK103 := n2_
             have HB := n3_
             have BK119 := n4_
             have GW119 := n5_
             have GE119 := n6_
             have NB101_119 := n7_
             have NB119_101 := n8_
             have NB102_119 := n9_
             have NB119_102 := n10_
             have NB103_119 := n11_
             have NB119_103 := n12_
             clear n0_ n1_ n2_ n3_ n4_ n5_ n6_ n7_ n8_ n9_ n10_ n11_ n12_
             clear hb hbox hg
             refine hK.out _ _ ⟨(blk_cell BK101.out 0).trans rfl, (blk_cell BK101.out 1).trans rfl, (blk_cell BK102.out 0).trans rfl, (blk_cell BK102.out 1).trans rfl⟩ (fun hHeld => ?_)
             clear hK K
             refine norm_ (a' := ?_) ?_ ?_
             rotate_left
             ·
              show Act.put _ (some 7) _ = _
              simp only [Act.put, List.setIfInBounds_toArray, List.set_cons_zero, List.set_cons_succ, i64_w, i32_w]
              rfl
             refine one_ (i := 14) (N := some 58) #[true, true, true, true, true, true, true, true, true, true, true, true, true, true, true, false, false, false, true, false, false] rfl rfl (one_of HT_.out (by kernel_rfl)) (by decide) (fun K hK => ?_)
             refine goes_ Tryd.func66 (by kernel_rfl) rfl #[.agg #[.int .u64 t112, .int .u64 t113], .agg #[.int .u64 t114, .int .u64 t115]] (by rfl) rfl rfl (by (try simp only [List.map_toArray, List.map_cons, List.map_nil]); first | done | rfl | (simp only [List.length_drop, List.length_take]; rfl)) ?_
             with_reducible refine (odds_wide_plus.calls t112 t113 t114 t115 t116 t117 true _ A30.out).mono ?_
             rintro e w50 ⟨rfl, hb⟩
             refine ⟨_, rfl, ?_⟩
             have n0_ := Aside0.mk (blk_below (g := gb101) (o := .cells #[.int .u64 a0_0, .int .u64 a0_1] 47 (0, 0)) of_lies hb)
             have n1_ := Aside0.mk (blk_below (g := gb102) (o := .cells #[.int .u64 a1_0, .int .u64 a1_1] 47 (0, 0)) of_lies hb)
             have n2_ := Aside0.mk (blk_below (g := gb103) (o := .cells #[.int .u64 0, .int .u64 0] 47 (0, 0)) of_lies hb)
             have n3_ := Aside0.mk (blk_below (g := gb119) (o := .cells #[.int .u64 0, .int .u64 0] 74 (0, 0)) of_lies hb)
             have n4_ := Aside0.mk (below_step (low HB) hb)
             clear BK101
             clear BK102
             clear BK103
             clear BK119
             clear HB
             have BK101 := n0_
             have BK102 := n1_
             have BK103 := n2_
             have BK119 := n3_
             have HB := n4_
             clear n0_ n1_ n2_ n3_ n4_
             (try clear hb)
             (try clear hb2)
             (try clear hk)
             (try clear hi)
             refine hK.out _ _ ⟨(blk_cell BK101.out 0).trans rfl, (blk_cell BK101.out 1).trans rfl, (blk_cell BK102.out 0).trans rfl, (blk_cell BK102.out 1).trans rfl⟩ (fun hHeld => ?_)
             clear hK K
             refine norm_ (a' := ?_) ?_ ?_
             rotate_left
             ·
              show Act.put _ (some 58) _ = _
              simp only [Act.put, List.setIfInBounds_toArray, List.set_cons_zero, List.set_cons_succ, i64_w, i32_w]
              rfl
             refine pure_ (i := 15) (N := some 43) (v := ?_) (a' := ?_) #[true, true, true, true, true, true, true, true, true, true, true, true, true, true, true, true, false, false, true, false, false] rfl rfl (any_of HT_.out (by kernel_rfl)) (fun _ _ _ h => h) (Or.inl ⟨by rfl, ?_⟩) ?_ ?_
             rotate_left
             ·
              intro w'
              go_simp
              with_reducible rfl
             rotate_left
             ·
              simp only [Act.put, List.setIfInBounds_toArray, List.set_cons_zero, List.set_cons_succ, i64_w, i32_w]
              rfl
             refine pure_ (i := 16) (N := some 59) (v := ?_) (a' := ?_) #[true, true, true, true, true, true, true, true, true, true, true, true, true, true, true, true, true, false, true, false, false] rfl rfl (any_of HT_.out (by kernel_rfl)) (fun _ _ _ h => h) (Or.inl ⟨by rfl, ?_⟩) ?_ ?_
             rotate_left
             ·
              intro w'
              go_simp
              with_reducible rfl
             rotate_left
             ·
              simp only [Act.put, List.setIfInBounds_toArray, List.set_cons_zero, List.set_cons_succ, i64_w, i32_w]
              rfl
             refine pure_ (i := 17) (N := some 60) (v := ?_) (a' := ?_) #[true, true, true, true, true, true, true, true, true, true, true, true, true, true, true, true, true, true, true, false, false] rfl rfl (any_of HT_.out (by kernel_rfl)) (fun _ _ _ h => h) (Or.inl ⟨by rfl, ?_⟩) ?_ ?_
             rotate_left
             ·
              intro w'
              go_simp
              with_reducible rfl
             rotate_left
             ·
              simp only [Act.put, List.setIfInBounds_toArray, List.set_cons_zero, List.set_cons_succ, i64_w, i32_w]
              rfl
             exact norm_ (by simp only [putAll, Act.put, List.setIfInBounds_toArray, List.set_cons_zero, List.set_cons_succ]) (hCont (gb119) _ ⟨hHeld, of_lies, of_lies, of_lies, of_lies, GW119.out, GE119.out, NB101_119.out, NB119_101.out, NB102_119.out, NB119_102.out, NB103_119.out, NB119_103.out, (low HB)⟩)
           ·
            skip
            refine box_step ?hg (N := 7) ?hd (cs := #[.int .u64 0, .int .u64 0]) (t := 74) ?hr ?_; (case hd => rfl); (case hg => rfl); (case hr => first | (go_simp; done) | (go_simp; rfl))
            intro gb119 hg w48 hbox hb
            have n0_ := Aside0.mk (blk_below (g := gb101) (o := .cells #[.int .u64 a0_0, .int .u64 a0_1] 47 (0, 0)) of_lies hb)
            have n1_ := Aside0.mk (blk_below (g := gb102) (o := .cells #[.int .u64 a1_0, .int .u64 a1_1] 47 (0, 0)) of_lies hb)
            have n2_ := Aside0.mk (blk_below (g := gb103) (o := .cells #[.int .u64 0, .int .u64 0] 47 (0, 0)) of_lies hb)
            have n3_ := Aside0.mk (below_step (low HB) hb)
            have n4_ := Aside0.mk (hbox)
            have n5_ := Aside0.mk ((by rw [hg]; exact (below_size (low HB)) : w.heap.size ≤ gb119))
            have n6_ := Aside0.mk ((by rw [hg]; exact (below_size (low HB)) : w.heap.size ≤ gb119))
            have n7_ := Aside0.mk ((by rw [hg]; exact Nat.ne_of_lt (blk_lt (g := gb101) (o := .cells #[.int .u64 a0_0, .int .u64 a0_1] 47 (0, 0)) of_lies) : gb101 ≠ gb119))
            have n8_ := Aside0.mk ((by rw [hg]; exact Nat.ne_of_gt (blk_lt (g := gb101) (o := .cells #[.int .u64 a0_0, .int .u64 a0_1] 47 (0, 0)) of_lies) : gb119 ≠ gb101))
            have n9_ := Aside0.mk ((by rw [hg]; exact Nat.ne_of_lt (blk_lt (g := gb102) (o := .cells #[.int .u64 a1_0, .int .u64 a1_1] 47 (0, 0)) of_lies) : gb102 ≠ gb119))
            have n10_ := Aside0.mk ((by rw [hg]; exact Nat.ne_of_gt (blk_lt (g := gb102) (o := .cells #[.int .u64 a1_0, .int .u64 a1_1] 47 (0, 0)) of_lies) : gb119 ≠ gb102))
            have n11_ := Aside0.mk ((by rw [hg]; exact Nat.ne_of_lt (blk_lt (g := gb103) (o := .cells #[.int .u64 0, .int .u64 0] 47 (0, 0)) of_lies) : gb103 ≠ gb119))
            have n12_ := Aside0.mk ((by rw [hg]; exact Nat.ne_of_gt (blk_lt (g := gb103) (o := .cells #[.int .u64 0, .int .u64 0] 47 (0, 0)) of_lies) : gb119 ≠ gb103))
            clear BK101
            clear BK102
            clear BK103
            clear HB
            have BK101 := n0_
            have BK102 := n1_
            have BK103 := n2_
            have HB := n3_
            have BK119 := n4_
            have GW119 := n5_
            have GE119 := n6_
            have NB101_119 := n7_
            have NB119_101 := n8_
            have NB102_119 := n9_
            have NB119_102 := n10_
            have NB103_119 := n11_
            have NB119_103 := n12_
            clear n0_ n1_ n2_ n3_ n4_ n5_ n6_ n7_ n8_ n9_ n10_ n11_ n12_
            clear hb hbox hg
            refine hK.out _ _ ⟨(blk_cell BK101.out 0).trans rfl, (blk_cell BK101.out 1).trans rfl, (blk_cell BK102.out 0).trans rfl, (blk_cell BK102.out 1).trans rfl⟩ (fun hHeld => ?_)
            clear hK K
            refine norm_ (a' := ?_) ?_ ?_
            rotate_left
            ·
             show Act.put _ (some 7) _ = _
             simp only [Act.put, List.setIfInBounds_toArray, List.set_cons_zero, List.set_cons_succ, i64_w, i32_w]
             rfl
            refine one_ (i := 13) (N := some 57) #[true, true, true, true, true, true, true, true, true, true, true, true, true, true, false, false, false, false, true, false, false] rfl rfl (one_of HT_.out (by kernel_rfl)) (by decide) (fun K hK => ?_)
            refine goes_ Tryd.func63 (by kernel_rfl) rfl #[.int .u64 a1_0, .int .u64 (IntKind.u64.wrap (Int.tdiv a0_1 t111))] (by rfl) rfl rfl (by (try simp only [List.map_toArray, List.map_cons, List.map_nil]); first | done | rfl | (simp only [List.length_drop, List.length_take]; rfl)) ?_
            with_reducible refine (Podd.odds_times.calls a1_0 (IntKind.u64.wrap (Int.tdiv a0_1 t111)) t114 t115 _ A29.out).mono ?_
            rintro e w49 ⟨rfl, hb⟩
            refine ⟨_, rfl, ?_⟩
            have n0_ := Aside0.mk (blk_below (g := gb101) (o := .cells #[.int .u64 a0_0, .int .u64 a0_1] 47 (0, 0)) of_lies hb)
            have n1_ := Aside0.mk (blk_below (g := gb102) (o := .cells #[.int .u64 a1_0, .int .u64 a1_1] 47 (0, 0)) of_lies hb)
            have n2_ := Aside0.mk (blk_below (g := gb103) (o := .cells #[.int .u64 0, .int .u64 0] 47 (0, 0)) of_lies hb)
            have n3_ := Aside0.mk (blk_below (g := gb119) (o := .cells #[.int .u64 0, .int .u64 0] 74 (0, 0)) of_lies hb)
            have n4_ := Aside0.mk (below_step (low HB) hb)
            clear BK101
            clear BK102
            clear BK103
            clear BK119
            clear HB
            have BK101 := n0_
            have BK102 := n1_
            have BK103 := n2_
            have BK119 := n3_
            have HB := n4_
            clear n0_ n1_ n2_ n3_ n4_
            (try clear hb)
            (try clear hb2)
            (try clear hk)
            (try clear hi)
            refine hK.out _ _ ⟨(blk_cell BK101.out 0).trans rfl, (blk_cell BK101.out 1).trans rfl, (blk_cell BK102.out 0).trans rfl, (blk_cell BK102.out 1).trans rfl⟩ (fun hHeld => ?_)
            clear hK K
            refine norm_ (a' := ?_) ?_ ?_
            rotate_left
            ·
             show Act.put _ (some 57) _ = _
             simp only [Act.put, List.setIfInBounds_toArray, List.set_cons_zero, List.set_cons_succ, i64_w, i32_w]
             rfl
            refine one_ (i := 14) (N := some 58) #[true, true, true, true, true, true, true, true, true, true, true, true, true, true, true, false, false, false, true, false, false] rfl rfl (one_of HT_.out (by kernel_rfl)) (by decide) (fun K hK => ?_)
            refine goes_ Tryd.func66 (by kernel_rfl) rfl #[.agg #[.int .u64 t112, .int .u64 t113], .agg #[.int .u64 t114, .int .u64 t115]] (by rfl) rfl rfl (by (try simp only [List.map_toArray, List.map_cons, List.map_nil]); first | done | rfl | (simp only [List.length_drop, List.length_take]; rfl)) ?_
            with_reducible refine (odds_wide_plus.calls t112 t113 t114 t115 t116 t117 true _ A30.out).mono ?_
            rintro e w50 ⟨rfl, hb⟩
            refine ⟨_, rfl, ?_⟩
            have n0_ := Aside0.mk (blk_below (g := gb101) (o := .cells #[.int .u64 a0_0, .int .u64 a0_1] 47 (0, 0)) of_lies hb)
            have n1_ := Aside0.mk (blk_below (g := gb102) (o := .cells #[.int .u64 a1_0, .int .u64 a1_1] 47 (0, 0)) of_lies hb)
            have n2_ := Aside0.mk (blk_below (g := gb103) (o := .cells #[.int .u64 0, .int .u64 0] 47 (0, 0)) of_lies hb)
            have n3_ := Aside0.mk (blk_below (g := gb119) (o := .cells #[.int .u64 0, .int .u64 0] 74 (0, 0)) of_lies hb)
            have n4_ := Aside0.mk (below_step (low HB) hb)
            clear BK101
            clear BK102
            clear BK103
            clear BK119
            clear HB
            have BK101 := n0_
            have BK102 := n1_
            have BK103 := n2_
            have BK119 := n3_
            have HB := n4_
            clear n0_ n1_ n2_ n3_ n4_
            (try clear hb)
            (try clear hb2)
            (try clear hk)
            (try clear hi)
            refine hK.out _ _ ⟨(blk_cell BK101.out 0).trans rfl, (blk_cell BK101.out 1).trans rfl, (blk_cell BK102.out 0).trans rfl, (blk_cell BK102.out 1).trans rfl⟩ (fun hHeld => ?_)
            clear hK K
            refine norm_ (a' := ?_) ?_ ?_
            rotate_left
            ·
             show Act.put _ (some 58) _ = _
             simp only [Act.put, List.setIfInBounds_toArray, List.set_cons_zero, List.set_cons_succ, i64_w, i32_w]
             rfl
            refine pure_ (i := 15) (N := some 43) (v := ?_) (a' := ?_) #[true, true, true, true, true, true, true, true, true, true, true, true, true, true, true, true, false, false, true, false, false] rfl rfl (any_of HT_.out (by kernel_rfl)) (fun _ _ _ h => h) (Or.inl ⟨by rfl, ?_⟩) ?_ ?_
            rotate_left
            ·
             intro w'
             go_simp
             with_reducible rfl
            rotate_left
            ·
             simp only [Act.put, List.setIfInBounds_toArray, List.set_cons_zero, List.set_cons_succ, i64_w, i32_w]
             rfl
            refine pure_ (i := 16) (N := some 59) (v := ?_) (a' := ?_) #[true, true, true, true, true, true, true, true, true, true, true, true, true, true, true, true, true, false, true, false, false] rfl rfl (any_of HT_.out (by kernel_rfl)) (fun _ _ _ h => h) (Or.inl ⟨by rfl, ?_⟩) ?_ ?_
            rotate_left
            ·
             intro w'
             go_simp
             with_reducible rfl
            rotate_left
            ·
             simp only [Act.put, List.setIfInBounds_toArray, List.set_cons_zero, List.set_cons_succ, i64_w, i32_w]
             rfl
            refine pure_ (i := 17) (N := some 60) (v := ?_) (a' := ?_) #[true, true, true, true, true, true, true, true, true, true, true, true, true, true, true, true, true, true, true, false, false] rfl rfl (any_of HT_.out (by kernel_rfl)) (fun _ _ _ h => h) (Or.inl ⟨by rfl, ?_⟩) ?_ ?_
            rotate_left
            ·
             intro w'
             go_simp
             with_reducible rfl
            rotate_left
            ·
             simp only [Act.put, List.setIfInBounds_toArray, List.set_cons_zero, List.set_cons_succ, i64_w, i32_w]
             rfl
            exact norm_ (by simp only [putAll, Act.put, List.setIfInBounds_toArray, List.set_cons_zero, List.set_cons_succ]) (hCont (gb119) _ ⟨hHeld, of_lies, of_lies, of_lies, of_lies, GW119.out, GE119.out, NB101_119.out, NB119_101.out, NB102_119.out, NB119_102.out, NB103_119.out, NB119_103.out, (low HB)⟩)
          ·
           skip
           refine box_step ?hg (N := 7) ?hd (cs := #[.int .u64 0, .int .u64 0]) (t := 74) ?hr ?_; (case hd => rfl); (case hg => rfl); (case hr => first | (go_simp; done) | (go_simp; rfl))
           intro gb119 hg w47 hbox hb
           have n0_ := Aside0.mk (blk_below (g := gb101) (o := .cells #[.int .u64 a0_0, .int .u64 a0_1] 47 (0, 0)) of_lies hb)
           have n1_ := Aside0.mk (blk_below (g := gb102) (o := .cells #[.int .u64 a1_0, .int .u64 a1_1] 47 (0, 0)) of_lies hb)
           have n2_ := Aside0.mk (blk_below (g := gb103) (o := .cells #[.int .u64 0, .int .u64 0] 47 (0, 0)) of_lies hb)
           have n3_ := Aside0.mk (below_step (low HB) hb)
           have n4_ := Aside0.mk (hbox)
           have n5_ := Aside0.mk ((by rw [hg]; exact (below_size (low HB)) : w.heap.size ≤ gb119))
           have n6_ := Aside0.mk ((by rw [hg]; exact (below_size (low HB)) : w.heap.size ≤ gb119))
           have n7_ := Aside0.mk ((by rw [hg]; exact Nat.ne_of_lt (blk_lt (g := gb101) (o := .cells #[.int .u64 a0_0, .int .u64 a0_1] 47 (0, 0)) of_lies) : gb101 ≠ gb119))
           have n8_ := Aside0.mk ((by rw [hg]; exact Nat.ne_of_gt (blk_lt (g := gb101) (o := .cells #[.int .u64 a0_0, .int .u64 a0_1] 47 (0, 0)) of_lies) : gb119 ≠ gb101))
           have n9_ := Aside0.mk ((by rw [hg]; exact Nat.ne_of_lt (blk_lt (g := gb102) (o := .cells #[.int .u64 a1_0, .int .u64 a1_1] 47 (0, 0)) of_lies) : gb102 ≠ gb119))
           have n10_ := Aside0.mk ((by rw [hg]; exact Nat.ne_of_gt (blk_lt (g := gb102) (o := .cells #[.int .u64 a1_0, .int .u64 a1_1] 47 (0, 0)) of_lies) : gb119 ≠ gb102))
           have n11_ := Aside0.mk ((by rw [hg]; exact Nat.ne_of_lt (blk_lt (g := gb103) (o := .cells #[.int .u64 0, .int .u64 0] 47 (0, 0)) of_lies) : gb103 ≠ gb119))
           have n12_ := Aside0.mk ((by rw [hg]; exact Nat.ne_of_gt (blk_lt (g := gb103) (o := .cells #[.int .u64 0, .int .u64 0] 47 (0, 0)) of_lies) : gb119 ≠ gb103))
           clear BK101
           clear BK102
           clear BK103
           clear HB
           have BK101 := n0_
           have BK102 := n1_
           have BK103 := n2_
           have HB := n3_
           have BK119 := n4_
           have GW119 := n5_
           have GE119 := n6_
           have NB101_119 := n7_
           have NB119_101 := n8_
           have NB102_119 := n9_
           have NB119_102 := n10_
           have NB103_119 := n11_
           have NB119_103 := n12_
           clear n0_ n1_ n2_ n3_ n4_ n5_ n6_ n7_ n8_ n9_ n10_ n11_ n12_
           clear hb hbox hg
           refine hK.out _ _ ⟨(blk_cell BK101.out 0).trans rfl, (blk_cell BK101.out 1).trans rfl, (blk_cell BK102.out 0).trans rfl, (blk_cell BK102.out 1).trans rfl⟩ (fun hHeld => ?_)
           clear hK K
           refine norm_ (a' := ?_) ?_ ?_
           rotate_left
           ·
            show Act.put _ (some 7) _ = _
            simp only [Act.put, List.setIfInBounds_toArray, List.set_cons_zero, List.set_cons_succ, i64_w, i32_w]
            rfl
           refine one_ (i := 6) (N := some 50) #[true, true, true, true, true, true, true, true, true, true, true, true, true, false, false, false, false, false, true, false, false] rfl rfl (one_of HT_.out (by kernel_rfl)) (by decide) (fun K hK => ?_)
           refine goes_ Tryd.func63 (by kernel_rfl) rfl #[.int .u64 a0_0, .int .u64 (IntKind.u64.wrap (Int.tdiv a1_1 t111))] (by rfl) rfl rfl (by (try simp only [List.map_toArray, List.map_cons, List.map_nil]); first | done | rfl | (simp only [List.length_drop, List.length_take]; rfl)) ?_
           with_reducible refine (Podd.odds_times.calls a0_0 (IntKind.u64.wrap (Int.tdiv a1_1 t111)) t112 t113 _ A28.out).mono ?_
           rintro e w48 ⟨rfl, hb⟩
           refine ⟨_, rfl, ?_⟩
           have n0_ := Aside0.mk (blk_below (g := gb101) (o := .cells #[.int .u64 a0_0, .int .u64 a0_1] 47 (0, 0)) of_lies hb)
           have n1_ := Aside0.mk (blk_below (g := gb102) (o := .cells #[.int .u64 a1_0, .int .u64 a1_1] 47 (0, 0)) of_lies hb)
           have n2_ := Aside0.mk (blk_below (g := gb103) (o := .cells #[.int .u64 0, .int .u64 0] 47 (0, 0)) of_lies hb)
           have n3_ := Aside0.mk (blk_below (g := gb119) (o := .cells #[.int .u64 0, .int .u64 0] 74 (0, 0)) of_lies hb)
           have n4_ := Aside0.mk (below_step (low HB) hb)
           clear BK101
           clear BK102
           clear BK103
           clear BK119
           clear HB
           have BK101 := n0_
           have BK102 := n1_
           have BK103 := n2_
           have BK119 := n3_
           have HB := n4_
           clear n0_ n1_ n2_ n3_ n4_
           (try clear hb)
           (try clear hb2)
           (try clear hk)
           (try clear hi)
           refine hK.out _ _ ⟨(blk_cell BK101.out 0).trans rfl, (blk_cell BK101.out 1).trans rfl, (blk_cell BK102.out 0).trans rfl, (blk_cell BK102.out 1).trans rfl⟩ (fun hHeld => ?_)
           clear hK K
           refine norm_ (a' := ?_) ?_ ?_
           rotate_left
           ·
            show Act.put _ (some 50) _ = _
            simp only [Act.put, List.setIfInBounds_toArray, List.set_cons_zero, List.set_cons_succ, i64_w, i32_w]
            rfl
           refine one_ (i := 13) (N := some 57) #[true, true, true, true, true, true, true, true, true, true, true, true, true, true, false, false, false, false, true, false, false] rfl rfl (one_of HT_.out (by kernel_rfl)) (by decide) (fun K hK => ?_)
           refine goes_ Tryd.func63 (by kernel_rfl) rfl #[.int .u64 a1_0, .int .u64 (IntKind.u64.wrap (Int.tdiv a0_1 t111))] (by rfl) rfl rfl (by (try simp only [List.map_toArray, List.map_cons, List.map_nil]); first | done | rfl | (simp only [List.length_drop, List.length_take]; rfl)) ?_
           with_reducible refine (Podd.odds_times.calls a1_0 (IntKind.u64.wrap (Int.tdiv a0_1 t111)) t114 t115 _ A29.out).mono ?_
           rintro e w49 ⟨rfl, hb⟩
           refine ⟨_, rfl, ?_⟩
           have n0_ := Aside0.mk (blk_below (g := gb101) (o := .cells #[.int .u64 a0_0, .int .u64 a0_1] 47 (0, 0)) of_lies hb)
           have n1_ := Aside0.mk (blk_below (g := gb102) (o := .cells #[.int .u64 a1_0, .int .u64 a1_1] 47 (0, 0)) of_lies hb)
           have n2_ := Aside0.mk (blk_below (g := gb103) (o := .cells #[.int .u64 0, .int .u64 0] 47 (0, 0)) of_lies hb)
           have n3_ := Aside0.mk (blk_below (g := gb119) (o := .cells #[.int .u64 0, .int .u64 0] 74 (0, 0)) of_lies hb)
           have n4_ := Aside0.mk (below_step (low HB) hb)
           clear BK101
           clear BK102
           clear BK103
           clear BK119
           clear HB
           have BK101 := n0_
           have BK102 := n1_
           have BK103 := n2_
           have BK119 := n3_
           have HB := n4_
           clear n0_ n1_ n2_ n3_ n4_
           (try clear hb)
           (try clear hb2)
           (try clear hk)
           (try clear hi)
           refine hK.out _ _ ⟨(blk_cell BK101.out 0).trans rfl, (blk_cell BK101.out 1).trans rfl, (blk_cell BK102.out 0).trans rfl, (blk_cell BK102.out 1).trans rfl⟩ (fun hHeld => ?_)
           clear hK K
           refine norm_ (a' := ?_) ?_ ?_
           rotate_left
           ·
            show Act.put _ (some 57) _ = _
            simp only [Act.put, List.setIfInBounds_toArray, List.set_cons_zero, List.set_cons_succ, i64_w, i32_w]
            rfl
           refine one_ (i := 14) (N := some 58) #[true, true, true, true, true, true, true, true, true, true, true, true, true, true, true, false, false, false, true, false, false] rfl rfl (one_of HT_.out (by kernel_rfl)) (by decide) (fun K hK => ?_)
           refine goes_ Tryd.func66 (by kernel_rfl) rfl #[.agg #[.int .u64 t112, .int .u64 t113], .agg #[.int .u64 t114, .int .u64 t115]] (by rfl) rfl rfl (by (try simp only [List.map_toArray, List.map_cons, List.map_nil]); first | done | rfl | (simp only [List.length_drop, List.length_take]; rfl)) ?_
           with_reducible refine (odds_wide_plus.calls t112 t113 t114 t115 t116 t117 true _ A30.out).mono ?_
           rintro e w50 ⟨rfl, hb⟩
           refine ⟨_, rfl, ?_⟩
           have n0_ := Aside0.mk (blk_below (g := gb101) (o := .cells #[.int .u64 a0_0, .int .u64 a0_1] 47 (0, 0)) of_lies hb)
           have n1_ := Aside0.mk (blk_below (g := gb102) (o := .cells #[.int .u64 a1_0, .int .u64 a1_1] 47 (0, 0)) of_lies hb)
           have n2_ := Aside0.mk (blk_below (g := gb103) (o := .cells #[.int .u64 0, .int .u64 0] 47 (0, 0)) of_lies hb)
           have n3_ := Aside0.mk (blk_below (g := gb119) (o := .cells #[.int .u64 0, .int .u64 0] 74 (0, 0)) of_lies hb)
           have n4_ := Aside0.mk (below_step (low HB) hb)
           clear BK101
           clear BK102
           clear BK103
           clear BK119
           clear HB
           have BK101 := n0_
           have BK102 := n1_
           have BK103 := n2_
           have BK119 := n3_
           have HB := n4_
           clear n0_ n1_ n2_ n3_ n4_
           (try clear hb)
           (try clear hb2)
           (try clear hk)
           (try clear hi)
           refine hK.out _ _ ⟨(blk_cell BK101.out 0).trans rfl, (blk_cell BK101.out 1).trans rfl, (blk_cell BK102.out 0).trans rfl, (blk_cell BK102.out 1).trans rfl⟩ (fun hHeld => ?_)
           clear hK K
           refine norm_ (a' := ?_) ?_ ?_
           rotate_left
           ·
            show Act.put _ (some 58) _ = _
            simp only [Act.put, List.setIfInBounds_toArray, List.set_cons_zero, List.set_cons_succ, i64_w, i32_w]
            rfl
           refine pure_ (i := 15) (N := some 43) (v := ?_) (a' := ?_) #[true, true, true, true, true, true, true, true, true, true, true, true, true, true, true, true, false, false, true, false, false] rfl rfl (any_of HT_.out (by kernel_rfl)) (fun _ _ _ h => h) (Or.inl ⟨by rfl, ?_⟩) ?_ ?_
           rotate_left
           ·
            intro w'
            go_simp
            with_reducible rfl
           rotate_left
           ·
            simp only [Act.put, List.setIfInBounds_toArray, List.set_cons_zero, List.set_cons_succ, i64_w, i32_w]
            rfl
           refine pure_ (i := 16) (N := some 59) (v := ?_) (a' := ?_) #[true, true, true, true, true, true, true, true, true, true, true, true, true, true, true, true, true, false, true, false, false] rfl rfl (any_of HT_.out (by kernel_rfl)) (fun _ _ _ h => h) (Or.inl ⟨by rfl, ?_⟩) ?_ ?_
           rotate_left
           ·
            intro w'
            go_simp
            with_reducible rfl
           rotate_left
           ·
            simp only [Act.put, List.setIfInBounds_toArray, List.set_cons_zero, List.set_cons_succ, i64_w, i32_w]
            rfl
           refine pure_ (i := 17) (N := some 60) (v := ?_) (a' := ?_) #[true, true, true, true, true, true, true, true, true, true, true, true, true, true, true, true, true, true, true, false, false] rfl rfl (any_of HT_.out (by kernel_rfl)) (fun _ _ _ h => h) (Or.inl ⟨by rfl, ?_⟩) ?_ ?_
           rotate_left
           ·
            intro w'
            go_simp
            with_reducible rfl
           rotate_left
           ·
            simp only [Act.put, List.setIfInBounds_toArray, List.set_cons_zero, List.set_cons_succ, i64_w, i32_w]
            rfl
           exact norm_ (by simp only [putAll, Act.put, List.setIfInBounds_toArray, List.set_cons_zero, List.set_cons_succ]) (hCont (gb119) _ ⟨hHeld, of_lies, of_lies, of_lies, of_lies, GW119.out, GE119.out, NB101_119.out, NB119_101.out, NB102_119.out, NB119_102.out, NB103_119.out, NB119_103.out, (low HB)⟩)
         rintro gb119 w51 ⟨hS_, h0_, h1_, h2_, h3_, h4_, h5_, h6_, h7_, h8_, h9_, h10_, h11_, h12_⟩
         have n0_ : Aside0 (w51.heap[gb101]? = some (.cells #[.int .u64 a0_0, .int .u64 a0_1] 47 (0, 0))) := ⟨h0_⟩
         have n1_ : Aside0 (w51.heap[gb102]? = some (.cells #[.int .u64 a1_0, .int .u64 a1_1] 47 (0, 0))) := ⟨h1_⟩
         have n2_ : Aside0 (w51.heap[gb103]? = some (.cells #[.int .u64 0, .int .u64 0] 47 (0, 0))) := ⟨h2_⟩
         have n3_ : Aside0 (w51.heap[gb119]? = some (.cells #[.int .u64 0, .int .u64 0] 74 (0, 0))) := ⟨h3_⟩
         have n4_ : Aside0 (w.heap.size ≤ gb119) := ⟨h4_⟩
         have n5_ : Aside0 (w.heap.size ≤ gb119) := ⟨h5_⟩
         have n6_ : Aside0 (gb101 ≠ gb119) := ⟨h6_⟩
         have n7_ : Aside0 (gb119 ≠ gb101) := ⟨h7_⟩
         have n8_ : Aside0 (gb102 ≠ gb119) := ⟨h8_⟩
         have n9_ : Aside0 (gb119 ≠ gb102) := ⟨h9_⟩
         have n10_ : Aside0 (gb103 ≠ gb119) := ⟨h10_⟩
         have n11_ : Aside0 (gb119 ≠ gb103) := ⟨h11_⟩
         have n12_ : Aside0 (Below w.heap.size w w51) := ⟨h12_⟩
         clear BK101
         clear BK102
         clear BK103
         clear HB
         clear h0_ h1_ h2_ h3_ h4_ h5_ h6_ h7_ h8_ h9_ h10_ h11_ h12_
         have BK101 := n0_
         have BK102 := n1_
         have BK103 := n2_
         have BK119 := n3_
         have GW119 := n4_
         have GE119 := n5_
         have NB101_119 := n6_
         have NB119_101 := n7_
         have NB102_119 := n8_
         have NB119_102 := n9_
         have NB103_119 := n10_
         have NB119_103 := n11_
         have HB := n12_
         clear n0_ n1_ n2_ n3_ n4_ n5_ n6_ n7_ n8_ n9_ n10_ n11_ n12_
         have hHeld : w51.cell? ⟨gb101, 0, none⟩ = some (.int .u64 a0_0) ∧ w51.cell? ⟨gb101, 1, none⟩ = some (.int .u64 a0_1) ∧ w51.cell? ⟨gb102, 0, none⟩ = some (.int .u64 a1_0) ∧ w51.cell? ⟨gb102, 1, none⟩ = some (.int .u64 a1_1) := hS_
         refine norm_ (a' := ?_) ?_ ?_
         rotate_left
         ·
          simp only [putAll, Act.put, List.setIfInBounds_toArray, List.set_cons_zero, List.set_cons_succ]
          rfl
         refine one_ (i := 19) (N := none) #[true, true, true, true, true, true, true, true, true, true, true, true, true, true, true, true, true, true, true, true, false] rfl rfl (one_of HT_.out (by kernel_rfl)) (by decide) (fun K hK => ?_)
         have hs52 : w51.cell? ⟨gb119, 0, none⟩ = some (.int .u64 0) := (blk_cell BK119.out 0).trans rfl
         have hfs52 := blk_frozen BK119.out 0
         have hns52_0 := NB101_119.out
         have hns52_1 := NB102_119.out
         have hns52_2 := NB103_119.out
         have hms52_0 := NB119_101.out
         have hms52_1 := NB119_102.out
         have hms52_2 := NB119_103.out
         have hs53 : w51.cell? ⟨gb119, 1, none⟩ = some (.int .u64 0) := (blk_cell BK119.out 1).trans rfl
         have hfs53 := blk_frozen BK119.out 1
         have hns53_0 := NB101_119.out
         have hns53_1 := NB102_119.out
         have hns53_2 := NB103_119.out
         have hms53_0 := NB119_101.out
         have hms53_1 := NB119_102.out
         have hms53_2 := NB119_103.out
         refine skip_ (w1 := ?_) (by rfl) rfl ?_ ?_
         rotate_left
         ·
          go_simp
          rfl
         refine hK.out _ _ ⟨((cell_far (p := ⟨gb119, _, none⟩) NB101_119.out _).trans (((cell_far (p := ⟨gb119, _, none⟩) NB101_119.out _).trans (hHeld.1)))), ((cell_far (p := ⟨gb119, _, none⟩) NB101_119.out _).trans (((cell_far (p := ⟨gb119, _, none⟩) NB101_119.out _).trans (hHeld.2.1)))), ((cell_far (p := ⟨gb119, _, none⟩) NB102_119.out _).trans (((cell_far (p := ⟨gb119, _, none⟩) NB102_119.out _).trans (hHeld.2.2.1)))), ((cell_far (p := ⟨gb119, _, none⟩) NB102_119.out _).trans (((cell_far (p := ⟨gb119, _, none⟩) NB102_119.out _).trans (hHeld.2.2.2))))⟩ (fun hHeld => ?_)
         clear hK K
         refine pure_ (i := 20) (N := some 8) (v := ?_) (a' := ?_) #[true, true, true, true, true, true, true, true, true, true, true, true, true, true, true, true, true, true, true, true, true] rfl rfl (any_of HT_.out (by kernel_rfl)) (fun _ _ _ h => h) (Or.inl ⟨by rfl, ?_⟩) ?_ ?_
         rotate_left
         ·
          intro w'
          go_simp
          with_reducible rfl
         rotate_left
         ·
          simp only [Act.put, List.setIfInBounds_toArray, List.set_cons_zero, List.set_cons_succ, i64_w, i32_w]
          rfl
         refine done_ (done_of HT_.out (by kernel_rfl)) ?_
         have hnb54 := NB119_101.out
         have hnc54 := NB101_119.out
         have hnb55 := NB119_102.out
         have hnc55 := NB102_119.out
         have hnb56 := NB119_103.out
         have hnc56 := NB103_119.out
         have hcz57_0 : w51.cell? ⟨gb119, 0, none⟩ = some (.int .u64 0) := (blk_cell BK119.out 0).trans rfl
         have hcz57_1 : w51.cell? ⟨gb119, 1, none⟩ = some (.int .u64 0) := (blk_cell BK119.out 1).trans rfl
         have hfz57_0 := blk_frozen BK119.out 0
         have hfz57_1 := blk_frozen BK119.out 1
         try go_wp2_with (first | ((with_reducible refine gate_callee (f := 67) rfl ?_); refine goesL_ (some 67) rfl rfl Tryd.func67 (by kernel_rfl) rfl #[.agg #[.int .u64 t116, .int .u64 t117], .int .u64 t111] rfl (by (try simp only [List.map_toArray, List.map_cons, List.map_nil]); first | done | rfl | (simp only [List.length_drop, List.length_take]; rfl)) ?_; (with_reducible refine (Podd.odds_wide_by.calls kj2 t116 t117 t111 t120 t121 t122 _ A32.out).mono ?_); rintro e w58 ⟨rfl, hb⟩; refine ⟨_, rfl, ?_⟩; have n0_ := Aside0.mk (blk_below (g := gb101) (o := .cells #[.int .u64 a0_0, .int .u64 a0_1] 47 (0, 0)) of_lies hb); have n1_ := Aside0.mk (blk_below (g := gb102) (o := .cells #[.int .u64 a1_0, .int .u64 a1_1] 47 (0, 0)) of_lies hb); have n2_ := Aside0.mk (blk_below (g := gb103) (o := .cells #[.int .u64 0, .int .u64 0] 47 (0, 0)) of_lies hb); have n3_ := Aside0.mk (blk_below (g := gb119) (o := .cells #[.int .u64 t116, .int .u64 t117] 74 (0, 0)) of_lies hb); have n4_ := Aside0.mk (below_step (low HB) hb); clear BK101; clear BK102; clear BK103; clear BK119; clear HB; have BK101 := n0_; have BK102 := n1_; have BK103 := n2_; have BK119 := n3_; have HB := n4_; clear n0_ n1_ n2_ n3_ n4_; (try clear hb); (try clear hb2); (try clear hk); (try clear hi)) | ((with_reducible refine gate_dst (N := 9) rfl ?_); refine box_event ?hg (N := 9) ?hd (cs := #[.int .u64 0, .int .u64 0]) (t := 74) ?hr ?_; (case hd => rfl); (case hg => rfl); (case hr => first | (go_simp; done) | (go_simp; rfl)); intro gb123 hg w59 hbox hb; have n0_ := Aside0.mk (blk_below (g := gb101) (o := .cells #[.int .u64 a0_0, .int .u64 a0_1] 47 (0, 0)) of_lies hb); have n1_ := Aside0.mk (blk_below (g := gb102) (o := .cells #[.int .u64 a1_0, .int .u64 a1_1] 47 (0, 0)) of_lies hb); have n2_ := Aside0.mk (blk_below (g := gb103) (o := .cells #[.int .u64 0, .int .u64 0] 47 (0, 0)) of_lies hb); have n3_ := Aside0.mk (blk_below (g := gb119) (o := .cells #[.int .u64 t116, .int .u64 t117] 74 (0, 0)) of_lies hb); have n4_ := Aside0.mk (below_step (low HB) hb); have n5_ := Aside0.mk (hbox); have n6_ := Aside0.mk ((by rw [hg]; exact (below_size (low HB)) : w.heap.size ≤ gb123)); have n7_ := Aside0.mk ((by rw [hg]; exact (below_size (low HB)) : w.heap.size ≤ gb123)); have n8_ := Aside0.mk ((by rw [hg]; exact Nat.ne_of_lt (blk_lt (g := gb101) (o := .cells #[.int .u64 a0_0, .int .u64 a0_1] 47 (0, 0)) of_lies) : gb101 ≠ gb123)); have n9_ := Aside0.mk ((by rw [hg]; exact Nat.ne_of_gt (blk_lt (g := gb101) (o := .cells #[.int .u64 a0_0, .int .u64 a0_1] 47 (0, 0)) of_lies) : gb123 ≠ gb101)); have n10_ := Aside0.mk ((by rw [hg]; exact Nat.ne_of_lt (blk_lt (g := gb102) (o := .cells #[.int .u64 a1_0, .int .u64 a1_1] 47 (0, 0)) of_lies) : gb102 ≠ gb123)); have n11_ := Aside0.mk ((by rw [hg]; exact Nat.ne_of_gt (blk_lt (g := gb102) (o := .cells #[.int .u64 a1_0, .int .u64 a1_1] 47 (0, 0)) of_lies) : gb123 ≠ gb102)); have n12_ := Aside0.mk ((by rw [hg]; exact Nat.ne_of_lt (blk_lt (g := gb103) (o := .cells #[.int .u64 0, .int .u64 0] 47 (0, 0)) of_lies) : gb103 ≠ gb123)); have n13_ := Aside0.mk ((by rw [hg]; exact Nat.ne_of_gt (blk_lt (g := gb103) (o := .cells #[.int .u64 0, .int .u64 0] 47 (0, 0)) of_lies) : gb123 ≠ gb103)); have n14_ := Aside0.mk ((by rw [hg]; exact Nat.ne_of_lt (blk_lt (g := gb119) (o := .cells #[.int .u64 t116, .int .u64 t117] 74 (0, 0)) of_lies) : gb119 ≠ gb123)); have n15_ := Aside0.mk ((by rw [hg]; exact Nat.ne_of_gt (blk_lt (g := gb119) (o := .cells #[.int .u64 t116, .int .u64 t117] 74 (0, 0)) of_lies) : gb123 ≠ gb119)); clear BK101; clear BK102; clear BK103; clear BK119; clear HB; have BK101 := n0_; have BK102 := n1_; have BK103 := n2_; have BK119 := n3_; have HB := n4_; have BK123 := n5_; have GW123 := n6_; have GE123 := n7_; have NB101_123 := n8_; have NB123_101 := n9_; have NB102_123 := n10_; have NB123_102 := n11_; have NB103_123 := n12_; have NB123_103 := n13_; have NB119_123 := n14_; have NB123_119 := n15_; clear n0_ n1_ n2_ n3_ n4_ n5_ n6_ n7_ n8_ n9_ n10_ n11_ n12_ n13_ n14_ n15_; clear hb hbox hg; have hnb60 := NB123_101.out; have hnc60 := NB101_123.out; have hnb61 := NB123_102.out; have hnc61 := NB102_123.out; have hnb62 := NB123_103.out; have hnc62 := NB103_123.out; have hnb63 := NB123_119.out; have hnc63 := NB119_123.out; obtain ⟨hcz64_0, hcz64_1, hfz64_0, hfz64_1⟩ := cells2 BK123.out) | ((with_reducible refine gate_callee (f := 65) rfl ?_); refine goesL_ (some 72) rfl rfl Tryd.func65 (by kernel_rfl) rfl #[.int .u64 t111, .int .u64 t122] rfl (by (try simp only [List.map_toArray, List.map_cons, List.map_nil]); first | done | rfl | (simp only [List.length_drop, List.length_take]; rfl)) ?_; (with_reducible refine (Podd.odds_divisor.calls kj2 t111 t122 t124 _ A33.out).mono ?_); rintro e w' ⟨rfl, ⟨nd, rfl⟩⟩; refine ⟨_, rfl, ?_⟩))
         have n0_ : Aside0 (((w59.setCell ⟨gb123, 0, none⟩ (.int .u64 t120)).setCell ⟨gb123, 1, none⟩ (.int .u64 t121)).heap[gb101]? = some (.cells #[.int .u64 a0_0, .int .u64 a0_1] 47 (0, 0))) := ⟨of_lies⟩
         have n1_ : Aside0 (((w59.setCell ⟨gb123, 0, none⟩ (.int .u64 t120)).setCell ⟨gb123, 1, none⟩ (.int .u64 t121)).heap[gb102]? = some (.cells #[.int .u64 a1_0, .int .u64 a1_1] 47 (0, 0))) := ⟨of_lies⟩
         have n2_ : Aside0 (((w59.setCell ⟨gb123, 0, none⟩ (.int .u64 t120)).setCell ⟨gb123, 1, none⟩ (.int .u64 t121)).heap[gb103]? = some (.cells #[.int .u64 0, .int .u64 0] 47 (0, 0))) := ⟨of_lies⟩
         have n3_ : Aside0 (((w59.setCell ⟨gb123, 0, none⟩ (.int .u64 t120)).setCell ⟨gb123, 1, none⟩ (.int .u64 t121)).heap[gb119]? = some (.cells #[.int .u64 t116, .int .u64 t117] 74 (0, 0))) := ⟨of_lies⟩
         have n4_ : Aside0 (((w59.setCell ⟨gb123, 0, none⟩ (.int .u64 t120)).setCell ⟨gb123, 1, none⟩ (.int .u64 t121)).heap[gb123]? = some (.cells #[.int .u64 t120, .int .u64 t121] 74 (0, 0))) := ⟨of_lies⟩
         have n5_ : Aside0 (Below w.heap.size w ((w59.setCell ⟨gb123, 0, none⟩ (.int .u64 t120)).setCell ⟨gb123, 1, none⟩ (.int .u64 t121))) := ⟨low HB⟩
         (try clear BK101)
         (try clear BK102)
         (try clear BK103)
         (try clear BK119)
         (try clear BK123)
         (try clear HB)
         generalize ((w59.setCell ⟨gb123, 0, none⟩ (.int .u64 t120)).setCell ⟨gb123, 1, none⟩ (.int .u64 t121)) = w65 at n0_ n1_ n2_ n3_ n4_ n5_ ⊢
         have BK101 := n0_
         have BK102 := n1_
         have BK103 := n2_
         have BK119 := n3_
         have BK123 := n4_
         have HB := n5_
         clear n0_ n1_ n2_ n3_ n4_ n5_
         (try (rw [drewN_self w65]; generalize hq_ : World.drewN w65 _ = w65; have n0_ : Aside0 (w65.heap[gb101]? = some (.cells #[.int .u64 a0_0, .int .u64 a0_1] 47 (0, 0))) := ⟨by rw [← hq_]; exact of_lies⟩; have n1_ : Aside0 (w65.heap[gb102]? = some (.cells #[.int .u64 a1_0, .int .u64 a1_1] 47 (0, 0))) := ⟨by rw [← hq_]; exact of_lies⟩; have n2_ : Aside0 (w65.heap[gb103]? = some (.cells #[.int .u64 0, .int .u64 0] 47 (0, 0))) := ⟨by rw [← hq_]; exact of_lies⟩; have n3_ : Aside0 (w65.heap[gb119]? = some (.cells #[.int .u64 t116, .int .u64 t117] 74 (0, 0))) := ⟨by rw [← hq_]; exact of_lies⟩; have n4_ : Aside0 (w65.heap[gb123]? = some (.cells #[.int .u64 t120, .int .u64 t121] 74 (0, 0))) := ⟨by rw [← hq_]; exact of_lies⟩; have n5_ : Aside0 (Below w.heap.size w w65) := ⟨by rw [← hq_]; exact (low HB)⟩; clear BK101 BK102 BK103 BK119 BK123 HB hq_; have BK101 := n0_; have BK102 := n1_; have BK103 := n2_; have BK119 := n3_; have BK123 := n4_; have HB := n5_; clear n0_ n1_ n2_ n3_ n4_ n5_))
         have n0_ := Aside0.mk (blk_drew BK101.out)
         have n1_ := Aside0.mk (blk_drew BK102.out)
         have n2_ := Aside0.mk (blk_drew BK103.out)
         have n3_ := Aside0.mk (blk_drew BK119.out)
         have n4_ := Aside0.mk (blk_drew BK123.out)
         have n5_ := Aside0.mk (below_drew1 HB.out)
         clear BK101
         clear BK102
         clear BK103
         clear BK119
         clear BK123
         clear HB
         have BK101 := n0_
         have BK102 := n1_
         have BK103 := n2_
         have BK119 := n3_
         have BK123 := n4_
         have HB := n5_
         clear n0_ n1_ n2_ n3_ n4_ n5_
         refine start_ (n := 11) (S := fun w' => w'.cell? ⟨gb101, 0, none⟩ = some (.int .u64 a0_0) ∧ w'.cell? ⟨gb101, 1, none⟩ = some (.int .u64 a0_1) ∧ w'.cell? ⟨gb102, 0, none⟩ = some (.int .u64 a1_0) ∧ w'.cell? ⟨gb102, 1, none⟩ = some (.int .u64 a1_1)) (ds := []) #[false, false, false, false, false, false, false, false, false, false, false] (by kernel_rfl) rfl rfl ⟨(blk_cell BK101.out 0).trans rfl, (blk_cell BK101.out 1).trans rfl, (blk_cell BK102.out 0).trans rfl, (blk_cell BK102.out 1).trans rfl⟩ (fun hHeld => ?_); refine with_tabW odds_Sum.tab11 odds_Sum.bits11 (fun HT_ HW_ => ?_)
         generalize w65.drew = w66 at BK101 BK102 BK103 BK119 BK123 HB hHeld ⊢
         refine pure_ (i := 0) (N := some 73) (v := ?_) (a' := ?_) #[true, false, false, false, false, false, false, false, false, false, false] rfl rfl (any_of HT_.out (by kernel_rfl)) (fun _ _ _ h => h) (Or.inl ⟨by rfl, ?_⟩) ?_ ?_
         rotate_left
         ·
          intro w'
          go_simp
          with_reducible rfl
         rotate_left
         ·
          simp only [Act.put, List.setIfInBounds_toArray, List.set_cons_zero, List.set_cons_succ, i64_w, i32_w]
          rfl
         refine pure_ (i := 2) (N := some 75) (v := ?_) (a' := ?_) #[true, false, true, false, false, false, false, false, false, false, false] rfl rfl (any_of HT_.out (by kernel_rfl)) (fun _ _ _ h => h) (Or.inl ⟨by rfl, ?_⟩) ?_ ?_
         rotate_left
         ·
          intro w'
          go_simp
          with_reducible rfl
         rotate_left
         ·
          simp only [Act.put, List.setIfInBounds_toArray, List.set_cons_zero, List.set_cons_succ, i64_w, i32_w]
          rfl
         refine pure_ (i := 4) (N := some 77) (v := ?_) (a' := ?_) #[true, false, true, false, true, false, false, false, false, false, false] rfl rfl (any_of HT_.out (by kernel_rfl)) (fun _ _ _ h => h) (Or.inl ⟨by rfl, ?_⟩) ?_ ?_
         rotate_left
         ·
          intro w'
          go_simp
          with_reducible rfl
         rotate_left
         ·
          simp only [Act.put, List.setIfInBounds_toArray, List.set_cons_zero, List.set_cons_succ, i64_w, i32_w]
          rfl
         refine pure_ (i := 6) (N := some 79) (v := ?_) (a' := ?_) #[true, false, true, false, true, false, true, false, false, false, false] rfl rfl (any_of HT_.out (by kernel_rfl)) (fun _ _ _ h => h) (Or.inl ⟨by rfl, ?_⟩) ?_ ?_
         rotate_left
         ·
          intro w'
          go_simp
          with_reducible rfl
         rotate_left
         ·
          simp only [Act.put, List.setIfInBounds_toArray, List.set_cons_zero, List.set_cons_succ, i64_w, i32_w]
          rfl
         refine take_ (i := 1) (N := some 74) (v := ?_) (a' := ?_) #[true, true, true, false, true, false, true, false, false, false, false] rfl rfl (take_ofW HT_.out HW_.out (by kernel_rfl)) (fun _ _ _ h => h) (Or.inl ⟨by rfl, ?_⟩) hHeld ?_ ?_
         rotate_left
         ·
          rintro w' ⟨s0, s1, s2, s3⟩
          go_simp
          with_reducible rfl
         rotate_left
         ·
          simp only [Act.put, List.setIfInBounds_toArray, List.set_cons_zero, List.set_cons_succ, i64_w, i32_w]
          rfl
         refine pure_ (i := 3) (N := some 76) (v := ?_) (a' := ?_) #[true, true, true, true, true, false, true, false, false, false, false] rfl rfl (any_of HT_.out (by kernel_rfl)) (fun _ _ _ h => h) (Or.inl ⟨by rfl, ?_⟩) ?_ ?_
         rotate_left
         ·
          intro w'
          go_simp
          with_reducible rfl
         rotate_left
         ·
          simp only [Act.put, List.setIfInBounds_toArray, List.set_cons_zero, List.set_cons_succ, i64_w, i32_w]
          rfl
         refine take_ (i := 5) (N := some 78) (v := ?_) (a' := ?_) #[true, true, true, true, true, true, true, false, false, false, false] rfl rfl (take_ofW HT_.out HW_.out (by kernel_rfl)) (fun _ _ _ h => h) (Or.inl ⟨by rfl, ?_⟩) hHeld ?_ ?_
         rotate_left
         ·
          rintro w' ⟨s0, s1, s2, s3⟩
          go_simp
          with_reducible rfl
         rotate_left
         ·
          simp only [Act.put, List.setIfInBounds_toArray, List.set_cons_zero, List.set_cons_succ, i64_w, i32_w]
          rfl
         refine pure_ (i := 7) (N := some 80) (v := ?_) (a' := ?_) #[true, true, true, true, true, true, true, true, false, false, false] rfl rfl (any_of HT_.out (by kernel_rfl)) (fun _ _ _ h => h) (Or.inl ⟨by rfl, ?_⟩) ?_ ?_
         rotate_left
         ·
          intro w'
          go_simp
          with_reducible rfl
         rotate_left
         ·
          simp only [Act.put, List.setIfInBounds_toArray, List.set_cons_zero, List.set_cons_succ, i64_w, i32_w]
          rfl
         refine join_ (σ := Nat) 1 #[true, true, true, true, true, true, true, true, true, true, false] (fun s_ => [(81, .agg #[.int .u64 t125, .int .u64 t126]), (12, .pointer (some ⟨s_, 0, none⟩))]) (fun s_ w' => (w'.cell? ⟨gb101, 0, none⟩ = some (.int .u64 a0_0) ∧ w'.cell? ⟨gb101, 1, none⟩ = some (.int .u64 a0_1) ∧ w'.cell? ⟨gb102, 0, none⟩ = some (.int .u64 a1_0) ∧ w'.cell? ⟨gb102, 1, none⟩ = some (.int .u64 a1_1)) ∧ (w'.heap[gb101]? = some (.cells #[.int .u64 a0_0, .int .u64 a0_1] 47 (0, 0))) ∧ (w'.heap[gb102]? = some (.cells #[.int .u64 a1_0, .int .u64 a1_1] 47 (0, 0))) ∧ (w'.heap[gb103]? = some (.cells #[.int .u64 0, .int .u64 0] 47 (0, 0))) ∧ (w'.heap[gb119]? = some (.cells #[.int .u64 t116, .int .u64 t117] 74 (0, 0))) ∧ (w'.heap[gb123]? = some (.cells #[.int .u64 t120, .int .u64 t121] 74 (0, 0))) ∧ (w'.heap[s_]? = some (.cells #[.int .u64 0, .int .u64 0] 74 (0, 0))) ∧ (w.heap.size ≤ s_) ∧ (w.heap.size ≤ s_) ∧ (gb101 ≠ s_) ∧ (s_ ≠ gb101) ∧ (gb102 ≠ s_) ∧ (s_ ≠ gb102) ∧ (gb103 ≠ s_) ∧ (s_ ≠ gb103) ∧ (gb119 ≠ s_) ∧ (s_ ≠ gb119) ∧ (gb123 ≠ s_) ∧ (s_ ≠ gb123) ∧ (Below w.heap.size w w')) ?_ ?_
         rotate_left
         ·
          intro hCont
          refine two_ (i := 8) (j := 9) (Ni := some 81) (Nj := some 12) #[true, true, true, true, true, true, true, true, true, false, false] #[true, true, true, true, true, true, true, true, false, true, false] rfl rfl rfl rfl (two_of HT_.out (by kernel_rfl)) (by decide) (by decide) (fun K hK => ?_) (fun K hK => ?_)
          ·
           skip
           refine goes_ Tryd.func63 (by kernel_rfl) rfl #[.int .u64 (IntKind.u64.wrap (Int.tdiv a0_1 t111)), .int .u64 (IntKind.u64.wrap (Int.tdiv a1_1 t124))] (by rfl) rfl rfl (by (try simp only [List.map_toArray, List.map_cons, List.map_nil]); first | done | rfl | (simp only [List.length_drop, List.length_take]; rfl)) ?_
           with_reducible refine (Podd.odds_times.calls (IntKind.u64.wrap (Int.tdiv a0_1 t111)) (IntKind.u64.wrap (Int.tdiv a1_1 t124)) t125 t126 _ A35.out).mono ?_
           rintro e w67 ⟨rfl, hb⟩
           refine ⟨_, rfl, ?_⟩
           have n0_ := Aside0.mk (blk_below (g := gb101) (o := .cells #[.int .u64 a0_0, .int .u64 a0_1] 47 (0, 0)) of_lies hb)
           have n1_ := Aside0.mk (blk_below (g := gb102) (o := .cells #[.int .u64 a1_0, .int .u64 a1_1] 47 (0, 0)) of_lies hb)
           have n2_ := Aside0.mk (blk_below (g := gb103) (o := .cells #[.int .u64 0, .int .u64 0] 47 (0, 0)) of_lies hb)
           have n3_ := Aside0.mk (blk_below (g := gb119) (o := .cells #[.int .u64 t116, .int .u64 t117] 74 (0, 0)) of_lies hb)
           have n4_ := Aside0.mk (blk_below (g := gb123) (o := .cells #[.int .u64 t120, .int .u64 t121] 74 (0, 0)) of_lies hb)
           have n5_ := Aside0.mk (below_step (low HB) hb)
           clear BK101
           clear BK102
           clear BK103
           clear BK119
           clear BK123
           clear HB
           have BK101 := n0_
           have BK102 := n1_
           have BK103 := n2_
           have BK119 := n3_
           have BK123 := n4_
           have HB := n5_
           clear n0_ n1_ n2_ n3_ n4_ n5_
           (try clear hb)
           (try clear hb2)
           (try clear hk)
           (try clear hi)
           refine hK.out _ _ ⟨(blk_cell BK101.out 0).trans rfl, (blk_cell BK101.out 1).trans rfl, (blk_cell BK102.out 0).trans rfl, (blk_cell BK102.out 1).trans rfl⟩ (fun hHeld => ?_)
           clear hK K
           refine norm_ (a' := ?_) ?_ ?_
           rotate_left
           ·
            show Act.put _ (some 81) _ = _
            simp only [Act.put, List.setIfInBounds_toArray, List.set_cons_zero, List.set_cons_succ, i64_w, i32_w]
            rfl
           refine one_ (i := 9) (N := some 12) #[true, true, true, true, true, true, true, true, true, true, false] rfl rfl (one_of HT_.out (by kernel_rfl)) (by decide) (fun K hK => ?_)
           refine box_step ?hg (N := 12) ?hd (cs := #[.int .u64 0, .int .u64 0]) (t := 74) ?hr ?_; (case hd => rfl); (case hg => rfl); (case hr => first | (go_simp; done) | (go_simp; rfl))
           intro gb127 hg w68 hbox hb
           have n0_ := Aside0.mk (blk_below (g := gb101) (o := .cells #[.int .u64 a0_0, .int .u64 a0_1] 47 (0, 0)) of_lies hb)
           have n1_ := Aside0.mk (blk_below (g := gb102) (o := .cells #[.int .u64 a1_0, .int .u64 a1_1] 47 (0, 0)) of_lies hb)
           have n2_ := Aside0.mk (blk_below (g := gb103) (o := .cells #[.int .u64 0, .int .u64 0] 47 (0, 0)) of_lies hb)
           have n3_ := Aside0.mk (blk_below (g := gb119) (o := .cells #[.int .u64 t116, .int .u64 t117] 74 (0, 0)) of_lies hb)
           have n4_ := Aside0.mk (blk_below (g := gb123) (o := .cells #[.int .u64 t120, .int .u64 t121] 74 (0, 0)) of_lies hb)
           have n5_ := Aside0.mk (below_step (low HB) hb)
           have n6_ := Aside0.mk (hbox)
           have n7_ := Aside0.mk ((by rw [hg]; exact (below_size (low HB)) : w.heap.size ≤ gb127))
           have n8_ := Aside0.mk ((by rw [hg]; exact (below_size (low HB)) : w.heap.size ≤ gb127))
           have n9_ := Aside0.mk ((by rw [hg]; exact Nat.ne_of_lt (blk_lt (g := gb101) (o := .cells #[.int .u64 a0_0, .int .u64 a0_1] 47 (0, 0)) of_lies) : gb101 ≠ gb127))
           have n10_ := Aside0.mk ((by rw [hg]; exact Nat.ne_of_gt (blk_lt (g := gb101) (o := .cells #[.int .u64 a0_0, .int .u64 a0_1] 47 (0, 0)) of_lies) : gb127 ≠ gb101))
           have n11_ := Aside0.mk ((by rw [hg]; exact Nat.ne_of_lt (blk_lt (g := gb102) (o := .cells #[.int .u64 a1_0, .int .u64 a1_1] 47 (0, 0)) of_lies) : gb102 ≠ gb127))
           have n12_ := Aside0.mk ((by rw [hg]; exact Nat.ne_of_gt (blk_lt (g := gb102) (o := .cells #[.int .u64 a1_0, .int .u64 a1_1] 47 (0, 0)) of_lies) : gb127 ≠ gb102))
           have n13_ := Aside0.mk ((by rw [hg]; exact Nat.ne_of_lt (blk_lt (g := gb103) (o := .cells #[.int .u64 0, .int .u64 0] 47 (0, 0)) of_lies) : gb103 ≠ gb127))
           have n14_ := Aside0.mk ((by rw [hg]; exact Nat.ne_of_gt (blk_lt (g := gb103) (o := .cells #[.int .u64 0, .int .u64 0] 47 (0, 0)) of_lies) : gb127 ≠ gb103))
           have n15_ := Aside0.mk ((by rw [hg]; exact Nat.ne_of_lt (blk_lt (g := gb119) (o := .cells #[.int .u64 t116, .int .u64 t117] 74 (0, 0)) of_lies) : gb119 ≠ gb127))
           have n16_ := Aside0.mk ((by rw [hg]; exact Nat.ne_of_gt (blk_lt (g := gb119) (o := .cells #[.int .u64 t116, .int .u64 t117] 74 (0, 0)) of_lies) : gb127 ≠ gb119))
           have n17_ := Aside0.mk ((by rw [hg]; exact Nat.ne_of_lt (blk_lt (g := gb123) (o := .cells #[.int .u64 t120, .int .u64 t121] 74 (0, 0)) of_lies) : gb123 ≠ gb127))
           have n18_ := Aside0.mk ((by rw [hg]; exact Nat.ne_of_gt (blk_lt (g := gb123) (o := .cells #[.int .u64 t120, .int .u64 t121] 74 (0, 0)) of_lies) : gb127 ≠ gb123))
           clear BK101
           clear BK102
           clear BK103
           clear BK119
           clear BK123
           clear HB
           have BK101 := n0_
           have BK102 := n1_
           have BK103 := n2_
           have BK119 := n3_
           have BK123 := n4_
           have HB := n5_
           have BK127 := n6_
           have GW127 := n7_
           have GE127 := n8_
           have NB101_127 := n9_
           have NB127_101 := n10_
           have NB102_127 := n11_
           have NB127_102 := n12_
           have NB103_127 := n13_
           have NB127_103 := n14_
           have NB119_127 := n15_
           have NB127_119 := n16_
           have NB123_127 := n17_
           have NB127_123 := n18_
           clear n0_ n1_ n2_ n3_ n4_ n5_ n6_ n7_ n8_ n9_ n10_ n11_ n12_ n13_ n14_ n15_ n16_ n17_ n18_
           clear hb hbox hg
           refine hK.out _ _ ⟨(blk_cell BK101.out 0).trans rfl, (blk_cell BK101.out 1).trans rfl, (blk_cell BK102.out 0).trans rfl, (blk_cell BK102.out 1).trans rfl⟩ (fun hHeld => ?_)
           clear hK K
           refine norm_ (a' := ?_) ?_ ?_
           rotate_left
           ·
            show Act.put _ (some 12) _ = _
            simp only [Act.put, List.setIfInBounds_toArray, List.set_cons_zero, List.set_cons_succ, i64_w, i32_w]
            rfl
           exact norm_ (by simp only [putAll, Act.put, List.setIfInBounds_toArray, List.set_cons_zero, List.set_cons_succ]) (hCont (gb127) _ ⟨hHeld, of_lies, of_lies, of_lies, of_lies, of_lies, of_lies, GW127.out, GE127.out, NB101_127.out, NB127_101.out, NB102_127.out, NB127_102.out, NB103_127.out, NB127_103.out, NB119_127.out, NB127_119.out, NB123_127.out, NB127_123.out, (low HB)⟩)
          ·
           skip
           refine box_step ?hg (N := 12) ?hd (cs := #[.int .u64 0, .int .u64 0]) (t := 74) ?hr ?_; (case hd => rfl); (case hg => rfl); (case hr => first | (go_simp; done) | (go_simp; rfl))
           intro gb127 hg w67 hbox hb
           have n0_ := Aside0.mk (blk_below (g := gb101) (o := .cells #[.int .u64 a0_0, .int .u64 a0_1] 47 (0, 0)) of_lies hb)
           have n1_ := Aside0.mk (blk_below (g := gb102) (o := .cells #[.int .u64 a1_0, .int .u64 a1_1] 47 (0, 0)) of_lies hb)
           have n2_ := Aside0.mk (blk_below (g := gb103) (o := .cells #[.int .u64 0, .int .u64 0] 47 (0, 0)) of_lies hb)
           have n3_ := Aside0.mk (blk_below (g := gb119) (o := .cells #[.int .u64 t116, .int .u64 t117] 74 (0, 0)) of_lies hb)
           have n4_ := Aside0.mk (blk_below (g := gb123) (o := .cells #[.int .u64 t120, .int .u64 t121] 74 (0, 0)) of_lies hb)
           have n5_ := Aside0.mk (below_step (low HB) hb)
           have n6_ := Aside0.mk (hbox)
           have n7_ := Aside0.mk ((by rw [hg]; exact (below_size (low HB)) : w.heap.size ≤ gb127))
           have n8_ := Aside0.mk ((by rw [hg]; exact (below_size (low HB)) : w.heap.size ≤ gb127))
           have n9_ := Aside0.mk ((by rw [hg]; exact Nat.ne_of_lt (blk_lt (g := gb101) (o := .cells #[.int .u64 a0_0, .int .u64 a0_1] 47 (0, 0)) of_lies) : gb101 ≠ gb127))
           have n10_ := Aside0.mk ((by rw [hg]; exact Nat.ne_of_gt (blk_lt (g := gb101) (o := .cells #[.int .u64 a0_0, .int .u64 a0_1] 47 (0, 0)) of_lies) : gb127 ≠ gb101))
           have n11_ := Aside0.mk ((by rw [hg]; exact Nat.ne_of_lt (blk_lt (g := gb102) (o := .cells #[.int .u64 a1_0, .int .u64 a1_1] 47 (0, 0)) of_lies) : gb102 ≠ gb127))
           have n12_ := Aside0.mk ((by rw [hg]; exact Nat.ne_of_gt (blk_lt (g := gb102) (o := .cells #[.int .u64 a1_0, .int .u64 a1_1] 47 (0, 0)) of_lies) : gb127 ≠ gb102))
           have n13_ := Aside0.mk ((by rw [hg]; exact Nat.ne_of_lt (blk_lt (g := gb103) (o := .cells #[.int .u64 0, .int .u64 0] 47 (0, 0)) of_lies) : gb103 ≠ gb127))
           have n14_ := Aside0.mk ((by rw [hg]; exact Nat.ne_of_gt (blk_lt (g := gb103) (o := .cells #[.int .u64 0, .int .u64 0] 47 (0, 0)) of_lies) : gb127 ≠ gb103))
           have n15_ := Aside0.mk ((by rw [hg]; exact Nat.ne_of_lt (blk_lt (g := gb119) (o := .cells #[.int .u64 t116, .int .u64 t117] 74 (0, 0)) of_lies) : gb119 ≠ gb127))
           have n16_ := Aside0.mk ((by rw [hg]; exact Nat.ne_of_gt (blk_lt (g := gb119) (o := .cells #[.int .u64 t116, .int .u64 t117] 74 (0, 0)) of_lies) : gb127 ≠ gb119))
           have n17_ := Aside0.mk ((by rw [hg]; exact Nat.ne_of_lt (blk_lt (g := gb123) (o := .cells #[.int .u64 t120, .int .u64 t121] 74 (0, 0)) of_lies) : gb123 ≠ gb127))
           have n18_ := Aside0.mk ((by rw [hg]; exact Nat.ne_of_gt (blk_lt (g := gb123) (o := .cells #[.int .u64 t120, .int .u64 t121] 74 (0, 0)) of_lies) : gb127 ≠ gb123))
           clear BK101
           clear BK102
           clear BK103
           clear BK119
           clear BK123
           clear HB
           have BK101 := n0_
           have BK102 := n1_
           have BK103 := n2_
           have BK119 := n3_
           have BK123 := n4_
           have HB := n5_
           have BK127 := n6_
           have GW127 := n7_
           have GE127 := n8_
           have NB101_127 := n9_
           have NB127_101 := n10_
           have NB102_127 := n11_
           have NB127_102 := n12_
           have NB103_127 := n13_
           have NB127_103 := n14_
           have NB119_127 := n15_
           have NB127_119 := n16_
           have NB123_127 := n17_
           have NB127_123 := n18_
           clear n0_ n1_ n2_ n3_ n4_ n5_ n6_ n7_ n8_ n9_ n10_ n11_ n12_ n13_ n14_ n15_ n16_ n17_ n18_
           clear hb hbox hg
           refine hK.out _ _ ⟨(blk_cell BK101.out 0).trans rfl, (blk_cell BK101.out 1).trans rfl, (blk_cell BK102.out 0).trans rfl, (blk_cell BK102.out 1).trans rfl⟩ (fun hHeld => ?_)
           clear hK K
           refine norm_ (a' := ?_) ?_ ?_
           rotate_left
           ·
            show Act.put _ (some 12) _ = _
            simp only [Act.put, List.setIfInBounds_toArray, List.set_cons_zero, List.set_cons_succ, i64_w, i32_w]
            rfl
           refine one_ (i := 8) (N := some 81) #[true, true, true, true, true, true, true, true, true, true, false] rfl rfl (one_of HT_.out (by kernel_rfl)) (by decide) (fun K hK => ?_)
           refine goes_ Tryd.func63 (by kernel_rfl) rfl #[.int .u64 (IntKind.u64.wrap (Int.tdiv a0_1 t111)), .int .u64 (IntKind.u64.wrap (Int.tdiv a1_1 t124))] (by rfl) rfl rfl (by (try simp only [List.map_toArray, List.map_cons, List.map_nil]); first | done | rfl | (simp only [List.length_drop, List.length_take]; rfl)) ?_
           with_reducible refine (Podd.odds_times.calls (IntKind.u64.wrap (Int.tdiv a0_1 t111)) (IntKind.u64.wrap (Int.tdiv a1_1 t124)) t125 t126 _ A35.out).mono ?_
           rintro e w68 ⟨rfl, hb⟩
           refine ⟨_, rfl, ?_⟩
           have n0_ := Aside0.mk (blk_below (g := gb101) (o := .cells #[.int .u64 a0_0, .int .u64 a0_1] 47 (0, 0)) of_lies hb)
           have n1_ := Aside0.mk (blk_below (g := gb102) (o := .cells #[.int .u64 a1_0, .int .u64 a1_1] 47 (0, 0)) of_lies hb)
           have n2_ := Aside0.mk (blk_below (g := gb103) (o := .cells #[.int .u64 0, .int .u64 0] 47 (0, 0)) of_lies hb)
           have n3_ := Aside0.mk (blk_below (g := gb119) (o := .cells #[.int .u64 t116, .int .u64 t117] 74 (0, 0)) of_lies hb)
           have n4_ := Aside0.mk (blk_below (g := gb123) (o := .cells #[.int .u64 t120, .int .u64 t121] 74 (0, 0)) of_lies hb)
           have n5_ := Aside0.mk (blk_below (g := gb127) (o := .cells #[.int .u64 0, .int .u64 0] 74 (0, 0)) of_lies hb)
           have n6_ := Aside0.mk (below_step (low HB) hb)
           clear BK101
           clear BK102
           clear BK103
           clear BK119
           clear BK123
           clear BK127
           clear HB
           have BK101 := n0_
           have BK102 := n1_
           have BK103 := n2_
           have BK119 := n3_
           have BK123 := n4_
           have BK127 := n5_
           have HB := n6_
           clear n0_ n1_ n2_ n3_ n4_ n5_ n6_
           (try clear hb)
           (try clear hb2)
           (try clear hk)
           (try clear hi)
           refine hK.out _ _ ⟨(blk_cell BK101.out 0).trans rfl, (blk_cell BK101.out 1).trans rfl, (blk_cell BK102.out 0).trans rfl, (blk_cell BK102.out 1).trans rfl⟩ (fun hHeld => ?_)
           clear hK K
           refine norm_ (a' := ?_) ?_ ?_
           rotate_left
           ·
            show Act.put _ (some 81) _ = _
            simp only [Act.put, List.setIfInBounds_toArray, List.set_cons_zero, List.set_cons_succ, i64_w, i32_w]
            rfl
           exact norm_ (by simp only [putAll, Act.put, List.setIfInBounds_toArray, List.set_cons_zero, List.set_cons_succ]) (hCont (gb127) _ ⟨hHeld, of_lies, of_lies, of_lies, of_lies, of_lies, of_lies, GW127.out, GE127.out, NB101_127.out, NB127_101.out, NB102_127.out, NB127_102.out, NB103_127.out, NB127_103.out, NB119_127.out, NB127_119.out, NB123_127.out, NB127_123.out, (low HB)⟩)
         rintro gb127 w69 ⟨hS_, h0_, h1_, h2_, h3_, h4_, h5_, h6_, h7_, h8_, h9_, h10_, h11_, h12_, h13_, h14_, h15_, h16_, h17_, h18_⟩
         have n0_ : Aside0 (w69.heap[gb101]? = some (.cells #[.int .u64 a0_0, .int .u64 a0_1] 47 (0, 0))) := ⟨h0_⟩
         have n1_ : Aside0 (w69.heap[gb102]? = some (.cells #[.int .u64 a1_0, .int .u64 a1_1] 47 (0, 0))) := ⟨h1_⟩
         have n2_ : Aside0 (w69.heap[gb103]? = some (.cells #[.int .u64 0, .int .u64 0] 47 (0, 0))) := ⟨h2_⟩
         have n3_ : Aside0 (w69.heap[gb119]? = some (.cells #[.int .u64 t116, .int .u64 t117] 74 (0, 0))) := ⟨h3_⟩
         have n4_ : Aside0 (w69.heap[gb123]? = some (.cells #[.int .u64 t120, .int .u64 t121] 74 (0, 0))) := ⟨h4_⟩
         have n5_ : Aside0 (w69.heap[gb127]? = some (.cells #[.int .u64 0, .int .u64 0] 74 (0, 0))) := ⟨h5_⟩
         have n6_ : Aside0 (w.heap.size ≤ gb127) := ⟨h6_⟩
         have n7_ : Aside0 (w.heap.size ≤ gb127) := ⟨h7_⟩
         have n8_ : Aside0 (gb101 ≠ gb127) := ⟨h8_⟩
         have n9_ : Aside0 (gb127 ≠ gb101) := ⟨h9_⟩
         have n10_ : Aside0 (gb102 ≠ gb127) := ⟨h10_⟩
         have n11_ : Aside0 (gb127 ≠ gb102) := ⟨h11_⟩
         have n12_ : Aside0 (gb103 ≠ gb127) := ⟨h12_⟩
         have n13_ : Aside0 (gb127 ≠ gb103) := ⟨h13_⟩
         have n14_ : Aside0 (gb119 ≠ gb127) := ⟨h14_⟩
         have n15_ : Aside0 (gb127 ≠ gb119) := ⟨h15_⟩
         have n16_ : Aside0 (gb123 ≠ gb127) := ⟨h16_⟩
         have n17_ : Aside0 (gb127 ≠ gb123) := ⟨h17_⟩
         have n18_ : Aside0 (Below w.heap.size w w69) := ⟨h18_⟩
         clear BK101
         clear BK102
         clear BK103
         clear BK119
         clear BK123
         clear HB
         clear h0_ h1_ h2_ h3_ h4_ h5_ h6_ h7_ h8_ h9_ h10_ h11_ h12_ h13_ h14_ h15_ h16_ h17_ h18_
         have BK101 := n0_
         have BK102 := n1_
         have BK103 := n2_
         have BK119 := n3_
         have BK123 := n4_
         have BK127 := n5_
         have GW127 := n6_
         have GE127 := n7_
         have NB101_127 := n8_
         have NB127_101 := n9_
         have NB102_127 := n10_
         have NB127_102 := n11_
         have NB103_127 := n12_
         have NB127_103 := n13_
         have NB119_127 := n14_
         have NB127_119 := n15_
         have NB123_127 := n16_
         have NB127_123 := n17_
         have HB := n18_
         clear n0_ n1_ n2_ n3_ n4_ n5_ n6_ n7_ n8_ n9_ n10_ n11_ n12_ n13_ n14_ n15_ n16_ n17_ n18_
         have hHeld : w69.cell? ⟨gb101, 0, none⟩ = some (.int .u64 a0_0) ∧ w69.cell? ⟨gb101, 1, none⟩ = some (.int .u64 a0_1) ∧ w69.cell? ⟨gb102, 0, none⟩ = some (.int .u64 a1_0) ∧ w69.cell? ⟨gb102, 1, none⟩ = some (.int .u64 a1_1) := hS_
         refine norm_ (a' := ?_) ?_ ?_
         rotate_left
         ·
          simp only [putAll, Act.put, List.setIfInBounds_toArray, List.set_cons_zero, List.set_cons_succ]
          rfl
         refine one_ (i := 10) (N := none) #[true, true, true, true, true, true, true, true, true, true, true] rfl rfl (one_of HT_.out (by kernel_rfl)) (by decide) (fun K hK => ?_)
         have hs70 : w69.cell? ⟨gb127, 0, none⟩ = some (.int .u64 0) := (blk_cell BK127.out 0).trans rfl
         have hfs70 := blk_frozen BK127.out 0
         have hns70_0 := NB101_127.out
         have hns70_1 := NB102_127.out
         have hns70_2 := NB103_127.out
         have hns70_3 := NB119_127.out
         have hns70_4 := NB123_127.out
         have hms70_0 := NB127_101.out
         have hms70_1 := NB127_102.out
         have hms70_2 := NB127_103.out
         have hms70_3 := NB127_119.out
         have hms70_4 := NB127_123.out
         have hs71 : w69.cell? ⟨gb127, 1, none⟩ = some (.int .u64 0) := (blk_cell BK127.out 1).trans rfl
         have hfs71 := blk_frozen BK127.out 1
         have hns71_0 := NB101_127.out
         have hns71_1 := NB102_127.out
         have hns71_2 := NB103_127.out
         have hns71_3 := NB119_127.out
         have hns71_4 := NB123_127.out
         have hms71_0 := NB127_101.out
         have hms71_1 := NB127_102.out
         have hms71_2 := NB127_103.out
         have hms71_3 := NB127_119.out
         have hms71_4 := NB127_123.out
         refine skip_ (w1 := ?_) (by rfl) rfl ?_ ?_
         rotate_left
         ·
          go_simp
          rfl
         refine hK.out _ _ ⟨((cell_far (p := ⟨gb127, _, none⟩) NB101_127.out _).trans (((cell_far (p := ⟨gb127, _, none⟩) NB101_127.out _).trans (hHeld.1)))), ((cell_far (p := ⟨gb127, _, none⟩) NB101_127.out _).trans (((cell_far (p := ⟨gb127, _, none⟩) NB101_127.out _).trans (hHeld.2.1)))), ((cell_far (p := ⟨gb127, _, none⟩) NB102_127.out _).trans (((cell_far (p := ⟨gb127, _, none⟩) NB102_127.out _).trans (hHeld.2.2.1)))), ((cell_far (p := ⟨gb127, _, none⟩) NB102_127.out _).trans (((cell_far (p := ⟨gb127, _, none⟩) NB102_127.out _).trans (hHeld.2.2.2))))⟩ (fun hHeld => ?_)
         clear hK K
         refine done_ (done_of HT_.out (by kernel_rfl)) ?_
         have hnb72 := NB127_101.out
         have hnc72 := NB101_127.out
         have hnb73 := NB127_102.out
         have hnc73 := NB102_127.out
         have hnb74 := NB127_103.out
         have hnc74 := NB103_127.out
         have hnb75 := NB127_119.out
         have hnc75 := NB119_127.out
         have hnb76 := NB127_123.out
         have hnc76 := NB123_127.out
         have hcz77_0 : w69.cell? ⟨gb127, 0, none⟩ = some (.int .u64 0) := (blk_cell BK127.out 0).trans rfl
         have hcz77_1 : w69.cell? ⟨gb127, 1, none⟩ = some (.int .u64 0) := (blk_cell BK127.out 1).trans rfl
         have hfz77_0 := blk_frozen BK127.out 0
         have hfz77_1 := blk_frozen BK127.out 1
         have hcz78_0 : w69.cell? ⟨gb103, 0, none⟩ = some (.int .u64 0) := (blk_cell BK103.out 0).trans rfl
         have hcz78_1 : w69.cell? ⟨gb103, 1, none⟩ = some (.int .u64 0) := (blk_cell BK103.out 1).trans rfl
         have hfz78_0 := blk_frozen BK103.out 0
         have hfz78_1 := blk_frozen BK103.out 1
         try go_wp2
         refine bodyPost_ret (results_ct rfl _ _ gb103 47 #[.int .u64 0, .int .u64 0] (0, 0) _ rfl of_lies Tryd.underlying47 rfl (by kernel_rfl)) rfl ?_
         exact ⟨by first | rfl | (simp [errW_none, errW_some] <;> rfl) | (simp [*, errW_none, errW_some] <;> rfl), low HB⟩
        ·
         rw [if_neg c36] at H
         have c36b0 : decide (0 < t125) = false := decide_eq_false c36
         clear c36
         by_cases c79 : t126 > 9223372036854775807
         ·
          rw [if_pos c79] at H
          have c79b0 : decide (9223372036854775807 < t126) = true := decide_eq_true c79
          clear c79
          simp only [Option.some.injEq, Prod.mk.injEq] at H
          obtain ⟨rfl, rfl, rfl⟩ := H
          try go_wp2
          have n0_ := Aside0.mk (blk_drew BK101.out)
          have n1_ := Aside0.mk (blk_drew BK102.out)
          have n2_ := Aside0.mk (blk_drew BK103.out)
          have n3_ := Aside0.mk (below_drew1 HB.out)
          clear BK101
          clear BK102
          clear BK103
          clear HB
          have BK101 := n0_
          have BK102 := n1_
          have BK103 := n2_
          have HB := n3_
          clear n0_ n1_ n2_ n3_
          refine start_ (n := 15) (S := fun w' => w'.cell? ⟨gb101, 0, none⟩ = some (.int .u64 a0_0) ∧ w'.cell? ⟨gb101, 1, none⟩ = some (.int .u64 a0_1) ∧ w'.cell? ⟨gb102, 0, none⟩ = some (.int .u64 a1_0) ∧ w'.cell? ⟨gb102, 1, none⟩ = some (.int .u64 a1_1)) (ds := []) #[false, false, false, false, false, false, false, false, false, false, false, false, false, false, false] (by kernel_rfl) rfl rfl ⟨(blk_cell BK101.out 0).trans rfl, (blk_cell BK101.out 1).trans rfl, (blk_cell BK102.out 0).trans rfl, (blk_cell BK102.out 1).trans rfl⟩ (fun hHeld => ?_); refine with_tabW odds_Sum.tab3 odds_Sum.bits3 (fun HT_ HW_ => ?_)
          generalize wc.drew = w80 at BK101 BK102 BK103 HB hHeld ⊢
          refine pure_ (i := 0) (N := some 22) (v := ?_) (a' := ?_) #[true, false, false, false, false, false, false, false, false, false, false, false, false, false, false] rfl rfl (any_of HT_.out (by kernel_rfl)) (fun _ _ _ h => h) (Or.inl ⟨by rfl, ?_⟩) ?_ ?_
          rotate_left
          ·
           intro w'
           go_simp
           with_reducible rfl
          rotate_left
          ·
           simp only [Act.put, List.setIfInBounds_toArray, List.set_cons_zero, List.set_cons_succ, i64_w, i32_w]
           rfl
          refine pure_ (i := 2) (N := some 24) (v := ?_) (a' := ?_) #[true, false, true, false, false, false, false, false, false, false, false, false, false, false, false] rfl rfl (any_of HT_.out (by kernel_rfl)) (fun _ _ _ h => h) (Or.inl ⟨by rfl, ?_⟩) ?_ ?_
          rotate_left
          ·
           intro w'
           go_simp
           with_reducible rfl
          rotate_left
          ·
           simp only [Act.put, List.setIfInBounds_toArray, List.set_cons_zero, List.set_cons_succ, i64_w, i32_w]
           rfl
          refine pure_ (i := 5) (N := some 27) (v := ?_) (a' := ?_) #[true, false, true, false, false, true, false, false, false, false, false, false, false, false, false] rfl rfl (any_of HT_.out (by kernel_rfl)) (fun _ _ _ h => h) (Or.inl ⟨by rfl, ?_⟩) ?_ ?_
          rotate_left
          ·
           intro w'
           go_simp
           with_reducible rfl
          rotate_left
          ·
           simp only [Act.put, List.setIfInBounds_toArray, List.set_cons_zero, List.set_cons_succ, i64_w, i32_w]
           rfl
          refine pure_ (i := 7) (N := some 29) (v := ?_) (a' := ?_) #[true, false, true, false, false, true, false, true, false, false, false, false, false, false, false] rfl rfl (any_of HT_.out (by kernel_rfl)) (fun _ _ _ h => h) (Or.inl ⟨by rfl, ?_⟩) ?_ ?_
          rotate_left
          ·
           intro w'
           go_simp
           with_reducible rfl
          rotate_left
          ·
           simp only [Act.put, List.setIfInBounds_toArray, List.set_cons_zero, List.set_cons_succ, i64_w, i32_w]
           rfl
          refine pure_ (i := 10) (N := some 32) (v := ?_) (a' := ?_) #[true, false, true, false, false, true, false, true, false, false, true, false, false, false, false] rfl rfl (any_of HT_.out (by kernel_rfl)) (fun _ _ _ h => h) (Or.inl ⟨by rfl, ?_⟩) ?_ ?_
          rotate_left
          ·
           intro w'
           go_simp
           with_reducible rfl
          rotate_left
          ·
           simp only [Act.put, List.setIfInBounds_toArray, List.set_cons_zero, List.set_cons_succ, i64_w, i32_w]
           rfl
          refine take_ (i := 1) (N := some 23) (v := ?_) (a' := ?_) #[true, true, true, false, false, true, false, true, false, false, true, false, false, false, false] rfl rfl (take_ofW HT_.out HW_.out (by kernel_rfl)) (fun _ _ _ h => h) (Or.inl ⟨by rfl, ?_⟩) hHeld ?_ ?_
          rotate_left
          ·
           rintro w' ⟨s0, s1, s2, s3⟩
           go_simp
           with_reducible rfl
          rotate_left
          ·
           simp only [Act.put, List.setIfInBounds_toArray, List.set_cons_zero, List.set_cons_succ, i64_w, i32_w]
           rfl
          refine take_ (i := 3) (N := some 25) (v := ?_) (a' := ?_) #[true, true, true, true, false, true, false, true, false, false, true, false, false, false, false] rfl rfl (take_ofW HT_.out HW_.out (by kernel_rfl)) (fun _ _ _ h => h) (Or.inl ⟨by rfl, ?_⟩) hHeld ?_ ?_
          rotate_left
          ·
           rintro w' ⟨s0, s1, s2, s3⟩
           go_simp
           with_reducible rfl
          rotate_left
          ·
           simp only [Act.put, List.setIfInBounds_toArray, List.set_cons_zero, List.set_cons_succ, i64_w, i32_w]
           rfl
          refine take_ (i := 6) (N := some 28) (v := ?_) (a' := ?_) #[true, true, true, true, false, true, true, true, false, false, true, false, false, false, false] rfl rfl (take_ofW HT_.out HW_.out (by kernel_rfl)) (fun _ _ _ h => h) (Or.inl ⟨by rfl, ?_⟩) hHeld ?_ ?_
          rotate_left
          ·
           rintro w' ⟨s0, s1, s2, s3⟩
           go_simp
           with_reducible rfl
          rotate_left
          ·
           simp only [Act.put, List.setIfInBounds_toArray, List.set_cons_zero, List.set_cons_succ, i64_w, i32_w]
           rfl
          refine take_ (i := 8) (N := some 30) (v := ?_) (a' := ?_) #[true, true, true, true, false, true, true, true, true, false, true, false, false, false, false] rfl rfl (take_ofW HT_.out HW_.out (by kernel_rfl)) (fun _ _ _ h => h) (Or.inl ⟨by rfl, ?_⟩) hHeld ?_ ?_
          rotate_left
          ·
           rintro w' ⟨s0, s1, s2, s3⟩
           go_simp
           with_reducible rfl
          rotate_left
          ·
           simp only [Act.put, List.setIfInBounds_toArray, List.set_cons_zero, List.set_cons_succ, i64_w, i32_w]
           rfl
          refine pure_ (i := 9) (N := some 31) (v := ?_) (a' := ?_) #[true, true, true, true, false, true, true, true, true, true, true, false, false, false, false] rfl rfl (any_of HT_.out (by kernel_rfl)) (fun _ _ _ h => h) (Or.inl ⟨by rfl, ?_⟩) ?_ ?_
          rotate_left
          ·
           intro w'
           go_simp
           with_reducible rfl
          rotate_left
          ·
           simp only [Act.put, List.setIfInBounds_toArray, List.set_cons_zero, List.set_cons_succ, i64_w, i32_w]
           rfl
          refine take_ (i := 11) (N := some 33) (v := ?_) (a' := ?_) #[true, true, true, true, false, true, true, true, true, true, true, true, false, false, false] rfl rfl (take_ofW HT_.out HW_.out (by kernel_rfl)) (fun _ _ _ h => h) (Or.inl ⟨by rfl, ?_⟩) hHeld ?_ ?_
          rotate_left
          ·
           rintro w' ⟨s0, s1, s2, s3⟩
           go_simp
           with_reducible rfl
          rotate_left
          ·
           simp only [Act.put, List.setIfInBounds_toArray, List.set_cons_zero, List.set_cons_succ, i64_w, i32_w]
           rfl
          refine one_ (i := 4) (N := some 26) #[true, true, true, true, true, true, true, true, true, true, true, true, false, false, false] rfl rfl (one_of HT_.out (by kernel_rfl)) (by decide) (fun K hK => ?_)
          refine goes_ Tryd.func63 (by kernel_rfl) rfl #[.int .u64 a0_0, .int .u64 a1_1] (by rfl) rfl rfl (by (try simp only [List.map_toArray, List.map_cons, List.map_nil]); first | done | rfl | (simp only [List.length_drop, List.length_take]; rfl)) ?_
          with_reducible refine (Podd.odds_times.calls a0_0 a1_1 t106 t107 _ A22.out).mono ?_
          rintro e w81 ⟨rfl, hb⟩
          refine ⟨_, rfl, ?_⟩
          have n0_ := Aside0.mk (blk_below (g := gb101) (o := .cells #[.int .u64 a0_0, .int .u64 a0_1] 47 (0, 0)) of_lies hb)
          have n1_ := Aside0.mk (blk_below (g := gb102) (o := .cells #[.int .u64 a1_0, .int .u64 a1_1] 47 (0, 0)) of_lies hb)
          have n2_ := Aside0.mk (blk_below (g := gb103) (o := .cells #[.int .u64 0, .int .u64 0] 47 (0, 0)) of_lies hb)
          have n3_ := Aside0.mk (below_step (low HB) hb)
          clear BK101
          clear BK102
          clear BK103
          clear HB
          have BK101 := n0_
          have BK102 := n1_
          have BK103 := n2_
          have HB := n3_
          clear n0_ n1_ n2_ n3_
          (try clear hb)
          (try clear hb2)
          (try clear hk)
          (try clear hi)
          refine hK.out _ _ ⟨(blk_cell BK101.out 0).trans rfl, (blk_cell BK101.out 1).trans rfl, (blk_cell BK102.out 0).trans rfl, (blk_cell BK102.out 1).trans rfl⟩ (fun hHeld => ?_)
          clear hK K
          refine norm_ (a' := ?_) ?_ ?_
          rotate_left
          ·
           show Act.put _ (some 26) _ = _
           simp only [Act.put, List.setIfInBounds_toArray, List.set_cons_zero, List.set_cons_succ, i64_w, i32_w]
           rfl
          refine one_ (i := 12) (N := some 34) #[true, true, true, true, true, true, true, true, true, true, true, true, true, false, false] rfl rfl (one_of HT_.out (by kernel_rfl)) (by decide) (fun K hK => ?_)
          refine goes_ Tryd.func63 (by kernel_rfl) rfl #[.int .u64 (IntKind.u64.wrap (a1_1 - a1_0)), .int .u64 a0_1] (by rfl) rfl rfl (by (try simp only [List.map_toArray, List.map_cons, List.map_nil]); first | done | rfl | (simp only [List.length_drop, List.length_take]; rfl)) ?_
          with_reducible refine (Podd.odds_times.calls (IntKind.u64.wrap (a1_1 - a1_0)) a0_1 t108 t109 _ A23.out).mono ?_
          rintro e w82 ⟨rfl, hb⟩
          refine ⟨_, rfl, ?_⟩
          have n0_ := Aside0.mk (blk_below (g := gb101) (o := .cells #[.int .u64 a0_0, .int .u64 a0_1] 47 (0, 0)) of_lies hb)
          have n1_ := Aside0.mk (blk_below (g := gb102) (o := .cells #[.int .u64 a1_0, .int .u64 a1_1] 47 (0, 0)) of_lies hb)
          have n2_ := Aside0.mk (blk_below (g := gb103) (o := .cells #[.int .u64 0, .int .u64 0] 47 (0, 0)) of_lies hb)
          have n3_ := Aside0.mk (below_step (low HB) hb)
          clear BK101
          clear BK102
          clear BK103
          clear HB
          have BK101 := n0_
          have BK102 := n1_
          have BK103 := n2_
          have HB := n3_
          clear n0_ n1_ n2_ n3_
          (try clear hb)
          (try clear hb2)
          (try clear hk)
          (try clear hi)
          refine hK.out _ _ ⟨(blk_cell BK101.out 0).trans rfl, (blk_cell BK101.out 1).trans rfl, (blk_cell BK102.out 0).trans rfl, (blk_cell BK102.out 1).trans rfl⟩ (fun hHeld => ?_)
          clear hK K
          refine norm_ (a' := ?_) ?_ ?_
          rotate_left
          ·
           show Act.put _ (some 34) _ = _
           simp only [Act.put, List.setIfInBounds_toArray, List.set_cons_zero, List.set_cons_succ, i64_w, i32_w]
           rfl
          refine one_ (i := 13) (N := some 35) #[true, true, true, true, true, true, true, true, true, true, true, true, true, true, false] rfl rfl (one_of HT_.out (by kernel_rfl)) (by decide) (fun K hK => ?_)
          refine goes_ Tryd.func64 (by kernel_rfl) rfl #[.agg #[.int .u64 t106, .int .u64 t107], .agg #[.int .u64 t108, .int .u64 t109]] (by rfl) rfl rfl (by (try simp only [List.map_toArray, List.map_cons, List.map_nil]); first | done | rfl | (simp only [List.length_drop, List.length_take]; rfl)) ?_
          with_reducible refine (Podd.odds_wide_compare.calls kj2 t106 t107 t108 t109 t110 _ A24.out).mono ?_
          rintro e w83 ⟨rfl, hb⟩
          refine ⟨_, rfl, ?_⟩
          have n0_ := Aside0.mk (blk_below (g := gb101) (o := .cells #[.int .u64 a0_0, .int .u64 a0_1] 47 (0, 0)) of_lies hb)
          have n1_ := Aside0.mk (blk_below (g := gb102) (o := .cells #[.int .u64 a1_0, .int .u64 a1_1] 47 (0, 0)) of_lies hb)
          have n2_ := Aside0.mk (blk_below (g := gb103) (o := .cells #[.int .u64 0, .int .u64 0] 47 (0, 0)) of_lies hb)
          have n3_ := Aside0.mk (below_step (low HB) hb)
          clear BK101
          clear BK102
          clear BK103
          clear HB
          have BK101 := n0_
          have BK102 := n1_
          have BK103 := n2_
          have HB := n3_
          clear n0_ n1_ n2_ n3_
          (try clear hb)
          (try clear hb2)
          (try clear hk)
          (try clear hi)
          refine hK.out _ _ ⟨(blk_cell BK101.out 0).trans rfl, (blk_cell BK101.out 1).trans rfl, (blk_cell BK102.out 0).trans rfl, (blk_cell BK102.out 1).trans rfl⟩ (fun hHeld => ?_)
          clear hK K
          refine norm_ (a' := ?_) ?_ ?_
          rotate_left
          ·
           show Act.put _ (some 35) _ = _
           simp only [Act.put, List.setIfInBounds_toArray, List.set_cons_zero, List.set_cons_succ, i64_w, i32_w]
           rfl
          refine pure_ (i := 14) (N := some 36) (v := ?_) (a' := ?_) #[true, true, true, true, true, true, true, true, true, true, true, true, true, true, true] rfl rfl (any_of HT_.out (by kernel_rfl)) (fun _ _ _ h => h) (Or.inl ⟨by rfl, ?_⟩) ?_ ?_
          rotate_left
          ·
           intro w'
           go_simp
           with_reducible rfl
          rotate_left
          ·
           simp only [Act.put, List.setIfInBounds_toArray, List.set_cons_zero, List.set_cons_succ, i64_w, i32_w]
           rfl
          refine done_ (done_of HT_.out (by kernel_rfl)) ?_
          have hnb84 := NB101_102.out
          have hnc84 := NB102_101.out
          have hnb85 := NB101_103.out
          have hnc85 := NB103_101.out
          have hcz86_0 : w83.cell? ⟨gb101, 0, none⟩ = some (.int .u64 a0_0) := (blk_cell BK101.out 0).trans rfl
          have hcz86_1 : w83.cell? ⟨gb101, 1, none⟩ = some (.int .u64 a0_1) := (blk_cell BK101.out 1).trans rfl
          have hfz86_0 := blk_frozen BK101.out 0
          have hfz86_1 := blk_frozen BK101.out 1
          have hnb87 := NB102_103.out
          have hnc87 := NB103_102.out
          have hcz88_0 : w83.cell? ⟨gb102, 0, none⟩ = some (.int .u64 a1_0) := (blk_cell BK102.out 0).trans rfl
          have hcz88_1 : w83.cell? ⟨gb102, 1, none⟩ = some (.int .u64 a1_1) := (blk_cell BK102.out 1).trans rfl
          have hfz88_0 := blk_frozen BK102.out 0
          have hfz88_1 := blk_frozen BK102.out 1
          try go_wp2_with (first | ((with_reducible refine gate_callee (f := 65) rfl ?_); refine goesL_ (some 42) rfl rfl Tryd.func65 (by kernel_rfl) rfl #[.int .u64 a0_1, .int .u64 a1_1] rfl (by (try simp only [List.map_toArray, List.map_cons, List.map_nil]); first | done | rfl | (simp only [List.length_drop, List.length_take]; rfl)) ?_; (with_reducible refine (Podd.odds_divisor.calls kj2 a0_1 a1_1 t111 _ A26.out).mono ?_); rintro e w' ⟨rfl, ⟨nd, rfl⟩⟩; refine ⟨_, rfl, ?_⟩; (try (rw [drewN_self w83]; generalize hq_ : World.drewN w83 _ = w83; have n0_ : Aside0 (w83.heap[gb101]? = some (.cells #[.int .u64 a0_0, .int .u64 a0_1] 47 (0, 0))) := ⟨by rw [← hq_]; exact of_lies⟩; have n1_ : Aside0 (w83.heap[gb102]? = some (.cells #[.int .u64 a1_0, .int .u64 a1_1] 47 (0, 0))) := ⟨by rw [← hq_]; exact of_lies⟩; have n2_ : Aside0 (w83.heap[gb103]? = some (.cells #[.int .u64 0, .int .u64 0] 47 (0, 0))) := ⟨by rw [← hq_]; exact of_lies⟩; have n3_ : Aside0 (Below w.heap.size w w83) := ⟨by rw [← hq_]; exact (low HB)⟩; clear BK101 BK102 BK103 HB hq_; have BK101 := n0_; have BK102 := n1_; have BK103 := n2_; have HB := n3_; clear n0_ n1_ n2_ n3_))))
          have n0_ := Aside0.mk (blk_drew BK101.out)
          have n1_ := Aside0.mk (blk_drew BK102.out)
          have n2_ := Aside0.mk (blk_drew BK103.out)
          have n3_ := Aside0.mk (below_drew1 HB.out)
          clear BK101
          clear BK102
          clear BK103
          clear HB
          have BK101 := n0_
          have BK102 := n1_
          have BK103 := n2_
          have HB := n3_
          clear n0_ n1_ n2_ n3_
          refine start_ (n := 21) (S := fun w' => w'.cell? ⟨gb101, 0, none⟩ = some (.int .u64 a0_0) ∧ w'.cell? ⟨gb101, 1, none⟩ = some (.int .u64 a0_1) ∧ w'.cell? ⟨gb102, 0, none⟩ = some (.int .u64 a1_0) ∧ w'.cell? ⟨gb102, 1, none⟩ = some (.int .u64 a1_1)) (ds := []) #[false, false, false, false, false, false, false, false, false, false, false, false, false, false, false, false, false, false, false, false, false] (by kernel_rfl) rfl rfl ⟨(blk_cell BK101.out 0).trans rfl, (blk_cell BK101.out 1).trans rfl, (blk_cell BK102.out 0).trans rfl, (blk_cell BK102.out 1).trans rfl⟩ (fun hHeld => ?_); refine with_tabW odds_Sum.tab6 odds_Sum.bits6 (fun HT_ HW_ => ?_)
          generalize w83.drew = w89 at BK101 BK102 BK103 HB hHeld ⊢
          refine pure_ (i := 0) (N := some 44) (v := ?_) (a' := ?_) #[true, false, false, false, false, false, false, false, false, false, false, false, false, false, false, false, false, false, false, false, false] rfl rfl (any_of HT_.out (by kernel_rfl)) (fun _ _ _ h => h) (Or.inl ⟨by rfl, ?_⟩) ?_ ?_
          rotate_left
          ·
           intro w'
           go_simp
           with_reducible rfl
          rotate_left
          ·
           simp only [Act.put, List.setIfInBounds_toArray, List.set_cons_zero, List.set_cons_succ, i64_w, i32_w]
           rfl
          refine pure_ (i := 2) (N := some 46) (v := ?_) (a' := ?_) #[true, false, true, false, false, false, false, false, false, false, false, false, false, false, false, false, false, false, false, false, false] rfl rfl (any_of HT_.out (by kernel_rfl)) (fun _ _ _ h => h) (Or.inl ⟨by rfl, ?_⟩) ?_ ?_
          rotate_left
          ·
           intro w'
           go_simp
           with_reducible rfl
          rotate_left
          ·
           simp only [Act.put, List.setIfInBounds_toArray, List.set_cons_zero, List.set_cons_succ, i64_w, i32_w]
           rfl
          refine pure_ (i := 4) (N := some 48) (v := ?_) (a' := ?_) #[true, false, true, false, true, false, false, false, false, false, false, false, false, false, false, false, false, false, false, false, false] rfl rfl (any_of HT_.out (by kernel_rfl)) (fun _ _ _ h => h) (Or.inl ⟨by rfl, ?_⟩) ?_ ?_
          rotate_left
          ·
           intro w'
           go_simp
           with_reducible rfl
          rotate_left
          ·
           simp only [Act.put, List.setIfInBounds_toArray, List.set_cons_zero, List.set_cons_succ, i64_w, i32_w]
           rfl
          refine pure_ (i := 7) (N := some 51) (v := ?_) (a' := ?_) #[true, false, true, false, true, false, false, true, false, false, false, false, false, false, false, false, false, false, false, false, false] rfl rfl (any_of HT_.out (by kernel_rfl)) (fun _ _ _ h => h) (Or.inl ⟨by rfl, ?_⟩) ?_ ?_
          rotate_left
          ·
           intro w'
           go_simp
           with_reducible rfl
          rotate_left
          ·
           simp only [Act.put, List.setIfInBounds_toArray, List.set_cons_zero, List.set_cons_succ, i64_w, i32_w]
           rfl
          refine pure_ (i := 9) (N := some 53) (v := ?_) (a' := ?_) #[true, false, true, false, true, false, false, true, false, true, false, false, false, false, false, false, false, false, false, false, false] rfl rfl (any_of HT_.out (by kernel_rfl)) (fun _ _ _ h => h) (Or.inl ⟨by rfl, ?_⟩) ?_ ?_
          rotate_left
          ·
           intro w'
           go_simp
           with_reducible rfl
          rotate_left
          ·
           simp only [Act.put, List.setIfInBounds_toArray, List.set_cons_zero, List.set_cons_succ, i64_w, i32_w]
           rfl
          refine pure_ (i := 11) (N := some 55) (v := ?_) (a' := ?_) #[true, false, true, false, true, false, false, true, false, true, false, true, false, false, false, false, false, false, false, false, false] rfl rfl (any_of HT_.out (by kernel_rfl)) (fun _ _ _ h => h) (Or.inl ⟨by rfl, ?_⟩) ?_ ?_
          rotate_left
          ·
           intro w'
           go_simp
           with_reducible rfl
          rotate_left
          ·
           simp only [Act.put, List.setIfInBounds_toArray, List.set_cons_zero, List.set_cons_succ, i64_w, i32_w]
           rfl
          refine take_ (i := 1) (N := some 45) (v := ?_) (a' := ?_) #[true, true, true, false, true, false, false, true, false, true, false, true, false, false, false, false, false, false, false, false, false] rfl rfl (take_ofW HT_.out HW_.out (by kernel_rfl)) (fun _ _ _ h => h) (Or.inl ⟨by rfl, ?_⟩) hHeld ?_ ?_
          rotate_left
          ·
           rintro w' ⟨s0, s1, s2, s3⟩
           go_simp
           with_reducible rfl
          rotate_left
          ·
           simp only [Act.put, List.setIfInBounds_toArray, List.set_cons_zero, List.set_cons_succ, i64_w, i32_w]
           rfl
          refine take_ (i := 3) (N := some 47) (v := ?_) (a' := ?_) #[true, true, true, true, true, false, false, true, false, true, false, true, false, false, false, false, false, false, false, false, false] rfl rfl (take_ofW HT_.out HW_.out (by kernel_rfl)) (fun _ _ _ h => h) (Or.inl ⟨by rfl, ?_⟩) hHeld ?_ ?_
          rotate_left
          ·
           rintro w' ⟨s0, s1, s2, s3⟩
           go_simp
           with_reducible rfl
          rotate_left
          ·
           simp only [Act.put, List.setIfInBounds_toArray, List.set_cons_zero, List.set_cons_succ, i64_w, i32_w]
           rfl
          refine pure_ (i := 5) (N := some 49) (v := ?_) (a' := ?_) #[true, true, true, true, true, true, false, true, false, true, false, true, false, false, false, false, false, false, false, false, false] rfl rfl (any_of HT_.out (by kernel_rfl)) (fun _ _ _ h => h) (Or.inl ⟨by rfl, ?_⟩) ?_ ?_
          rotate_left
          ·
           intro w'
           go_simp
           with_reducible rfl
          rotate_left
          ·
           simp only [Act.put, List.setIfInBounds_toArray, List.set_cons_zero, List.set_cons_succ, i64_w, i32_w]
           rfl
          refine take_ (i := 8) (N := some 52) (v := ?_) (a' := ?_) #[true, true, true, true, true, true, false, true, true, true, false, true, false, false, false, false, false, false, false, false, false] rfl rfl (take_ofW HT_.out HW_.out (by kernel_rfl)) (fun _ _ _ h => h) (Or.inl ⟨by rfl, ?_⟩) hHeld ?_ ?_
          rotate_left
          ·
           rintro w' ⟨s0, s1, s2, s3⟩
           go_simp
           with_reducible rfl
          rotate_left
          ·
           simp only [Act.put, List.setIfInBounds_toArray, List.set_cons_zero, List.set_cons_succ, i64_w, i32_w]
           rfl
          refine take_ (i := 10) (N := some 54) (v := ?_) (a' := ?_) #[true, true, true, true, true, true, false, true, true, true, true, true, false, false, false, false, false, false, false, false, false] rfl rfl (take_ofW HT_.out HW_.out (by kernel_rfl)) (fun _ _ _ h => h) (Or.inl ⟨by rfl, ?_⟩) hHeld ?_ ?_
          rotate_left
          ·
           rintro w' ⟨s0, s1, s2, s3⟩
           go_simp
           with_reducible rfl
          rotate_left
          ·
           simp only [Act.put, List.setIfInBounds_toArray, List.set_cons_zero, List.set_cons_succ, i64_w, i32_w]
           rfl
          refine pure_ (i := 12) (N := some 56) (v := ?_) (a' := ?_) #[true, true, true, true, true, true, false, true, true, true, true, true, true, false, false, false, false, false, false, false, false] rfl rfl (any_of HT_.out (by kernel_rfl)) (fun _ _ _ h => h) (Or.inl ⟨by rfl, ?_⟩) ?_ ?_
          rotate_left
          ·
           intro w'
           go_simp
           with_reducible rfl
          rotate_left
          ·
           simp only [Act.put, List.setIfInBounds_toArray, List.set_cons_zero, List.set_cons_succ, i64_w, i32_w]
           rfl
          refine join_ (σ := Nat) 2 #[true, true, true, true, true, true, true, true, true, true, true, true, true, true, true, true, true, true, true, false, false] (fun s_ => [(50, .agg #[.int .u64 t112, .int .u64 t113]), (57, .agg #[.int .u64 t114, .int .u64 t115]), (58, .tuple #[.agg #[.int .u64 t116, .int .u64 t117], .bool true]), (7, .pointer (some ⟨s_, 0, none⟩)), (43, .tuple #[.agg #[.int .u64 t116, .int .u64 t117], .bool true]), (59, .agg #[.int .u64 t116, .int .u64 t117]), (60, .bool true)]) (fun s_ w' => (w'.cell? ⟨gb101, 0, none⟩ = some (.int .u64 a0_0) ∧ w'.cell? ⟨gb101, 1, none⟩ = some (.int .u64 a0_1) ∧ w'.cell? ⟨gb102, 0, none⟩ = some (.int .u64 a1_0) ∧ w'.cell? ⟨gb102, 1, none⟩ = some (.int .u64 a1_1)) ∧ (w'.heap[gb101]? = some (.cells #[.int .u64 a0_0, .int .u64 a0_1] 47 (0, 0))) ∧ (w'.heap[gb102]? = some (.cells #[.int .u64 a1_0, .int .u64 a1_1] 47 (0, 0))) ∧ (w'.heap[gb103]? = some (.cells #[.int .u64 0, .int .u64 0] 47 (0, 0))) ∧ (w'.heap[s_]? = some (.cells #[.int .u64 0, .int .u64 0] 74 (0, 0))) ∧ (w.heap.size ≤ s_) ∧ (w.heap.size ≤ s_) ∧ (gb101 ≠ s_) ∧ (s_ ≠ gb101) ∧ (gb102 ≠ s_) ∧ (s_ ≠ gb102) ∧ (gb103 ≠ s_) ∧ (s_ ≠ gb103) ∧ (Below w.heap.size w w')) ?_ ?_
          rotate_left
          ·
           intro hCont
           refine two_ (i := 6) (j := 18) (Ni := some 50) (Nj := some 7) #[true, true, true, true, true, true, true, true, true, true, true, true, true, false, false, false, false, false, false, false, false] #[true, true, true, true, true, true, false, true, true, true, true, true, true, false, false, false, false, false, true, false, false] rfl rfl rfl rfl (two_of HT_.out (by kernel_rfl)) (by decide) (by decide) (fun K hK => ?_) (fun K hK => ?_)
           ·
            skip
            refine goes_ Tryd.func63 (by kernel_rfl) rfl #[.int .u64 a0_0, .int .u64 (IntKind.u64.wrap (Int.tdiv a1_1 t111))] (by rfl) rfl rfl (by (try simp only [List.map_toArray, List.map_cons, List.map_nil]); first | done | rfl | (simp only [List.length_drop, List.length_take]; rfl)) ?_
            with_reducible refine (Podd.odds_times.calls a0_0 (IntKind.u64.wrap (Int.tdiv a1_1 t111)) t112 t113 _ A28.out).mono ?_
            rintro e w90 ⟨rfl, hb⟩
            refine ⟨_, rfl, ?_⟩
            have n0_ := Aside0.mk (blk_below (g := gb101) (o := .cells #[.int .u64 a0_0, .int .u64 a0_1] 47 (0, 0)) of_lies hb)
            have n1_ := Aside0.mk (blk_below (g := gb102) (o := .cells #[.int .u64 a1_0, .int .u64 a1_1] 47 (0, 0)) of_lies hb)
            have n2_ := Aside0.mk (blk_below (g := gb103) (o := .cells #[.int .u64 0, .int .u64 0] 47 (0, 0)) of_lies hb)
            have n3_ := Aside0.mk (below_step (low HB) hb)
            clear BK101
            clear BK102
            clear BK103
            clear HB
            have BK101 := n0_
            have BK102 := n1_
            have BK103 := n2_
            have HB := n3_
            clear n0_ n1_ n2_ n3_
            (try clear hb)
            (try clear hb2)
            (try clear hk)
            (try clear hi)
            refine hK.out _ _ ⟨(blk_cell BK101.out 0).trans rfl, (blk_cell BK101.out 1).trans rfl, (blk_cell BK102.out 0).trans rfl, (blk_cell BK102.out 1).trans rfl⟩ (fun hHeld => ?_)
            clear hK K
            refine norm_ (a' := ?_) ?_ ?_
            rotate_left
            ·
             show Act.put _ (some 50) _ = _
             simp only [Act.put, List.setIfInBounds_toArray, List.set_cons_zero, List.set_cons_succ, i64_w, i32_w]
             rfl
            refine two_ (i := 13) (j := 18) (Ni := some 57) (Nj := some 7) #[true, true, true, true, true, true, true, true, true, true, true, true, true, true, false, false, false, false, false, false, false] #[true, true, true, true, true, true, true, true, true, true, true, true, true, false, false, false, false, false, true, false, false] rfl rfl rfl rfl (two_of HT_.out (by kernel_rfl)) (by decide) (by decide) (fun K hK => ?_) (fun K hK => ?_)
            ·
             skip
             refine goes_ Tryd.func63 (by kernel_rfl) rfl #[.int .u64 a1_0, .int .u64 (IntKind.u64.wrap (Int.tdiv a0_1 t111))] (by rfl) rfl rfl (by (try simp only [List.map_toArray, List.map_cons, List.map_nil]); first | done | rfl | (simp only [List.length_drop, List.length_take]; rfl)) ?_
             with_reducible refine (Podd.odds_times.calls a1_0 (IntKind.u64.wrap (Int.tdiv a0_1 t111)) t114 t115 _ A29.out).mono ?_
             rintro e w91 ⟨rfl, hb⟩
             refine ⟨_, rfl, ?_⟩
             have n0_ := Aside0.mk (blk_below (g := gb101) (o := .cells #[.int .u64 a0_0, .int .u64 a0_1] 47 (0, 0)) of_lies hb)
             have n1_ := Aside0.mk (blk_below (g := gb102) (o := .cells #[.int .u64 a1_0, .int .u64 a1_1] 47 (0, 0)) of_lies hb)
             have n2_ := Aside0.mk (blk_below (g := gb103) (o := .cells #[.int .u64 0, .int .u64 0] 47 (0, 0)) of_lies hb)
             have n3_ := Aside0.mk (below_step (low HB) hb)
             clear BK101
             clear BK102
             clear BK103
             clear HB
             have BK101 := n0_
             have BK102 := n1_
             have BK103 := n2_
             have HB := n3_
             clear n0_ n1_ n2_ n3_
             (try clear hb)
             (try clear hb2)
             (try clear hk)
             (try clear hi)
             refine hK.out _ _ ⟨(blk_cell BK101.out 0).trans rfl, (blk_cell BK101.out 1).trans rfl, (blk_cell BK102.out 0).trans rfl, (blk_cell BK102.out 1).trans rfl⟩ (fun hHeld => ?_)
             clear hK K
             refine norm_ (a' := ?_) ?_ ?_
             rotate_left
             ·
              show Act.put _ (some 57) _ = _
              simp only [Act.put, List.setIfInBounds_toArray, List.set_cons_zero, List.set_cons_succ, i64_w, i32_w]
              rfl
             refine two_ (i := 14) (j := 18) (Ni := some 58) (Nj := some 7) #[true, true, true, true, true, true, true, true, true, true, true, true, true, true, true, false, false, false, false, false, false] #[true, true, true, true, true, true, true, true, true, true, true, true, true, true, false, false, false, false, true, false, false] rfl rfl rfl rfl (two_of HT_.out (by kernel_rfl)) (by decide) (by decide) (fun K hK => ?_) (fun K hK => ?_)
             ·
              skip
              refine goes_ Tryd.func66 (by kernel_rfl) rfl #[.agg #[.int .u64 t112, .int .u64 t113], .agg #[.int .u64 t114, .int .u64 t115]] (by rfl) rfl rfl (by (try simp only [List.map_toArray, List.map_cons, List.map_nil]); first | done | rfl | (simp only [List.length_drop, List.length_take]; rfl)) ?_
              with_reducible refine (odds_wide_plus.calls t112 t113 t114 t115 t116 t117 true _ A30.out).mono ?_
              rintro e w92 ⟨rfl, hb⟩
              refine ⟨_, rfl, ?_⟩
              have n0_ := Aside0.mk (blk_below (g := gb101) (o := .cells #[.int .u64 a0_0, .int .u64 a0_1] 47 (0, 0)) of_lies hb)
              have n1_ := Aside0.mk (blk_below (g := gb102) (o := .cells #[.int .u64 a1_0, .int .u64 a1_1] 47 (0, 0)) of_lies hb)
              have n2_ := Aside0.mk (blk_below (g := gb103) (o := .cells #[.int .u64 0, .int .u64 0] 47 (0, 0)) of_lies hb)
              have n3_ := Aside0.mk (below_step (low HB) hb)
              clear BK101
              clear BK102
              clear BK103
              clear HB
              have BK101 := n0_
              have BK102 := n1_
              have BK103 := n2_
              have HB := n3_
              clear n0_ n1_ n2_ n3_
              (try clear hb)
              (try clear hb2)
              (try clear hk)
              (try clear hi)
              refine hK.out _ _ ⟨(blk_cell BK101.out 0).trans rfl, (blk_cell BK101.out 1).trans rfl, (blk_cell BK102.out 0).trans rfl, (blk_cell BK102.out 1).trans rfl⟩ (fun hHeld => ?_)
              clear hK K
              refine norm_ (a' := ?_) ?_ ?_
              rotate_left
              ·
               show Act.put _ (some 58) _ = _
               simp only [Act.put, List.setIfInBounds_toArray, List.set_cons_zero, List.set_cons_succ, i64_w, i32_w]
               rfl
              refine pure_ (i := 15) (N := some 43) (v := ?_) (a' := ?_) #[true, true, true, true, true, true, true, true, true, true, true, true, true, true, true, true, false, false, false, false, false] rfl rfl (any_of HT_.out (by kernel_rfl)) (fun _ _ _ h => h) (Or.inl ⟨by rfl, ?_⟩) ?_ ?_
              rotate_left
              ·
               intro w'
               go_simp
               with_reducible rfl
              rotate_left
              ·
               simp only [Act.put, List.setIfInBounds_toArray, List.set_cons_zero, List.set_cons_succ, i64_w, i32_w]
               rfl
              refine pure_ (i := 16) (N := some 59) (v := ?_) (a' := ?_) #[true, true, true, true, true, true, true, true, true, true, true, true, true, true, true, true, true, false, false, false, false] rfl rfl (any_of HT_.out (by kernel_rfl)) (fun _ _ _ h => h) (Or.inl ⟨by rfl, ?_⟩) ?_ ?_
              rotate_left
              ·
               intro w'
               go_simp
               with_reducible rfl
              rotate_left
              ·
               simp only [Act.put, List.setIfInBounds_toArray, List.set_cons_zero, List.set_cons_succ, i64_w, i32_w]
               rfl
              refine pure_ (i := 17) (N := some 60) (v := ?_) (a' := ?_) #[true, true, true, true, true, true, true, true, true, true, true, true, true, true, true, true, true, true, false, false, false] rfl rfl (any_of HT_.out (by kernel_rfl)) (fun _ _ _ h => h) (Or.inl ⟨by rfl, ?_⟩) ?_ ?_
              rotate_left
              ·
               intro w'
               go_simp
               with_reducible rfl
              rotate_left
              ·
               simp only [Act.put, List.setIfInBounds_toArray, List.set_cons_zero, List.set_cons_succ, i64_w, i32_w]
               rfl
              refine one_ (i := 18) (N := some 7) #[true, true, true, true, true, true, true, true, true, true, true, true, true, true, true, true, true, true, true, false, false] rfl rfl (one_of HT_.out (by kernel_rfl)) (by decide) (fun K hK => ?_)
              refine box_step ?hg (N := 7) ?hd (cs := #[.int .u64 0, .int .u64 0]) (t := 74) ?hr ?_; (case hd => rfl); (case hg => rfl); (case hr => first | (go_simp; done) | (go_simp; rfl))
              intro gb119 hg w93 hbox hb
              have n0_ := Aside0.mk (blk_below (g := gb101) (o := .cells #[.int .u64 a0_0, .int .u64 a0_1] 47 (0, 0)) of_lies hb)
              have n1_ := Aside0.mk (blk_below (g := gb102) (o := .cells #[.int .u64 a1_0, .int .u64 a1_1] 47 (0, 0)) of_lies hb)
              have n2_ := Aside0.mk (blk_below (g := gb103) (o := .cells #[.int .u64 0, .int .u64 0] 47 (0, 0)) of_lies hb)
              have n3_ := Aside0.mk (below_step (low HB) hb)
              have n4_ := Aside0.mk (hbox)
              have n5_ := Aside0.mk ((by rw [hg]; exact (below_size (low HB)) : w.heap.size ≤ gb119))
              have n6_ := Aside0.mk ((by rw [hg]; exact (below_size (low HB)) : w.heap.size ≤ gb119))
              have n7_ := Aside0.mk ((by rw [hg]; exact Nat.ne_of_lt (blk_lt (g := gb101) (o := .cells #[.int .u64 a0_0, .int .u64 a0_1] 47 (0, 0)) of_lies) : gb101 ≠ gb119))
              have n8_ := Aside0.mk ((by rw [hg]; exact Nat.ne_of_gt (blk_lt (g := gb101) (o := .cells #[.int .u64 a0_0, .int .u64 a0_1] 47 (0, 0)) of_lies) : gb119 ≠ gb101))
              have n9_ := Aside0.mk ((by rw [hg]; exact Nat.ne_of_lt (blk_lt (g := gb102) (o := .cells #[.int .u64 a1_0, .int .u64 a1_1] 47 (0, 0)) of_lies) : gb102 ≠ gb119))
              have n10_ := Aside0.mk ((by rw [hg]; exact Nat.ne_of_gt (blk_lt (g := gb102) (o := .cells #[.int .u64 a1_0, .int .u64 a1_1] 47 (0, 0)) of_lies) : gb119 ≠ gb102))
              have n11_ := Aside0.mk ((by rw [hg]; exact Nat.ne_of_lt (blk_lt (g := gb103) (o := .cells #[.int .u64 0, .int .u64 0] 47 (0, 0)) of_lies) : gb103 ≠ gb119))
              have n12_ := Aside0.mk ((by rw [hg]; exact Nat.ne_of_gt (blk_lt (g := gb103) (o := .cells #[.int .u64 0, .int .u64 0] 47 (0, 0)) of_lies) : gb119 ≠ gb103))
              clear BK101
              clear BK102
              clear BK103
              clear HB
              have BK101 := n0_
              have BK102 := n1_
              have BK103 := n2_
              have HB := n3_
              have BK119 := n4_
              have GW119 := n5_
              have GE119 := n6_
              have NB101_119 := n7_
              have NB119_101 := n8_
              have NB102_119 := n9_
              have NB119_102 := n10_
              have NB103_119 := n11_
              have NB119_103 := n12_
              clear n0_ n1_ n2_ n3_ n4_ n5_ n6_ n7_ n8_ n9_ n10_ n11_ n12_
              clear hb hbox hg
              refine hK.out _ _ ⟨(blk_cell BK101.out 0).trans rfl, (blk_cell BK101.out 1).trans rfl, (blk_cell BK102.out 0).trans rfl, (blk_cell BK102.out 1).trans rfl⟩ (fun hHeld => ?_)
              clear hK K
              refine norm_ (a' := ?_) ?_ ?_
              rotate_left
              ·
               show Act.put _ (some 7) _ = _
               simp only [Act.put, List.setIfInBounds_toArray, List.set_cons_zero, List.set_cons_succ, i64_w, i32_w]
               rfl
              exact norm_ (by simp only [putAll, Act.put, List.setIfInBounds_toArray, List.set_cons_zero, List.set_cons_succ]) (hCont (gb119) _ ⟨hHeld, of_lies, of_lies, of_lies, of_lies, GW119.out, GE119.out, NB101_119.out, NB119_101.out, NB102_119.out, NB119_102.out, NB103_119.out, NB119_103.out, (low HB)⟩)
             ·
              skip
              refine box_step ?hg (N := 7) ?hd (cs := #[.int .u64 0, .int .u64 0]) (t := 74) ?hr ?_; (case hd => rfl); (case hg => rfl); (case hr => first | (go_simp; done) | (go_simp; rfl))
              intro gb119 hg w92 hbox hb
              have n0_ := Aside0.mk (blk_below (g := gb101) (o := .cells #[.int .u64 a0_0, .int .u64 a0_1] 47 (0, 0)) of_lies hb)
              have n1_ := Aside0.mk (blk_below (g := gb102) (o := .cells #[.int .u64 a1_0, .int .u64 a1_1] 47 (0, 0)) of_lies hb)
              have n2_ := Aside0.mk (blk_below (g := gb103) (o := .cells #[.int .u64 0, .int .u64 0] 47 (0, 0)) of_lies hb)
              have n3_ := Aside0.mk (below_step (low HB) hb)
              have n4_ := Aside0.mk (hbox)
              have n5_ := Aside0.mk ((by rw [hg]; exact (below_size (low HB)) : w.heap.size ≤ gb119))
              have n6_ := Aside0.mk ((by rw [hg]; exact (below_size (low HB)) : w.heap.size ≤ gb119))
              have n7_ := Aside0.mk ((by rw [hg]; exact Nat.ne_of_lt (blk_lt (g := gb101) (o := .cells #[.int .u64 a0_0, .int .u64 a0_1] 47 (0, 0)) of_lies) : gb101 ≠ gb119))
              have n8_ := Aside0.mk ((by rw [hg]; exact Nat.ne_of_gt (blk_lt (g := gb101) (o := .cells #[.int .u64 a0_0, .int .u64 a0_1] 47 (0, 0)) of_lies) : gb119 ≠ gb101))
              have n9_ := Aside0.mk ((by rw [hg]; exact Nat.ne_of_lt (blk_lt (g := gb102) (o := .cells #[.int .u64 a1_0, .int .u64 a1_1] 47 (0, 0)) of_lies) : gb102 ≠ gb119))
              have n10_ := Aside0.mk ((by rw [hg]; exact Nat.ne_of_gt (blk_lt (g := gb102) (o := .cells #[.int .u64 a1_0, .int .u64 a1_1] 47 (0, 0)) of_lies) : gb119 ≠ gb102))
              have n11_ := Aside0.mk ((by rw [hg]; exact Nat.ne_of_lt (blk_lt (g := gb103) (o := .cells #[.int .u64 0, .int .u64 0] 47 (0, 0)) of_lies) : gb103 ≠ gb119))
              have n12_ := Aside0.mk ((by rw [hg]; exact Nat.ne_of_gt (blk_lt (g := gb103) (o := .cells #[.int .u64 0, .int .u64 0] 47 (0, 0)) of_lies) : gb119 ≠ gb103))
              clear BK101
              clear BK102
              clear BK103
              clear HB
              have BK101 := n0_
              have BK102 := n1_
              have BK103 := n2_
              have HB := n3_
              have BK119 := n4_
              have GW119 := n5_
              have GE119 := n6_
              have NB101_119 := n7_
              have NB119_101 := n8_
              have NB102_119 := n9_
              have NB119_102 := n10_
              have NB103_119 := n11_
              have NB119_103 := n12_
              clear n0_ n1_ n2_ n3_ n4_ n5_ n6_ n7_ n8_ n9_ n10_ n11_ n12_
              clear hb hbox hg
              refine hK.out _ _ ⟨(blk_cell BK101.out 0).trans rfl, (blk_cell BK101.out 1).trans rfl, (blk_cell BK102.out 0).trans rfl, (blk_cell BK102.out 1).trans rfl⟩ (fun hHeld => ?_)
              clear hK K
              refine norm_ (a' := ?_) ?_ ?_
              rotate_left
              ·
               show Act.put _ (some 7) _ = _
               simp only [Act.put, List.setIfInBounds_toArray, List.set_cons_zero, List.set_cons_succ, i64_w, i32_w]
               rfl
              refine one_ (i := 14) (N := some 58) #[true, true, true, true, true, true, true, true, true, true, true, true, true, true, true, false, false, false, true, false, false] rfl rfl (one_of HT_.out (by kernel_rfl)) (by decide) (fun K hK => ?_)
              refine goes_ Tryd.func66 (by kernel_rfl) rfl #[.agg #[.int .u64 t112, .int .u64 t113], .agg #[.int .u64 t114, .int .u64 t115]] (by rfl) rfl rfl (by (try simp only [List.map_toArray, List.map_cons, List.map_nil]); first | done | rfl | (simp only [List.length_drop, List.length_take]; rfl)) ?_
              with_reducible refine (odds_wide_plus.calls t112 t113 t114 t115 t116 t117 true _ A30.out).mono ?_
              rintro e w93 ⟨rfl, hb⟩
              refine ⟨_, rfl, ?_⟩
              have n0_ := Aside0.mk (blk_below (g := gb101) (o := .cells #[.int .u64 a0_0, .int .u64 a0_1] 47 (0, 0)) of_lies hb)
              have n1_ := Aside0.mk (blk_below (g := gb102) (o := .cells #[.int .u64 a1_0, .int .u64 a1_1] 47 (0, 0)) of_lies hb)
              have n2_ := Aside0.mk (blk_below (g := gb103) (o := .cells #[.int .u64 0, .int .u64 0] 47 (0, 0)) of_lies hb)
              have n3_ := Aside0.mk (blk_below (g := gb119) (o := .cells #[.int .u64 0, .int .u64 0] 74 (0, 0)) of_lies hb)
              have n4_ := Aside0.mk (below_step (low HB) hb)
              clear BK101
              clear BK102
              clear BK103
              clear BK119
              clear HB
              have BK101 := n0_
              have BK102 := n1_
              have BK103 := n2_
              have BK119 := n3_
              have HB := n4_
              clear n0_ n1_ n2_ n3_ n4_
              (try clear hb)
              (try clear hb2)
              (try clear hk)
              (try clear hi)
              refine hK.out _ _ ⟨(blk_cell BK101.out 0).trans rfl, (blk_cell BK101.out 1).trans rfl, (blk_cell BK102.out 0).trans rfl, (blk_cell BK102.out 1).trans rfl⟩ (fun hHeld => ?_)
              clear hK K
              refine norm_ (a' := ?_) ?_ ?_
              rotate_left
              ·
               show Act.put _ (some 58) _ = _
               simp only [Act.put, List.setIfInBounds_toArray, List.set_cons_zero, List.set_cons_succ, i64_w, i32_w]
               rfl
              refine pure_ (i := 15) (N := some 43) (v := ?_) (a' := ?_) #[true, true, true, true, true, true, true, true, true, true, true, true, true, true, true, true, false, false, true, false, false] rfl rfl (any_of HT_.out (by kernel_rfl)) (fun _ _ _ h => h) (Or.inl ⟨by rfl, ?_⟩) ?_ ?_
              rotate_left
              ·
               intro w'
               go_simp
               with_reducible rfl
              rotate_left
              ·
               simp only [Act.put, List.setIfInBounds_toArray, List.set_cons_zero, List.set_cons_succ, i64_w, i32_w]
               rfl
              refine pure_ (i := 16) (N := some 59) (v := ?_) (a' := ?_) #[true, true, true, true, true, true, true, true, true, true, true, true, true, true, true, true, true, false, true, false, false] rfl rfl (any_of HT_.out (by kernel_rfl)) (fun _ _ _ h => h) (Or.inl ⟨by rfl, ?_⟩) ?_ ?_
              rotate_left
              ·
               intro w'
               go_simp
               with_reducible rfl
              rotate_left
              ·
               simp only [Act.put, List.setIfInBounds_toArray, List.set_cons_zero, List.set_cons_succ, i64_w, i32_w]
               rfl
              refine pure_ (i := 17) (N := some 60) (v := ?_) (a' := ?_) #[true, true, true, true, true, true, true, true, true, true, true, true, true, true, true, true, true, true, true, false, false] rfl rfl (any_of HT_.out (by kernel_rfl)) (fun _ _ _ h => h) (Or.inl ⟨by rfl, ?_⟩) ?_ ?_
              rotate_left
              ·
               intro w'
               go_simp
               with_reducible rfl
              rotate_left
              ·
               simp only [Act.put, List.setIfInBounds_toArray, List.set_cons_zero, List.set_cons_succ, i64_w, i32_w]
               rfl
              exact norm_ (by simp only [putAll, Act.put, List.setIfInBounds_toArray, List.set_cons_zero, List.set_cons_succ]) (hCont (gb119) _ ⟨hHeld, of_lies, of_lies, of_lies, of_lies, GW119.out, GE119.out, NB101_119.out, NB119_101.out, NB102_119.out, NB119_102.out, NB103_119.out, NB119_103.out, (low HB)⟩)
            ·
             skip
             refine box_step ?hg (N := 7) ?hd (cs := #[.int .u64 0, .int .u64 0]) (t := 74) ?hr ?_; (case hd => rfl); (case hg => rfl); (case hr => first | (go_simp; done) | (go_simp; rfl))
             intro gb119 hg w91 hbox hb
             have n0_ := Aside0.mk (blk_below (g := gb101) (o := .cells #[.int .u64 a0_0, .int .u64 a0_1] 47 (0, 0)) of_lies hb)
             have n1_ := Aside0.mk (blk_below (g := gb102) (o := .cells #[.int .u64 a1_0, .int .u64 a1_1] 47 (0, 0)) of_lies hb)
             have n2_ := Aside0.mk (blk_below (g := gb103) (o := .cells #[.int .u64 0, .int .u64 0] 47 (0, 0)) of_lies hb)
             have n3_ := Aside0.mk (below_step (low HB) hb)
             have n4_ := Aside0.mk (hbox)
             have n5_ := Aside0.mk ((by rw [hg]; exact (below_size (low HB)) : w.heap.size ≤ gb119))
             have n6_ := Aside0.mk ((by rw [hg]; exact (below_size (low HB)) : w.heap.size ≤ gb119))
             have n7_ := Aside0.mk ((by rw [hg]; exact Nat.ne_of_lt (blk_lt (g := gb101) (o := .cells #[.int .u64 a0_0, .int .u64 a0_1] 47 (0, 0)) of_lies) : gb101 ≠ gb119))
             have n8_ := Aside0.mk ((by rw [hg]; exact Nat.ne_of_gt (blk_lt (g := gb101) (o := .cells #[.int .u64 a0_0, .int .u64 a0_1] 47 (0, 0)) of_lies) : gb119 ≠ gb101))
             have n9_ := Aside0.mk ((by rw [hg]; exact Nat.ne_of_lt (blk_lt (g := gb102) (o := .cells #[.int .u64 a1_0, .int .u64 a1_1] 47 (0, 0)) of_lies) : gb102 ≠ gb119))
             have n10_ := Aside0.mk ((by rw [hg]; exact Nat.ne_of_gt (blk_lt (g := gb102) (o := .cells #[.int .u64 a1_0, .int .u64 a1_1] 47 (0, 0)) of_lies) : gb119 ≠ gb102))
             have n11_ := Aside0.mk ((by rw [hg]; exact Nat.ne_of_lt (blk_lt (g := gb103) (o := .cells #[.int .u64 0, .int .u64 0] 47 (0, 0)) of_lies) : gb103 ≠ gb119))
             have n12_ := Aside0.mk ((by rw [hg]; exact Nat.ne_of_gt (blk_lt (g := gb103) (o := .cells #[.int .u64 0, .int .u64 0] 47 (0, 0)) of_lies) : gb119 ≠ gb103))
             clear BK101
             clear BK102
             clear BK103
             clear HB
             have BK101 := n0_
             have BK102 := n1_
             have BK103 := n2_
             have HB := n3_
             have BK119 := n4_
             have GW119 := n5_
             have GE119 := n6_
             have NB101_119 := n7_
             have NB119_101 := n8_
             have NB102_119 := n9_
             have NB119_102 := n10_
             have NB103_119 := n11_
             have NB119_103 := n12_
             clear n0_ n1_ n2_ n3_ n4_ n5_ n6_ n7_ n8_ n9_ n10_ n11_ n12_
             clear hb hbox hg
             refine hK.out _ _ ⟨(blk_cell BK101.out 0).trans rfl, (blk_cell BK101.out 1).trans rfl, (blk_cell BK102.out 0).trans rfl, (blk_cell BK102.out 1).trans rfl⟩ (fun hHeld => ?_)
             clear hK K
             refine norm_ (a' := ?_) ?_ ?_
             rotate_left
             ·
              show Act.put _ (some 7) _ = _
              simp only [Act.put, List.setIfInBounds_toArray, List.set_cons_zero, List.set_cons_succ, i64_w, i32_w]
              rfl
             refine one_ (i := 13) (N := some 57) #[true, true, true, true, true, true, true, true, true, true, true, true, true, true, false, false, false, false, true, false, false] rfl rfl (one_of HT_.out (by kernel_rfl)) (by decide) (fun K hK => ?_)
             refine goes_ Tryd.func63 (by kernel_rfl) rfl #[.int .u64 a1_0, .int .u64 (IntKind.u64.wrap (Int.tdiv a0_1 t111))] (by rfl) rfl rfl (by (try simp only [List.map_toArray, List.map_cons, List.map_nil]); first | done | rfl | (simp only [List.length_drop, List.length_take]; rfl)) ?_
             with_reducible refine (Podd.odds_times.calls a1_0 (IntKind.u64.wrap (Int.tdiv a0_1 t111)) t114 t115 _ A29.out).mono ?_
             rintro e w92 ⟨rfl, hb⟩
             refine ⟨_, rfl, ?_⟩
             have n0_ := Aside0.mk (blk_below (g := gb101) (o := .cells #[.int .u64 a0_0, .int .u64 a0_1] 47 (0, 0)) of_lies hb)
             have n1_ := Aside0.mk (blk_below (g := gb102) (o := .cells #[.int .u64 a1_0, .int .u64 a1_1] 47 (0, 0)) of_lies hb)
             have n2_ := Aside0.mk (blk_below (g := gb103) (o := .cells #[.int .u64 0, .int .u64 0] 47 (0, 0)) of_lies hb)
             have n3_ := Aside0.mk (blk_below (g := gb119) (o := .cells #[.int .u64 0, .int .u64 0] 74 (0, 0)) of_lies hb)
             have n4_ := Aside0.mk (below_step (low HB) hb)
             clear BK101
             clear BK102
             clear BK103
             clear BK119
             clear HB
             have BK101 := n0_
             have BK102 := n1_
             have BK103 := n2_
             have BK119 := n3_
             have HB := n4_
             clear n0_ n1_ n2_ n3_ n4_
             (try clear hb)
             (try clear hb2)
             (try clear hk)
             (try clear hi)
             refine hK.out _ _ ⟨(blk_cell BK101.out 0).trans rfl, (blk_cell BK101.out 1).trans rfl, (blk_cell BK102.out 0).trans rfl, (blk_cell BK102.out 1).trans rfl⟩ (fun hHeld => ?_)
             clear hK K
             refine norm_ (a' := ?_) ?_ ?_
             rotate_left
             ·
              show Act.put _ (some 57) _ = _
              simp only [Act.put, List.setIfInBounds_toArray, List.set_cons_zero, List.set_cons_succ, i64_w, i32_w]
              rfl
             refine one_ (i := 14) (N := some 58) #[true, true, true, true, true, true, true, true, true, true, true, true, true, true, true, false, false, false, true, false, false] rfl rfl (one_of HT_.out (by kernel_rfl)) (by decide) (fun K hK => ?_)
             refine goes_ Tryd.func66 (by kernel_rfl) rfl #[.agg #[.int .u64 t112, .int .u64 t113], .agg #[.int .u64 t114, .int .u64 t115]] (by rfl) rfl rfl (by (try simp only [List.map_toArray, List.map_cons, List.map_nil]); first | done | rfl | (simp only [List.length_drop, List.length_take]; rfl)) ?_
             with_reducible refine (odds_wide_plus.calls t112 t113 t114 t115 t116 t117 true _ A30.out).mono ?_
             rintro e w93 ⟨rfl, hb⟩
             refine ⟨_, rfl, ?_⟩
             have n0_ := Aside0.mk (blk_below (g := gb101) (o := .cells #[.int .u64 a0_0, .int .u64 a0_1] 47 (0, 0)) of_lies hb)
             have n1_ := Aside0.mk (blk_below (g := gb102) (o := .cells #[.int .u64 a1_0, .int .u64 a1_1] 47 (0, 0)) of_lies hb)
             have n2_ := Aside0.mk (blk_below (g := gb103) (o := .cells #[.int .u64 0, .int .u64 0] 47 (0, 0)) of_lies hb)
             have n3_ := Aside0.mk (blk_below (g := gb119) (o := .cells #[.int .u64 0, .int .u64 0] 74 (0, 0)) of_lies hb)
             have n4_ := Aside0.mk (below_step (low HB) hb)
             clear BK101
             clear BK102
             clear BK103
             clear BK119
             clear HB
             have BK101 := n0_
             have BK102 := n1_
             have BK103 := n2_
             have BK119 := n3_
             have HB := n4_
             clear n0_ n1_ n2_ n3_ n4_
             (try clear hb)
             (try clear hb2)
             (try clear hk)
             (try clear hi)
             refine hK.out _ _ ⟨(blk_cell BK101.out 0).trans rfl, (blk_cell BK101.out 1).trans rfl, (blk_cell BK102.out 0).trans rfl, (blk_cell BK102.out 1).trans rfl⟩ (fun hHeld => ?_)
             clear hK K
             refine norm_ (a' := ?_) ?_ ?_
             rotate_left
             ·
              show Act.put _ (some 58) _ = _
              simp only [Act.put, List.setIfInBounds_toArray, List.set_cons_zero, List.set_cons_succ, i64_w, i32_w]
              rfl
             refine pure_ (i := 15) (N := some 43) (v := ?_) (a' := ?_) #[true, true, true, true, true, true, true, true, true, true, true, true, true, true, true, true, false, false, true, false, false] rfl rfl (any_of HT_.out (by kernel_rfl)) (fun _ _ _ h => h) (Or.inl ⟨by rfl, ?_⟩) ?_ ?_
             rotate_left
             ·
              intro w'
              go_simp
              with_reducible rfl
             rotate_left
             ·
              simp only [Act.put, List.setIfInBounds_toArray, List.set_cons_zero, List.set_cons_succ, i64_w, i32_w]
              rfl
             refine pure_ (i := 16) (N := some 59) (v := ?_) (a' := ?_) #[true, true, true, true, true, true, true, true, true, true, true, true, true, true, true, true, true, false, true, false, false] rfl rfl (any_of HT_.out (by kernel_rfl)) (fun _ _ _ h => h) (Or.inl ⟨by rfl, ?_⟩) ?_ ?_
             rotate_left
             ·
              intro w'
              go_simp
              with_reducible rfl
             rotate_left
             ·
              simp only [Act.put, List.setIfInBounds_toArray, List.set_cons_zero, List.set_cons_succ, i64_w, i32_w]
              rfl
             refine pure_ (i := 17) (N := some 60) (v := ?_) (a' := ?_) #[true, true, true, true, true, true, true, true, true, true, true, true, true, true, true, true, true, true, true, false, false] rfl rfl (any_of HT_.out (by kernel_rfl)) (fun _ _ _ h => h) (Or.inl ⟨by rfl, ?_⟩) ?_ ?_
             rotate_left
             ·
              intro w'
              go_simp
              with_reducible rfl
             rotate_left
             ·
              simp only [Act.put, List.setIfInBounds_toArray, List.set_cons_zero, List.set_cons_succ, i64_w, i32_w]
              rfl
             exact norm_ (by simp only [putAll, Act.put, List.setIfInBounds_toArray, List.set_cons_zero, List.set_cons_succ]) (hCont (gb119) _ ⟨hHeld, of_lies, of_lies, of_lies, of_lies, GW119.out, GE119.out, NB101_119.out, NB119_101.out, NB102_119.out, NB119_102.out, NB103_119.out, NB119_103.out, (low HB)⟩)
           ·
            skip
            refine box_step ?hg (N := 7) ?hd (cs := #[.int .u64 0, .int .u64 0]) (t := 74) ?hr ?_; (case hd => rfl); (case hg => rfl); (case hr => first | (go_simp; done) | (go_simp; rfl))
            intro gb119 hg w90 hbox hb
            have n0_ := Aside0.mk (blk_below (g := gb101) (o := .cells #[.int .u64 a0_0, .int .u64 a0_1] 47 (0, 0)) of_lies hb)
            have n1_ := Aside0.mk (blk_below (g := gb102) (o := .cells #[.int .u64 a1_0, .int .u64 a1_1] 47 (0, 0)) of_lies hb)
            have n2_ := Aside0.mk (blk_below (g := gb103) (o := .cells #[.int .u64 0, .int .u64 0] 47 (0, 0)) of_lies hb)
            have n3_ := Aside0.mk (below_step (low HB) hb)
            have n4_ := Aside0.mk (hbox)
            have n5_ := Aside0.mk ((by rw [hg]; exact (below_size (low HB)) : w.heap.size ≤ gb119))
            have n6_ := Aside0.mk ((by rw [hg]; exact (below_size (low HB)) : w.heap.size ≤ gb119))
            have n7_ := Aside0.mk ((by rw [hg]; exact Nat.ne_of_lt (blk_lt (g := gb101) (o := .cells #[.int .u64 a0_0, .int .u64 a0_1] 47 (0, 0)) of_lies) : gb101 ≠ gb119))
            have n8_ := Aside0.mk ((by rw [hg]; exact Nat.ne_of_gt (blk_lt (g := gb101) (o := .cells #[.int .u64 a0_0, .int .u64 a0_1] 47 (0, 0)) of_lies) : gb119 ≠ gb101))
            have n9_ := Aside0.mk ((by rw [hg]; exact Nat.ne_of_lt (blk_lt (g := gb102) (o := .cells #[.int .u64 a1_0, .int .u64 a1_1] 47 (0, 0)) of_lies) : gb102 ≠ gb119))
            have n10_ := Aside0.mk ((by rw [hg]; exact Nat.ne_of_gt (blk_lt (g := gb102) (o := .cells #[.int .u64 a1_0, .int .u64 a1_1] 47 (0, 0)) of_lies) : gb119 ≠ gb102))
            have n11_ := Aside0.mk ((by rw [hg]; exact Nat.ne_of_lt (blk_lt (g := gb103) (o := .cells #[.int .u64 0, .int .u64 0] 47 (0, 0)) of_lies) : gb103 ≠ gb119))
            have n12_ := Aside0.mk ((by rw [hg]; exact Nat.ne_of_gt (blk_lt (g := gb103) (o := .cells #[.int .u64 0, .int .u64 0] 47 (0, 0)) of_lies) : gb119 ≠ gb103))
            clear BK101
            clear BK102
            clear BK103
            clear HB
            have BK101 := n0_
            have BK102 := n1_
            have BK103 := n2_
            have HB := n3_
            have BK119 := n4_
            have GW119 := n5_
            have GE119 := n6_
            have NB101_119 := n7_
            have NB119_101 := n8_
            have NB102_119 := n9_
            have NB119_102 := n10_
            have NB103_119 := n11_
            have NB119_103 := n12_
            clear n0_ n1_ n2_ n3_ n4_ n5_ n6_ n7_ n8_ n9_ n10_ n11_ n12_
            clear hb hbox hg
            refine hK.out _ _ ⟨(blk_cell BK101.out 0).trans rfl, (blk_cell BK101.out 1).trans rfl, (blk_cell BK102.out 0).trans rfl, (blk_cell BK102.out 1).trans rfl⟩ (fun hHeld => ?_)
            clear hK K
            refine norm_ (a' := ?_) ?_ ?_
            rotate_left
            ·
             show Act.put _ (some 7) _ = _
             simp only [Act.put, List.setIfInBounds_toArray, List.set_cons_zero, List.set_cons_succ, i64_w, i32_w]
             rfl
            refine one_ (i := 6) (N := some 50) #[true, true, true, true, true, true, true, true, true, true, true, true, true, false, false, false, false, false, true, false, false] rfl rfl (one_of HT_.out (by kernel_rfl)) (by decide) (fun K hK => ?_)
            refine goes_ Tryd.func63 (by kernel_rfl) rfl #[.int .u64 a0_0, .int .u64 (IntKind.u64.wrap (Int.tdiv a1_1 t111))] (by rfl) rfl rfl (by (try simp only [List.map_toArray, List.map_cons, List.map_nil]); first | done | rfl | (simp only [List.length_drop, List.length_take]; rfl)) ?_
            with_reducible refine (Podd.odds_times.calls a0_0 (IntKind.u64.wrap (Int.tdiv a1_1 t111)) t112 t113 _ A28.out).mono ?_
            rintro e w91 ⟨rfl, hb⟩
            refine ⟨_, rfl, ?_⟩
            have n0_ := Aside0.mk (blk_below (g := gb101) (o := .cells #[.int .u64 a0_0, .int .u64 a0_1] 47 (0, 0)) of_lies hb)
            have n1_ := Aside0.mk (blk_below (g := gb102) (o := .cells #[.int .u64 a1_0, .int .u64 a1_1] 47 (0, 0)) of_lies hb)
            have n2_ := Aside0.mk (blk_below (g := gb103) (o := .cells #[.int .u64 0, .int .u64 0] 47 (0, 0)) of_lies hb)
            have n3_ := Aside0.mk (blk_below (g := gb119) (o := .cells #[.int .u64 0, .int .u64 0] 74 (0, 0)) of_lies hb)
            have n4_ := Aside0.mk (below_step (low HB) hb)
            clear BK101
            clear BK102
            clear BK103
            clear BK119
            clear HB
            have BK101 := n0_
            have BK102 := n1_
            have BK103 := n2_
            have BK119 := n3_
            have HB := n4_
            clear n0_ n1_ n2_ n3_ n4_
            (try clear hb)
            (try clear hb2)
            (try clear hk)
            (try clear hi)
            refine hK.out _ _ ⟨(blk_cell BK101.out 0).trans rfl, (blk_cell BK101.out 1).trans rfl, (blk_cell BK102.out 0).trans rfl, (blk_cell BK102.out 1).trans rfl⟩ (fun hHeld => ?_)
            clear hK K
            refine norm_ (a' := ?_) ?_ ?_
            rotate_left
            ·
             show Act.put _ (some 50) _ = _
             simp only [Act.put, List.setIfInBounds_toArray, List.set_cons_zero, List.set_cons_succ, i64_w, i32_w]
             rfl
            refine one_ (i := 13) (N := some 57) #[true, true, true, true, true, true, true, true, true, true, true, true, true, true, false, false, false, false, true, false, false] rfl rfl (one_of HT_.out (by kernel_rfl)) (by decide) (fun K hK => ?_)
            refine goes_ Tryd.func63 (by kernel_rfl) rfl #[.int .u64 a1_0, .int .u64 (IntKind.u64.wrap (Int.tdiv a0_1 t111))] (by rfl) rfl rfl (by (try simp only [List.map_toArray, List.map_cons, List.map_nil]); first | done | rfl | (simp only [List.length_drop, List.length_take]; rfl)) ?_
            with_reducible refine (Podd.odds_times.calls a1_0 (IntKind.u64.wrap (Int.tdiv a0_1 t111)) t114 t115 _ A29.out).mono ?_
            rintro e w92 ⟨rfl, hb⟩
            refine ⟨_, rfl, ?_⟩
            have n0_ := Aside0.mk (blk_below (g := gb101) (o := .cells #[.int .u64 a0_0, .int .u64 a0_1] 47 (0, 0)) of_lies hb)
            have n1_ := Aside0.mk (blk_below (g := gb102) (o := .cells #[.int .u64 a1_0, .int .u64 a1_1] 47 (0, 0)) of_lies hb)
            have n2_ := Aside0.mk (blk_below (g := gb103) (o := .cells #[.int .u64 0, .int .u64 0] 47 (0, 0)) of_lies hb)
            have n3_ := Aside0.mk (blk_below (g := gb119) (o := .cells #[.int .u64 0, .int .u64 0] 74 (0, 0)) of_lies hb)
            have n4_ := Aside0.mk (below_step (low HB) hb)
            clear BK101
            clear BK102
            clear BK103
            clear BK119
            clear HB
            have BK101 := n0_
            have BK102 := n1_
            have BK103 := n2_
            have BK119 := n3_
            have HB := n4_
            clear n0_ n1_ n2_ n3_ n4_
            (try clear hb)
            (try clear hb2)
            (try clear hk)
            (try clear hi)
            refine hK.out _ _ ⟨(blk_cell BK101.out 0).trans rfl, (blk_cell BK101.out 1).trans rfl, (blk_cell BK102.out 0).trans rfl, (blk_cell BK102.out 1).trans rfl⟩ (fun hHeld => ?_)
            clear hK K
            refine norm_ (a' := ?_) ?_ ?_
            rotate_left
            ·
             show Act.put _ (some 57) _ = _
             simp only [Act.put, List.setIfInBounds_toArray, List.set_cons_zero, List.set_cons_succ, i64_w, i32_w]
             rfl
            refine one_ (i := 14) (N := some 58) #[true, true, true, true, true, true, true, true, true, true, true, true, true, true, true, false, false, false, true, false, false] rfl rfl (one_of HT_.out (by kernel_rfl)) (by decide) (fun K hK => ?_)
            refine goes_ Tryd.func66 (by kernel_rfl) rfl #[.agg #[.int .u64 t112, .int .u64 t113], .agg #[.int .u64 t114, .int .u64 t115]] (by rfl) rfl rfl (by (try simp only [List.map_toArray, List.map_cons, List.map_nil]); first | done | rfl | (simp only [List.length_drop, List.length_take]; rfl)) ?_
            with_reducible refine (odds_wide_plus.calls t112 t113 t114 t115 t116 t117 true _ A30.out).mono ?_
            rintro e w93 ⟨rfl, hb⟩
            refine ⟨_, rfl, ?_⟩
            have n0_ := Aside0.mk (blk_below (g := gb101) (o := .cells #[.int .u64 a0_0, .int .u64 a0_1] 47 (0, 0)) of_lies hb)
            have n1_ := Aside0.mk (blk_below (g := gb102) (o := .cells #[.int .u64 a1_0, .int .u64 a1_1] 47 (0, 0)) of_lies hb)
            have n2_ := Aside0.mk (blk_below (g := gb103) (o := .cells #[.int .u64 0, .int .u64 0] 47 (0, 0)) of_lies hb)
            have n3_ := Aside0.mk (blk_below (g := gb119) (o := .cells #[.int .u64 0, .int .u64 0] 74 (0, 0)) of_lies hb)
            have n4_ := Aside0.mk (below_step (low HB) hb)
            clear BK101
            clear BK102
            clear BK103
            clear BK119
            clear HB
            have BK101 := n0_
            have BK102 := n1_
            have BK103 := n2_
            have BK119 := n3_
            have HB := n4_
            clear n0_ n1_ n2_ n3_ n4_
            (try clear hb)
            (try clear hb2)
            (try clear hk)
            (try clear hi)
            refine hK.out _ _ ⟨(blk_cell BK101.out 0).trans rfl, (blk_cell BK101.out 1).trans rfl, (blk_cell BK102.out 0).trans rfl, (blk_cell BK102.out 1).trans rfl⟩ (fun hHeld => ?_)
            clear hK K
            refine norm_ (a' := ?_) ?_ ?_
            rotate_left
            ·
             show Act.put _ (some 58) _ = _
             simp only [Act.put, List.setIfInBounds_toArray, List.set_cons_zero, List.set_cons_succ, i64_w, i32_w]
             rfl
            refine pure_ (i := 15) (N := some 43) (v := ?_) (a' := ?_) #[true, true, true, true, true, true, true, true, true, true, true, true, true, true, true, true, false, false, true, false, false] rfl rfl (any_of HT_.out (by kernel_rfl)) (fun _ _ _ h => h) (Or.inl ⟨by rfl, ?_⟩) ?_ ?_
            rotate_left
            ·
             intro w'
             go_simp
             with_reducible rfl
            rotate_left
            ·
             simp only [Act.put, List.setIfInBounds_toArray, List.set_cons_zero, List.set_cons_succ, i64_w, i32_w]
             rfl
            refine pure_ (i := 16) (N := some 59) (v := ?_) (a' := ?_) #[true, true, true, true, true, true, true, true, true, true, true, true, true, true, true, true, true, false, true, false, false] rfl rfl (any_of HT_.out (by kernel_rfl)) (fun _ _ _ h => h) (Or.inl ⟨by rfl, ?_⟩) ?_ ?_
            rotate_left
            ·
             intro w'
             go_simp
             with_reducible rfl
            rotate_left
            ·
             simp only [Act.put, List.setIfInBounds_toArray, List.set_cons_zero, List.set_cons_succ, i64_w, i32_w]
             rfl
            refine pure_ (i := 17) (N := some 60) (v := ?_) (a' := ?_) #[true, true, true, true, true, true, true, true, true, true, true, true, true, true, true, true, true, true, true, false, false] rfl rfl (any_of HT_.out (by kernel_rfl)) (fun _ _ _ h => h) (Or.inl ⟨by rfl, ?_⟩) ?_ ?_
            rotate_left
            ·
             intro w'
             go_simp
             with_reducible rfl
            rotate_left
            ·
             simp only [Act.put, List.setIfInBounds_toArray, List.set_cons_zero, List.set_cons_succ, i64_w, i32_w]
             rfl
            exact norm_ (by simp only [putAll, Act.put, List.setIfInBounds_toArray, List.set_cons_zero, List.set_cons_succ]) (hCont (gb119) _ ⟨hHeld, of_lies, of_lies, of_lies, of_lies, GW119.out, GE119.out, NB101_119.out, NB119_101.out, NB102_119.out, NB119_102.out, NB103_119.out, NB119_103.out, (low HB)⟩)
          rintro gb119 w94 ⟨hS_, h0_, h1_, h2_, h3_, h4_, h5_, h6_, h7_, h8_, h9_, h10_, h11_, h12_⟩
          have n0_ : Aside0 (w94.heap[gb101]? = some (.cells #[.int .u64 a0_0, .int .u64 a0_1] 47 (0, 0))) := ⟨h0_⟩
          have n1_ : Aside0 (w94.heap[gb102]? = some (.cells #[.int .u64 a1_0, .int .u64 a1_1] 47 (0, 0))) := ⟨h1_⟩
          have n2_ : Aside0 (w94.heap[gb103]? = some (.cells #[.int .u64 0, .int .u64 0] 47 (0, 0))) := ⟨h2_⟩
          have n3_ : Aside0 (w94.heap[gb119]? = some (.cells #[.int .u64 0, .int .u64 0] 74 (0, 0))) := ⟨h3_⟩
          have n4_ : Aside0 (w.heap.size ≤ gb119) := ⟨h4_⟩
          have n5_ : Aside0 (w.heap.size ≤ gb119) := ⟨h5_⟩
          have n6_ : Aside0 (gb101 ≠ gb119) := ⟨h6_⟩
          have n7_ : Aside0 (gb119 ≠ gb101) := ⟨h7_⟩
          have n8_ : Aside0 (gb102 ≠ gb119) := ⟨h8_⟩
          have n9_ : Aside0 (gb119 ≠ gb102) := ⟨h9_⟩
          have n10_ : Aside0 (gb103 ≠ gb119) := ⟨h10_⟩
          have n11_ : Aside0 (gb119 ≠ gb103) := ⟨h11_⟩
          have n12_ : Aside0 (Below w.heap.size w w94) := ⟨h12_⟩
          clear BK101
          clear BK102
          clear BK103
          clear HB
          clear h0_ h1_ h2_ h3_ h4_ h5_ h6_ h7_ h8_ h9_ h10_ h11_ h12_
          have BK101 := n0_
          have BK102 := n1_
          have BK103 := n2_
          have BK119 := n3_
          have GW119 := n4_
          have GE119 := n5_
          have NB101_119 := n6_
          have NB119_101 := n7_
          have NB102_119 := n8_
          have NB119_102 := n9_
          have NB103_119 := n10_
          have NB119_103 := n11_
          have HB := n12_
          clear n0_ n1_ n2_ n3_ n4_ n5_ n6_ n7_ n8_ n9_ n10_ n11_ n12_
          have hHeld : w94.cell? ⟨gb101, 0, none⟩ = some (.int .u64 a0_0) ∧ w94.cell? ⟨gb101, 1, none⟩ = some (.int .u64 a0_1) ∧ w94.cell? ⟨gb102, 0, none⟩ = some (.int .u64 a1_0) ∧ w94.cell? ⟨gb102, 1, none⟩ = some (.int .u64 a1_1) := hS_
          refine norm_ (a' := ?_) ?_ ?_
          rotate_left
          ·
           simp only [putAll, Act.put, List.setIfInBounds_toArray, List.set_cons_zero, List.set_cons_succ]
           rfl
          refine one_ (i := 19) (N := none) #[true, true, true, true, true, true, true, true, true, true, true, true, true, true, true, true, true, true, true, true, false] rfl rfl (one_of HT_.out (by kernel_rfl)) (by decide) (fun K hK => ?_)
          have hs95 : w94.cell? ⟨gb119, 0, none⟩ = some (.int .u64 0) := (blk_cell BK119.out 0).trans rfl
          have hfs95 := blk_frozen BK119.out 0
          have hns95_0 := NB101_119.out
          have hns95_1 := NB102_119.out
          have hns95_2 := NB103_119.out
          have hms95_0 := NB119_101.out
          have hms95_1 := NB119_102.out
          have hms95_2 := NB119_103.out
          have hs96 : w94.cell? ⟨gb119, 1, none⟩ = some (.int .u64 0) := (blk_cell BK119.out 1).trans rfl
          have hfs96 := blk_frozen BK119.out 1
          have hns96_0 := NB101_119.out
          have hns96_1 := NB102_119.out
          have hns96_2 := NB103_119.out
          have hms96_0 := NB119_101.out
          have hms96_1 := NB119_102.out
          have hms96_2 := NB119_103.out
          refine skip_ (w1 := ?_) (by rfl) rfl ?_ ?_
          rotate_left
          ·
           go_simp
           rfl
          refine hK.out _ _ ⟨((cell_far (p := ⟨gb119, _, none⟩) NB101_119.out _).trans (((cell_far (p := ⟨gb119, _, none⟩) NB101_119.out _).trans (hHeld.1)))), ((cell_far (p := ⟨gb119, _, none⟩) NB101_119.out _).trans (((cell_far (p := ⟨gb119, _, none⟩) NB101_119.out _).trans (hHeld.2.1)))), ((cell_far (p := ⟨gb119, _, none⟩) NB102_119.out _).trans (((cell_far (p := ⟨gb119, _, none⟩) NB102_119.out _).trans (hHeld.2.2.1)))), ((cell_far (p := ⟨gb119, _, none⟩) NB102_119.out _).trans (((cell_far (p := ⟨gb119, _, none⟩) NB102_119.out _).trans (hHeld.2.2.2))))⟩ (fun hHeld => ?_)
          clear hK K
          refine pure_ (i := 20) (N := some 8) (v := ?_) (a' := ?_) #[true, true, true, true, true, true, true, true, true, true, true, true, true, true, true, true, true, true, true, true, true] rfl rfl (any_of HT_.out (by kernel_rfl)) (fun _ _ _ h => h) (Or.inl ⟨by rfl, ?_⟩) ?_ ?_
          rotate_left
          ·
           intro w'
           go_simp
           with_reducible rfl
          rotate_left
          ·
           simp only [Act.put, List.setIfInBounds_toArray, List.set_cons_zero, List.set_cons_succ, i64_w, i32_w]
           rfl
          refine done_ (done_of HT_.out (by kernel_rfl)) ?_
          have hnb97 := NB119_101.out
          have hnc97 := NB101_119.out
          have hnb98 := NB119_102.out
          have hnc98 := NB102_119.out
          have hnb99 := NB119_103.out
          have hnc99 := NB103_119.out
          have hcz100_0 : w94.cell? ⟨gb119, 0, none⟩ = some (.int .u64 0) := (blk_cell BK119.out 0).trans rfl
          have hcz100_1 : w94.cell? ⟨gb119, 1, none⟩ = some (.int .u64 0) := (blk_cell BK119.out 1).trans rfl
          have hfz100_0 := blk_frozen BK119.out 0
          have hfz100_1 := blk_frozen BK119.out 1
          try go_wp2_with (first | ((with_reducible refine gate_callee (f := 67) rfl ?_); refine goesL_ (some 67) rfl rfl Tryd.func67 (by kernel_rfl) rfl #[.agg #[.int .u64 t116, .int .u64 t117], .int .u64 t111] rfl (by (try simp only [List.map_toArray, List.map_cons, List.map_nil]); first | done | rfl | (simp only [List.length_drop, List.length_take]; rfl)) ?_; (with_reducible refine (Podd.odds_wide_by.calls kj2 t116 t117 t111 t120 t121 t122 _ A32.out).mono ?_); rintro e w101 ⟨rfl, hb⟩; refine ⟨_, rfl, ?_⟩; have n0_ := Aside0.mk (blk_below (g := gb101) (o := .cells #[.int .u64 a0_0, .int .u64 a0_1] 47 (0, 0)) of_lies hb); have n1_ := Aside0.mk (blk_below (g := gb102) (o := .cells #[.int .u64 a1_0, .int .u64 a1_1] 47 (0, 0)) of_lies hb); have n2_ := Aside0.mk (blk_below (g := gb103) (o := .cells #[.int .u64 0, .int .u64 0] 47 (0, 0)) of_lies hb); have n3_ := Aside0.mk (blk_below (g := gb119) (o := .cells #[.int .u64 t116, .int .u64 t117] 74 (0, 0)) of_lies hb); have n4_ := Aside0.mk (below_step (low HB) hb); clear BK101; clear BK102; clear BK103; clear BK119; clear HB; have BK101 := n0_; have BK102 := n1_; have BK103 := n2_; have BK119 := n3_; have HB := n4_; clear n0_ n1_ n2_ n3_ n4_; (try clear hb); (try clear hb2); (try clear hk); (try clear hi)) | ((with_reducible refine gate_dst (N := 9) rfl ?_); refine box_event ?hg (N := 9) ?hd (cs := #[.int .u64 0, .int .u64 0]) (t := 74) ?hr ?_; (case hd => rfl); (case hg => rfl); (case hr => first | (go_simp; done) | (go_simp; rfl)); intro gb123 hg w102 hbox hb; have n0_ := Aside0.mk (blk_below (g := gb101) (o := .cells #[.int .u64 a0_0, .int .u64 a0_1] 47 (0, 0)) of_lies hb); have n1_ := Aside0.mk (blk_below (g := gb102) (o := .cells #[.int .u64 a1_0, .int .u64 a1_1] 47 (0, 0)) of_lies hb); have n2_ := Aside0.mk (blk_below (g := gb103) (o := .cells #[.int .u64 0, .int .u64 0] 47 (0, 0)) of_lies hb); have n3_ := Aside0.mk (blk_below (g := gb119) (o := .cells #[.int .u64 t116, .int .u64 t117] 74 (0, 0)) of_lies hb); have n4_ := Aside0.mk (below_step (low HB) hb); have n5_ := Aside0.mk (hbox); have n6_ := Aside0.mk ((by rw [hg]; exact (below_size (low HB)) : w.heap.size ≤ gb123)); have n7_ := Aside0.mk ((by rw [hg]; exact (below_size (low HB)) : w.heap.size ≤ gb123)); have n8_ := Aside0.mk ((by rw [hg]; exact Nat.ne_of_lt (blk_lt (g := gb101) (o := .cells #[.int .u64 a0_0, .int .u64 a0_1] 47 (0, 0)) of_lies) : gb101 ≠ gb123)); have n9_ := Aside0.mk ((by rw [hg]; exact Nat.ne_of_gt (blk_lt (g := gb101) (o := .cells #[.int .u64 a0_0, .int .u64 a0_1] 47 (0, 0)) of_lies) : gb123 ≠ gb101)); have n10_ := Aside0.mk ((by rw [hg]; exact Nat.ne_of_lt (blk_lt (g := gb102) (o := .cells #[.int .u64 a1_0, .int .u64 a1_1] 47 (0, 0)) of_lies) : gb102 ≠ gb123)); have n11_ := Aside0.mk ((by rw [hg]; exact Nat.ne_of_gt (blk_lt (g := gb102) (o := .cells #[.int .u64 a1_0, .int .u64 a1_1] 47 (0, 0)) of_lies) : gb123 ≠ gb102)); have n12_ := Aside0.mk ((by rw [hg]; exact Nat.ne_of_lt (blk_lt (g := gb103) (o := .cells #[.int .u64 0, .int .u64 0] 47 (0, 0)) of_lies) : gb103 ≠ gb123)); have n13_ := Aside0.mk ((by rw [hg]; exact Nat.ne_of_gt (blk_lt (g := gb103) (o := .cells #[.int .u64 0, .int .u64 0] 47 (0, 0)) of_lies) : gb123 ≠ gb103)); have n14_ := Aside0.mk ((by rw [hg]; exact Nat.ne_of_lt (blk_lt (g := gb119) (o := .cells #[.int .u64 t116, .int .u64 t117] 74 (0, 0)) of_lies) : gb119 ≠ gb123)); have n15_ := Aside0.mk ((by rw [hg]; exact Nat.ne_of_gt (blk_lt (g := gb119) (o := .cells #[.int .u64 t116, .int .u64 t117] 74 (0, 0)) of_lies) : gb123 ≠ gb119)); clear BK101; clear BK102; clear BK103; clear BK119; clear HB; have BK101 := n0_; have BK102 := n1_; have BK103 := n2_; have BK119 := n3_; have HB := n4_; have BK123 := n5_; have GW123 := n6_; have GE123 := n7_; have NB101_123 := n8_; have NB123_101 := n9_; have NB102_123 := n10_; have NB123_102 := n11_; have NB103_123 := n12_; have NB123_103 := n13_; have NB119_123 := n14_; have NB123_119 := n15_; clear n0_ n1_ n2_ n3_ n4_ n5_ n6_ n7_ n8_ n9_ n10_ n11_ n12_ n13_ n14_ n15_; clear hb hbox hg; have hnb103 := NB123_101.out; have hnc103 := NB101_123.out; have hnb104 := NB123_102.out; have hnc104 := NB102_123.out; have hnb105 := NB123_103.out; have hnc105 := NB103_123.out; have hnb106 := NB123_119.out; have hnc106 := NB119_123.out; obtain ⟨hcz107_0, hcz107_1, hfz107_0, hfz107_1⟩ := cells2 BK123.out) | ((with_reducible refine gate_callee (f := 65) rfl ?_); refine goesL_ (some 72) rfl rfl Tryd.func65 (by kernel_rfl) rfl #[.int .u64 t111, .int .u64 t122] rfl (by (try simp only [List.map_toArray, List.map_cons, List.map_nil]); first | done | rfl | (simp only [List.length_drop, List.length_take]; rfl)) ?_; (with_reducible refine (Podd.odds_divisor.calls kj2 t111 t122 t124 _ A33.out).mono ?_); rintro e w' ⟨rfl, ⟨nd, rfl⟩⟩; refine ⟨_, rfl, ?_⟩))
          have n0_ : Aside0 (((w102.setCell ⟨gb123, 0, none⟩ (.int .u64 t120)).setCell ⟨gb123, 1, none⟩ (.int .u64 t121)).heap[gb101]? = some (.cells #[.int .u64 a0_0, .int .u64 a0_1] 47 (0, 0))) := ⟨of_lies⟩
          have n1_ : Aside0 (((w102.setCell ⟨gb123, 0, none⟩ (.int .u64 t120)).setCell ⟨gb123, 1, none⟩ (.int .u64 t121)).heap[gb102]? = some (.cells #[.int .u64 a1_0, .int .u64 a1_1] 47 (0, 0))) := ⟨of_lies⟩
          have n2_ : Aside0 (((w102.setCell ⟨gb123, 0, none⟩ (.int .u64 t120)).setCell ⟨gb123, 1, none⟩ (.int .u64 t121)).heap[gb103]? = some (.cells #[.int .u64 0, .int .u64 0] 47 (0, 0))) := ⟨of_lies⟩
          have n3_ : Aside0 (((w102.setCell ⟨gb123, 0, none⟩ (.int .u64 t120)).setCell ⟨gb123, 1, none⟩ (.int .u64 t121)).heap[gb119]? = some (.cells #[.int .u64 t116, .int .u64 t117] 74 (0, 0))) := ⟨of_lies⟩
          have n4_ : Aside0 (((w102.setCell ⟨gb123, 0, none⟩ (.int .u64 t120)).setCell ⟨gb123, 1, none⟩ (.int .u64 t121)).heap[gb123]? = some (.cells #[.int .u64 t120, .int .u64 t121] 74 (0, 0))) := ⟨of_lies⟩
          have n5_ : Aside0 (Below w.heap.size w ((w102.setCell ⟨gb123, 0, none⟩ (.int .u64 t120)).setCell ⟨gb123, 1, none⟩ (.int .u64 t121))) := ⟨low HB⟩
          (try clear BK101)
          (try clear BK102)
          (try clear BK103)
          (try clear BK119)
          (try clear BK123)
          (try clear HB)
          generalize ((w102.setCell ⟨gb123, 0, none⟩ (.int .u64 t120)).setCell ⟨gb123, 1, none⟩ (.int .u64 t121)) = w108 at n0_ n1_ n2_ n3_ n4_ n5_ ⊢
          have BK101 := n0_
          have BK102 := n1_
          have BK103 := n2_
          have BK119 := n3_
          have BK123 := n4_
          have HB := n5_
          clear n0_ n1_ n2_ n3_ n4_ n5_
          (try (rw [drewN_self w108]; generalize hq_ : World.drewN w108 _ = w108; have n0_ : Aside0 (w108.heap[gb101]? = some (.cells #[.int .u64 a0_0, .int .u64 a0_1] 47 (0, 0))) := ⟨by rw [← hq_]; exact of_lies⟩; have n1_ : Aside0 (w108.heap[gb102]? = some (.cells #[.int .u64 a1_0, .int .u64 a1_1] 47 (0, 0))) := ⟨by rw [← hq_]; exact of_lies⟩; have n2_ : Aside0 (w108.heap[gb103]? = some (.cells #[.int .u64 0, .int .u64 0] 47 (0, 0))) := ⟨by rw [← hq_]; exact of_lies⟩; have n3_ : Aside0 (w108.heap[gb119]? = some (.cells #[.int .u64 t116, .int .u64 t117] 74 (0, 0))) := ⟨by rw [← hq_]; exact of_lies⟩; have n4_ : Aside0 (w108.heap[gb123]? = some (.cells #[.int .u64 t120, .int .u64 t121] 74 (0, 0))) := ⟨by rw [← hq_]; exact of_lies⟩; have n5_ : Aside0 (Below w.heap.size w w108) := ⟨by rw [← hq_]; exact (low HB)⟩; clear BK101 BK102 BK103 BK119 BK123 HB hq_; have BK101 := n0_; have BK102 := n1_; have BK103 := n2_; have BK119 := n3_; have BK123 := n4_; have HB := n5_; clear n0_ n1_ n2_ n3_ n4_ n5_))
          have n0_ := Aside0.mk (blk_drew BK101.out)
          have n1_ := Aside0.mk (blk_drew BK102.out)
          have n2_ := Aside0.mk (blk_drew BK103.out)
          have n3_ := Aside0.mk (blk_drew BK119.out)
          have n4_ := Aside0.mk (blk_drew BK123.out)
          have n5_ := Aside0.mk (below_drew1 HB.out)
          clear BK101
          clear BK102
          clear BK103
          clear BK119
          clear BK123
          clear HB
          have BK101 := n0_
          have BK102 := n1_
          have BK103 := n2_
          have BK119 := n3_
          have BK123 := n4_
          have HB := n5_
          clear n0_ n1_ n2_ n3_ n4_ n5_
          refine start_ (n := 11) (S := fun w' => w'.cell? ⟨gb101, 0, none⟩ = some (.int .u64 a0_0) ∧ w'.cell? ⟨gb101, 1, none⟩ = some (.int .u64 a0_1) ∧ w'.cell? ⟨gb102, 0, none⟩ = some (.int .u64 a1_0) ∧ w'.cell? ⟨gb102, 1, none⟩ = some (.int .u64 a1_1)) (ds := []) #[false, false, false, false, false, false, false, false, false, false, false] (by kernel_rfl) rfl rfl ⟨(blk_cell BK101.out 0).trans rfl, (blk_cell BK101.out 1).trans rfl, (blk_cell BK102.out 0).trans rfl, (blk_cell BK102.out 1).trans rfl⟩ (fun hHeld => ?_); refine with_tabW odds_Sum.tab11 odds_Sum.bits11 (fun HT_ HW_ => ?_)
          generalize w108.drew = w109 at BK101 BK102 BK103 BK119 BK123 HB hHeld ⊢
          refine pure_ (i := 0) (N := some 73) (v := ?_) (a' := ?_) #[true, false, false, false, false, false, false, false, false, false, false] rfl rfl (any_of HT_.out (by kernel_rfl)) (fun _ _ _ h => h) (Or.inl ⟨by rfl, ?_⟩) ?_ ?_
          rotate_left
          ·
           intro w'
           go_simp
           with_reducible rfl
          rotate_left
          ·
           simp only [Act.put, List.setIfInBounds_toArray, List.set_cons_zero, List.set_cons_succ, i64_w, i32_w]
           rfl
          refine pure_ (i := 2) (N := some 75) (v := ?_) (a' := ?_) #[true, false, true, false, false, false, false, false, false, false, false] rfl rfl (any_of HT_.out (by kernel_rfl)) (fun _ _ _ h => h) (Or.inl ⟨by rfl, ?_⟩) ?_ ?_
          rotate_left
          ·
           intro w'
           go_simp
           with_reducible rfl
          rotate_left
          ·
           simp only [Act.put, List.setIfInBounds_toArray, List.set_cons_zero, List.set_cons_succ, i64_w, i32_w]
           rfl
          refine pure_ (i := 4) (N := some 77) (v := ?_) (a' := ?_) #[true, false, true, false, true, false, false, false, false, false, false] rfl rfl (any_of HT_.out (by kernel_rfl)) (fun _ _ _ h => h) (Or.inl ⟨by rfl, ?_⟩) ?_ ?_
          rotate_left
          ·
           intro w'
           go_simp
           with_reducible rfl
          rotate_left
          ·
           simp only [Act.put, List.setIfInBounds_toArray, List.set_cons_zero, List.set_cons_succ, i64_w, i32_w]
           rfl
          refine pure_ (i := 6) (N := some 79) (v := ?_) (a' := ?_) #[true, false, true, false, true, false, true, false, false, false, false] rfl rfl (any_of HT_.out (by kernel_rfl)) (fun _ _ _ h => h) (Or.inl ⟨by rfl, ?_⟩) ?_ ?_
          rotate_left
          ·
           intro w'
           go_simp
           with_reducible rfl
          rotate_left
          ·
           simp only [Act.put, List.setIfInBounds_toArray, List.set_cons_zero, List.set_cons_succ, i64_w, i32_w]
           rfl
          refine take_ (i := 1) (N := some 74) (v := ?_) (a' := ?_) #[true, true, true, false, true, false, true, false, false, false, false] rfl rfl (take_ofW HT_.out HW_.out (by kernel_rfl)) (fun _ _ _ h => h) (Or.inl ⟨by rfl, ?_⟩) hHeld ?_ ?_
          rotate_left
          ·
           rintro w' ⟨s0, s1, s2, s3⟩
           go_simp
           with_reducible rfl
          rotate_left
          ·
           simp only [Act.put, List.setIfInBounds_toArray, List.set_cons_zero, List.set_cons_succ, i64_w, i32_w]
           rfl
          refine pure_ (i := 3) (N := some 76) (v := ?_) (a' := ?_) #[true, true, true, true, true, false, true, false, false, false, false] rfl rfl (any_of HT_.out (by kernel_rfl)) (fun _ _ _ h => h) (Or.inl ⟨by rfl, ?_⟩) ?_ ?_
          rotate_left
          ·
           intro w'
           go_simp
           with_reducible rfl
          rotate_left
          ·
           simp only [Act.put, List.setIfInBounds_toArray, List.set_cons_zero, List.set_cons_succ, i64_w, i32_w]
           rfl
          refine take_ (i := 5) (N := some 78) (v := ?_) (a' := ?_) #[true, true, true, true, true, true, true, false, false, false, false] rfl rfl (take_ofW HT_.out HW_.out (by kernel_rfl)) (fun _ _ _ h => h) (Or.inl ⟨by rfl, ?_⟩) hHeld ?_ ?_
          rotate_left
          ·
           rintro w' ⟨s0, s1, s2, s3⟩
           go_simp
           with_reducible rfl
          rotate_left
          ·
           simp only [Act.put, List.setIfInBounds_toArray, List.set_cons_zero, List.set_cons_succ, i64_w, i32_w]
           rfl
          refine pure_ (i := 7) (N := some 80) (v := ?_) (a' := ?_) #[true, true, true, true, true, true, true, true, false, false, false] rfl rfl (any_of HT_.out (by kernel_rfl)) (fun _ _ _ h => h) (Or.inl ⟨by rfl, ?_⟩) ?_ ?_
          rotate_left
          ·
           intro w'
           go_simp
           with_reducible rfl
          rotate_left
          ·
           simp only [Act.put, List.setIfInBounds_toArray, List.set_cons_zero, List.set_cons_succ, i64_w, i32_w]
           rfl
          refine join_ (σ := Nat) 1 #[true, true, true, true, true, true, true, true, true, true, false] (fun s_ => [(81, .agg #[.int .u64 t125, .int .u64 t126]), (12, .pointer (some ⟨s_, 0, none⟩))]) (fun s_ w' => (w'.cell? ⟨gb101, 0, none⟩ = some (.int .u64 a0_0) ∧ w'.cell? ⟨gb101, 1, none⟩ = some (.int .u64 a0_1) ∧ w'.cell? ⟨gb102, 0, none⟩ = some (.int .u64 a1_0) ∧ w'.cell? ⟨gb102, 1, none⟩ = some (.int .u64 a1_1)) ∧ (w'.heap[gb101]? = some (.cells #[.int .u64 a0_0, .int .u64 a0_1] 47 (0, 0))) ∧ (w'.heap[gb102]? = some (.cells #[.int .u64 a1_0, .int .u64 a1_1] 47 (0, 0))) ∧ (w'.heap[gb103]? = some (.cells #[.int .u64 0, .int .u64 0] 47 (0, 0))) ∧ (w'.heap[gb119]? = some (.cells #[.int .u64 t116, .int .u64 t117] 74 (0, 0))) ∧ (w'.heap[gb123]? = some (.cells #[.int .u64 t120, .int .u64 t121] 74 (0, 0))) ∧ (w'.heap[s_]? = some (.cells #[.int .u64 0, .int .u64 0] 74 (0, 0))) ∧ (w.heap.size ≤ s_) ∧ (w.heap.size ≤ s_) ∧ (gb101 ≠ s_) ∧ (s_ ≠ gb101) ∧ (gb102 ≠ s_) ∧ (s_ ≠ gb102) ∧ (gb103 ≠ s_) ∧ (s_ ≠ gb103) ∧ (gb119 ≠ s_) ∧ (s_ ≠ gb119) ∧ (gb123 ≠ s_) ∧ (s_ ≠ gb123) ∧ (Below w.heap.size w w')) ?_ ?_
          rotate_left
          ·
           intro hCont
           refine two_ (i := 8) (j := 9) (Ni := some 81) (Nj := some 12) #[true, true, true, true, true, true, true, true, true, false, false] #[true, true, true, true, true, true, true, true, false, true, false] rfl rfl rfl rfl (two_of HT_.out (by kernel_rfl)) (by decide) (by decide) (fun K hK => ?_) (fun K hK => ?_)
           ·
            skip
            refine goes_ Tryd.func63 (by kernel_rfl) rfl #[.int .u64 (IntKind.u64.wrap (Int.tdiv a0_1 t111)), .int .u64 (IntKind.u64.wrap (Int.tdiv a1_1 t124))] (by rfl) rfl rfl (by (try simp only [List.map_toArray, List.map_cons, List.map_nil]); first | done | rfl | (simp only [List.length_drop, List.length_take]; rfl)) ?_
            with_reducible refine (Podd.odds_times.calls (IntKind.u64.wrap (Int.tdiv a0_1 t111)) (IntKind.u64.wrap (Int.tdiv a1_1 t124)) t125 t126 _ A35.out).mono ?_
            rintro e w110 ⟨rfl, hb⟩
            refine ⟨_, rfl, ?_⟩
            have n0_ := Aside0.mk (blk_below (g := gb101) (o := .cells #[.int .u64 a0_0, .int .u64 a0_1] 47 (0, 0)) of_lies hb)
            have n1_ := Aside0.mk (blk_below (g := gb102) (o := .cells #[.int .u64 a1_0, .int .u64 a1_1] 47 (0, 0)) of_lies hb)
            have n2_ := Aside0.mk (blk_below (g := gb103) (o := .cells #[.int .u64 0, .int .u64 0] 47 (0, 0)) of_lies hb)
            have n3_ := Aside0.mk (blk_below (g := gb119) (o := .cells #[.int .u64 t116, .int .u64 t117] 74 (0, 0)) of_lies hb)
            have n4_ := Aside0.mk (blk_below (g := gb123) (o := .cells #[.int .u64 t120, .int .u64 t121] 74 (0, 0)) of_lies hb)
            have n5_ := Aside0.mk (below_step (low HB) hb)
            clear BK101
            clear BK102
            clear BK103
            clear BK119
            clear BK123
            clear HB
            have BK101 := n0_
            have BK102 := n1_
            have BK103 := n2_
            have BK119 := n3_
            have BK123 := n4_
            have HB := n5_
            clear n0_ n1_ n2_ n3_ n4_ n5_
            (try clear hb)
            (try clear hb2)
            (try clear hk)
            (try clear hi)
            refine hK.out _ _ ⟨(blk_cell BK101.out 0).trans rfl, (blk_cell BK101.out 1).trans rfl, (blk_cell BK102.out 0).trans rfl, (blk_cell BK102.out 1).trans rfl⟩ (fun hHeld => ?_)
            clear hK K
            refine norm_ (a' := ?_) ?_ ?_
            rotate_left
            ·
             show Act.put _ (some 81) _ = _
             simp only [Act.put, List.setIfInBounds_toArray, List.set_cons_zero, List.set_cons_succ, i64_w, i32_w]
             rfl
            refine one_ (i := 9) (N := some 12) #[true, true, true, true, true, true, true, true, true, true, false] rfl rfl (one_of HT_.out (by kernel_rfl)) (by decide) (fun K hK => ?_)
            refine box_step ?hg (N := 12) ?hd (cs := #[.int .u64 0, .int .u64 0]) (t := 74) ?hr ?_; (case hd => rfl); (case hg => rfl); (case hr => first | (go_simp; done) | (go_simp; rfl))
            intro gb127 hg w111 hbox hb
            have n0_ := Aside0.mk (blk_below (g := gb101) (o := .cells #[.int .u64 a0_0, .int .u64 a0_1] 47 (0, 0)) of_lies hb)
            have n1_ := Aside0.mk (blk_below (g := gb102) (o := .cells #[.int .u64 a1_0, .int .u64 a1_1] 47 (0, 0)) of_lies hb)
            have n2_ := Aside0.mk (blk_below (g := gb103) (o := .cells #[.int .u64 0, .int .u64 0] 47 (0, 0)) of_lies hb)
            have n3_ := Aside0.mk (blk_below (g := gb119) (o := .cells #[.int .u64 t116, .int .u64 t117] 74 (0, 0)) of_lies hb)
            have n4_ := Aside0.mk (blk_below (g := gb123) (o := .cells #[.int .u64 t120, .int .u64 t121] 74 (0, 0)) of_lies hb)
            have n5_ := Aside0.mk (below_step (low HB) hb)
            have n6_ := Aside0.mk (hbox)
            have n7_ := Aside0.mk ((by rw [hg]; exact (below_size (low HB)) : w.heap.size ≤ gb127))
            have n8_ := Aside0.mk ((by rw [hg]; exact (below_size (low HB)) : w.heap.size ≤ gb127))
            have n9_ := Aside0.mk ((by rw [hg]; exact Nat.ne_of_lt (blk_lt (g := gb101) (o := .cells #[.int .u64 a0_0, .int .u64 a0_1] 47 (0, 0)) of_lies) : gb101 ≠ gb127))
            have n10_ := Aside0.mk ((by rw [hg]; exact Nat.ne_of_gt (blk_lt (g := gb101) (o := .cells #[.int .u64 a0_0, .int .u64 a0_1] 47 (0, 0)) of_lies) : gb127 ≠ gb101))
            have n11_ := Aside0.mk ((by rw [hg]; exact Nat.ne_of_lt (blk_lt (g := gb102) (o := .cells #[.int .u64 a1_0, .int .u64 a1_1] 47 (0, 0)) of_lies) : gb102 ≠ gb127))
            have n12_ := Aside0.mk ((by rw [hg]; exact Nat.ne_of_gt (blk_lt (g := gb102) (o := .cells #[.int .u64 a1_0, .int .u64 a1_1] 47 (0, 0)) of_lies) : gb127 ≠ gb102))
            have n13_ := Aside0.mk ((by rw [hg]; exact Nat.ne_of_lt (blk_lt (g := gb103) (o := .cells #[.int .u64 0, .int .u64 0] 47 (0, 0)) of_lies) : gb103 ≠ gb127))
            have n14_ := Aside0.mk ((by rw [hg]; exact Nat.ne_of_gt (blk_lt (g := gb103) (o := .cells #[.int .u64 0, .int .u64 0] 47 (0, 0)) of_lies) : gb127 ≠ gb103))
            have n15_ := Aside0.mk ((by rw [hg]; exact Nat.ne_of_lt (blk_lt (g := gb119) (o := .cells #[.int .u64 t116, .int .u64 t117] 74 (0, 0)) of_lies) : gb119 ≠ gb127))
            have n16_ := Aside0.mk ((by rw [hg]; exact Nat.ne_of_gt (blk_lt (g := gb119) (o := .cells #[.int .u64 t116, .int .u64 t117] 74 (0, 0)) of_lies) : gb127 ≠ gb119))
            have n17_ := Aside0.mk ((by rw [hg]; exact Nat.ne_of_lt (blk_lt (g := gb123) (o := .cells #[.int .u64 t120, .int .u64 t121] 74 (0, 0)) of_lies) : gb123 ≠ gb127))
            have n18_ := Aside0.mk ((by rw [hg]; exact Nat.ne_of_gt (blk_lt (g := gb123) (o := .cells #[.int .u64 t120, .int .u64 t121] 74 (0, 0)) of_lies) : gb127 ≠ gb123))
            clear BK101
            clear BK102
            clear BK103
            clear BK119
            clear BK123
            clear HB
            have BK101 := n0_
            have BK102 := n1_
            have BK103 := n2_
            have BK119 := n3_
            have BK123 := n4_
            have HB := n5_
            have BK127 := n6_
            have GW127 := n7_
            have GE127 := n8_
            have NB101_127 := n9_
            have NB127_101 := n10_
            have NB102_127 := n11_
            have NB127_102 := n12_
            have NB103_127 := n13_
            have NB127_103 := n14_
            have NB119_127 := n15_
            have NB127_119 := n16_
            have NB123_127 := n17_
            have NB127_123 := n18_
            clear n0_ n1_ n2_ n3_ n4_ n5_ n6_ n7_ n8_ n9_ n10_ n11_ n12_ n13_ n14_ n15_ n16_ n17_ n18_
            clear hb hbox hg
            refine hK.out _ _ ⟨(blk_cell BK101.out 0).trans rfl, (blk_cell BK101.out 1).trans rfl, (blk_cell BK102.out 0).trans rfl, (blk_cell BK102.out 1).trans rfl⟩ (fun hHeld => ?_)
            clear hK K
            refine norm_ (a' := ?_) ?_ ?_
            rotate_left
            ·
             show Act.put _ (some 12) _ = _
             simp only [Act.put, List.setIfInBounds_toArray, List.set_cons_zero, List.set_cons_succ, i64_w, i32_w]
             rfl
            exact norm_ (by simp only [putAll, Act.put, List.setIfInBounds_toArray, List.set_cons_zero, List.set_cons_succ]) (hCont (gb127) _ ⟨hHeld, of_lies, of_lies, of_lies, of_lies, of_lies, of_lies, GW127.out, GE127.out, NB101_127.out, NB127_101.out, NB102_127.out, NB127_102.out, NB103_127.out, NB127_103.out, NB119_127.out, NB127_119.out, NB123_127.out, NB127_123.out, (low HB)⟩)
           ·
            skip
            refine box_step ?hg (N := 12) ?hd (cs := #[.int .u64 0, .int .u64 0]) (t := 74) ?hr ?_; (case hd => rfl); (case hg => rfl); (case hr => first | (go_simp; done) | (go_simp; rfl))
            intro gb127 hg w110 hbox hb
            have n0_ := Aside0.mk (blk_below (g := gb101) (o := .cells #[.int .u64 a0_0, .int .u64 a0_1] 47 (0, 0)) of_lies hb)
            have n1_ := Aside0.mk (blk_below (g := gb102) (o := .cells #[.int .u64 a1_0, .int .u64 a1_1] 47 (0, 0)) of_lies hb)
            have n2_ := Aside0.mk (blk_below (g := gb103) (o := .cells #[.int .u64 0, .int .u64 0] 47 (0, 0)) of_lies hb)
            have n3_ := Aside0.mk (blk_below (g := gb119) (o := .cells #[.int .u64 t116, .int .u64 t117] 74 (0, 0)) of_lies hb)
            have n4_ := Aside0.mk (blk_below (g := gb123) (o := .cells #[.int .u64 t120, .int .u64 t121] 74 (0, 0)) of_lies hb)
            have n5_ := Aside0.mk (below_step (low HB) hb)
            have n6_ := Aside0.mk (hbox)
            have n7_ := Aside0.mk ((by rw [hg]; exact (below_size (low HB)) : w.heap.size ≤ gb127))
            have n8_ := Aside0.mk ((by rw [hg]; exact (below_size (low HB)) : w.heap.size ≤ gb127))
            have n9_ := Aside0.mk ((by rw [hg]; exact Nat.ne_of_lt (blk_lt (g := gb101) (o := .cells #[.int .u64 a0_0, .int .u64 a0_1] 47 (0, 0)) of_lies) : gb101 ≠ gb127))
            have n10_ := Aside0.mk ((by rw [hg]; exact Nat.ne_of_gt (blk_lt (g := gb101) (o := .cells #[.int .u64 a0_0, .int .u64 a0_1] 47 (0, 0)) of_lies) : gb127 ≠ gb101))
            have n11_ := Aside0.mk ((by rw [hg]; exact Nat.ne_of_lt (blk_lt (g := gb102) (o := .cells #[.int .u64 a1_0, .int .u64 a1_1] 47 (0, 0)) of_lies) : gb102 ≠ gb127))
            have n12_ := Aside0.mk ((by rw [hg]; exact Nat.ne_of_gt (blk_lt (g := gb102) (o := .cells #[.int .u64 a1_0, .int .u64 a1_1] 47 (0, 0)) of_lies) : gb127 ≠ gb102))
            have n13_ := Aside0.mk ((by rw [hg]; exact Nat.ne_of_lt (blk_lt (g := gb103) (o := .cells #[.int .u64 0, .int .u64 0] 47 (0, 0)) of_lies) : gb103 ≠ gb127))
            have n14_ := Aside0.mk ((by rw [hg]; exact Nat.ne_of_gt (blk_lt (g := gb103) (o := .cells #[.int .u64 0, .int .u64 0] 47 (0, 0)) of_lies) : gb127 ≠ gb103))
            have n15_ := Aside0.mk ((by rw [hg]; exact Nat.ne_of_lt (blk_lt (g := gb119) (o := .cells #[.int .u64 t116, .int .u64 t117] 74 (0, 0)) of_lies) : gb119 ≠ gb127))
            have n16_ := Aside0.mk ((by rw [hg]; exact Nat.ne_of_gt (blk_lt (g := gb119) (o := .cells #[.int .u64 t116, .int .u64 t117] 74 (0, 0)) of_lies) : gb127 ≠ gb119))
            have n17_ := Aside0.mk ((by rw [hg]; exact Nat.ne_of_lt (blk_lt (g := gb123) (o := .cells #[.int .u64 t120, .int .u64 t121] 74 (0, 0)) of_lies) : gb123 ≠ gb127))
            have n18_ := Aside0.mk ((by rw [hg]; exact Nat.ne_of_gt (blk_lt (g := gb123) (o := .cells #[.int .u64 t120, .int .u64 t121] 74 (0, 0)) of_lies) : gb127 ≠ gb123))
            clear BK101
            clear BK102
            clear BK103
            clear BK119
            clear BK123
            clear HB
            have BK101 := n0_
            have BK102 := n1_
            have BK103 := n2_
            have BK119 := n3_
            have BK123 := n4_
            have HB := n5_
            have BK127 := n6_
            have GW127 := n7_
            have GE127 := n8_
            have NB101_127 := n9_
            have NB127_101 := n10_
            have NB102_127 := n11_
            have NB127_102 := n12_
            have NB103_127 := n13_
            have NB127_103 := n14_
            have NB119_127 := n15_
            have NB127_119 := n16_
            have NB123_127 := n17_
            have NB127_123 := n18_
            clear n0_ n1_ n2_ n3_ n4_ n5_ n6_ n7_ n8_ n9_ n10_ n11_ n12_ n13_ n14_ n15_ n16_ n17_ n18_
            clear hb hbox hg
            refine hK.out _ _ ⟨(blk_cell BK101.out 0).trans rfl, (blk_cell BK101.out 1).trans rfl, (blk_cell BK102.out 0).trans rfl, (blk_cell BK102.out 1).trans rfl⟩ (fun hHeld => ?_)
            clear hK K
            refine norm_ (a' := ?_) ?_ ?_
            rotate_left
            ·
             show Act.put _ (some 12) _ = _
             simp only [Act.put, List.setIfInBounds_toArray, List.set_cons_zero, List.set_cons_succ, i64_w, i32_w]
             rfl
            refine one_ (i := 8) (N := some 81) #[true, true, true, true, true, true, true, true, true, true, false] rfl rfl (one_of HT_.out (by kernel_rfl)) (by decide) (fun K hK => ?_)
            refine goes_ Tryd.func63 (by kernel_rfl) rfl #[.int .u64 (IntKind.u64.wrap (Int.tdiv a0_1 t111)), .int .u64 (IntKind.u64.wrap (Int.tdiv a1_1 t124))] (by rfl) rfl rfl (by (try simp only [List.map_toArray, List.map_cons, List.map_nil]); first | done | rfl | (simp only [List.length_drop, List.length_take]; rfl)) ?_
            with_reducible refine (Podd.odds_times.calls (IntKind.u64.wrap (Int.tdiv a0_1 t111)) (IntKind.u64.wrap (Int.tdiv a1_1 t124)) t125 t126 _ A35.out).mono ?_
            rintro e w111 ⟨rfl, hb⟩
            refine ⟨_, rfl, ?_⟩
            have n0_ := Aside0.mk (blk_below (g := gb101) (o := .cells #[.int .u64 a0_0, .int .u64 a0_1] 47 (0, 0)) of_lies hb)
            have n1_ := Aside0.mk (blk_below (g := gb102) (o := .cells #[.int .u64 a1_0, .int .u64 a1_1] 47 (0, 0)) of_lies hb)
            have n2_ := Aside0.mk (blk_below (g := gb103) (o := .cells #[.int .u64 0, .int .u64 0] 47 (0, 0)) of_lies hb)
            have n3_ := Aside0.mk (blk_below (g := gb119) (o := .cells #[.int .u64 t116, .int .u64 t117] 74 (0, 0)) of_lies hb)
            have n4_ := Aside0.mk (blk_below (g := gb123) (o := .cells #[.int .u64 t120, .int .u64 t121] 74 (0, 0)) of_lies hb)
            have n5_ := Aside0.mk (blk_below (g := gb127) (o := .cells #[.int .u64 0, .int .u64 0] 74 (0, 0)) of_lies hb)
            have n6_ := Aside0.mk (below_step (low HB) hb)
            clear BK101
            clear BK102
            clear BK103
            clear BK119
            clear BK123
            clear BK127
            clear HB
            have BK101 := n0_
            have BK102 := n1_
            have BK103 := n2_
            have BK119 := n3_
            have BK123 := n4_
            have BK127 := n5_
            have HB := n6_
            clear n0_ n1_ n2_ n3_ n4_ n5_ n6_
            (try clear hb)
            (try clear hb2)
            (try clear hk)
            (try clear hi)
            refine hK.out _ _ ⟨(blk_cell BK101.out 0).trans rfl, (blk_cell BK101.out 1).trans rfl, (blk_cell BK102.out 0).trans rfl, (blk_cell BK102.out 1).trans rfl⟩ (fun hHeld => ?_)
            clear hK K
            refine norm_ (a' := ?_) ?_ ?_
            rotate_left
            ·
             show Act.put _ (some 81) _ = _
             simp only [Act.put, List.setIfInBounds_toArray, List.set_cons_zero, List.set_cons_succ, i64_w, i32_w]
             rfl
            exact norm_ (by simp only [putAll, Act.put, List.setIfInBounds_toArray, List.set_cons_zero, List.set_cons_succ]) (hCont (gb127) _ ⟨hHeld, of_lies, of_lies, of_lies, of_lies, of_lies, of_lies, GW127.out, GE127.out, NB101_127.out, NB127_101.out, NB102_127.out, NB127_102.out, NB103_127.out, NB127_103.out, NB119_127.out, NB127_119.out, NB123_127.out, NB127_123.out, (low HB)⟩)
          rintro gb127 w112 ⟨hS_, h0_, h1_, h2_, h3_, h4_, h5_, h6_, h7_, h8_, h9_, h10_, h11_, h12_, h13_, h14_, h15_, h16_, h17_, h18_⟩
          have n0_ : Aside0 (w112.heap[gb101]? = some (.cells #[.int .u64 a0_0, .int .u64 a0_1] 47 (0, 0))) := ⟨h0_⟩
          have n1_ : Aside0 (w112.heap[gb102]? = some (.cells #[.int .u64 a1_0, .int .u64 a1_1] 47 (0, 0))) := ⟨h1_⟩
          have n2_ : Aside0 (w112.heap[gb103]? = some (.cells #[.int .u64 0, .int .u64 0] 47 (0, 0))) := ⟨h2_⟩
          have n3_ : Aside0 (w112.heap[gb119]? = some (.cells #[.int .u64 t116, .int .u64 t117] 74 (0, 0))) := ⟨h3_⟩
          have n4_ : Aside0 (w112.heap[gb123]? = some (.cells #[.int .u64 t120, .int .u64 t121] 74 (0, 0))) := ⟨h4_⟩
          have n5_ : Aside0 (w112.heap[gb127]? = some (.cells #[.int .u64 0, .int .u64 0] 74 (0, 0))) := ⟨h5_⟩
          have n6_ : Aside0 (w.heap.size ≤ gb127) := ⟨h6_⟩
          have n7_ : Aside0 (w.heap.size ≤ gb127) := ⟨h7_⟩
          have n8_ : Aside0 (gb101 ≠ gb127) := ⟨h8_⟩
          have n9_ : Aside0 (gb127 ≠ gb101) := ⟨h9_⟩
          have n10_ : Aside0 (gb102 ≠ gb127) := ⟨h10_⟩
          have n11_ : Aside0 (gb127 ≠ gb102) := ⟨h11_⟩
          have n12_ : Aside0 (gb103 ≠ gb127) := ⟨h12_⟩
          have n13_ : Aside0 (gb127 ≠ gb103) := ⟨h13_⟩
          have n14_ : Aside0 (gb119 ≠ gb127) := ⟨h14_⟩
          have n15_ : Aside0 (gb127 ≠ gb119) := ⟨h15_⟩
          have n16_ : Aside0 (gb123 ≠ gb127) := ⟨h16_⟩
          have n17_ : Aside0 (gb127 ≠ gb123) := ⟨h17_⟩
          have n18_ : Aside0 (Below w.heap.size w w112) := ⟨h18_⟩
          clear BK101
          clear BK102
          clear BK103
          clear BK119
          clear BK123
          clear HB
          clear h0_ h1_ h2_ h3_ h4_ h5_ h6_ h7_ h8_ h9_ h10_ h11_ h12_ h13_ h14_ h15_ h16_ h17_ h18_
          have BK101 := n0_
          have BK102 := n1_
          have BK103 := n2_
          have BK119 := n3_
          have BK123 := n4_
          have BK127 := n5_
          have GW127 := n6_
          have GE127 := n7_
          have NB101_127 := n8_
          have NB127_101 := n9_
          have NB102_127 := n10_
          have NB127_102 := n11_
          have NB103_127 := n12_
          have NB127_103 := n13_
          have NB119_127 := n14_
          have NB127_119 := n15_
          have NB123_127 := n16_
          have NB127_123 := n17_
          have HB := n18_
          clear n0_ n1_ n2_ n3_ n4_ n5_ n6_ n7_ n8_ n9_ n10_ n11_ n12_ n13_ n14_ n15_ n16_ n17_ n18_
          have hHeld : w112.cell? ⟨gb101, 0, none⟩ = some (.int .u64 a0_0) ∧ w112.cell? ⟨gb101, 1, none⟩ = some (.int .u64 a0_1) ∧ w112.cell? ⟨gb102, 0, none⟩ = some (.int .u64 a1_0) ∧ w112.cell? ⟨gb102, 1, none⟩ = some (.int .u64 a1_1) := hS_
          refine norm_ (a' := ?_) ?_ ?_
          rotate_left
          ·
           simp only [putAll, Act.put, List.setIfInBounds_toArray, List.set_cons_zero, List.set_cons_succ]
           rfl
          refine one_ (i := 10) (N := none) #[true, true, true, true, true, true, true, true, true, true, true] rfl rfl (one_of HT_.out (by kernel_rfl)) (by decide) (fun K hK => ?_)
          have hs113 : w112.cell? ⟨gb127, 0, none⟩ = some (.int .u64 0) := (blk_cell BK127.out 0).trans rfl
          have hfs113 := blk_frozen BK127.out 0
          have hns113_0 := NB101_127.out
          have hns113_1 := NB102_127.out
          have hns113_2 := NB103_127.out
          have hns113_3 := NB119_127.out
          have hns113_4 := NB123_127.out
          have hms113_0 := NB127_101.out
          have hms113_1 := NB127_102.out
          have hms113_2 := NB127_103.out
          have hms113_3 := NB127_119.out
          have hms113_4 := NB127_123.out
          have hs114 : w112.cell? ⟨gb127, 1, none⟩ = some (.int .u64 0) := (blk_cell BK127.out 1).trans rfl
          have hfs114 := blk_frozen BK127.out 1
          have hns114_0 := NB101_127.out
          have hns114_1 := NB102_127.out
          have hns114_2 := NB103_127.out
          have hns114_3 := NB119_127.out
          have hns114_4 := NB123_127.out
          have hms114_0 := NB127_101.out
          have hms114_1 := NB127_102.out
          have hms114_2 := NB127_103.out
          have hms114_3 := NB127_119.out
          have hms114_4 := NB127_123.out
          refine skip_ (w1 := ?_) (by rfl) rfl ?_ ?_
          rotate_left
          ·
           go_simp
           rfl
          refine hK.out _ _ ⟨((cell_far (p := ⟨gb127, _, none⟩) NB101_127.out _).trans (((cell_far (p := ⟨gb127, _, none⟩) NB101_127.out _).trans (hHeld.1)))), ((cell_far (p := ⟨gb127, _, none⟩) NB101_127.out _).trans (((cell_far (p := ⟨gb127, _, none⟩) NB101_127.out _).trans (hHeld.2.1)))), ((cell_far (p := ⟨gb127, _, none⟩) NB102_127.out _).trans (((cell_far (p := ⟨gb127, _, none⟩) NB102_127.out _).trans (hHeld.2.2.1)))), ((cell_far (p := ⟨gb127, _, none⟩) NB102_127.out _).trans (((cell_far (p := ⟨gb127, _, none⟩) NB102_127.out _).trans (hHeld.2.2.2))))⟩ (fun hHeld => ?_)
          clear hK K
          refine done_ (done_of HT_.out (by kernel_rfl)) ?_
          have hnb115 := NB127_101.out
          have hnc115 := NB101_127.out
          have hnb116 := NB127_102.out
          have hnc116 := NB102_127.out
          have hnb117 := NB127_103.out
          have hnc117 := NB103_127.out
          have hnb118 := NB127_119.out
          have hnc118 := NB119_127.out
          have hnb119 := NB127_123.out
          have hnc119 := NB123_127.out
          have hcz120_0 : w112.cell? ⟨gb127, 0, none⟩ = some (.int .u64 0) := (blk_cell BK127.out 0).trans rfl
          have hcz120_1 : w112.cell? ⟨gb127, 1, none⟩ = some (.int .u64 0) := (blk_cell BK127.out 1).trans rfl
          have hfz120_0 := blk_frozen BK127.out 0
          have hfz120_1 := blk_frozen BK127.out 1
          have hcz121_0 : w112.cell? ⟨gb103, 0, none⟩ = some (.int .u64 0) := (blk_cell BK103.out 0).trans rfl
          have hcz121_1 : w112.cell? ⟨gb103, 1, none⟩ = some (.int .u64 0) := (blk_cell BK103.out 1).trans rfl
          have hfz121_0 := blk_frozen BK103.out 0
          have hfz121_1 := blk_frozen BK103.out 1
          try go_wp2
          refine bodyPost_ret (results_ct rfl _ _ gb103 47 #[.int .u64 0, .int .u64 0] (0, 0) _ rfl of_lies Tryd.underlying47 rfl (by kernel_rfl)) rfl ?_
          exact ⟨by first | rfl | (simp [errW_none, errW_some] <;> rfl) | (simp [*, errW_none, errW_some] <;> rfl), low HB⟩
         ·
          rw [if_neg c79] at H
          have c79b0 : decide (9223372036854775807 < t126) = false := decide_eq_false c79
          clear c79
          replace H := Option.bind_eq_some_iff.mp H
          obtain ⟨⟨t128, t129, t130⟩, A1220, H⟩ := H
          replace H : (none) = some (r1, r2, r3) := H
          have A122 := Aside0.mk A1220
          clear A1220
          exact absurd H (by simp)
      ·
       replace c31 := Bool.eq_false_iff.mpr c31
       subst c31
       have H1 : (none) = some (r1, r2, r3) := by rw [if_neg (show ¬ (false = true) by decide)] at H; exact H
       clear H
       have H := H1
       clear H1
       exact absurd H (by simp)
end Go.Proofs.YtcdcpnhlmgmnkaaDoor.Pos3
end
