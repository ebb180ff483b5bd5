/- Joined by a program of this session (pack.py) out of: Pos1x0 Pos1x1 Pos2x0 Pos2x1 Pos3x0 Pos5x0 Pos5x2 -/
import Derived.ArgAppend
import Derived.Below
import Derived.BigQuiet
import Derived.Deep.AppendLies
import Derived.Deep.CutBlock
import Derived.Deep.DeepCutAuto
import Derived.Deep.Draws
import Derived.Deep.LoopGhost
import Derived.Deep.OwnRows
import Derived.Deep.QuietTactic
import Derived.Deep.RegionHeld3
import Derived.KernelRfl
import Derived.Laws.BitsLemmas
import Derived.Laws.BytesArg
import Derived.Laws.IdiomCopy
import Derived.Laws.MakeOwn
import Derived.Laws.OwnMore
import Derived.Laws.Rows
import Derived.Laws.Slices
import Derived.Lib.AppendStr
import Derived.Lib.ConvBytes
import Derived.Maps.AppendAt
import Derived.OrdersHeld
import Derived.OwnWalk
import Derived.RowKit
import Derived.RowKit3
import Derived.Tactics
import Derived.Test.YtcdcpnhlmgmnkaaDoorProg
import Derived.WalkKit
import Derived.WideLaws
import Derived.Test.YtcdcpnhlmgmnkaaDoorKot1
import Derived.Test.YtcdcpnhlmgmnkaaDoorKot8
section
namespace Go.Proofs.YtcdcpnhlmgmnkaaDoor.Pos1
open Go.RowKit Go.Proofs.YtcdcpnhlmgmnkaaDoor.Base Go.Proofs.YtcdcpnhlmgmnkaaDoorW.PrintWords Go.Proofs.YtcdcpnhlmgmnkaaDoorW.PrintLast Go.Proofs.YtcdcpnhlmgmnkaaDoorW.PrintMore
attribute [local go_sem] max2_int min2_int max_two min_two max_three min_three max_four min_four   -- for this text's walks alone
set_option linter.unusedVariables false
set_option linter.unusedSimpArgs false
def errW : Option Int → Value
 | none => .nilIface
 | some c => .iface 0 (.int .i64 c)
theorem errW_none : errW none = .nilIface := rfl
theorem errW_some (c : Int) : errW (some c) = .iface 0 (.int .i64 c) := rfl
structure S47 where
 f0 : Int
 f1 : Int
def z47 : S47 := ⟨(0 : Int), (0 : Int)⟩
def k47 : Kd S47 := Kd.iso (Kd.pair (Kd.int .u64) (Kd.int .u64)) (fun x : S47 => (x.f0, x.f1))
theorem k47_open {w : World} {x : S47} {cs : List Value} (h : k47.K w x cs) : cs = [.int .u64 x.f0, .int .u64 x.f1] := by
 obtain ⟨_, _, rfl, rfl, rfl⟩ := h
 exact rfl
theorem k47_openM {w : World} {base : Nat} {ok : Nat → Prop} {x : S47} {cs : List Value} (h : k47.M w base ok x cs) : cs = [.int .u64 x.f0, .int .u64 x.f1] := by
 obtain ⟨_, _, rfl, rfl, rfl⟩ := h
 exact rfl
theorem k47_mk (w : World) (x : S47)  : k47.K w x [.int .u64 x.f0, .int .u64 x.f1] := ⟨[.int .u64 x.f0], [.int .u64 x.f1], rfl, rfl, rfl⟩
theorem k47_mkM (w : World) (base : Nat) (ok : Nat → Prop) (x : S47)  : k47.M w base ok x [.int .u64 x.f0, .int .u64 x.f1] := ⟨[.int .u64 x.f0], [.int .u64 x.f1], rfl, rfl, rfl⟩
def rd_T47 (xs : List S47) (i : Int) : S47 := xs.getD i.toNat z47
theorem at_T47 {w : World} {A : Option Addr} {n : Nat} {xs : List S47} (h : Kd.C k47 w A n xs) (i : Int) (h0 : 0 ≤ i) (h1 : i < n) : ∃ ad , A = some ad ∧ w.cell? (ad.add (i.toNat * 2)) = some (.int .u64 (rd_T47 xs i).f0) ∧ w.cell? ⟨(ad.add (i.toNat * 2)).block, (ad.add (i.toNat * 2)).off + 1, none⟩ = some (.int .u64 (rd_T47 xs i).f1) := by
 obtain ⟨ad, c, e, _, hK, hc0⟩ := Kd.C_get h z47 i h0 h1
 have hc : ∀ j u, c[j]? = some u → w.cell? (ad.add (i.toNat * 2 + j)) = some u := hc0
 obtain rfl := k47_open hK
 exact ⟨ad, e, hc 0 _ rfl, by rw [← add_field _ _ 1 (by omega)]; exact hc 1 _ rfl⟩
structure S74 where
 f0 : Int
 f1 : Int
def z74 : S74 := ⟨(0 : Int), (0 : Int)⟩
def k74 : Kd S74 := Kd.iso (Kd.pair (Kd.int .u64) (Kd.int .u64)) (fun x : S74 => (x.f0, x.f1))
theorem k74_open {w : World} {x : S74} {cs : List Value} (h : k74.K w x cs) : cs = [.int .u64 x.f0, .int .u64 x.f1] := by
 obtain ⟨_, _, rfl, rfl, rfl⟩ := h
 exact rfl
theorem k74_openM {w : World} {base : Nat} {ok : Nat → Prop} {x : S74} {cs : List Value} (h : k74.M w base ok x cs) : cs = [.int .u64 x.f0, .int .u64 x.f1] := by
 obtain ⟨_, _, rfl, rfl, rfl⟩ := h
 exact rfl
theorem k74_mk (w : World) (x : S74)  : k74.K w x [.int .u64 x.f0, .int .u64 x.f1] := ⟨[.int .u64 x.f0], [.int .u64 x.f1], rfl, rfl, rfl⟩
theorem k74_mkM (w : World) (base : Nat) (ok : Nat → Prop) (x : S74)  : k74.M w base ok x [.int .u64 x.f0, .int .u64 x.f1] := ⟨[.int .u64 x.f0], [.int .u64 x.f1], rfl, rfl, rfl⟩
def rd_T74 (xs : List S74) (i : Int) : S74 := xs.getD i.toNat z74
theorem at_T74 {w : World} {A : Option Addr} {n : Nat} {xs : List S74} (h : Kd.C k74 w A n xs) (i : Int) (h0 : 0 ≤ i) (h1 : i < n) : ∃ ad , A = some ad ∧ w.cell? (ad.add (i.toNat * 2)) = some (.int .u64 (rd_T74 xs i).f0) ∧ w.cell? ⟨(ad.add (i.toNat * 2)).block, (ad.add (i.toNat * 2)).off + 1, none⟩ = some (.int .u64 (rd_T74 xs i).f1) := by
 obtain ⟨ad, c, e, _, hK, hc0⟩ := Kd.C_get h z74 i h0 h1
 have hc : ∀ j u, c[j]? = some u → w.cell? (ad.add (i.toNat * 2 + j)) = some u := hc0
 obtain rfl := k74_open hK
 exact ⟨ad, e, hc 0 _ rfl, by rw [← add_field _ _ 1 (by omega)]; exact hc 1 _ rfl⟩
end Go.Proofs.YtcdcpnhlmgmnkaaDoor.Pos1
end
section
namespace Go.Proofs.YtcdcpnhlmgmnkaaDoor.Pos1
open Go.RowKit Go.Proofs.YtcdcpnhlmgmnkaaDoor.Base Go.Proofs.YtcdcpnhlmgmnkaaDoorW.PrintWords Go.Proofs.YtcdcpnhlmgmnkaaDoorW.PrintLast Go.Proofs.YtcdcpnhlmgmnkaaDoorW.PrintMore
attribute [local go_sem] max2_int min2_int max_two min_two max_three min_three max_four min_four   -- for this text's walks alone
set_option linter.unusedVariables false
set_option linter.unusedSimpArgs false
def odds_Sum.j0 : Nat → Bool → Int → Int → Int → Int → Option (Int × Int × Int)
 | 0, _, _, _, _, _ => none
 | k + 1, x20, x102000, x102001, x103000, x103001 => if x20 = true then (some (0, 0, 2)) else ((Podd.odds_times.f x102000 x103001).bind fun bt106 => ((Podd.odds_times.f (IntKind.u64.wrap (x103001 - x103000)) x102001).bind fun bt108 => ((Podd.odds_wide_compare.f k bt106.1 bt106.2 bt108.1 bt108.2).bind fun t110 => (if t110 > 0 then (none) else ((Podd.odds_divisor.f k x102001 x103001).bind fun t111 => (if t111 = 0 then (none) else ((Podd.odds_times.f x102000 (IntKind.u64.wrap (Int.tdiv x103001 t111))).bind fun bt112 => ((Podd.odds_times.f x103000 (IntKind.u64.wrap (Int.tdiv x102001 t111))).bind fun bt114 => ((odds_wide_plus.f bt112.1 bt112.2 bt114.1 bt114.2).bind fun bt116 => (if bt116.2.2 = true then ((Podd.odds_wide_by.f k bt116.1 bt116.2.1 t111).bind fun bt120 => ((Podd.odds_divisor.f k t111 bt120.2.2).bind fun t124 => (if t124 = 0 then (none) else ((Podd.odds_times.f (IntKind.u64.wrap (Int.tdiv x102001 t111)) (IntKind.u64.wrap (Int.tdiv x103001 t124))).bind fun bt125 => (if bt125.1 > 0 then (none) else (if bt125.2 > 9223372036854775807 then (none) else ((Podd.odds_wide_by.f k bt116.1 bt116.2.1 t124).bind fun bt128 => (none)))))))) else (none)))))))))))
def odds_Sum.f (k : Nat) (a0_0 : Int) (a0_1 : Int) (a1_0 : Int) (a1_1 : Int) : Option (Int × Int × Int) := (Podd.odds_May.f k a0_0 a0_1).bind fun t104 => (if t104 = true then ((Podd.odds_May.f k a1_0 a1_1).bind fun t105 => (odds_Sum.j0 k (!t105) a0_0 a0_1 a1_0 a1_1)) else (odds_Sum.j0 k true a0_0 a0_1 a1_0 a1_1))
theorem odds_Sum.mono_l : ∀ k, (∀ y0 y1 y2 y3 y4, LeO (odds_Sum.j0 k y0 y1 y2 y3 y4) (odds_Sum.j0 (k + 1) y0 y1 y2 y3 y4))
 | 0 => fun _ _ _ _ _ r h => by simp [odds_Sum.j0] at h
 | k + 1 => by
  have ih0 := odds_Sum.mono_l k
  ·
   intro y0 y1 y2 y3 y4
   unfold odds_Sum.j0
   repeat' first
   | (with_reducible exact ih0 _ _ _ _ _)
   | (with_reducible exact Podd.odds_May.mono _ _ _)
   | (with_reducible exact Podd.odds_divisor.mono _ _ _)
   | (with_reducible exact Podd.odds_wide_by.mono _ _ _ _)
   | (with_reducible exact Podd.odds_wide_compare.mono _ _ _ _ _)
   | (with_reducible exact LeO.refl _)
   | (with_reducible exact LeO.none _)
   | (with_reducible refine LeO.ite ?_ ?_)
   | (with_reducible refine LeO.bind ?_ (fun _ => ?_))
   | exact ih0 _ _ _ _ _
   | exact Podd.odds_May.mono _ _ _
   | exact Podd.odds_divisor.mono _ _ _
   | exact Podd.odds_wide_by.mono _ _ _ _
   | exact Podd.odds_wide_compare.mono _ _ _ _ _
   | exact LeO.none _
   | refine LeO.ite ?_ ?_
   | refine LeO.bind ?_ (fun _ => ?_)
theorem odds_Sum.mono : ∀ a0 a1 a2 a3 k, LeO (odds_Sum.f k a0 a1 a2 a3) (odds_Sum.f (k + 1) a0 a1 a2 a3) := by
 intro a0 a1 a2 a3 k
 have ih0 := odds_Sum.mono_l k
 unfold odds_Sum.f
 repeat' first
   | (with_reducible exact ih0 _ _ _ _ _)
   | (with_reducible exact Podd.odds_May.mono _ _ _)
   | (with_reducible exact Podd.odds_divisor.mono _ _ _)
   | (with_reducible exact Podd.odds_wide_by.mono _ _ _ _)
   | (with_reducible exact Podd.odds_wide_compare.mono _ _ _ _ _)
   | (with_reducible exact LeO.refl _)
   | (with_reducible exact LeO.none _)
   | (with_reducible refine LeO.ite ?_ ?_)
   | (with_reducible refine LeO.bind ?_ (fun _ => ?_))
   | exact ih0 _ _ _ _ _
   | exact Podd.odds_May.mono _ _ _
   | exact Podd.odds_divisor.mono _ _ _
   | exact Podd.odds_wide_by.mono _ _ _ _
   | exact Podd.odds_wide_compare.mono _ _ _ _ _
   | exact LeO.none _
   | refine LeO.ite ?_ ?_
   | refine LeO.bind ?_ (fun _ => ?_)
set_option maxHeartbeats 8000000 in
set_option maxRecDepth 100000 in
theorem odds_Sum.calls (k : Nat) (a0_0 : Int) (a0_1 : Int) (a1_0 : Int) (a1_1 : Int) (r1 : Int) (r2 : Int) (r3 : Int) (w : World) (h : odds_Sum.f k a0_0 a0_1 a1_0 a1_1 = some (r1, r2, r3)) :
  Calls Tryd.prog 36 #[.agg #[.int .u64 a0_0, .int .u64 a0_1], .agg #[.int .u64 a1_0, .int .u64 a1_1]] w fun e w' => e = .returned (.tuple #[.agg #[.int .u64 r1, .int .u64 r2], .int .i64 r3]) ∧ Below w.heap.size w w' := by
 have hu47 := Tryd.underlying47
 have hu74 := Tryd.underlying74
 have HB := Aside0.mk (Below.refl w.heap.size w)
 have H : ((Podd.odds_May.f k a0_0 a0_1).bind fun t104 => (if t104 = true then ((Podd.odds_May.f k a1_0 a1_1).bind fun t105 => (odds_Sum.j0 k (!t105) a0_0 a0_1 a1_0 a1_1)) else (odds_Sum.j0 k true a0_0 a0_1 a1_0 a1_1))) = some (r1, r2, r3) := h
 clear h
 have HC3 := Aside0.mk H
 clear H
 go_enter Tryd.func36, Tryd.ntmps36
 go_upto_region 1 with (first | ((with_reducible refine gate_dst (N := 2) rfl ?_); refine box_event ?hg (N := 2) ?hd (cs := #[.int .u64 a0_0, .int .u64 a0_1]) (t := 47) ?hr ?_; (case hd => rfl); (case hg => rfl); (case hr => first | (go_simp; done) | (go_simp; rfl)); intro gb101 hg w4 hbox hb; have n0_ := Aside0.mk (below_step (low HB) hb); have n1_ := Aside0.mk (hbox); have n2_ := Aside0.mk ((by rw [hg]; exact (below_size (low HB)) : w.heap.size ≤ gb101)); have n3_ := Aside0.mk ((by rw [hg]; exact (below_size (low HB)) : w.heap.size ≤ gb101)); clear HB; have HB := n0_; have BK101 := n1_; have GW101 := n2_; have GE101 := n3_; clear n0_ n1_ n2_ n3_; clear hb hbox hg) | ((with_reducible refine gate_dst (N := 3) rfl ?_); refine box_event ?hg (N := 3) ?hd (cs := #[.int .u64 a1_0, .int .u64 a1_1]) (t := 47) ?hr ?_; (case hd => rfl); (case hg => rfl); (case hr => first | (go_simp; done) | (go_simp; rfl)); intro gb102 hg w5 hbox hb; have n0_ := Aside0.mk (blk_below (g := gb101) (o := .cells #[.int .u64 a0_0, .int .u64 a0_1] 47 (0, 0)) of_lies hb); have n1_ := Aside0.mk (below_step (low HB) hb); have n2_ := Aside0.mk (hbox); have n3_ := Aside0.mk ((by rw [hg]; exact (below_size (low HB)) : w.heap.size ≤ gb102)); have n4_ := Aside0.mk ((by rw [hg]; exact (below_size (low HB)) : w.heap.size ≤ gb102)); have n5_ := Aside0.mk ((by rw [hg]; exact Nat.ne_of_lt (blk_lt (g := gb101) (o := .cells #[.int .u64 a0_0, .int .u64 a0_1] 47 (0, 0)) of_lies) : gb101 ≠ gb102)); have n6_ := Aside0.mk ((by rw [hg]; exact Nat.ne_of_gt (blk_lt (g := gb101) (o := .cells #[.int .u64 a0_0, .int .u64 a0_1] 47 (0, 0)) of_lies) : gb102 ≠ gb101)); clear BK101; clear HB; have BK101 := n0_; have HB := n1_; have BK102 := n2_; have GW102 := n3_; have GE102 := n4_; have NB101_102 := n5_; have NB102_101 := n6_; clear n0_ n1_ n2_ n3_ n4_ n5_ n6_; clear hb hbox hg) | ((with_reducible refine gate_dst (N := 4) rfl ?_); refine box_event ?hg (N := 4) ?hd (cs := #[.int .u64 0, .int .u64 0]) (t := 47) ?hr ?_; (case hd => rfl); (case hg => rfl); (case hr => first | (go_simp; done) | (go_simp; rfl)); intro gb103 hg w6 hbox hb; have n0_ := Aside0.mk (blk_below (g := gb101) (o := .cells #[.int .u64 a0_0, .int .u64 a0_1] 47 (0, 0)) of_lies hb); have n1_ := Aside0.mk (blk_below (g := gb102) (o := .cells #[.int .u64 a1_0, .int .u64 a1_1] 47 (0, 0)) of_lies hb); have n2_ := Aside0.mk (below_step (low HB) hb); have n3_ := Aside0.mk (hbox); have n4_ := Aside0.mk ((by rw [hg]; exact (below_size (low HB)) : w.heap.size ≤ gb103)); have n5_ := Aside0.mk ((by rw [hg]; exact (below_size (low HB)) : w.heap.size ≤ gb103)); have n6_ := Aside0.mk ((by rw [hg]; exact Nat.ne_of_lt (blk_lt (g := gb101) (o := .cells #[.int .u64 a0_0, .int .u64 a0_1] 47 (0, 0)) of_lies) : gb101 ≠ gb103)); have n7_ := Aside0.mk ((by rw [hg]; exact Nat.ne_of_gt (blk_lt (g := gb101) (o := .cells #[.int .u64 a0_0, .int .u64 a0_1] 47 (0, 0)) of_lies) : gb103 ≠ gb101)); have n8_ := Aside0.mk ((by rw [hg]; exact Nat.ne_of_lt (blk_lt (g := gb102) (o := .cells #[.int .u64 a1_0, .int .u64 a1_1] 47 (0, 0)) of_lies) : gb102 ≠ gb103)); have n9_ := Aside0.mk ((by rw [hg]; exact Nat.ne_of_gt (blk_lt (g := gb102) (o := .cells #[.int .u64 a1_0, .int .u64 a1_1] 47 (0, 0)) of_lies) : gb103 ≠ gb102)); clear BK101; clear BK102; clear HB; have BK101 := n0_; have BK102 := n1_; have HB := n2_; have BK103 := n3_; have GW103 := n4_; have GE103 := n5_; have NB101_103 := n6_; have NB103_101 := n7_; have NB102_103 := n8_; have NB103_102 := n9_; clear n0_ n1_ n2_ n3_ n4_ n5_ n6_ n7_ n8_ n9_; clear hb hbox hg))
 (try simp only [Act.put, List.setIfInBounds_toArray, List.set_cons_zero, List.set_cons_succ])
 go_cut [20] (fun v20 wc => ∃ (kq : Nat) (x20_2 : Bool), v20 = .bool x20_2 ∧ Aside0 (odds_Sum.j0 kq x20_2 a0_0 a0_1 a1_0 a1_1 = some (r1, r2, r3)) ∧ Aside0 (kq ≤ k) ∧ Aside0 (wc.heap[gb101]? = some (.cells #[.int .u64 a0_0, .int .u64 a0_1] 47 (0, 0))) ∧ Aside0 (wc.heap[gb102]? = some (.cells #[.int .u64 a1_0, .int .u64 a1_1] 47 (0, 0))) ∧ Aside0 (wc.heap[gb103]? = some (.cells #[.int .u64 0, .int .u64 0] 47 (0, 0))) ∧ Aside0 (Below w.heap.size w wc))
 case first =>
  have H := HC3.out
  clear HC3
  replace H := Option.bind_eq_some_iff.mp H
  obtain ⟨t104, A70, H⟩ := H
  replace H : (if t104 = true then ((Podd.odds_May.f k a1_0 a1_1).bind fun t105 => (odds_Sum.j0 k (!t105) a0_0 a0_1 a1_0 a1_1)) else (odds_Sum.j0 k true a0_0 a0_1 a1_0 a1_1)) = some (r1, r2, r3) := H
  have A7 := Aside0.mk A70
  clear A70
  by_cases c8 : t104 = true
  ·
   subst c8
   have H1 : ((Podd.odds_May.f k a1_0 a1_1).bind fun t105 => (odds_Sum.j0 k (!t105) a0_0 a0_1 a1_0 a1_1)) = some (r1, r2, r3) := by rw [if_pos rfl] at H; exact H
   clear H
   have H := H1
   clear H1
   replace H := Option.bind_eq_some_iff.mp H
   obtain ⟨t105, A90, H⟩ := H
   replace H : (odds_Sum.j0 k (!t105) a0_0 a0_1 a1_0 a1_1) = some (r1, r2, r3) := H
   have A9 := Aside0.mk A90
   clear A90
   have H' := Aside0.mk H
   clear H
   have hnb10 := NB101_102.out
   have hnc10 := NB102_101.out
   have hnb11 := NB101_103.out
   have hnc11 := NB103_101.out
   have hcz12_0 : w6.cell? ⟨gb101, 0, none⟩ = some (.int .u64 a0_0) := (blk_cell BK101.out 0).trans rfl
   have hcz12_1 : w6.cell? ⟨gb101, 1, none⟩ = some (.int .u64 a0_1) := (blk_cell BK101.out 1).trans rfl
   have hfz12_0 := blk_frozen BK101.out 0
   have hfz12_1 := blk_frozen BK101.out 1
   go_wp2_with (first | ((with_reducible refine gate_callee (f := 38) rfl ?_); refine goesL_ (some 14) rfl rfl Tryd.func38 (by kernel_rfl) rfl #[.agg #[.int .u64 a0_0, .int .u64 a0_1]] rfl (by (try simp only [List.map_toArray, List.map_cons, List.map_nil]); first | done | rfl | (simp only [List.length_drop, List.length_take]; rfl)) ?_; (with_reducible refine (Podd.odds_May.calls k a0_0 a0_1 true _ A7.out).mono ?_); rintro e w13 ⟨rfl, hb⟩; refine ⟨_, rfl, ?_⟩; have n0_ := Aside0.mk (blk_below (g := gb101) (o := .cells #[.int .u64 a0_0, .int .u64 a0_1] 47 (0, 0)) of_lies hb); have n1_ := Aside0.mk (blk_below (g := gb102) (o := .cells #[.int .u64 a1_0, .int .u64 a1_1] 47 (0, 0)) of_lies hb); have n2_ := Aside0.mk (blk_below (g := gb103) (o := .cells #[.int .u64 0, .int .u64 0] 47 (0, 0)) of_lies hb); have n3_ := Aside0.mk (below_step (low HB) hb); clear BK101; clear BK102; clear BK103; clear HB; have BK101 := n0_; have BK102 := n1_; have BK103 := n2_; have HB := n3_; clear n0_ n1_ n2_ n3_; (try clear hb); (try clear hb2); (try clear hk); (try clear hi); have hnb14 := NB102_103.out; have hnc14 := NB103_102.out; obtain ⟨hcz15_0, hcz15_1, hfz15_0, hfz15_1⟩ := cells2 BK102.out) | (go_at_call 38; (with_reducible refine (Podd.odds_May.calls k a1_0 a1_1 t105 _ A9.out).mono ?_); rintro e w16 ⟨rfl, hb⟩; have n0_ := Aside0.mk (blk_below (g := gb101) (o := .cells #[.int .u64 a0_0, .int .u64 a0_1] 47 (0, 0)) of_lies hb); have n1_ := Aside0.mk (blk_below (g := gb102) (o := .cells #[.int .u64 a1_0, .int .u64 a1_1] 47 (0, 0)) of_lies hb); have n2_ := Aside0.mk (blk_below (g := gb103) (o := .cells #[.int .u64 0, .int .u64 0] 47 (0, 0)) of_lies hb); have n3_ := Aside0.mk (below_step (low HB) hb); clear BK101; clear BK102; clear BK103; clear HB; have BK101 := n0_; have BK102 := n1_; have BK103 := n2_; have HB := n3_; clear n0_ n1_ n2_ n3_; (try clear hb); (try clear hb2); (try clear hk); (try clear hi)))
   go_meet
   case rel => exact ⟨_, (!t105), (by first | rfl | (simp; done) | (simp [*]; done)), H', ⟨by first | omega | exact Nat.le_refl _⟩, ⟨of_lies⟩, ⟨of_lies⟩, ⟨of_lies⟩, ⟨low HB⟩⟩
  ·
   replace c8 := Bool.eq_false_iff.mpr c8
   subst c8
   have H1 : (odds_Sum.j0 k true a0_0 a0_1 a1_0 a1_1) = some (r1, r2, r3) := by rw [if_neg (show ¬ (false = true) by decide)] at H; exact H
   clear H
   have H := H1
   clear H1
   have H' := Aside0.mk H
   clear H
   have hnb17 := NB101_102.out
   have hnc17 := NB102_101.out
   have hnb18 := NB101_103.out
   have hnc18 := NB103_101.out
   have hcz19_0 : w6.cell? ⟨gb101, 0, none⟩ = some (.int .u64 a0_0) := (blk_cell BK101.out 0).trans rfl
   have hcz19_1 : w6.cell? ⟨gb101, 1, none⟩ = some (.int .u64 a0_1) := (blk_cell BK101.out 1).trans rfl
   have hfz19_0 := blk_frozen BK101.out 0
   have hfz19_1 := blk_frozen BK101.out 1
   go_wp2_with (first | ((with_reducible refine gate_callee (f := 38) rfl ?_); refine goesL_ (some 14) rfl rfl Tryd.func38 (by kernel_rfl) rfl #[.agg #[.int .u64 a0_0, .int .u64 a0_1]] rfl (by (try simp only [List.map_toArray, List.map_cons, List.map_nil]); first | done | rfl | (simp only [List.length_drop, List.length_take]; rfl)) ?_; (with_reducible refine (Podd.odds_May.calls k a0_0 a0_1 false _ A7.out).mono ?_); rintro e w20 ⟨rfl, hb⟩; refine ⟨_, rfl, ?_⟩; have n0_ := Aside0.mk (blk_below (g := gb101) (o := .cells #[.int .u64 a0_0, .int .u64 a0_1] 47 (0, 0)) of_lies hb); have n1_ := Aside0.mk (blk_below (g := gb102) (o := .cells #[.int .u64 a1_0, .int .u64 a1_1] 47 (0, 0)) of_lies hb); have n2_ := Aside0.mk (blk_below (g := gb103) (o := .cells #[.int .u64 0, .int .u64 0] 47 (0, 0)) of_lies hb); have n3_ := Aside0.mk (below_step (low HB) hb); clear BK101; clear BK102; clear BK103; clear HB; have BK101 := n0_; have BK102 := n1_; have BK103 := n2_; have HB := n3_; clear n0_ n1_ n2_ n3_; (try clear hb); (try clear hb2); (try clear hk); (try clear hi)))
   go_meet
   case rel => exact ⟨_, (true), (by first | rfl | (simp; done) | (simp [*]; done)), H', ⟨by first | omega | exact Nat.le_refl _⟩, ⟨of_lies⟩, ⟨of_lies⟩, ⟨of_lies⟩, ⟨low HB⟩⟩
 case rest =>
  clear HC3
  try clear c1
  try clear p2
  try clear c3
  try clear c8
  try clear c10
  try clear c11
  try clear c14
  try clear c17
  try clear c18
  try clear hcz12_0
  try clear hcz12_1
  try clear hcz15_0
  try clear hcz15_1
  try clear hcz19_0
  try clear hcz19_1
  try clear hfz12_0
  try clear hfz12_1
  try clear hfz15_0
  try clear hfz15_1
  try clear hfz19_0
  try clear hfz19_1
  obtain ⟨kq, x20_2, rfl, HA, HJ2, BK101, BK102, BK103, HB⟩ := hcut
  cases kq with
  | zero => exact absurd HA.out (by simp [odds_Sum.j0])
  | succ kj2 =>
   have H := HA.out
   clear HA
   simp only [odds_Sum.j0] at H
   by_cases c21 : x20_2 = true
   ·
    subst c21
    have H1 : (some (0, 0, 2)) = some (r1, r2, r3) := by rw [if_pos rfl] at H; exact H
    clear H
    have H := H1
    clear H1
    simp only [Option.some.injEq, Prod.mk.injEq] at H
    obtain ⟨rfl, rfl, rfl⟩ := H
    have hnb22 := NB103_101.out
    have hnc22 := NB101_103.out
    have hnb23 := NB103_102.out
    have hnc23 := NB102_103.out
    have hcz24_0 : wc.cell? ⟨gb103, 0, none⟩ = some (.int .u64 0) := (blk_cell BK103.out 0).trans rfl
    have hcz24_1 : wc.cell? ⟨gb103, 1, none⟩ = some (.int .u64 0) := (blk_cell BK103.out 1).trans rfl
    have hfz24_0 := blk_frozen BK103.out 0
    have hfz24_1 := blk_frozen BK103.out 1
    go_wp2
    refine bodyPost_ret (results_ct rfl _ _ gb103 47 #[.int .u64 0, .int .u64 0] (0, 0) _ rfl of_lies Tryd.underlying47 rfl (by kernel_rfl)) rfl ?_
    exact ⟨by first | rfl | (simp [errW_none, errW_some] <;> rfl) | (simp [*, errW_none, errW_some] <;> rfl), low HB⟩
   ·
    replace c21 := Bool.eq_false_iff.mpr c21
    subst c21
    have H1 : ((Podd.odds_times.f a0_0 a1_1).bind fun bt106 => ((Podd.odds_times.f (IntKind.u64.wrap (a1_1 - a1_0)) a0_1).bind fun bt108 => ((Podd.odds_wide_compare.f kj2 bt106.1 bt106.2 bt108.1 bt108.2).bind fun t110 => (if t110 > 0 then (none) else ((Podd.odds_divisor.f kj2 a0_1 a1_1).bind fun t111 => (if t111 = 0 then (none) else ((Podd.odds_times.f a0_0 (IntKind.u64.wrap (Int.tdiv a1_1 t111))).bind fun bt112 => ((Podd.odds_times.f a1_0 (IntKind.u64.wrap (Int.tdiv a0_1 t111))).bind fun bt114 => ((odds_wide_plus.f bt112.1 bt112.2 bt114.1 bt114.2).bind fun bt116 => (if bt116.2.2 = true then ((Podd.odds_wide_by.f kj2 bt116.1 bt116.2.1 t111).bind fun bt120 => ((Podd.odds_divisor.f kj2 t111 bt120.2.2).bind fun t124 => (if t124 = 0 then (none) else ((Podd.odds_times.f (IntKind.u64.wrap (Int.tdiv a0_1 t111)) (IntKind.u64.wrap (Int.tdiv a1_1 t124))).bind fun bt125 => (if bt125.1 > 0 then (none) else (if bt125.2 > 9223372036854775807 then (none) else ((Podd.odds_wide_by.f kj2 bt116.1 bt116.2.1 t124).bind fun bt128 => (none)))))))) else (none))))))))))) = some (r1, r2, r3) := by rw [if_neg (show ¬ (false = true) by decide)] at H; exact H
    clear H
    have H := H1
    clear H1
    replace H := Option.bind_eq_some_iff.mp H
    obtain ⟨⟨t106, t107⟩, A250, H⟩ := H
    replace H : ((Podd.odds_times.f (IntKind.u64.wrap (a1_1 - a1_0)) a0_1).bind fun bt108 => ((Podd.odds_wide_compare.f kj2 t106 t107 bt108.1 bt108.2).bind fun t110 => (if t110 > 0 then (none) else ((Podd.odds_divisor.f kj2 a0_1 a1_1).bind fun t111 => (if t111 = 0 then (none) else ((Podd.odds_times.f a0_0 (IntKind.u64.wrap (Int.tdiv a1_1 t111))).bind fun bt112 => ((Podd.odds_times.f a1_0 (IntKind.u64.wrap (Int.tdiv a0_1 t111))).bind fun bt114 => ((odds_wide_plus.f bt112.1 bt112.2 bt114.1 bt114.2).bind fun bt116 => (if bt116.2.2 = true then ((Podd.odds_wide_by.f kj2 bt116.1 bt116.2.1 t111).bind fun bt120 => ((Podd.odds_divisor.f kj2 t111 bt120.2.2).bind fun t124 => (if t124 = 0 then (none) else ((Podd.odds_times.f (IntKind.u64.wrap (Int.tdiv a0_1 t111)) (IntKind.u64.wrap (Int.tdiv a1_1 t124))).bind fun bt125 => (if bt125.1 > 0 then (none) else (if bt125.2 > 9223372036854775807 then (none) else ((Podd.odds_wide_by.f kj2 bt116.1 bt116.2.1 t124).bind fun bt128 => (none)))))))) else (none)))))))))) = some (r1, r2, r3) := H
    have A25 := Aside0.mk A250
    clear A250
    replace H := Option.bind_eq_some_iff.mp H
    obtain ⟨⟨t108, t109⟩, A260, H⟩ := H
    replace H : ((Podd.odds_wide_compare.f kj2 t106 t107 t108 t109).bind fun t110 => (if t110 > 0 then (none) else ((Podd.odds_divisor.f kj2 a0_1 a1_1).bind fun t111 => (if t111 = 0 then (none) else ((Podd.odds_times.f a0_0 (IntKind.u64.wrap (Int.tdiv a1_1 t111))).bind fun bt112 => ((Podd.odds_times.f a1_0 (IntKind.u64.wrap (Int.tdiv a0_1 t111))).bind fun bt114 => ((odds_wide_plus.f bt112.1 bt112.2 bt114.1 bt114.2).bind fun bt116 => (if bt116.2.2 = true then ((Podd.odds_wide_by.f kj2 bt116.1 bt116.2.1 t111).bind fun bt120 => ((Podd.odds_divisor.f kj2 t111 bt120.2.2).bind fun t124 => (if t124 = 0 then (none) else ((Podd.odds_times.f (IntKind.u64.wrap (Int.tdiv a0_1 t111)) (IntKind.u64.wrap (Int.tdiv a1_1 t124))).bind fun bt125 => (if bt125.1 > 0 then (none) else (if bt125.2 > 9223372036854775807 then (none) else ((Podd.odds_wide_by.f kj2 bt116.1 bt116.2.1 t124).bind fun bt128 => (none)))))))) else (none))))))))) = some (r1, r2, r3) := H
    have A26 := Aside0.mk A260
    clear A260
    replace H := Option.bind_eq_some_iff.mp H
    obtain ⟨t110, A270, H⟩ := H
    replace H : (if t110 > 0 then (none) else ((Podd.odds_divisor.f kj2 a0_1 a1_1).bind fun t111 => (if t111 = 0 then (none) else ((Podd.odds_times.f a0_0 (IntKind.u64.wrap (Int.tdiv a1_1 t111))).bind fun bt112 => ((Podd.odds_times.f a1_0 (IntKind.u64.wrap (Int.tdiv a0_1 t111))).bind fun bt114 => ((odds_wide_plus.f bt112.1 bt112.2 bt114.1 bt114.2).bind fun bt116 => (if bt116.2.2 = true then ((Podd.odds_wide_by.f kj2 bt116.1 bt116.2.1 t111).bind fun bt120 => ((Podd.odds_divisor.f kj2 t111 bt120.2.2).bind fun t124 => (if t124 = 0 then (none) else ((Podd.odds_times.f (IntKind.u64.wrap (Int.tdiv a0_1 t111)) (IntKind.u64.wrap (Int.tdiv a1_1 t124))).bind fun bt125 => (if bt125.1 > 0 then (none) else (if bt125.2 > 9223372036854775807 then (none) else ((Podd.odds_wide_by.f kj2 bt116.1 bt116.2.1 t124).bind fun bt128 => (none)))))))) else (none)))))))) = some (r1, r2, r3) := H
    have A27 := Aside0.mk A270
    clear A270
    by_cases c28 : t110 > 0
    ·
     rw [if_pos c28] at H
     have c28b0 : decide (0 < t110) = true := decide_eq_true c28
     clear c28
     exact absurd H (by simp)
    ·
     rw [if_neg c28] at H
     have c28b0 : decide (0 < t110) = false := decide_eq_false c28
     clear c28
     replace H := Option.bind_eq_some_iff.mp H
     obtain ⟨t111, A290, H⟩ := H
     replace H : (if t111 = 0 then (none) else ((Podd.odds_times.f a0_0 (IntKind.u64.wrap (Int.tdiv a1_1 t111))).bind fun bt112 => ((Podd.odds_times.f a1_0 (IntKind.u64.wrap (Int.tdiv a0_1 t111))).bind fun bt114 => ((odds_wide_plus.f bt112.1 bt112.2 bt114.1 bt114.2).bind fun bt116 => (if bt116.2.2 = true then ((Podd.odds_wide_by.f kj2 bt116.1 bt116.2.1 t111).bind fun bt120 => ((Podd.odds_divisor.f kj2 t111 bt120.2.2).bind fun t124 => (if t124 = 0 then (none) else ((Podd.odds_times.f (IntKind.u64.wrap (Int.tdiv a0_1 t111)) (IntKind.u64.wrap (Int.tdiv a1_1 t124))).bind fun bt125 => (if bt125.1 > 0 then (none) else (if bt125.2 > 9223372036854775807 then (none) else ((Podd.odds_wide_by.f kj2 bt116.1 bt116.2.1 t124).bind fun bt128 => (none)))))))) else (none)))))) = some (r1, r2, r3) := H
     have A29 := Aside0.mk A290
     clear A290
     by_cases c30 : t111 = 0
     ·
      rw [if_pos c30] at H
      exact absurd H (by simp)
     ·
      rw [if_neg c30] at H
      have c30b0 : (t111 == 0) = false := beq_eq_false_iff_ne.mpr c30
      have c30b1 : (t111 != 0) = true := bne_iff_ne.mpr c30
      replace H := Option.bind_eq_some_iff.mp H
      obtain ⟨⟨t112, t113⟩, A310, H⟩ := H
      replace H : ((Podd.odds_times.f a1_0 (IntKind.u64.wrap (Int.tdiv a0_1 t111))).bind fun bt114 => ((odds_wide_plus.f t112 t113 bt114.1 bt114.2).bind fun bt116 => (if bt116.2.2 = true then ((Podd.odds_wide_by.f kj2 bt116.1 bt116.2.1 t111).bind fun bt120 => ((Podd.odds_divisor.f kj2 t111 bt120.2.2).bind fun t124 => (if t124 = 0 then (none) else ((Podd.odds_times.f (IntKind.u64.wrap (Int.tdiv a0_1 t111)) (IntKind.u64.wrap (Int.tdiv a1_1 t124))).bind fun bt125 => (if bt125.1 > 0 then (none) else (if bt125.2 > 9223372036854775807 then (none) else ((Podd.odds_wide_by.f kj2 bt116.1 bt116.2.1 t124).bind fun bt128 => (none)))))))) else (none)))) = some (r1, r2, r3) := H
      have A31 := Aside0.mk A310
      clear A310
      replace H := Option.bind_eq_some_iff.mp H
      obtain ⟨⟨t114, t115⟩, A320, H⟩ := H
      replace H : ((odds_wide_plus.f t112 t113 t114 t115).bind fun bt116 => (if bt116.2.2 = true then ((Podd.odds_wide_by.f kj2 bt116.1 bt116.2.1 t111).bind fun bt120 => ((Podd.odds_divisor.f kj2 t111 bt120.2.2).bind fun t124 => (if t124 = 0 then (none) else ((Podd.odds_times.f (IntKind.u64.wrap (Int.tdiv a0_1 t111)) (IntKind.u64.wrap (Int.tdiv a1_1 t124))).bind fun bt125 => (if bt125.1 > 0 then (none) else (if bt125.2 > 9223372036854775807 then (none) else ((Podd.odds_wide_by.f kj2 bt116.1 bt116.2.1 t124).bind fun bt128 => (none)))))))) else (none))) = some (r1, r2, r3) := H
      have A32 := Aside0.mk A320
      clear A320
      replace H := Option.bind_eq_some_iff.mp H
      obtain ⟨⟨t116, t117, t118⟩, A330, H⟩ := H
      replace H : (if t118 = true then ((Podd.odds_wide_by.f kj2 t116 t117 t111).bind fun bt120 => ((Podd.odds_divisor.f kj2 t111 bt120.2.2).bind fun t124 => (if t124 = 0 then (none) else ((Podd.odds_times.f (IntKind.u64.wrap (Int.tdiv a0_1 t111)) (IntKind.u64.wrap (Int.tdiv a1_1 t124))).bind fun bt125 => (if bt125.1 > 0 then (none) else (if bt125.2 > 9223372036854775807 then (none) else ((Podd.odds_wide_by.f kj2 t116 t117 t124).bind fun bt128 => (none)))))))) else (none)) = some (r1, r2, r3) := H
      have A33 := Aside0.mk A330
      clear A330
      by_cases c34 : t118 = true
      ·
       subst c34
       have H1 : ((Podd.odds_wide_by.f kj2 t116 t117 t111).bind fun bt120 => ((Podd.odds_divisor.f kj2 t111 bt120.2.2).bind fun t124 => (if t124 = 0 then (none) else ((Podd.odds_times.f (IntKind.u64.wrap (Int.tdiv a0_1 t111)) (IntKind.u64.wrap (Int.tdiv a1_1 t124))).bind fun bt125 => (if bt125.1 > 0 then (none) else (if bt125.2 > 9223372036854775807 then (none) else ((Podd.odds_wide_by.f kj2 t116 t117 t124).bind fun bt128 => (none)))))))) = some (r1, r2, r3) := by rw [if_pos rfl] at H; exact H
       clear H
       have H := H1
       clear H1
       replace H := Option.bind_eq_some_iff.mp H
       obtain ⟨⟨t120, t121, t122⟩, A350, H⟩ := H
       replace H : ((Podd.odds_divisor.f kj2 t111 t122).bind fun t124 => (if t124 = 0 then (none) else ((Podd.odds_times.f (IntKind.u64.wrap (Int.tdiv a0_1 t111)) (IntKind.u64.wrap (Int.tdiv a1_1 t124))).bind fun bt125 => (if bt125.1 > 0 then (none) else (if bt125.2 > 9223372036854775807 then (none) else ((Podd.odds_wide_by.f kj2 t116 t117 t124).bind fun bt128 => (none))))))) = some (r1, r2, r3) := H
       have A35 := Aside0.mk A350
       clear A350
       replace H := Option.bind_eq_some_iff.mp H
       obtain ⟨t124, A360, H⟩ := H
       replace H : (if t124 = 0 then (none) else ((Podd.odds_times.f (IntKind.u64.wrap (Int.tdiv a0_1 t111)) (IntKind.u64.wrap (Int.tdiv a1_1 t124))).bind fun bt125 => (if bt125.1 > 0 then (none) else (if bt125.2 > 9223372036854775807 then (none) else ((Podd.odds_wide_by.f kj2 t116 t117 t124).bind fun bt128 => (none)))))) = some (r1, r2, r3) := H
       have A36 := Aside0.mk A360
       clear A360
       by_cases c37 : t124 = 0
       ·
        rw [if_pos c37] at H
        exact absurd H (by simp)
       ·
        rw [if_neg c37] at H
        have c37b0 : (t124 == 0) = false := beq_eq_false_iff_ne.mpr c37
        have c37b1 : (t124 != 0) = true := bne_iff_ne.mpr c37
        replace H := Option.bind_eq_some_iff.mp H
        obtain ⟨⟨t125, t126⟩, A380, H⟩ := H
        replace H : (if t125 > 0 then (none) else (if t126 > 9223372036854775807 then (none) else ((Podd.odds_wide_by.f kj2 t116 t117 t124).bind fun bt128 => (none)))) = some (r1, r2, r3) := H
        have A38 := Aside0.mk A380
        clear A380
        by_cases c39 : t125 > 0
        ·
         rw [if_pos c39] at H
         have c39b0 : decide (0 < t125) = true := decide_eq_true c39
         clear c39
         exact absurd H (by simp)
        ·
         rw [if_neg c39] at H
         have c39b0 : decide (0 < t125) = false := decide_eq_false c39
         clear c39
         by_cases c40 : t126 > 9223372036854775807
         ·
          rw [if_pos c40] at H
          have c40b0 : decide (9223372036854775807 < t126) = true := decide_eq_true c40
          clear c40
          exact absurd H (by simp)
         ·
          rw [if_neg c40] at H
          have c40b0 : decide (9223372036854775807 < t126) = false := decide_eq_false c40
          clear c40
          replace H := Option.bind_eq_some_iff.mp H
          obtain ⟨⟨t128, t129, t130⟩, A410, H⟩ := H
          replace H : (none) = some (r1, r2, r3) := H
          have A41 := Aside0.mk A410
          clear A410
          exact absurd H (by simp)
      ·
       replace c34 := Bool.eq_false_iff.mpr c34
       subst c34
       have H1 : (none) = some (r1, r2, r3) := by rw [if_neg (show ¬ (false = true) by decide)] at H; exact H
       clear H
       have H := H1
       clear H1
       exact absurd H (by simp)
end Go.Proofs.YtcdcpnhlmgmnkaaDoor.Pos1
end
section
namespace Go.Proofs.YtcdcpnhlmgmnkaaDoor.Pos2
open Go.RowKit Go.Proofs.YtcdcpnhlmgmnkaaDoor.Base Go.Proofs.YtcdcpnhlmgmnkaaDoorW.PrintWords Go.Proofs.YtcdcpnhlmgmnkaaDoorW.PrintLast Go.Proofs.YtcdcpnhlmgmnkaaDoorW.PrintMore
attribute [local go_sem] max2_int min2_int max_two min_two max_three min_three max_four min_four   -- for this text's walks alone
set_option linter.unusedVariables false
set_option linter.unusedSimpArgs false
def errW : Option Int → Value
 | none => .nilIface
 | some c => .iface 0 (.int .i64 c)
theorem errW_none : errW none = .nilIface := rfl
theorem errW_some (c : Int) : errW (some c) = .iface 0 (.int .i64 c) := rfl
structure S47 where
 f0 : Int
 f1 : Int
def z47 : S47 := ⟨(0 : Int), (0 : Int)⟩
def k47 : Kd S47 := Kd.iso (Kd.pair (Kd.int .u64) (Kd.int .u64)) (fun x : S47 => (x.f0, x.f1))
theorem k47_open {w : World} {x : S47} {cs : List Value} (h : k47.K w x cs) : cs = [.int .u64 x.f0, .int .u64 x.f1] := by
 obtain ⟨_, _, rfl, rfl, rfl⟩ := h
 exact rfl
theorem k47_openM {w : World} {base : Nat} {ok : Nat → Prop} {x : S47} {cs : List Value} (h : k47.M w base ok x cs) : cs = [.int .u64 x.f0, .int .u64 x.f1] := by
 obtain ⟨_, _, rfl, rfl, rfl⟩ := h
 exact rfl
theorem k47_mk (w : World) (x : S47)  : k47.K w x [.int .u64 x.f0, .int .u64 x.f1] := ⟨[.int .u64 x.f0], [.int .u64 x.f1], rfl, rfl, rfl⟩
theorem k47_mkM (w : World) (base : Nat) (ok : Nat → Prop) (x : S47)  : k47.M w base ok x [.int .u64 x.f0, .int .u64 x.f1] := ⟨[.int .u64 x.f0], [.int .u64 x.f1], rfl, rfl, rfl⟩
def rd_T47 (xs : List S47) (i : Int) : S47 := xs.getD i.toNat z47
theorem at_T47 {w : World} {A : Option Addr} {n : Nat} {xs : List S47} (h : Kd.C k47 w A n xs) (i : Int) (h0 : 0 ≤ i) (h1 : i < n) : ∃ ad , A = some ad ∧ w.cell? (ad.add (i.toNat * 2)) = some (.int .u64 (rd_T47 xs i).f0) ∧ w.cell? ⟨(ad.add (i.toNat * 2)).block, (ad.add (i.toNat * 2)).off + 1, none⟩ = some (.int .u64 (rd_T47 xs i).f1) := by
 obtain ⟨ad, c, e, _, hK, hc0⟩ := Kd.C_get h z47 i h0 h1
 have hc : ∀ j u, c[j]? = some u → w.cell? (ad.add (i.toNat * 2 + j)) = some u := hc0
 obtain rfl := k47_open hK
 exact ⟨ad, e, hc 0 _ rfl, by rw [← add_field _ _ 1 (by omega)]; exact hc 1 _ rfl⟩
structure S74 where
 f0 : Int
 f1 : Int
def z74 : S74 := ⟨(0 : Int), (0 : Int)⟩
def k74 : Kd S74 := Kd.iso (Kd.pair (Kd.int .u64) (Kd.int .u64)) (fun x : S74 => (x.f0, x.f1))
theorem k74_open {w : World} {x : S74} {cs : List Value} (h : k74.K w x cs) : cs = [.int .u64 x.f0, .int .u64 x.f1] := by
 obtain ⟨_, _, rfl, rfl, rfl⟩ := h
 exact rfl
theorem k74_openM {w : World} {base : Nat} {ok : Nat → Prop} {x : S74} {cs : List Value} (h : k74.M w base ok x cs) : cs = [.int .u64 x.f0, .int .u64 x.f1] := by
 obtain ⟨_, _, rfl, rfl, rfl⟩ := h
 exact rfl
theorem k74_mk (w : World) (x : S74)  : k74.K w x [.int .u64 x.f0, .int .u64 x.f1] := ⟨[.int .u64 x.f0], [.int .u64 x.f1], rfl, rfl, rfl⟩
theorem k74_mkM (w : World) (base : Nat) (ok : Nat → Prop) (x : S74)  : k74.M w base ok x [.int .u64 x.f0, .int .u64 x.f1] := ⟨[.int .u64 x.f0], [.int .u64 x.f1], rfl, rfl, rfl⟩
def rd_T74 (xs : List S74) (i : Int) : S74 := xs.getD i.toNat z74
theorem at_T74 {w : World} {A : Option Addr} {n : Nat} {xs : List S74} (h : Kd.C k74 w A n xs) (i : Int) (h0 : 0 ≤ i) (h1 : i < n) : ∃ ad , A = some ad ∧ w.cell? (ad.add (i.toNat * 2)) = some (.int .u64 (rd_T74 xs i).f0) ∧ w.cell? ⟨(ad.add (i.toNat * 2)).block, (ad.add (i.toNat * 2)).off + 1, none⟩ = some (.int .u64 (rd_T74 xs i).f1) := by
 obtain ⟨ad, c, e, _, hK, hc0⟩ := Kd.C_get h z74 i h0 h1
 have hc : ∀ j u, c[j]? = some u → w.cell? (ad.add (i.toNat * 2 + j)) = some u := hc0
 obtain rfl := k74_open hK
 exact ⟨ad, e, hc 0 _ rfl, by rw [← add_field _ _ 1 (by omega)]; exact hc 1 _ rfl⟩
end Go.Proofs.YtcdcpnhlmgmnkaaDoor.Pos2
end
section
namespace Go.Proofs.YtcdcpnhlmgmnkaaDoor.Pos2
open Go.RowKit Go.Proofs.YtcdcpnhlmgmnkaaDoor.Base Go.Proofs.YtcdcpnhlmgmnkaaDoorW.PrintWords Go.Proofs.YtcdcpnhlmgmnkaaDoorW.PrintLast Go.Proofs.YtcdcpnhlmgmnkaaDoorW.PrintMore
attribute [local go_sem] max2_int min2_int max_two min_two max_three min_three max_four min_four   -- for this text's walks alone
set_option linter.unusedVariables false
set_option linter.unusedSimpArgs false
def odds_Sum.j0 : Nat → Bool → Int → Int → Int → Int → Option (Int × Int × Int)
 | 0, _, _, _, _, _ => none
 | k + 1, x20, x102000, x102001, x103000, x103001 => if x20 = true then (none) else ((Podd.odds_times.f x102000 x103001).bind fun bt106 => ((Podd.odds_times.f (IntKind.u64.wrap (x103001 - x103000)) x102001).bind fun bt108 => ((Podd.odds_wide_compare.f k bt106.1 bt106.2 bt108.1 bt108.2).bind fun t110 => (if t110 > 0 then (some (0, 0, 3)) else ((Podd.odds_divisor.f k x102001 x103001).bind fun t111 => (if t111 = 0 then (none) else ((Podd.odds_times.f x102000 (IntKind.u64.wrap (Int.tdiv x103001 t111))).bind fun bt112 => ((Podd.odds_times.f x103000 (IntKind.u64.wrap (Int.tdiv x102001 t111))).bind fun bt114 => ((odds_wide_plus.f bt112.1 bt112.2 bt114.1 bt114.2).bind fun bt116 => (if bt116.2.2 = true then ((Podd.odds_wide_by.f k bt116.1 bt116.2.1 t111).bind fun bt120 => ((Podd.odds_divisor.f k t111 bt120.2.2).bind fun t124 => (if t124 = 0 then (none) else ((Podd.odds_times.f (IntKind.u64.wrap (Int.tdiv x102001 t111)) (IntKind.u64.wrap (Int.tdiv x103001 t124))).bind fun bt125 => (if bt125.1 > 0 then (none) else (if bt125.2 > 9223372036854775807 then (none) else ((Podd.odds_wide_by.f k bt116.1 bt116.2.1 t124).bind fun bt128 => (none)))))))) else (none)))))))))))
def odds_Sum.f (k : Nat) (a0_0 : Int) (a0_1 : Int) (a1_0 : Int) (a1_1 : Int) : Option (Int × Int × Int) := (Podd.odds_May.f k a0_0 a0_1).bind fun t104 => (if t104 = true then ((Podd.odds_May.f k a1_0 a1_1).bind fun t105 => (odds_Sum.j0 k (!t105) a0_0 a0_1 a1_0 a1_1)) else (odds_Sum.j0 k true a0_0 a0_1 a1_0 a1_1))
theorem odds_Sum.mono_l : ∀ k, (∀ y0 y1 y2 y3 y4, LeO (odds_Sum.j0 k y0 y1 y2 y3 y4) (odds_Sum.j0 (k + 1) y0 y1 y2 y3 y4))
 | 0 => fun _ _ _ _ _ r h => by simp [odds_Sum.j0] at h
 | k + 1 => by
  have ih0 := odds_Sum.mono_l k
  ·
   intro y0 y1 y2 y3 y4
   unfold odds_Sum.j0
   repeat' first
   | (with_reducible exact ih0 _ _ _ _ _)
   | (with_reducible exact Podd.odds_May.mono _ _ _)
   | (with_reducible exact Podd.odds_divisor.mono _ _ _)
   | (with_reducible exact Podd.odds_wide_by.mono _ _ _ _)
   | (with_reducible exact Podd.odds_wide_compare.mono _ _ _ _ _)
   | (with_reducible exact LeO.refl _)
   | (with_reducible exact LeO.none _)
   | (with_reducible refine LeO.ite ?_ ?_)
   | (with_reducible refine LeO.bind ?_ (fun _ => ?_))
   | exact ih0 _ _ _ _ _
   | exact Podd.odds_May.mono _ _ _
   | exact Podd.odds_divisor.mono _ _ _
   | exact Podd.odds_wide_by.mono _ _ _ _
   | exact Podd.odds_wide_compare.mono _ _ _ _ _
   | exact LeO.none _
   | refine LeO.ite ?_ ?_
   | refine LeO.bind ?_ (fun _ => ?_)
theorem odds_Sum.mono : ∀ a0 a1 a2 a3 k, LeO (odds_Sum.f k a0 a1 a2 a3) (odds_Sum.f (k + 1) a0 a1 a2 a3) := by
 intro a0 a1 a2 a3 k
 have ih0 := odds_Sum.mono_l k
 unfold odds_Sum.f
 repeat' first
   | (with_reducible exact ih0 _ _ _ _ _)
   | (with_reducible exact Podd.odds_May.mono _ _ _)
   | (with_reducible exact Podd.odds_divisor.mono _ _ _)
   | (with_reducible exact Podd.odds_wide_by.mono _ _ _ _)
   | (with_reducible exact Podd.odds_wide_compare.mono _ _ _ _ _)
   | (with_reducible exact LeO.refl _)
   | (with_reducible exact LeO.none _)
   | (with_reducible refine LeO.ite ?_ ?_)
   | (with_reducible refine LeO.bind ?_ (fun _ => ?_))
   | exact ih0 _ _ _ _ _
   | exact Podd.odds_May.mono _ _ _
   | exact Podd.odds_divisor.mono _ _ _
   | exact Podd.odds_wide_by.mono _ _ _ _
   | exact Podd.odds_wide_compare.mono _ _ _ _ _
   | exact LeO.none _
   | refine LeO.ite ?_ ?_
   | refine LeO.bind ?_ (fun _ => ?_)
def odds_Sum.T3 : Bool × List (List Nat × List Nat) := (true, [([], []), ([0], [0]), ([], []), ([2], [2]), ([1, 3], [1, 3]), ([], []), ([5], [5]), ([], []), ([7], [7]), ([6, 8], [6, 8]), ([], []), ([10], [10]), ([9, 11, 4], [9, 11]), ([4, 12, 12], [4, 12]), ([13], [13])])
def odds_Sum.B3 : List Nat := [0, 1, 0, 4, 15, 0, 32, 0, 128, 480, 0, 1024, 4095, 8191, 16383]
theorem odds_Sum.tab3 : rtab .any (opsOf Tryd.f36 3) = odds_Sum.T3 := by kernel_rfl
theorem odds_Sum.bits3 : waitsOk odds_Sum.T3.2 odds_Sum.B3 = true := by kernel_rfl
set_option maxHeartbeats 8000000 in
set_option maxRecDepth 100000 in
theorem odds_Sum.calls (k : Nat) (a0_0 : Int) (a0_1 : Int) (a1_0 : Int) (a1_1 : Int) (r1 : Int) (r2 : Int) (r3 : Int) (w : World) (h : odds_Sum.f k a0_0 a0_1 a1_0 a1_1 = some (r1, r2, r3)) :
  Calls Tryd.prog 36 #[.agg #[.int .u64 a0_0, .int .u64 a0_1], .agg #[.int .u64 a1_0, .int .u64 a1_1]] w fun e w' => e = .returned (.tuple #[.agg #[.int .u64 r1, .int .u64 r2], .int .i64 r3]) ∧ Below w.heap.size w w' := by
 have hu47 := Tryd.underlying47
 have hu74 := Tryd.underlying74
 have HB := Aside0.mk (Below.refl w.heap.size w)
 have H : ((Podd.odds_May.f k a0_0 a0_1).bind fun t104 => (if t104 = true then ((Podd.odds_May.f k a1_0 a1_1).bind fun t105 => (odds_Sum.j0 k (!t105) a0_0 a0_1 a1_0 a1_1)) else (odds_Sum.j0 k true a0_0 a0_1 a1_0 a1_1))) = some (r1, r2, r3) := h
 clear h
 have HC3 := Aside0.mk H
 clear H
 go_enter Tryd.func36, Tryd.ntmps36
 go_upto_region 1 with (first | ((with_reducible refine gate_dst (N := 2) rfl ?_); refine box_event ?hg (N := 2) ?hd (cs := #[.int .u64 a0_0, .int .u64 a0_1]) (t := 47) ?hr ?_; (case hd => rfl); (case hg => rfl); (case hr => first | (go_simp; done) | (go_simp; rfl)); intro gb101 hg w4 hbox hb; have n0_ := Aside0.mk (below_step (low HB) hb); have n1_ := Aside0.mk (hbox); have n2_ := Aside0.mk ((by rw [hg]; exact (below_size (low HB)) : w.heap.size ≤ gb101)); have n3_ := Aside0.mk ((by rw [hg]; exact (below_size (low HB)) : w.heap.size ≤ gb101)); clear HB; have HB := n0_; have BK101 := n1_; have GW101 := n2_; have GE101 := n3_; clear n0_ n1_ n2_ n3_; clear hb hbox hg) | ((with_reducible refine gate_dst (N := 3) rfl ?_); refine box_event ?hg (N := 3) ?hd (cs := #[.int .u64 a1_0, .int .u64 a1_1]) (t := 47) ?hr ?_; (case hd => rfl); (case hg => rfl); (case hr => first | (go_simp; done) | (go_simp; rfl)); intro gb102 hg w5 hbox hb; have n0_ := Aside0.mk (blk_below (g := gb101) (o := .cells #[.int .u64 a0_0, .int .u64 a0_1] 47 (0, 0)) of_lies hb); have n1_ := Aside0.mk (below_step (low HB) hb); have n2_ := Aside0.mk (hbox); have n3_ := Aside0.mk ((by rw [hg]; exact (below_size (low HB)) : w.heap.size ≤ gb102)); have n4_ := Aside0.mk ((by rw [hg]; exact (below_size (low HB)) : w.heap.size ≤ gb102)); have n5_ := Aside0.mk ((by rw [hg]; exact Nat.ne_of_lt (blk_lt (g := gb101) (o := .cells #[.int .u64 a0_0, .int .u64 a0_1] 47 (0, 0)) of_lies) : gb101 ≠ gb102)); have n6_ := Aside0.mk ((by rw [hg]; exact Nat.ne_of_gt (blk_lt (g := gb101) (o := .cells #[.int .u64 a0_0, .int .u64 a0_1] 47 (0, 0)) of_lies) : gb102 ≠ gb101)); clear BK101; clear HB; have BK101 := n0_; have HB := n1_; have BK102 := n2_; have GW102 := n3_; have GE102 := n4_; have NB101_102 := n5_; have NB102_101 := n6_; clear n0_ n1_ n2_ n3_ n4_ n5_ n6_; clear hb hbox hg) | ((with_reducible refine gate_dst (N := 4) rfl ?_); refine box_event ?hg (N := 4) ?hd (cs := #[.int .u64 0, .int .u64 0]) (t := 47) ?hr ?_; (case hd => rfl); (case hg => rfl); (case hr => first | (go_simp; done) | (go_simp; rfl)); intro gb103 hg w6 hbox hb; have n0_ := Aside0.mk (blk_below (g := gb101) (o := .cells #[.int .u64 a0_0, .int .u64 a0_1] 47 (0, 0)) of_lies hb); have n1_ := Aside0.mk (blk_below (g := gb102) (o := .cells #[.int .u64 a1_0, .int .u64 a1_1] 47 (0, 0)) of_lies hb); have n2_ := Aside0.mk (below_step (low HB) hb); have n3_ := Aside0.mk (hbox); have n4_ := Aside0.mk ((by rw [hg]; exact (below_size (low HB)) : w.heap.size ≤ gb103)); have n5_ := Aside0.mk ((by rw [hg]; exact (below_size (low HB)) : w.heap.size ≤ gb103)); have n6_ := Aside0.mk ((by rw [hg]; exact Nat.ne_of_lt (blk_lt (g := gb101) (o := .cells #[.int .u64 a0_0, .int .u64 a0_1] 47 (0, 0)) of_lies) : gb101 ≠ gb103)); have n7_ := Aside0.mk ((by rw [hg]; exact Nat.ne_of_gt (blk_lt (g := gb101) (o := .cells #[.int .u64 a0_0, .int .u64 a0_1] 47 (0, 0)) of_lies) : gb103 ≠ gb101)); have n8_ := Aside0.mk ((by rw [hg]; exact Nat.ne_of_lt (blk_lt (g := gb102) (o := .cells #[.int .u64 a1_0, .int .u64 a1_1] 47 (0, 0)) of_lies) : gb102 ≠ gb103)); have n9_ := Aside0.mk ((by rw [hg]; exact Nat.ne_of_gt (blk_lt (g := gb102) (o := .cells #[.int .u64 a1_0, .int .u64 a1_1] 47 (0, 0)) of_lies) : gb103 ≠ gb102)); clear BK101; clear BK102; clear HB; have BK101 := n0_; have BK102 := n1_; have HB := n2_; have BK103 := n3_; have GW103 := n4_; have GE103 := n5_; have NB101_103 := n6_; have NB103_101 := n7_; have NB102_103 := n8_; have NB103_102 := n9_; clear n0_ n1_ n2_ n3_ n4_ n5_ n6_ n7_ n8_ n9_; clear hb hbox hg))
 (try simp only [Act.put, List.setIfInBounds_toArray, List.set_cons_zero, List.set_cons_succ])
 go_cut [20] (fun v20 wc => ∃ (kq : Nat) (x20_2 : Bool), v20 = .bool x20_2 ∧ Aside0 (odds_Sum.j0 kq x20_2 a0_0 a0_1 a1_0 a1_1 = some (r1, r2, r3)) ∧ Aside0 (kq ≤ k) ∧ Aside0 (wc.heap[gb101]? = some (.cells #[.int .u64 a0_0, .int .u64 a0_1] 47 (0, 0))) ∧ Aside0 (wc.heap[gb102]? = some (.cells #[.int .u64 a1_0, .int .u64 a1_1] 47 (0, 0))) ∧ Aside0 (wc.heap[gb103]? = some (.cells #[.int .u64 0, .int .u64 0] 47 (0, 0))) ∧ Aside0 (Below w.heap.size w wc))
 case first =>
  have H := HC3.out
  clear HC3
  replace H := Option.bind_eq_some_iff.mp H
  obtain ⟨t104, A70, H⟩ := H
  replace H : (if t104 = true then ((Podd.odds_May.f k a1_0 a1_1).bind fun t105 => (odds_Sum.j0 k (!t105) a0_0 a0_1 a1_0 a1_1)) else (odds_Sum.j0 k true a0_0 a0_1 a1_0 a1_1)) = some (r1, r2, r3) := H
  have A7 := Aside0.mk A70
  clear A70
  by_cases c8 : t104 = true
  ·
   subst c8
   have H1 : ((Podd.odds_May.f k a1_0 a1_1).bind fun t105 => (odds_Sum.j0 k (!t105) a0_0 a0_1 a1_0 a1_1)) = some (r1, r2, r3) := by rw [if_pos rfl] at H; exact H
   clear H
   have H := H1
   clear H1
   replace H := Option.bind_eq_some_iff.mp H
   obtain ⟨t105, A90, H⟩ := H
   replace H : (odds_Sum.j0 k (!t105) a0_0 a0_1 a1_0 a1_1) = some (r1, r2, r3) := H
   have A9 := Aside0.mk A90
   clear A90
   have H' := Aside0.mk H
   clear H
   have hnb10 := NB101_102.out
   have hnc10 := NB102_101.out
   have hnb11 := NB101_103.out
   have hnc11 := NB103_101.out
   have hcz12_0 : w6.cell? ⟨gb101, 0, none⟩ = some (.int .u64 a0_0) := (blk_cell BK101.out 0).trans rfl
   have hcz12_1 : w6.cell? ⟨gb101, 1, none⟩ = some (.int .u64 a0_1) := (blk_cell BK101.out 1).trans rfl
   have hfz12_0 := blk_frozen BK101.out 0
   have hfz12_1 := blk_frozen BK101.out 1
   go_wp2_with (first | ((with_reducible refine gate_callee (f := 38) rfl ?_); refine goesL_ (some 14) rfl rfl Tryd.func38 (by kernel_rfl) rfl #[.agg #[.int .u64 a0_0, .int .u64 a0_1]] rfl (by (try simp only [List.map_toArray, List.map_cons, List.map_nil]); first | done | rfl | (simp only [List.length_drop, List.length_take]; rfl)) ?_; (with_reducible refine (Podd.odds_May.calls k a0_0 a0_1 true _ A7.out).mono ?_); rintro e w13 ⟨rfl, hb⟩; refine ⟨_, rfl, ?_⟩; have n0_ := Aside0.mk (blk_below (g := gb101) (o := .cells #[.int .u64 a0_0, .int .u64 a0_1] 47 (0, 0)) of_lies hb); have n1_ := Aside0.mk (blk_below (g := gb102) (o := .cells #[.int .u64 a1_0, .int .u64 a1_1] 47 (0, 0)) of_lies hb); have n2_ := Aside0.mk (blk_below (g := gb103) (o := .cells #[.int .u64 0, .int .u64 0] 47 (0, 0)) of_lies hb); have n3_ := Aside0.mk (below_step (low HB) hb); clear BK101; clear BK102; clear BK103; clear HB; have BK101 := n0_; have BK102 := n1_; have BK103 := n2_; have HB := n3_; clear n0_ n1_ n2_ n3_; (try clear hb); (try clear hb2); (try clear hk); (try clear hi); have hnb14 := NB102_103.out; have hnc14 := NB103_102.out; obtain ⟨hcz15_0, hcz15_1, hfz15_0, hfz15_1⟩ := cells2 BK102.out) | (go_at_call 38; (with_reducible refine (Podd.odds_May.calls k a1_0 a1_1 t105 _ A9.out).mono ?_); rintro e w16 ⟨rfl, hb⟩; have n0_ := Aside0.mk (blk_below (g := gb101) (o := .cells #[.int .u64 a0_0, .int .u64 a0_1] 47 (0, 0)) of_lies hb); have n1_ := Aside0.mk (blk_below (g := gb102) (o := .cells #[.int .u64 a1_0, .int .u64 a1_1] 47 (0, 0)) of_lies hb); have n2_ := Aside0.mk (blk_below (g := gb103) (o := .cells #[.int .u64 0, .int .u64 0] 47 (0, 0)) of_lies hb); have n3_ := Aside0.mk (below_step (low HB) hb); clear BK101; clear BK102; clear BK103; clear HB; have BK101 := n0_; have BK102 := n1_; have BK103 := n2_; have HB := n3_; clear n0_ n1_ n2_ n3_; (try clear hb); (try clear hb2); (try clear hk); (try clear hi)))
   go_meet
   case rel => exact ⟨_, (!t105), (by first | rfl | (simp; done) | (simp [*]; done)), H', ⟨by first | omega | exact Nat.le_refl _⟩, ⟨of_lies⟩, ⟨of_lies⟩, ⟨of_lies⟩, ⟨low HB⟩⟩
  ·
   replace c8 := Bool.eq_false_iff.mpr c8
   subst c8
   have H1 : (odds_Sum.j0 k true a0_0 a0_1 a1_0 a1_1) = some (r1, r2, r3) := by rw [if_neg (show ¬ (false = true) by decide)] at H; exact H
   clear H
   have H := H1
   clear H1
   have H' := Aside0.mk H
   clear H
   have hnb17 := NB101_102.out
   have hnc17 := NB102_101.out
   have hnb18 := NB101_103.out
   have hnc18 := NB103_101.out
   have hcz19_0 : w6.cell? ⟨gb101, 0, none⟩ = some (.int .u64 a0_0) := (blk_cell BK101.out 0).trans rfl
   have hcz19_1 : w6.cell? ⟨gb101, 1, none⟩ = some (.int .u64 a0_1) := (blk_cell BK101.out 1).trans rfl
   have hfz19_0 := blk_frozen BK101.out 0
   have hfz19_1 := blk_frozen BK101.out 1
   go_wp2_with (first | ((with_reducible refine gate_callee (f := 38) rfl ?_); refine goesL_ (some 14) rfl rfl Tryd.func38 (by kernel_rfl) rfl #[.agg #[.int .u64 a0_0, .int .u64 a0_1]] rfl (by (try simp only [List.map_toArray, List.map_cons, List.map_nil]); first | done | rfl | (simp only [List.length_drop, List.length_take]; rfl)) ?_; (with_reducible refine (Podd.odds_May.calls k a0_0 a0_1 false _ A7.out).mono ?_); rintro e w20 ⟨rfl, hb⟩; refine ⟨_, rfl, ?_⟩; have n0_ := Aside0.mk (blk_below (g := gb101) (o := .cells #[.int .u64 a0_0, .int .u64 a0_1] 47 (0, 0)) of_lies hb); have n1_ := Aside0.mk (blk_below (g := gb102) (o := .cells #[.int .u64 a1_0, .int .u64 a1_1] 47 (0, 0)) of_lies hb); have n2_ := Aside0.mk (blk_below (g := gb103) (o := .cells #[.int .u64 0, .int .u64 0] 47 (0, 0)) of_lies hb); have n3_ := Aside0.mk (below_step (low HB) hb); clear BK101; clear BK102; clear BK103; clear HB; have BK101 := n0_; have BK102 := n1_; have BK103 := n2_; have HB := n3_; clear n0_ n1_ n2_ n3_; (try clear hb); (try clear hb2); (try clear hk); (try clear hi)))
   go_meet
   case rel => exact ⟨_, (true), (by first | rfl | (simp; done) | (simp [*]; done)), H', ⟨by first | omega | exact Nat.le_refl _⟩, ⟨of_lies⟩, ⟨of_lies⟩, ⟨of_lies⟩, ⟨low HB⟩⟩
 case rest =>
  clear HC3
  try clear c1
  try clear p2
  try clear c3
  try clear c8
  try clear c10
  try clear c11
  try clear c14
  try clear c17
  try clear c18
  try clear hcz12_0
  try clear hcz12_1
  try clear hcz15_0
  try clear hcz15_1
  try clear hcz19_0
  try clear hcz19_1
  try clear hfz12_0
  try clear hfz12_1
  try clear hfz15_0
  try clear hfz15_1
  try clear hfz19_0
  try clear hfz19_1
  obtain ⟨kq, x20_2, rfl, HA, HJ2, BK101, BK102, BK103, HB⟩ := hcut
  cases kq with
  | zero => exact absurd HA.out (by simp [odds_Sum.j0])
  | succ kj2 =>
   have H := HA.out
   clear HA
   simp only [odds_Sum.j0] at H
   by_cases c21 : x20_2 = true
   ·
    subst c21
    have H1 : (none) = some (r1, r2, r3) := by rw [if_pos rfl] at H; exact H
    clear H
    have H := H1
    clear H1
    exact absurd H (by simp)
   ·
    replace c21 := Bool.eq_false_iff.mpr c21
    subst c21
    have H1 : ((Podd.odds_times.f a0_0 a1_1).bind fun bt106 => ((Podd.odds_times.f (IntKind.u64.wrap (a1_1 - a1_0)) a0_1).bind fun bt108 => ((Podd.odds_wide_compare.f kj2 bt106.1 bt106.2 bt108.1 bt108.2).bind fun t110 => (if t110 > 0 then (some (0, 0, 3)) else ((Podd.odds_divisor.f kj2 a0_1 a1_1).bind fun t111 => (if t111 = 0 then (none) else ((Podd.odds_times.f a0_0 (IntKind.u64.wrap (Int.tdiv a1_1 t111))).bind fun bt112 => ((Podd.odds_times.f a1_0 (IntKind.u64.wrap (Int.tdiv a0_1 t111))).bind fun bt114 => ((odds_wide_plus.f bt112.1 bt112.2 bt114.1 bt114.2).bind fun bt116 => (if bt116.2.2 = true then ((Podd.odds_wide_by.f kj2 bt116.1 bt116.2.1 t111).bind fun bt120 => ((Podd.odds_divisor.f kj2 t111 bt120.2.2).bind fun t124 => (if t124 = 0 then (none) else ((Podd.odds_times.f (IntKind.u64.wrap (Int.tdiv a0_1 t111)) (IntKind.u64.wrap (Int.tdiv a1_1 t124))).bind fun bt125 => (if bt125.1 > 0 then (none) else (if bt125.2 > 9223372036854775807 then (none) else ((Podd.odds_wide_by.f kj2 bt116.1 bt116.2.1 t124).bind fun bt128 => (none)))))))) else (none))))))))))) = some (r1, r2, r3) := by rw [if_neg (show ¬ (false = true) by decide)] at H; exact H
    clear H
    have H := H1
    clear H1
    replace H := Option.bind_eq_some_iff.mp H
    obtain ⟨⟨t106, t107⟩, A220, H⟩ := H
    replace H : ((Podd.odds_times.f (IntKind.u64.wrap (a1_1 - a1_0)) a0_1).bind fun bt108 => ((Podd.odds_wide_compare.f kj2 t106 t107 bt108.1 bt108.2).bind fun t110 => (if t110 > 0 then (some (0, 0, 3)) else ((Podd.odds_divisor.f kj2 a0_1 a1_1).bind fun t111 => (if t111 = 0 then (none) else ((Podd.odds_times.f a0_0 (IntKind.u64.wrap (Int.tdiv a1_1 t111))).bind fun bt112 => ((Podd.odds_times.f a1_0 (IntKind.u64.wrap (Int.tdiv a0_1 t111))).bind fun bt114 => ((odds_wide_plus.f bt112.1 bt112.2 bt114.1 bt114.2).bind fun bt116 => (if bt116.2.2 = true then ((Podd.odds_wide_by.f kj2 bt116.1 bt116.2.1 t111).bind fun bt120 => ((Podd.odds_divisor.f kj2 t111 bt120.2.2).bind fun t124 => (if t124 = 0 then (none) else ((Podd.odds_times.f (IntKind.u64.wrap (Int.tdiv a0_1 t111)) (IntKind.u64.wrap (Int.tdiv a1_1 t124))).bind fun bt125 => (if bt125.1 > 0 then (none) else (if bt125.2 > 9223372036854775807 then (none) else ((Podd.odds_wide_by.f kj2 bt116.1 bt116.2.1 t124).bind fun bt128 => (none)))))))) else (none)))))))))) = some (r1, r2, r3) := H
    have A22 := Aside0.mk A220
    clear A220
    replace H := Option.bind_eq_some_iff.mp H
    obtain ⟨⟨t108, t109⟩, A230, H⟩ := H
    replace H : ((Podd.odds_wide_compare.f kj2 t106 t107 t108 t109).bind fun t110 => (if t110 > 0 then (some (0, 0, 3)) else ((Podd.odds_divisor.f kj2 a0_1 a1_1).bind fun t111 => (if t111 = 0 then (none) else ((Podd.odds_times.f a0_0 (IntKind.u64.wrap (Int.tdiv a1_1 t111))).bind fun bt112 => ((Podd.odds_times.f a1_0 (IntKind.u64.wrap (Int.tdiv a0_1 t111))).bind fun bt114 => ((odds_wide_plus.f bt112.1 bt112.2 bt114.1 bt114.2).bind fun bt116 => (if bt116.2.2 = true then ((Podd.odds_wide_by.f kj2 bt116.1 bt116.2.1 t111).bind fun bt120 => ((Podd.odds_divisor.f kj2 t111 bt120.2.2).bind fun t124 => (if t124 = 0 then (none) else ((Podd.odds_times.f (IntKind.u64.wrap (Int.tdiv a0_1 t111)) (IntKind.u64.wrap (Int.tdiv a1_1 t124))).bind fun bt125 => (if bt125.1 > 0 then (none) else (if bt125.2 > 9223372036854775807 then (none) else ((Podd.odds_wide_by.f kj2 bt116.1 bt116.2.1 t124).bind fun bt128 => (none)))))))) else (none))))))))) = some (r1, r2, r3) := H
    have A23 := Aside0.mk A230
    clear A230
    replace H := Option.bind_eq_some_iff.mp H
    obtain ⟨t110, A240, H⟩ := H
    replace H : (if t110 > 0 then (some (0, 0, 3)) else ((Podd.odds_divisor.f kj2 a0_1 a1_1).bind fun t111 => (if t111 = 0 then (none) else ((Podd.odds_times.f a0_0 (IntKind.u64.wrap (Int.tdiv a1_1 t111))).bind fun bt112 => ((Podd.odds_times.f a1_0 (IntKind.u64.wrap (Int.tdiv a0_1 t111))).bind fun bt114 => ((odds_wide_plus.f bt112.1 bt112.2 bt114.1 bt114.2).bind fun bt116 => (if bt116.2.2 = true then ((Podd.odds_wide_by.f kj2 bt116.1 bt116.2.1 t111).bind fun bt120 => ((Podd.odds_divisor.f kj2 t111 bt120.2.2).bind fun t124 => (if t124 = 0 then (none) else ((Podd.odds_times.f (IntKind.u64.wrap (Int.tdiv a0_1 t111)) (IntKind.u64.wrap (Int.tdiv a1_1 t124))).bind fun bt125 => (if bt125.1 > 0 then (none) else (if bt125.2 > 9223372036854775807 then (none) else ((Podd.odds_wide_by.f kj2 bt116.1 bt116.2.1 t124).bind fun bt128 => (none)))))))) else (none)))))))) = some (r1, r2, r3) := H
    have A24 := Aside0.mk A240
    clear A240
    by_cases c25 : t110 > 0
    ·
     rw [if_pos c25] at H
     have c25b0 : decide (0 < t110) = true := decide_eq_true c25
     clear c25
     simp only [Option.some.injEq, Prod.mk.injEq] at H
     obtain ⟨rfl, rfl, rfl⟩ := H
     try go_wp2
     have n0_ := Aside0.mk (blk_drew BK101.out)
     have n1_ := Aside0.mk (blk_drew BK102.out)
     have n2_ := Aside0.mk (blk_drew BK103.out)
     have n3_ := Aside0.mk (below_drew1 HB.out)
     clear BK101
     clear BK102
     clear BK103
     clear HB
     have BK101 := n0_
     have BK102 := n1_
     have BK103 := n2_
     have HB := n3_
     clear n0_ n1_ n2_ n3_
     refine start_ (n := 15) (S := fun w' => w'.cell? ⟨gb101, 0, none⟩ = some (.int .u64 a0_0) ∧ w'.cell? ⟨gb101, 1, none⟩ = some (.int .u64 a0_1) ∧ w'.cell? ⟨gb102, 0, none⟩ = some (.int .u64 a1_0) ∧ w'.cell? ⟨gb102, 1, none⟩ = some (.int .u64 a1_1)) (ds := []) #[false, false, false, false, false, false, false, false, false, false, false, false, false, false, false] (by kernel_rfl) rfl rfl ⟨(blk_cell BK101.out 0).trans rfl, (blk_cell BK101.out 1).trans rfl, (blk_cell BK102.out 0).trans rfl, (blk_cell BK102.out 1).trans rfl⟩ (fun hHeld => ?_); refine with_tabW odds_Sum.tab3 odds_Sum.bits3 (fun HT_ HW_ => ?_)
     generalize wc.drew = w26 at BK101 BK102 BK103 HB hHeld ⊢
     refine pure_ (i := 0) (N := some 22) (v := ?_) (a' := ?_) #[true, false, false, false, false, false, false, false, false, false, false, false, false, false, false] rfl rfl (any_of HT_.out (by kernel_rfl)) (fun _ _ _ h => h) (Or.inl ⟨by rfl, ?_⟩) ?_ ?_
     rotate_left
     ·
      intro w'
      go_simp
      with_reducible rfl
     rotate_left
     ·
      simp only [Act.put, List.setIfInBounds_toArray, List.set_cons_zero, List.set_cons_succ, i64_w, i32_w]
      rfl
     refine pure_ (i := 2) (N := some 24) (v := ?_) (a' := ?_) #[true, false, true, false, false, false, false, false, false, false, false, false, false, false, false] rfl rfl (any_of HT_.out (by kernel_rfl)) (fun _ _ _ h => h) (Or.inl ⟨by rfl, ?_⟩) ?_ ?_
     rotate_left
     ·
      intro w'
      go_simp
      with_reducible rfl
     rotate_left
     ·
      simp only [Act.put, List.setIfInBounds_toArray, List.set_cons_zero, List.set_cons_succ, i64_w, i32_w]
      rfl
     refine pure_ (i := 5) (N := some 27) (v := ?_) (a' := ?_) #[true, false, true, false, false, true, false, false, false, false, false, false, false, false, false] rfl rfl (any_of HT_.out (by kernel_rfl)) (fun _ _ _ h => h) (Or.inl ⟨by rfl, ?_⟩) ?_ ?_
     rotate_left
     ·
      intro w'
      go_simp
      with_reducible rfl
     rotate_left
     ·
      simp only [Act.put, List.setIfInBounds_toArray, List.set_cons_zero, List.set_cons_succ, i64_w, i32_w]
      rfl
     refine pure_ (i := 7) (N := some 29) (v := ?_) (a' := ?_) #[true, false, true, false, false, true, false, true, false, false, false, false, false, false, false] rfl rfl (any_of HT_.out (by kernel_rfl)) (fun _ _ _ h => h) (Or.inl ⟨by rfl, ?_⟩) ?_ ?_
     rotate_left
     ·
      intro w'
      go_simp
      with_reducible rfl
     rotate_left
     ·
      simp only [Act.put, List.setIfInBounds_toArray, List.set_cons_zero, List.set_cons_succ, i64_w, i32_w]
      rfl
     refine pure_ (i := 10) (N := some 32) (v := ?_) (a' := ?_) #[true, false, true, false, false, true, false, true, false, false, true, false, false, false, false] rfl rfl (any_of HT_.out (by kernel_rfl)) (fun _ _ _ h => h) (Or.inl ⟨by rfl, ?_⟩) ?_ ?_
     rotate_left
     ·
      intro w'
      go_simp
      with_reducible rfl
     rotate_left
     ·
      simp only [Act.put, List.setIfInBounds_toArray, List.set_cons_zero, List.set_cons_succ, i64_w, i32_w]
      rfl
     refine take_ (i := 1) (N := some 23) (v := ?_) (a' := ?_) #[true, true, true, false, false, true, false, true, false, false, true, false, false, false, false] rfl rfl (take_ofW HT_.out HW_.out (by kernel_rfl)) (fun _ _ _ h => h) (Or.inl ⟨by rfl, ?_⟩) hHeld ?_ ?_
     rotate_left
     ·
      rintro w' ⟨s0, s1, s2, s3⟩
      go_simp
      with_reducible rfl
     rotate_left
     ·
      simp only [Act.put, List.setIfInBounds_toArray, List.set_cons_zero, List.set_cons_succ, i64_w, i32_w]
      rfl
     refine take_ (i := 3) (N := some 25) (v := ?_) (a' := ?_) #[true, true, true, true, false, true, false, true, false, false, true, false, false, false, false] rfl rfl (take_ofW HT_.out HW_.out (by kernel_rfl)) (fun _ _ _ h => h) (Or.inl ⟨by rfl, ?_⟩) hHeld ?_ ?_
     rotate_left
     ·
      rintro w' ⟨s0, s1, s2, s3⟩
      go_simp
      with_reducible rfl
     rotate_left
     ·
      simp only [Act.put, List.setIfInBounds_toArray, List.set_cons_zero, List.set_cons_succ, i64_w, i32_w]
      rfl
     refine take_ (i := 6) (N := some 28) (v := ?_) (a' := ?_) #[true, true, true, true, false, true, true, true, false, false, true, false, false, false, false] rfl rfl (take_ofW HT_.out HW_.out (by kernel_rfl)) (fun _ _ _ h => h) (Or.inl ⟨by rfl, ?_⟩) hHeld ?_ ?_
     rotate_left
     ·
      rintro w' ⟨s0, s1, s2, s3⟩
      go_simp
      with_reducible rfl
     rotate_left
     ·
      simp only [Act.put, List.setIfInBounds_toArray, List.set_cons_zero, List.set_cons_succ, i64_w, i32_w]
      rfl
     refine take_ (i := 8) (N := some 30) (v := ?_) (a' := ?_) #[true, true, true, true, false, true, true, true, true, false, true, false, false, false, false] rfl rfl (take_ofW HT_.out HW_.out (by kernel_rfl)) (fun _ _ _ h => h) (Or.inl ⟨by rfl, ?_⟩) hHeld ?_ ?_
     rotate_left
     ·
      rintro w' ⟨s0, s1, s2, s3⟩
      go_simp
      with_reducible rfl
     rotate_left
     ·
      simp only [Act.put, List.setIfInBounds_toArray, List.set_cons_zero, List.set_cons_succ, i64_w, i32_w]
      rfl
     refine pure_ (i := 9) (N := some 31) (v := ?_) (a' := ?_) #[true, true, true, true, false, true, true, true, true, true, true, false, false, false, false] rfl rfl (any_of HT_.out (by kernel_rfl)) (fun _ _ _ h => h) (Or.inl ⟨by rfl, ?_⟩) ?_ ?_
     rotate_left
     ·
      intro w'
      go_simp
      with_reducible rfl
     rotate_left
     ·
      simp only [Act.put, List.setIfInBounds_toArray, List.set_cons_zero, List.set_cons_succ, i64_w, i32_w]
      rfl
     refine take_ (i := 11) (N := some 33) (v := ?_) (a' := ?_) #[true, true, true, true, false, true, true, true, true, true, true, true, false, false, false] rfl rfl (take_ofW HT_.out HW_.out (by kernel_rfl)) (fun _ _ _ h => h) (Or.inl ⟨by rfl, ?_⟩) hHeld ?_ ?_
     rotate_left
     ·
      rintro w' ⟨s0, s1, s2, s3⟩
      go_simp
      with_reducible rfl
     rotate_left
     ·
      simp only [Act.put, List.setIfInBounds_toArray, List.set_cons_zero, List.set_cons_succ, i64_w, i32_w]
      rfl
     refine one_ (i := 4) (N := some 26) #[true, true, true, true, true, true, true, true, true, true, true, true, false, false, false] rfl rfl (one_of HT_.out (by kernel_rfl)) (by decide) (fun K hK => ?_)
     refine goes_ Tryd.func63 (by kernel_rfl) rfl #[.int .u64 a0_0, .int .u64 a1_1] (by rfl) rfl rfl (by (try simp only [List.map_toArray, List.map_cons, List.map_nil]); first | done | rfl | (simp only [List.length_drop, List.length_take]; rfl)) ?_
     with_reducible refine (Podd.odds_times.calls a0_0 a1_1 t106 t107 _ A22.out).mono ?_
     rintro e w27 ⟨rfl, hb⟩
     refine ⟨_, rfl, ?_⟩
     have n0_ := Aside0.mk (blk_below (g := gb101) (o := .cells #[.int .u64 a0_0, .int .u64 a0_1] 47 (0, 0)) of_lies hb)
     have n1_ := Aside0.mk (blk_below (g := gb102) (o := .cells #[.int .u64 a1_0, .int .u64 a1_1] 47 (0, 0)) of_lies hb)
     have n2_ := Aside0.mk (blk_below (g := gb103) (o := .cells #[.int .u64 0, .int .u64 0] 47 (0, 0)) of_lies hb)
     have n3_ := Aside0.mk (below_step (low HB) hb)
     clear BK101
     clear BK102
     clear BK103
     clear HB
     have BK101 := n0_
     have BK102 := n1_
     have BK103 := n2_
     have HB := n3_
     clear n0_ n1_ n2_ n3_
     (try clear hb)
     (try clear hb2)
     (try clear hk)
     (try clear hi)
     refine hK.out _ _ ⟨(blk_cell BK101.out 0).trans rfl, (blk_cell BK101.out 1).trans rfl, (blk_cell BK102.out 0).trans rfl, (blk_cell BK102.out 1).trans rfl⟩ (fun hHeld => ?_)
     clear hK K
     refine norm_ (a' := ?_) ?_ ?_
     rotate_left
     ·
      show Act.put _ (some 26) _ = _
      simp only [Act.put, List.setIfInBounds_toArray, List.set_cons_zero, List.set_cons_succ, i64_w, i32_w]
      rfl
     refine one_ (i := 12) (N := some 34) #[true, true, true, true, true, true, true, true, true, true, true, true, true, false, false] rfl rfl (one_of HT_.out (by kernel_rfl)) (by decide) (fun K hK => ?_)
     refine goes_ Tryd.func63 (by kernel_rfl) rfl #[.int .u64 (IntKind.u64.wrap (a1_1 - a1_0)), .int .u64 a0_1] (by rfl) rfl rfl (by (try simp only [List.map_toArray, List.map_cons, List.map_nil]); first | done | rfl | (simp only [List.length_drop, List.length_take]; rfl)) ?_
     with_reducible refine (Podd.odds_times.calls (IntKind.u64.wrap (a1_1 - a1_0)) a0_1 t108 t109 _ A23.out).mono ?_
     rintro e w28 ⟨rfl, hb⟩
     refine ⟨_, rfl, ?_⟩
     have n0_ := Aside0.mk (blk_below (g := gb101) (o := .cells #[.int .u64 a0_0, .int .u64 a0_1] 47 (0, 0)) of_lies hb)
     have n1_ := Aside0.mk (blk_below (g := gb102) (o := .cells #[.int .u64 a1_0, .int .u64 a1_1] 47 (0, 0)) of_lies hb)
     have n2_ := Aside0.mk (blk_below (g := gb103) (o := .cells #[.int .u64 0, .int .u64 0] 47 (0, 0)) of_lies hb)
     have n3_ := Aside0.mk (below_step (low HB) hb)
     clear BK101
     clear BK102
     clear BK103
     clear HB
     have BK101 := n0_
     have BK102 := n1_
     have BK103 := n2_
     have HB := n3_
     clear n0_ n1_ n2_ n3_
     (try clear hb)
     (try clear hb2)
     (try clear hk)
     (try clear hi)
     refine hK.out _ _ ⟨(blk_cell BK101.out 0).trans rfl, (blk_cell BK101.out 1).trans rfl, (blk_cell BK102.out 0).trans rfl, (blk_cell BK102.out 1).trans rfl⟩ (fun hHeld => ?_)
     clear hK K
     refine norm_ (a' := ?_) ?_ ?_
     rotate_left
     ·
      show Act.put _ (some 34) _ = _
      simp only [Act.put, List.setIfInBounds_toArray, List.set_cons_zero, List.set_cons_succ, i64_w, i32_w]
      rfl
     refine one_ (i := 13) (N := some 35) #[true, true, true, true, true, true, true, true, true, true, true, true, true, true, false] rfl rfl (one_of HT_.out (by kernel_rfl)) (by decide) (fun K hK => ?_)
     refine goes_ Tryd.func64 (by kernel_rfl) rfl #[.agg #[.int .u64 t106, .int .u64 t107], .agg #[.int .u64 t108, .int .u64 t109]] (by rfl) rfl rfl (by (try simp only [List.map_toArray, List.map_cons, List.map_nil]); first | done | rfl | (simp only [List.length_drop, List.length_take]; rfl)) ?_
     with_reducible refine (Podd.odds_wide_compare.calls kj2 t106 t107 t108 t109 t110 _ A24.out).mono ?_
     rintro e w29 ⟨rfl, hb⟩
     refine ⟨_, rfl, ?_⟩
     have n0_ := Aside0.mk (blk_below (g := gb101) (o := .cells #[.int .u64 a0_0, .int .u64 a0_1] 47 (0, 0)) of_lies hb)
     have n1_ := Aside0.mk (blk_below (g := gb102) (o := .cells #[.int .u64 a1_0, .int .u64 a1_1] 47 (0, 0)) of_lies hb)
     have n2_ := Aside0.mk (blk_below (g := gb103) (o := .cells #[.int .u64 0, .int .u64 0] 47 (0, 0)) of_lies hb)
     have n3_ := Aside0.mk (below_step (low HB) hb)
     clear BK101
     clear BK102
     clear BK103
     clear HB
     have BK101 := n0_
     have BK102 := n1_
     have BK103 := n2_
     have HB := n3_
     clear n0_ n1_ n2_ n3_
     (try clear hb)
     (try clear hb2)
     (try clear hk)
     (try clear hi)
     refine hK.out _ _ ⟨(blk_cell BK101.out 0).trans rfl, (blk_cell BK101.out 1).trans rfl, (blk_cell BK102.out 0).trans rfl, (blk_cell BK102.out 1).trans rfl⟩ (fun hHeld => ?_)
     clear hK K
     refine norm_ (a' := ?_) ?_ ?_
     rotate_left
     ·
      show Act.put _ (some 35) _ = _
      simp only [Act.put, List.setIfInBounds_toArray, List.set_cons_zero, List.set_cons_succ, i64_w, i32_w]
      rfl
     refine pure_ (i := 14) (N := some 36) (v := ?_) (a' := ?_) #[true, true, true, true, true, true, true, true, true, true, true, true, true, true, true] rfl rfl (any_of HT_.out (by kernel_rfl)) (fun _ _ _ h => h) (Or.inl ⟨by rfl, ?_⟩) ?_ ?_
     rotate_left
     ·
      intro w'
      go_simp
      with_reducible rfl
     rotate_left
     ·
      simp only [Act.put, List.setIfInBounds_toArray, List.set_cons_zero, List.set_cons_succ, i64_w, i32_w]
      rfl
     refine done_ (done_of HT_.out (by kernel_rfl)) ?_
     have hnb30 := NB103_101.out
     have hnc30 := NB101_103.out
     have hnb31 := NB103_102.out
     have hnc31 := NB102_103.out
     have hcz32_0 : w29.cell? ⟨gb103, 0, none⟩ = some (.int .u64 0) := (blk_cell BK103.out 0).trans rfl
     have hcz32_1 : w29.cell? ⟨gb103, 1, none⟩ = some (.int .u64 0) := (blk_cell BK103.out 1).trans rfl
     have hfz32_0 := blk_frozen BK103.out 0
     have hfz32_1 := blk_frozen BK103.out 1
     try go_wp2
     refine bodyPost_ret (results_ct rfl _ _ gb103 47 #[.int .u64 0, .int .u64 0] (0, 0) _ rfl of_lies Tryd.underlying47 rfl (by kernel_rfl)) rfl ?_
     exact ⟨by first | rfl | (simp [errW_none, errW_some] <;> rfl) | (simp [*, errW_none, errW_some] <;> rfl), low HB⟩
    ·
     rw [if_neg c25] at H
     have c25b0 : decide (0 < t110) = false := decide_eq_false c25
     clear c25
     replace H := Option.bind_eq_some_iff.mp H
     obtain ⟨t111, A330, H⟩ := H
     replace H : (if t111 = 0 then (none) else ((Podd.odds_times.f a0_0 (IntKind.u64.wrap (Int.tdiv a1_1 t111))).bind fun bt112 => ((Podd.odds_times.f a1_0 (IntKind.u64.wrap (Int.tdiv a0_1 t111))).bind fun bt114 => ((odds_wide_plus.f bt112.1 bt112.2 bt114.1 bt114.2).bind fun bt116 => (if bt116.2.2 = true then ((Podd.odds_wide_by.f kj2 bt116.1 bt116.2.1 t111).bind fun bt120 => ((Podd.odds_divisor.f kj2 t111 bt120.2.2).bind fun t124 => (if t124 = 0 then (none) else ((Podd.odds_times.f (IntKind.u64.wrap (Int.tdiv a0_1 t111)) (IntKind.u64.wrap (Int.tdiv a1_1 t124))).bind fun bt125 => (if bt125.1 > 0 then (none) else (if bt125.2 > 9223372036854775807 then (none) else ((Podd.odds_wide_by.f kj2 bt116.1 bt116.2.1 t124).bind fun bt128 => (none)))))))) else (none)))))) = some (r1, r2, r3) := H
     have A33 := Aside0.mk A330
     clear A330
     by_cases c34 : t111 = 0
     ·
      rw [if_pos c34] at H
      exact absurd H (by simp)
     ·
      rw [if_neg c34] at H
      have c34b0 : (t111 == 0) = false := beq_eq_false_iff_ne.mpr c34
      have c34b1 : (t111 != 0) = true := bne_iff_ne.mpr c34
      replace H := Option.bind_eq_some_iff.mp H
      obtain ⟨⟨t112, t113⟩, A350, H⟩ := H
      replace H : ((Podd.odds_times.f a1_0 (IntKind.u64.wrap (Int.tdiv a0_1 t111))).bind fun bt114 => ((odds_wide_plus.f t112 t113 bt114.1 bt114.2).bind fun bt116 => (if bt116.2.2 = true then ((Podd.odds_wide_by.f kj2 bt116.1 bt116.2.1 t111).bind fun bt120 => ((Podd.odds_divisor.f kj2 t111 bt120.2.2).bind fun t124 => (if t124 = 0 then (none) else ((Podd.odds_times.f (IntKind.u64.wrap (Int.tdiv a0_1 t111)) (IntKind.u64.wrap (Int.tdiv a1_1 t124))).bind fun bt125 => (if bt125.1 > 0 then (none) else (if bt125.2 > 9223372036854775807 then (none) else ((Podd.odds_wide_by.f kj2 bt116.1 bt116.2.1 t124).bind fun bt128 => (none)))))))) else (none)))) = some (r1, r2, r3) := H
      have A35 := Aside0.mk A350
      clear A350
      replace H := Option.bind_eq_some_iff.mp H
      obtain ⟨⟨t114, t115⟩, A360, H⟩ := H
      replace H : ((odds_wide_plus.f t112 t113 t114 t115).bind fun bt116 => (if bt116.2.2 = true then ((Podd.odds_wide_by.f kj2 bt116.1 bt116.2.1 t111).bind fun bt120 => ((Podd.odds_divisor.f kj2 t111 bt120.2.2).bind fun t124 => (if t124 = 0 then (none) else ((Podd.odds_times.f (IntKind.u64.wrap (Int.tdiv a0_1 t111)) (IntKind.u64.wrap (Int.tdiv a1_1 t124))).bind fun bt125 => (if bt125.1 > 0 then (none) else (if bt125.2 > 9223372036854775807 then (none) else ((Podd.odds_wide_by.f kj2 bt116.1 bt116.2.1 t124).bind fun bt128 => (none)))))))) else (none))) = some (r1, r2, r3) := H
      have A36 := Aside0.mk A360
      clear A360
      replace H := Option.bind_eq_some_iff.mp H
      obtain ⟨⟨t116, t117, t118⟩, A370, H⟩ := H
      replace H : (if t118 = true then ((Podd.odds_wide_by.f kj2 t116 t117 t111).bind fun bt120 => ((Podd.odds_divisor.f kj2 t111 bt120.2.2).bind fun t124 => (if t124 = 0 then (none) else ((Podd.odds_times.f (IntKind.u64.wrap (Int.tdiv a0_1 t111)) (IntKind.u64.wrap (Int.tdiv a1_1 t124))).bind fun bt125 => (if bt125.1 > 0 then (none) else (if bt125.2 > 9223372036854775807 then (none) else ((Podd.odds_wide_by.f kj2 t116 t117 t124).bind fun bt128 => (none)))))))) else (none)) = some (r1, r2, r3) := H
      have A37 := Aside0.mk A370
      clear A370
      by_cases c38 : t118 = true
      ·
       subst c38
       have H1 : ((Podd.odds_wide_by.f kj2 t116 t117 t111).bind fun bt120 => ((Podd.odds_divisor.f kj2 t111 bt120.2.2).bind fun t124 => (if t124 = 0 then (none) else ((Podd.odds_times.f (IntKind.u64.wrap (Int.tdiv a0_1 t111)) (IntKind.u64.wrap (Int.tdiv a1_1 t124))).bind fun bt125 => (if bt125.1 > 0 then (none) else (if bt125.2 > 9223372036854775807 then (none) else ((Podd.odds_wide_by.f kj2 t116 t117 t124).bind fun bt128 => (none)))))))) = some (r1, r2, r3) := by rw [if_pos rfl] at H; exact H
       clear H
       have H := H1
       clear H1
       replace H := Option.bind_eq_some_iff.mp H
       obtain ⟨⟨t120, t121, t122⟩, A390, H⟩ := H
       replace H : ((Podd.odds_divisor.f kj2 t111 t122).bind fun t124 => (if t124 = 0 then (none) else ((Podd.odds_times.f (IntKind.u64.wrap (Int.tdiv a0_1 t111)) (IntKind.u64.wrap (Int.tdiv a1_1 t124))).bind fun bt125 => (if bt125.1 > 0 then (none) else (if bt125.2 > 9223372036854775807 then (none) else ((Podd.odds_wide_by.f kj2 t116 t117 t124).bind fun bt128 => (none))))))) = some (r1, r2, r3) := H
       have A39 := Aside0.mk A390
       clear A390
       replace H := Option.bind_eq_some_iff.mp H
       obtain ⟨t124, A400, H⟩ := H
       replace H : (if t124 = 0 then (none) else ((Podd.odds_times.f (IntKind.u64.wrap (Int.tdiv a0_1 t111)) (IntKind.u64.wrap (Int.tdiv a1_1 t124))).bind fun bt125 => (if bt125.1 > 0 then (none) else (if bt125.2 > 9223372036854775807 then (none) else ((Podd.odds_wide_by.f kj2 t116 t117 t124).bind fun bt128 => (none)))))) = some (r1, r2, r3) := H
       have A40 := Aside0.mk A400
       clear A400
       by_cases c41 : t124 = 0
       ·
        rw [if_pos c41] at H
        exact absurd H (by simp)
       ·
        rw [if_neg c41] at H
        have c41b0 : (t124 == 0) = false := beq_eq_false_iff_ne.mpr c41
        have c41b1 : (t124 != 0) = true := bne_iff_ne.mpr c41
        replace H := Option.bind_eq_some_iff.mp H
        obtain ⟨⟨t125, t126⟩, A420, H⟩ := H
        replace H : (if t125 > 0 then (none) else (if t126 > 9223372036854775807 then (none) else ((Podd.odds_wide_by.f kj2 t116 t117 t124).bind fun bt128 => (none)))) = some (r1, r2, r3) := H
        have A42 := Aside0.mk A420
        clear A420
        by_cases c43 : t125 > 0
        ·
         rw [if_pos c43] at H
         have c43b0 : decide (0 < t125) = true := decide_eq_true c43
         clear c43
         exact absurd H (by simp)
        ·
         rw [if_neg c43] at H
         have c43b0 : decide (0 < t125) = false := decide_eq_false c43
         clear c43
         by_cases c44 : t126 > 9223372036854775807
         ·
          rw [if_pos c44] at H
          have c44b0 : decide (9223372036854775807 < t126) = true := decide_eq_true c44
          clear c44
          exact absurd H (by simp)
         ·
          rw [if_neg c44] at H
          have c44b0 : decide (9223372036854775807 < t126) = false := decide_eq_false c44
          clear c44
          replace H := Option.bind_eq_some_iff.mp H
          obtain ⟨⟨t128, t129, t130⟩, A450, H⟩ := H
          replace H : (none) = some (r1, r2, r3) := H
          have A45 := Aside0.mk A450
          clear A450
          exact absurd H (by simp)
      ·
       replace c38 := Bool.eq_false_iff.mpr c38
       subst c38
       have H1 : (none) = some (r1, r2, r3) := by rw [if_neg (show ¬ (false = true) by decide)] at H; exact H
       clear H
       have H := H1
       clear H1
       exact absurd H (by simp)
end Go.Proofs.YtcdcpnhlmgmnkaaDoor.Pos2
end
section
namespace Go.Proofs.YtcdcpnhlmgmnkaaDoor.Pos3
open Go.RowKit Go.Proofs.YtcdcpnhlmgmnkaaDoor.Base Go.Proofs.YtcdcpnhlmgmnkaaDoorW.PrintWords Go.Proofs.YtcdcpnhlmgmnkaaDoorW.PrintLast Go.Proofs.YtcdcpnhlmgmnkaaDoorW.PrintMore
attribute [local go_sem] max2_int min2_int max_two min_two max_three min_three max_four min_four   -- for this text's walks alone
set_option linter.unusedVariables false
set_option linter.unusedSimpArgs false
def errW : Option Int → Value
 | none => .nilIface
 | some c => .iface 0 (.int .i64 c)
theorem errW_none : errW none = .nilIface := rfl
theorem errW_some (c : Int) : errW (some c) = .iface 0 (.int .i64 c) := rfl
structure S47 where
 f0 : Int
 f1 : Int
def z47 : S47 := ⟨(0 : Int), (0 : Int)⟩
def k47 : Kd S47 := Kd.iso (Kd.pair (Kd.int .u64) (Kd.int .u64)) (fun x : S47 => (x.f0, x.f1))
theorem k47_open {w : World} {x : S47} {cs : List Value} (h : k47.K w x cs) : cs = [.int .u64 x.f0, .int .u64 x.f1] := by
 obtain ⟨_, _, rfl, rfl, rfl⟩ := h
 exact rfl
theorem k47_openM {w : World} {base : Nat} {ok : Nat → Prop} {x : S47} {cs : List Value} (h : k47.M w base ok x cs) : cs = [.int .u64 x.f0, .int .u64 x.f1] := by
 obtain ⟨_, _, rfl, rfl, rfl⟩ := h
 exact rfl
theorem k47_mk (w : World) (x : S47)  : k47.K w x [.int .u64 x.f0, .int .u64 x.f1] := ⟨[.int .u64 x.f0], [.int .u64 x.f1], rfl, rfl, rfl⟩
theorem k47_mkM (w : World) (base : Nat) (ok : Nat → Prop) (x : S47)  : k47.M w base ok x [.int .u64 x.f0, .int .u64 x.f1] := ⟨[.int .u64 x.f0], [.int .u64 x.f1], rfl, rfl, rfl⟩
def rd_T47 (xs : List S47) (i : Int) : S47 := xs.getD i.toNat z47
theorem at_T47 {w : World} {A : Option Addr} {n : Nat} {xs : List S47} (h : Kd.C k47 w A n xs) (i : Int) (h0 : 0 ≤ i) (h1 : i < n) : ∃ ad , A = some ad ∧ w.cell? (ad.add (i.toNat * 2)) = some (.int .u64 (rd_T47 xs i).f0) ∧ w.cell? ⟨(ad.add (i.toNat * 2)).block, (ad.add (i.toNat * 2)).off + 1, none⟩ = some (.int .u64 (rd_T47 xs i).f1) := by
 obtain ⟨ad, c, e, _, hK, hc0⟩ := Kd.C_get h z47 i h0 h1
 have hc : ∀ j u, c[j]? = some u → w.cell? (ad.add (i.toNat * 2 + j)) = some u := hc0
 obtain rfl := k47_open hK
 exact ⟨ad, e, hc 0 _ rfl, by rw [← add_field _ _ 1 (by omega)]; exact hc 1 _ rfl⟩
structure S74 where
 f0 : Int
 f1 : Int
def z74 : S74 := ⟨(0 : Int), (0 : Int)⟩
def k74 : Kd S74 := Kd.iso (Kd.pair (Kd.int .u64) (Kd.int .u64)) (fun x : S74 => (x.f0, x.f1))
theorem k74_open {w : World} {x : S74} {cs : List Value} (h : k74.K w x cs) : cs = [.int .u64 x.f0, .int .u64 x.f1] := by
 obtain ⟨_, _, rfl, rfl, rfl⟩ := h
 exact rfl
theorem k74_openM {w : World} {base : Nat} {ok : Nat → Prop} {x : S74} {cs : List Value} (h : k74.M w base ok x cs) : cs = [.int .u64 x.f0, .int .u64 x.f1] := by
 obtain ⟨_, _, rfl, rfl, rfl⟩ := h
 exact rfl
theorem k74_mk (w : World) (x : S74)  : k74.K w x [.int .u64 x.f0, .int .u64 x.f1] := ⟨[.int .u64 x.f0], [.int .u64 x.f1], rfl, rfl, rfl⟩
theorem k74_mkM (w : World) (base : Nat) (ok : Nat → Prop) (x : S74)  : k74.M w base ok x [.int .u64 x.f0, .int .u64 x.f1] := ⟨[.int .u64 x.f0], [.int .u64 x.f1], rfl, rfl, rfl⟩
def rd_T74 (xs : List S74) (i : Int) : S74 := xs.getD i.toNat z74
theorem at_T74 {w : World} {A : Option Addr} {n : Nat} {xs : List S74} (h : Kd.C k74 w A n xs) (i : Int) (h0 : 0 ≤ i) (h1 : i < n) : ∃ ad , A = some ad ∧ w.cell? (ad.add (i.toNat * 2)) = some (.int .u64 (rd_T74 xs i).f0) ∧ w.cell? ⟨(ad.add (i.toNat * 2)).block, (ad.add (i.toNat * 2)).off + 1, none⟩ = some (.int .u64 (rd_T74 xs i).f1) := by
 obtain ⟨ad, c, e, _, hK, hc0⟩ := Kd.C_get h z74 i h0 h1
 have hc : ∀ j u, c[j]? = some u → w.cell? (ad.add (i.toNat * 2 + j)) = some u := hc0
 obtain rfl := k74_open hK
 exact ⟨ad, e, hc 0 _ rfl, by rw [← add_field _ _ 1 (by omega)]; exact hc 1 _ rfl⟩
end Go.Proofs.YtcdcpnhlmgmnkaaDoor.Pos3
end
section
namespace Go.Proofs.YtcdcpnhlmgmnkaaDoor.Pos5
open Go.RowKit Go.Proofs.YtcdcpnhlmgmnkaaDoor.Base Go.Proofs.YtcdcpnhlmgmnkaaDoorW.PrintWords Go.Proofs.YtcdcpnhlmgmnkaaDoorW.PrintLast Go.Proofs.YtcdcpnhlmgmnkaaDoorW.PrintMore
attribute [local go_sem] max2_int min2_int max_two min_two max_three min_three max_four min_four   -- for this text's walks alone
set_option linter.unusedVariables false
set_option linter.unusedSimpArgs false
def errW : Option Int → Value
 | none => .nilIface
 | some c => .iface 0 (.int .i64 c)
theorem errW_none : errW none = .nilIface := rfl
theorem errW_some (c : Int) : errW (some c) = .iface 0 (.int .i64 c) := rfl
structure S47 where
 f0 : Int
 f1 : Int
def z47 : S47 := ⟨(0 : Int), (0 : Int)⟩
def k47 : Kd S47 := Kd.iso (Kd.pair (Kd.int .u64) (Kd.int .u64)) (fun x : S47 => (x.f0, x.f1))
theorem k47_open {w : World} {x : S47} {cs : List Value} (h : k47.K w x cs) : cs = [.int .u64 x.f0, .int .u64 x.f1] := by
 obtain ⟨_, _, rfl, rfl, rfl⟩ := h
 exact rfl
theorem k47_openM {w : World} {base : Nat} {ok : Nat → Prop} {x : S47} {cs : List Value} (h : k47.M w base ok x cs) : cs = [.int .u64 x.f0, .int .u64 x.f1] := by
 obtain ⟨_, _, rfl, rfl, rfl⟩ := h
 exact rfl
theorem k47_mk (w : World) (x : S47)  : k47.K w x [.int .u64 x.f0, .int .u64 x.f1] := ⟨[.int .u64 x.f0], [.int .u64 x.f1], rfl, rfl, rfl⟩
theorem k47_mkM (w : World) (base : Nat) (ok : Nat → Prop) (x : S47)  : k47.M w base ok x [.int .u64 x.f0, .int .u64 x.f1] := ⟨[.int .u64 x.f0], [.int .u64 x.f1], rfl, rfl, rfl⟩
def rd_T47 (xs : List S47) (i : Int) : S47 := xs.getD i.toNat z47
theorem at_T47 {w : World} {A : Option Addr} {n : Nat} {xs : List S47} (h : Kd.C k47 w A n xs) (i : Int) (h0 : 0 ≤ i) (h1 : i < n) : ∃ ad , A = some ad ∧ w.cell? (ad.add (i.toNat * 2)) = some (.int .u64 (rd_T47 xs i).f0) ∧ w.cell? ⟨(ad.add (i.toNat * 2)).block, (ad.add (i.toNat * 2)).off + 1, none⟩ = some (.int .u64 (rd_T47 xs i).f1) := by
 obtain ⟨ad, c, e, _, hK, hc0⟩ := Kd.C_get h z47 i h0 h1
 have hc : ∀ j u, c[j]? = some u → w.cell? (ad.add (i.toNat * 2 + j)) = some u := hc0
 obtain rfl := k47_open hK
 exact ⟨ad, e, hc 0 _ rfl, by rw [← add_field _ _ 1 (by omega)]; exact hc 1 _ rfl⟩
structure S74 where
 f0 : Int
 f1 : Int
def z74 : S74 := ⟨(0 : Int), (0 : Int)⟩
def k74 : Kd S74 := Kd.iso (Kd.pair (Kd.int .u64) (Kd.int .u64)) (fun x : S74 => (x.f0, x.f1))
theorem k74_open {w : World} {x : S74} {cs : List Value} (h : k74.K w x cs) : cs = [.int .u64 x.f0, .int .u64 x.f1] := by
 obtain ⟨_, _, rfl, rfl, rfl⟩ := h
 exact rfl
theorem k74_openM {w : World} {base : Nat} {ok : Nat → Prop} {x : S74} {cs : List Value} (h : k74.M w base ok x cs) : cs = [.int .u64 x.f0, .int .u64 x.f1] := by
 obtain ⟨_, _, rfl, rfl, rfl⟩ := h
 exact rfl
theorem k74_mk (w : World) (x : S74)  : k74.K w x [.int .u64 x.f0, .int .u64 x.f1] := ⟨[.int .u64 x.f0], [.int .u64 x.f1], rfl, rfl, rfl⟩
theorem k74_mkM (w : World) (base : Nat) (ok : Nat → Prop) (x : S74)  : k74.M w base ok x [.int .u64 x.f0, .int .u64 x.f1] := ⟨[.int .u64 x.f0], [.int .u64 x.f1], rfl, rfl, rfl⟩
def rd_T74 (xs : List S74) (i : Int) : S74 := xs.getD i.toNat z74
theorem at_T74 {w : World} {A : Option Addr} {n : Nat} {xs : List S74} (h : Kd.C k74 w A n xs) (i : Int) (h0 : 0 ≤ i) (h1 : i < n) : ∃ ad , A = some ad ∧ w.cell? (ad.add (i.toNat * 2)) = some (.int .u64 (rd_T74 xs i).f0) ∧ w.cell? ⟨(ad.add (i.toNat * 2)).block, (ad.add (i.toNat * 2)).off + 1, none⟩ = some (.int .u64 (rd_T74 xs i).f1) := by
 obtain ⟨ad, c, e, _, hK, hc0⟩ := Kd.C_get h z74 i h0 h1
 have hc : ∀ j u, c[j]? = some u → w.cell? (ad.add (i.toNat * 2 + j)) = some u := hc0
 obtain rfl := k74_open hK
 exact ⟨ad, e, hc 0 _ rfl, by rw [← add_field _ _ 1 (by omega)]; exact hc 1 _ rfl⟩
end Go.Proofs.YtcdcpnhlmgmnkaaDoor.Pos5
end
section
namespace Go.Proofs.YtcdcpnhlmgmnkaaDoor.Pos5
open Go.RowKit Go.Proofs.YtcdcpnhlmgmnkaaDoor.Base Go.Proofs.YtcdcpnhlmgmnkaaDoorW.PrintWords Go.Proofs.YtcdcpnhlmgmnkaaDoorW.PrintLast Go.Proofs.YtcdcpnhlmgmnkaaDoorW.PrintMore
attribute [local go_sem] max2_int min2_int max_two min_two max_three min_three max_four min_four   -- for this text's walks alone
set_option linter.unusedVariables false
set_option linter.unusedSimpArgs false
def odds_Sum.j0 : Nat → Bool → Int → Int → Int → Int → Option (Int × Int × Int)
 | 0, _, _, _, _, _ => none
 | k + 1, x20, x102000, x102001, x103000, x103001 => if x20 = true then (none) else ((Podd.odds_times.f x102000 x103001).bind fun bt106 => ((Podd.odds_times.f (IntKind.u64.wrap (x103001 - x103000)) x102001).bind fun bt108 => ((Podd.odds_wide_compare.f k bt106.1 bt106.2 bt108.1 bt108.2).bind fun t110 => (if t110 > 0 then (none) else ((Podd.odds_divisor.f k x102001 x103001).bind fun t111 => (if t111 = 0 then (none) else ((Podd.odds_times.f x102000 (IntKind.u64.wrap (Int.tdiv x103001 t111))).bind fun bt112 => ((Podd.odds_times.f x103000 (IntKind.u64.wrap (Int.tdiv x102001 t111))).bind fun bt114 => ((odds_wide_plus.f bt112.1 bt112.2 bt114.1 bt114.2).bind fun bt116 => (if bt116.2.2 = true then ((Podd.odds_wide_by.f k bt116.1 bt116.2.1 t111).bind fun bt120 => ((Podd.odds_divisor.f k t111 bt120.2.2).bind fun t124 => (if t124 = 0 then (none) else ((Podd.odds_times.f (IntKind.u64.wrap (Int.tdiv x102001 t111)) (IntKind.u64.wrap (Int.tdiv x103001 t124))).bind fun bt125 => (if bt125.1 > 0 then (none) else (if bt125.2 > 9223372036854775807 then (none) else ((Podd.odds_wide_by.f k bt116.1 bt116.2.1 t124).bind fun bt128 => (some (bt128.2.1, bt125.2, 0))))))))) else (none)))))))))))
def odds_Sum.f (k : Nat) (a0_0 : Int) (a0_1 : Int) (a1_0 : Int) (a1_1 : Int) : Option (Int × Int × Int) := (Podd.odds_May.f k a0_0 a0_1).bind fun t104 => (if t104 = true then ((Podd.odds_May.f k a1_0 a1_1).bind fun t105 => (odds_Sum.j0 k (!t105) a0_0 a0_1 a1_0 a1_1)) else (odds_Sum.j0 k true a0_0 a0_1 a1_0 a1_1))
theorem odds_Sum.mono_l : ∀ k, (∀ y0 y1 y2 y3 y4, LeO (odds_Sum.j0 k y0 y1 y2 y3 y4) (odds_Sum.j0 (k + 1) y0 y1 y2 y3 y4))
 | 0 => fun _ _ _ _ _ r h => by simp [odds_Sum.j0] at h
 | k + 1 => by
  have ih0 := odds_Sum.mono_l k
  ·
   intro y0 y1 y2 y3 y4
   unfold odds_Sum.j0
   repeat' first
   | (with_reducible exact ih0 _ _ _ _ _)
   | (with_reducible exact Podd.odds_May.mono _ _ _)
   | (with_reducible exact Podd.odds_divisor.mono _ _ _)
   | (with_reducible exact Podd.odds_wide_by.mono _ _ _ _)
   | (with_reducible exact Podd.odds_wide_compare.mono _ _ _ _ _)
   | (with_reducible exact LeO.refl _)
   | (with_reducible exact LeO.none _)
   | (with_reducible refine LeO.ite ?_ ?_)
   | (with_reducible refine LeO.bind ?_ (fun _ => ?_))
   | exact ih0 _ _ _ _ _
   | exact Podd.odds_May.mono _ _ _
   | exact Podd.odds_divisor.mono _ _ _
   | exact Podd.odds_wide_by.mono _ _ _ _
   | exact Podd.odds_wide_compare.mono _ _ _ _ _
   | exact LeO.none _
   | refine LeO.ite ?_ ?_
   | refine LeO.bind ?_ (fun _ => ?_)
theorem odds_Sum.mono : ∀ a0 a1 a2 a3 k, LeO (odds_Sum.f k a0 a1 a2 a3) (odds_Sum.f (k + 1) a0 a1 a2 a3) := by
 intro a0 a1 a2 a3 k
 have ih0 := odds_Sum.mono_l k
 unfold odds_Sum.f
 repeat' first
   | (with_reducible exact ih0 _ _ _ _ _)
   | (with_reducible exact Podd.odds_May.mono _ _ _)
   | (with_reducible exact Podd.odds_divisor.mono _ _ _)
   | (with_reducible exact Podd.odds_wide_by.mono _ _ _ _)
   | (with_reducible exact Podd.odds_wide_compare.mono _ _ _ _ _)
   | (with_reducible exact LeO.refl _)
   | (with_reducible exact LeO.none _)
   | (with_reducible refine LeO.ite ?_ ?_)
   | (with_reducible refine LeO.bind ?_ (fun _ => ?_))
   | exact ih0 _ _ _ _ _
   | exact Podd.odds_May.mono _ _ _
   | exact Podd.odds_divisor.mono _ _ _
   | exact Podd.odds_wide_by.mono _ _ _ _
   | exact Podd.odds_wide_compare.mono _ _ _ _ _
   | exact LeO.none _
   | refine LeO.ite ?_ ?_
   | refine LeO.bind ?_ (fun _ => ?_)
def odds_Sum.T3 : Bool × List (List Nat × List Nat) := (true, [([], []), ([0], [0]), ([], []), ([2], [2]), ([1, 3], [1, 3]), ([], []), ([5], [5]), ([], []), ([7], [7]), ([6, 8], [6, 8]), ([], []), ([10], [10]), ([9, 11, 4], [9, 11]), ([4, 12, 12], [4, 12]), ([13], [13])])
def odds_Sum.B3 : List Nat := [0, 1, 0, 4, 15, 0, 32, 0, 128, 480, 0, 1024, 4095, 8191, 16383]
theorem odds_Sum.tab3 : rtab .any (opsOf Tryd.f36 3) = odds_Sum.T3 := by kernel_rfl
theorem odds_Sum.bits3 : waitsOk odds_Sum.T3.2 odds_Sum.B3 = true := by kernel_rfl
def odds_Sum.T6 : Bool × List (List Nat × List Nat) := (true, [([], []), ([0], [0]), ([], []), ([2], [2]), ([], []), ([3, 4], [3, 4]), ([1, 5], [1, 5]), ([], []), ([7], [7]), ([], []), ([9], [9]), ([], []), ([10, 11], [10, 11]), ([8, 12, 6], [8, 12]), ([6, 13, 13], [6, 13]), ([14], [14]), ([15], [15]), ([15], [15]), ([], []), ([18, 16, 14, 0, 1, 2, 3, 4, 5, 6, 7, 8, 9, 10, 11, 12, 13, 14, 15, 16, 18], [16, 18]), ([17, 19, 0, 1, 2, 3, 4, 5, 6, 7, 8, 9, 10, 11, 12, 13, 14, 15, 16, 17, 18, 19], [17])])
def odds_Sum.B6 : List Nat := [0, 1, 0, 4, 0, 28, 63, 0, 128, 0, 512, 0, 3584, 8191, 16383, 32767, 65535, 65535, 0, 393215, 1048575]
theorem odds_Sum.tab6 : rtab .any (opsOf Tryd.f36 6) = odds_Sum.T6 := by kernel_rfl
theorem odds_Sum.bits6 : waitsOk odds_Sum.T6.2 odds_Sum.B6 = true := by kernel_rfl
def odds_Sum.T11 : Bool × List (List Nat × List Nat) := (true, [([], []), ([0], [0]), ([], []), ([1, 2], [1, 2]), ([], []), ([4], [4]), ([], []), ([5, 6], [5, 6]), ([3, 7], [3, 7]), ([], []), ([9, 8, 8, 0, 1, 2, 3, 4, 5, 6, 7, 8, 9], [8, 9])])
def odds_Sum.B11 : List Nat := [0, 1, 0, 7, 0, 16, 0, 112, 255, 0, 1023]
theorem odds_Sum.tab11 : rtab .any (opsOf Tryd.f36 11) = odds_Sum.T11 := by kernel_rfl
theorem odds_Sum.bits11 : waitsOk odds_Sum.T11.2 odds_Sum.B11 = true := by kernel_rfl
set_option maxHeartbeats 8000000 in
set_option maxRecDepth 100000 in
theorem odds_Sum.calls (k : Nat) (a0_0 : Int) (a0_1 : Int) (a1_0 : Int) (a1_1 : Int) (r1 : Int) (r2 : Int) (r3 : Int) (w : World) (h : odds_Sum.f k a0_0 a0_1 a1_0 a1_1 = some (r1, r2, r3)) :
  Calls Tryd.prog 36 #[.agg #[.int .u64 a0_0, .int .u64 a0_1], .agg #[.int .u64 a1_0, .int .u64 a1_1]] w fun e w' => e = .returned (.tuple #[.agg #[.int .u64 r1, .int .u64 r2], .int .i64 r3]) ∧ Below w.heap.size w w' := by
 have hu47 := Tryd.underlying47
 have hu74 := Tryd.underlying74
 have HB := Aside0.mk (Below.refl w.heap.size w)
 have H : ((Podd.odds_May.f k a0_0 a0_1).bind fun t104 => (if t104 = true then ((Podd.odds_May.f k a1_0 a1_1).bind fun t105 => (odds_Sum.j0 k (!t105) a0_0 a0_1 a1_0 a1_1)) else (odds_Sum.j0 k true a0_0 a0_1 a1_0 a1_1))) = some (r1, r2, r3) := h
 clear h
 have HC3 := Aside0.mk H
 clear H
 go_enter Tryd.func36, Tryd.ntmps36
 go_upto_region 1 with (first | ((with_reducible refine gate_dst (N := 2) rfl ?_); refine box_event ?hg (N := 2) ?hd (cs := #[.int .u64 a0_0, .int .u64 a0_1]) (t := 47) ?hr ?_; (case hd => rfl); (case hg => rfl); (case hr => first | (go_simp; done) | (go_simp; rfl)); intro gb101 hg w4 hbox hb; have n0_ := Aside0.mk (below_step (low HB) hb); have n1_ := Aside0.mk (hbox); have n2_ := Aside0.mk ((by rw [hg]; exact (below_size (low HB)) : w.heap.size ≤ gb101)); have n3_ := Aside0.mk ((by rw [hg]; exact (below_size (low HB)) : w.heap.size ≤ gb101)); clear HB; have HB := n0_; have BK101 := n1_; have GW101 := n2_; have GE101 := n3_; clear n0_ n1_ n2_ n3_; clear hb hbox hg) | ((with_reducible refine gate_dst (N := 3) rfl ?_); refine box_event ?hg (N := 3) ?hd (cs := #[.int .u64 a1_0, .int .u64 a1_1]) (t := 47) ?hr ?_; (case hd => rfl); (case hg => rfl); (case hr => first | (go_simp; done) | (go_simp; rfl)); intro gb102 hg w5 hbox hb; have n0_ := Aside0.mk (blk_below (g := gb101) (o := .cells #[.int .u64 a0_0, .int .u64 a0_1] 47 (0, 0)) of_lies hb); have n1_ := Aside0.mk (below_step (low HB) hb); have n2_ := Aside0.mk (hbox); have n3_ := Aside0.mk ((by rw [hg]; exact (below_size (low HB)) : w.heap.size ≤ gb102)); have n4_ := Aside0.mk ((by rw [hg]; exact (below_size (low HB)) : w.heap.size ≤ gb102)); have n5_ := Aside0.mk ((by rw [hg]; exact Nat.ne_of_lt (blk_lt (g := gb101) (o := .cells #[.int .u64 a0_0, .int .u64 a0_1] 47 (0, 0)) of_lies) : gb101 ≠ gb102)); have n6_ := Aside0.mk ((by rw [hg]; exact Nat.ne_of_gt (blk_lt (g := gb101) (o := .cells #[.int .u64 a0_0, .int .u64 a0_1] 47 (0, 0)) of_lies) : gb102 ≠ gb101)); clear BK101; clear HB; have BK101 := n0_; have HB := n1_; have BK102 := n2_; have GW102 := n3_; have GE102 := n4_; have NB101_102 := n5_; have NB102_101 := n6_; clear n0_ n1_ n2_ n3_ n4_ n5_ n6_; clear hb hbox hg) | ((with_reducible refine gate_dst (N := 4) rfl ?_); refine box_event ?hg (N := 4) ?hd (cs := #[.int .u64 0, .int .u64 0]) (t := 47) ?hr ?_; (case hd => rfl); (case hg => rfl); (case hr => first | (go_simp; done) | (go_simp; rfl)); intro gb103 hg w6 hbox hb; have n0_ := Aside0.mk (blk_below (g := gb101) (o := .cells #[.int .u64 a0_0, .int .u64 a0_1] 47 (0, 0)) of_lies hb); have n1_ := Aside0.mk (blk_below (g := gb102) (o := .cells #[.int .u64 a1_0, .int .u64 a1_1] 47 (0, 0)) of_lies hb); have n2_ := Aside0.mk (below_step (low HB) hb); have n3_ := Aside0.mk (hbox); have n4_ := Aside0.mk ((by rw [hg]; exact (below_size (low HB)) : w.heap.size ≤ gb103)); have n5_ := Aside0.mk ((by rw [hg]; exact (below_size (low HB)) : w.heap.size ≤ gb103)); have n6_ := Aside0.mk ((by rw [hg]; exact Nat.ne_of_lt (blk_lt (g := gb101) (o := .cells #[.int .u64 a0_0, .int .u64 a0_1] 47 (0, 0)) of_lies) : gb101 ≠ gb103)); have n7_ := Aside0.mk ((by rw [hg]; exact Nat.ne_of_gt (blk_lt (g := gb101) (o := .cells #[.int .u64 a0_0, .int .u64 a0_1] 47 (0, 0)) of_lies) : gb103 ≠ gb101)); have n8_ := Aside0.mk ((by rw [hg]; exact Nat.ne_of_lt (blk_lt (g := gb102) (o := .cells #[.int .u64 a1_0, .int .u64 a1_1] 47 (0, 0)) of_lies) : gb102 ≠ gb103)); have n9_ := Aside0.mk ((by rw [hg]; exact Nat.ne_of_gt (blk_lt (g := gb102) (o := .cells #[.int .u64 a1_0, .int .u64 a1_1] 47 (0, 0)) of_lies) : gb103 ≠ gb102)); clear BK101; clear BK102; clear HB; have BK101 := n0_; have BK102 := n1_; have HB := n2_; have BK103 := n3_; have GW103 := n4_; have GE103 := n5_; have NB101_103 := n6_; have NB103_101 := n7_; have NB102_103 := n8_; have NB103_102 := n9_; clear n0_ n1_ n2_ n3_ n4_ n5_ n6_ n7_ n8_ n9_; clear hb hbox hg))
 (try simp only [Act.put, List.setIfInBounds_toArray, List.set_cons_zero, List.set_cons_succ])
 go_cut [20] (fun v20 wc => ∃ (kq : Nat) (x20_2 : Bool), v20 = .bool x20_2 ∧ Aside0 (odds_Sum.j0 kq x20_2 a0_0 a0_1 a1_0 a1_1 = some (r1, r2, r3)) ∧ Aside0 (kq ≤ k) ∧ Aside0 (wc.heap[gb101]? = some (.cells #[.int .u64 a0_0, .int .u64 a0_1] 47 (0, 0))) ∧ Aside0 (wc.heap[gb102]? = some (.cells #[.int .u64 a1_0, .int .u64 a1_1] 47 (0, 0))) ∧ Aside0 (wc.heap[gb103]? = some (.cells #[.int .u64 0, .int .u64 0] 47 (0, 0))) ∧ Aside0 (Below w.heap.size w wc))
 case first =>
  have H := HC3.out
  clear HC3
  replace H := Option.bind_eq_some_iff.mp H
  obtain ⟨t104, A70, H⟩ := H
  replace H : (if t104 = true then ((Podd.odds_May.f k a1_0 a1_1).bind fun t105 => (odds_Sum.j0 k (!t105) a0_0 a0_1 a1_0 a1_1)) else (odds_Sum.j0 k true a0_0 a0_1 a1_0 a1_1)) = some (r1, r2, r3) := H
  have A7 := Aside0.mk A70
  clear A70
  by_cases c8 : t104 = true
  ·
   subst c8
   have H1 : ((Podd.odds_May.f k a1_0 a1_1).bind fun t105 => (odds_Sum.j0 k (!t105) a0_0 a0_1 a1_0 a1_1)) = some (r1, r2, r3) := by rw [if_pos rfl] at H; exact H
   clear H
   have H := H1
   clear H1
   replace H := Option.bind_eq_some_iff.mp H
   obtain ⟨t105, A90, H⟩ := H
   replace H : (odds_Sum.j0 k (!t105) a0_0 a0_1 a1_0 a1_1) = some (r1, r2, r3) := H
   have A9 := Aside0.mk A90
   clear A90
   have H' := Aside0.mk H
   clear H
   have hnb10 := NB101_102.out
   have hnc10 := NB102_101.out
   have hnb11 := NB101_103.out
   have hnc11 := NB103_101.out
   have hcz12_0 : w6.cell? ⟨gb101, 0, none⟩ = some (.int .u64 a0_0) := (blk_cell BK101.out 0).trans rfl
   have hcz12_1 : w6.cell? ⟨gb101, 1, none⟩ = some (.int .u64 a0_1) := (blk_cell BK101.out 1).trans rfl
   have hfz12_0 := blk_frozen BK101.out 0
   have hfz12_1 := blk_frozen BK101.out 1
   go_wp2_with (first | ((with_reducible refine gate_callee (f := 38) rfl ?_); refine goesL_ (some 14) rfl rfl Tryd.func38 (by kernel_rfl) rfl #[.agg #[.int .u64 a0_0, .int .u64 a0_1]] rfl (by (try simp only [List.map_toArray, List.map_cons, List.map_nil]); first | done | rfl | (simp only [List.length_drop, List.length_take]; rfl)) ?_; (with_reducible refine (Podd.odds_May.calls k a0_0 a0_1 true _ A7.out).mono ?_); rintro e w13 ⟨rfl, hb⟩; refine ⟨_, rfl, ?_⟩; have n0_ := Aside0.mk (blk_below (g := gb101) (o := .cells #[.int .u64 a0_0, .int .u64 a0_1] 47 (0, 0)) of_lies hb); have n1_ := Aside0.mk (blk_below (g := gb102) (o := .cells #[.int .u64 a1_0, .int .u64 a1_1] 47 (0, 0)) of_lies hb); have n2_ := Aside0.mk (blk_below (g := gb103) (o := .cells #[.int .u64 0, .int .u64 0] 47 (0, 0)) of_lies hb); have n3_ := Aside0.mk (below_step (low HB) hb); clear BK101; clear BK102; clear BK103; clear HB; have BK101 := n0_; have BK102 := n1_; have BK103 := n2_; have HB := n3_; clear n0_ n1_ n2_ n3_; (try clear hb); (try clear hb2); (try clear hk); (try clear hi); have hnb14 := NB102_103.out; have hnc14 := NB103_102.out; obtain ⟨hcz15_0, hcz15_1, hfz15_0, hfz15_1⟩ := cells2 BK102.out) | (go_at_call 38; (with_reducible refine (Podd.odds_May.calls k a1_0 a1_1 t105 _ A9.out).mono ?_); rintro e w16 ⟨rfl, hb⟩; have n0_ := Aside0.mk (blk_below (g := gb101) (o := .cells #[.int .u64 a0_0, .int .u64 a0_1] 47 (0, 0)) of_lies hb); have n1_ := Aside0.mk (blk_below (g := gb102) (o := .cells #[.int .u64 a1_0, .int .u64 a1_1] 47 (0, 0)) of_lies hb); have n2_ := Aside0.mk (blk_below (g := gb103) (o := .cells #[.int .u64 0, .int .u64 0] 47 (0, 0)) of_lies hb); have n3_ := Aside0.mk (below_step (low HB) hb); clear BK101; clear BK102; clear BK103; clear HB; have BK101 := n0_; have BK102 := n1_; have BK103 := n2_; have HB := n3_; clear n0_ n1_ n2_ n3_; (try clear hb); (try clear hb2); (try clear hk); (try clear hi)))
   go_meet
   case rel => exact ⟨_, (!t105), (by first | rfl | (simp; done) | (simp [*]; done)), H', ⟨by first | omega | exact Nat.le_refl _⟩, ⟨of_lies⟩, ⟨of_lies⟩, ⟨of_lies⟩, ⟨low HB⟩⟩
  ·
   replace c8 := Bool.eq_false_iff.mpr c8
   subst c8
   have H1 : (odds_Sum.j0 k true a0_0 a0_1 a1_0 a1_1) = some (r1, r2, r3) := by rw [if_neg (show ¬ (false = true) by decide)] at H; exact H
   clear H
   have H := H1
   clear H1
   have H' := Aside0.mk H
   clear H
   have hnb17 := NB101_102.out
   have hnc17 := NB102_101.out
   have hnb18 := NB101_103.out
   have hnc18 := NB103_101.out
   have hcz19_0 : w6.cell? ⟨gb101, 0, none⟩ = some (.int .u64 a0_0) := (blk_cell BK101.out 0).trans rfl
   have hcz19_1 : w6.cell? ⟨gb101, 1, none⟩ = some (.int .u64 a0_1) := (blk_cell BK101.out 1).trans rfl
   have hfz19_0 := blk_frozen BK101.out 0
   have hfz19_1 := blk_frozen BK101.out 1
   go_wp2_with (first | ((with_reducible refine gate_callee (f := 38) rfl ?_); refine goesL_ (some 14) rfl rfl Tryd.func38 (by kernel_rfl) rfl #[.agg #[.int .u64 a0_0, .int .u64 a0_1]] rfl (by (try simp only [List.map_toArray, List.map_cons, List.map_nil]); first | done | rfl | (simp only [List.length_drop, List.length_take]; rfl)) ?_; (with_reducible refine (Podd.odds_May.calls k a0_0 a0_1 false _ A7.out).mono ?_); rintro e w20 ⟨rfl, hb⟩; refine ⟨_, rfl, ?_⟩; have n0_ := Aside0.mk (blk_below (g := gb101) (o := .cells #[.int .u64 a0_0, .int .u64 a0_1] 47 (0, 0)) of_lies hb); have n1_ := Aside0.mk (blk_below (g := gb102) (o := .cells #[.int .u64 a1_0, .int .u64 a1_1] 47 (0, 0)) of_lies hb); have n2_ := Aside0.mk (blk_below (g := gb103) (o := .cells #[.int .u64 0, .int .u64 0] 47 (0, 0)) of_lies hb); have n3_ := Aside0.mk (below_step (low HB) hb); clear BK101; clear BK102; clear BK103; clear HB; have BK101 := n0_; have BK102 := n1_; have BK103 := n2_; have HB := n3_; clear n0_ n1_ n2_ n3_; (try clear hb); (try clear hb2); (try clear hk); (try clear hi)))
   go_meet
   case rel => exact ⟨_, (true), (by first | rfl | (simp; done) | (simp [*]; done)), H', ⟨by first | omega | exact Nat.le_refl _⟩, ⟨of_lies⟩, ⟨of_lies⟩, ⟨of_lies⟩, ⟨low HB⟩⟩
 case rest =>
  clear HC3
  try clear c1
  try clear p2
  try clear c3
  try clear c8
  try clear c10
  try clear c11
  try clear c14
  try clear c17
  try clear c18
  try clear hcz12_0
  try clear hcz12_1
  try clear hcz15_0
  try clear hcz15_1
  try clear hcz19_0
  try clear hcz19_1
  try clear hfz12_0
  try clear hfz12_1
  try clear hfz15_0
  try clear hfz15_1
  try clear hfz19_0
  try clear hfz19_1
  obtain ⟨kq, x20_2, rfl, HA, HJ2, BK101, BK102, BK103, HB⟩ := hcut
  cases kq with
  | zero => exact absurd HA.out (by simp [odds_Sum.j0])
  | succ kj2 =>
   have H := HA.out
   clear HA
   simp only [odds_Sum.j0] at H
   by_cases c21 : x20_2 = true
   ·
    subst c21
    have H1 : (none) = some (r1, r2, r3) := by rw [if_pos rfl] at H; exact H
    clear H
    have H := H1
    clear H1
    exact absurd H (by simp)
   ·
    replace c21 := Bool.eq_false_iff.mpr c21
    subst c21
    have H1 : ((Podd.odds_times.f a0_0 a1_1).bind fun bt106 => ((Podd.odds_times.f (IntKind.u64.wrap (a1_1 - a1_0)) a0_1).bind fun bt108 => ((Podd.odds_wide_compare.f kj2 bt106.1 bt106.2 bt108.1 bt108.2).bind fun t110 => (if t110 > 0 then (none) else ((Podd.odds_divisor.f kj2 a0_1 a1_1).bind fun t111 => (if t111 = 0 then (none) else ((Podd.odds_times.f a0_0 (IntKind.u64.wrap (Int.tdiv a1_1 t111))).bind fun bt112 => ((Podd.odds_times.f a1_0 (IntKind.u64.wrap (Int.tdiv a0_1 t111))).bind fun bt114 => ((odds_wide_plus.f bt112.1 bt112.2 bt114.1 bt114.2).bind fun bt116 => (if bt116.2.2 = true then ((Podd.odds_wide_by.f kj2 bt116.1 bt116.2.1 t111).bind fun bt120 => ((Podd.odds_divisor.f kj2 t111 bt120.2.2).bind fun t124 => (if t124 = 0 then (none) else ((Podd.odds_times.f (IntKind.u64.wrap (Int.tdiv a0_1 t111)) (IntKind.u64.wrap (Int.tdiv a1_1 t124))).bind fun bt125 => (if bt125.1 > 0 then (none) else (if bt125.2 > 9223372036854775807 then (none) else ((Podd.odds_wide_by.f kj2 bt116.1 bt116.2.1 t124).bind fun bt128 => (some (bt128.2.1, bt125.2, 0))))))))) else (none))))))))))) = some (r1, r2, r3) := by rw [if_neg (show ¬ (false = true) by decide)] at H; exact H
    clear H
    have H := H1
    clear H1
    replace H := Option.bind_eq_some_iff.mp H
    obtain ⟨⟨t106, t107⟩, A220, H⟩ := H
    replace H : ((Podd.odds_times.f (IntKind.u64.wrap (a1_1 - a1_0)) a0_1).bind fun bt108 => ((Podd.odds_wide_compare.f kj2 t106 t107 bt108.1 bt108.2).bind fun t110 => (if t110 > 0 then (none) else ((Podd.odds_divisor.f kj2 a0_1 a1_1).bind fun t111 => (if t111 = 0 then (none) else ((Podd.odds_times.f a0_0 (IntKind.u64.wrap (Int.tdiv a1_1 t111))).bind fun bt112 => ((Podd.odds_times.f a1_0 (IntKind.u64.wrap (Int.tdiv a0_1 t111))).bind fun bt114 => ((odds_wide_plus.f bt112.1 bt112.2 bt114.1 bt114.2).bind fun bt116 => (if bt116.2.2 = true then ((Podd.odds_wide_by.f kj2 bt116.1 bt116.2.1 t111).bind fun bt120 => ((Podd.odds_divisor.f kj2 t111 bt120.2.2).bind fun t124 => (if t124 = 0 then (none) else ((Podd.odds_times.f (IntKind.u64.wrap (Int.tdiv a0_1 t111)) (IntKind.u64.wrap (Int.tdiv a1_1 t124))).bind fun bt125 => (if bt125.1 > 0 then (none) else (if bt125.2 > 9223372036854775807 then (none) else ((Podd.odds_wide_by.f kj2 bt116.1 bt116.2.1 t124).bind fun bt128 => (some (bt128.2.1, bt125.2, 0))))))))) else (none)))))))))) = some (r1, r2, r3) := H
    have A22 := Aside0.mk A220
    clear A220
    replace H := Option.bind_eq_some_iff.mp H
    obtain ⟨⟨t108, t109⟩, A230, H⟩ := H
    replace H : ((Podd.odds_wide_compare.f kj2 t106 t107 t108 t109).bind fun t110 => (if t110 > 0 then (none) else ((Podd.odds_divisor.f kj2 a0_1 a1_1).bind fun t111 => (if t111 = 0 then (none) else ((Podd.odds_times.f a0_0 (IntKind.u64.wrap (Int.tdiv a1_1 t111))).bind fun bt112 => ((Podd.odds_times.f a1_0 (IntKind.u64.wrap (Int.tdiv a0_1 t111))).bind fun bt114 => ((odds_wide_plus.f bt112.1 bt112.2 bt114.1 bt114.2).bind fun bt116 => (if bt116.2.2 = true then ((Podd.odds_wide_by.f kj2 bt116.1 bt116.2.1 t111).bind fun bt120 => ((Podd.odds_divisor.f kj2 t111 bt120.2.2).bind fun t124 => (if t124 = 0 then (none) else ((Podd.odds_times.f (IntKind.u64.wrap (Int.tdiv a0_1 t111)) (IntKind.u64.wrap (Int.tdiv a1_1 t124))).bind fun bt125 => (if bt125.1 > 0 then (none) else (if bt125.2 > 9223372036854775807 then (none) else ((Podd.odds_wide_by.f kj2 bt116.1 bt116.2.1 t124).bind fun bt128 => (some (bt128.2.1, bt125.2, 0))))))))) else (none))))))))) = some (r1, r2, r3) := H
    have A23 := Aside0.mk A230
    clear A230
    replace H := Option.bind_eq_some_iff.mp H
    obtain ⟨t110, A240, H⟩ := H
    replace H : (if t110 > 0 then (none) else ((Podd.odds_divisor.f kj2 a0_1 a1_1).bind fun t111 => (if t111 = 0 then (none) else ((Podd.odds_times.f a0_0 (IntKind.u64.wrap (Int.tdiv a1_1 t111))).bind fun bt112 => ((Podd.odds_times.f a1_0 (IntKind.u64.wrap (Int.tdiv a0_1 t111))).bind fun bt114 => ((odds_wide_plus.f bt112.1 bt112.2 bt114.1 bt114.2).bind fun bt116 => (if bt116.2.2 = true then ((Podd.odds_wide_by.f kj2 bt116.1 bt116.2.1 t111).bind fun bt120 => ((Podd.odds_divisor.f kj2 t111 bt120.2.2).bind fun t124 => (if t124 = 0 then (none) else ((Podd.odds_times.f (IntKind.u64.wrap (Int.tdiv a0_1 t111)) (IntKind.u64.wrap (Int.tdiv a1_1 t124))).bind fun bt125 => (if bt125.1 > 0 then (none) else (if bt125.2 > 9223372036854775807 then (none) else ((Podd.odds_wide_by.f kj2 bt116.1 bt116.2.1 t124).bind fun bt128 => (some (bt128.2.1, bt125.2, 0))))))))) else (none)))))))) = some (r1, r2, r3) := H
    have A24 := Aside0.mk A240
    clear A240
    by_cases c25 : t110 > 0
    ·
     rw [if_pos c25] at H
     have c25b0 : decide (0 < t110) = true := decide_eq_true c25
     clear c25
     exact absurd H (by simp)
    ·
     rw [if_neg c25] at H
     have c25b0 : decide (0 < t110) = false := decide_eq_false c25
     clear c25
     replace H := Option.bind_eq_some_iff.mp H
     obtain ⟨t111, A260, H⟩ := H
     replace H : (if t111 = 0 then (none) else ((Podd.odds_times.f a0_0 (IntKind.u64.wrap (Int.tdiv a1_1 t111))).bind fun bt112 => ((Podd.odds_times.f a1_0 (IntKind.u64.wrap (Int.tdiv a0_1 t111))).bind fun bt114 => ((odds_wide_plus.f bt112.1 bt112.2 bt114.1 bt114.2).bind fun bt116 => (if bt116.2.2 = true then ((Podd.odds_wide_by.f kj2 bt116.1 bt116.2.1 t111).bind fun bt120 => ((Podd.odds_divisor.f kj2 t111 bt120.2.2).bind fun t124 => (if t124 = 0 then (none) else ((Podd.odds_times.f (IntKind.u64.wrap (Int.tdiv a0_1 t111)) (IntKind.u64.wrap (Int.tdiv a1_1 t124))).bind fun bt125 => (if bt125.1 > 0 then (none) else (if bt125.2 > 9223372036854775807 then (none) else ((Podd.odds_wide_by.f kj2 bt116.1 bt116.2.1 t124).bind fun bt128 => (some (bt128.2.1, bt125.2, 0))))))))) else (none)))))) = some (r1, r2, r3) := H
     have A26 := Aside0.mk A260
     clear A260
     by_cases c27 : t111 = 0
     ·
      rw [if_pos c27] at H
      exact absurd H (by simp)
     ·
      rw [if_neg c27] at H
      have c27b0 : (t111 == 0) = false := beq_eq_false_iff_ne.mpr c27
      have c27b1 : (t111 != 0) = true := bne_iff_ne.mpr c27
      replace H := Option.bind_eq_some_iff.mp H
      obtain ⟨⟨t112, t113⟩, A280, H⟩ := H
      replace H : ((Podd.odds_times.f a1_0 (IntKind.u64.wrap (Int.tdiv a0_1 t111))).bind fun bt114 => ((odds_wide_plus.f t112 t113 bt114.1 bt114.2).bind fun bt116 => (if bt116.2.2 = true then ((Podd.odds_wide_by.f kj2 bt116.1 bt116.2.1 t111).bind fun bt120 => ((Podd.odds_divisor.f kj2 t111 bt120.2.2).bind fun t124 => (if t124 = 0 then (none) else ((Podd.odds_times.f (IntKind.u64.wrap (Int.tdiv a0_1 t111)) (IntKind.u64.wrap (Int.tdiv a1_1 t124))).bind fun bt125 => (if bt125.1 > 0 then (none) else (if bt125.2 > 9223372036854775807 then (none) else ((Podd.odds_wide_by.f kj2 bt116.1 bt116.2.1 t124).bind fun bt128 => (some (bt128.2.1, bt125.2, 0))))))))) else (none)))) = some (r1, r2, r3) := H
      have A28 := Aside0.mk A280
      clear A280
      replace H := Option.bind_eq_some_iff.mp H
      obtain ⟨⟨t114, t115⟩, A290, H⟩ := H
      replace H : ((odds_wide_plus.f t112 t113 t114 t115).bind fun bt116 => (if bt116.2.2 = true then ((Podd.odds_wide_by.f kj2 bt116.1 bt116.2.1 t111).bind fun bt120 => ((Podd.odds_divisor.f kj2 t111 bt120.2.2).bind fun t124 => (if t124 = 0 then (none) else ((Podd.odds_times.f (IntKind.u64.wrap (Int.tdiv a0_1 t111)) (IntKind.u64.wrap (Int.tdiv a1_1 t124))).bind fun bt125 => (if bt125.1 > 0 then (none) else (if bt125.2 > 9223372036854775807 then (none) else ((Podd.odds_wide_by.f kj2 bt116.1 bt116.2.1 t124).bind fun bt128 => (some (bt128.2.1, bt125.2, 0))))))))) else (none))) = some (r1, r2, r3) := H
      have A29 := Aside0.mk A290
      clear A290
      replace H := Option.bind_eq_some_iff.mp H
      obtain ⟨⟨t116, t117, t118⟩, A300, H⟩ := H
      replace H : (if t118 = true then ((Podd.odds_wide_by.f kj2 t116 t117 t111).bind fun bt120 => ((Podd.odds_divisor.f kj2 t111 bt120.2.2).bind fun t124 => (if t124 = 0 then (none) else ((Podd.odds_times.f (IntKind.u64.wrap (Int.tdiv a0_1 t111)) (IntKind.u64.wrap (Int.tdiv a1_1 t124))).bind fun bt125 => (if bt125.1 > 0 then (none) else (if bt125.2 > 9223372036854775807 then (none) else ((Podd.odds_wide_by.f kj2 t116 t117 t124).bind fun bt128 => (some (bt128.2.1, bt125.2, 0))))))))) else (none)) = some (r1, r2, r3) := H
      have A30 := Aside0.mk A300
      clear A300
      by_cases c31 : t118 = true
      ·
       subst c31
       have H1 : ((Podd.odds_wide_by.f kj2 t116 t117 t111).bind fun bt120 => ((Podd.odds_divisor.f kj2 t111 bt120.2.2).bind fun t124 => (if t124 = 0 then (none) else ((Podd.odds_times.f (IntKind.u64.wrap (Int.tdiv a0_1 t111)) (IntKind.u64.wrap (Int.tdiv a1_1 t124))).bind fun bt125 => (if bt125.1 > 0 then (none) else (if bt125.2 > 9223372036854775807 then (none) else ((Podd.odds_wide_by.f kj2 t116 t117 t124).bind fun bt128 => (some (bt128.2.1, bt125.2, 0))))))))) = some (r1, r2, r3) := by rw [if_pos rfl] at H; exact H
       clear H
       have H := H1
       clear H1
       replace H := Option.bind_eq_some_iff.mp H
       obtain ⟨⟨t120, t121, t122⟩, A320, H⟩ := H
       replace H : ((Podd.odds_divisor.f kj2 t111 t122).bind fun t124 => (if t124 = 0 then (none) else ((Podd.odds_times.f (IntKind.u64.wrap (Int.tdiv a0_1 t111)) (IntKind.u64.wrap (Int.tdiv a1_1 t124))).bind fun bt125 => (if bt125.1 > 0 then (none) else (if bt125.2 > 9223372036854775807 then (none) else ((Podd.odds_wide_by.f kj2 t116 t117 t124).bind fun bt128 => (some (bt128.2.1, bt125.2, 0)))))))) = some (r1, r2, r3) := H
       have A32 := Aside0.mk A320
       clear A320
       replace H := Option.bind_eq_some_iff.mp H
       obtain ⟨t124, A330, H⟩ := H
       replace H : (if t124 = 0 then (none) else ((Podd.odds_times.f (IntKind.u64.wrap (Int.tdiv a0_1 t111)) (IntKind.u64.wrap (Int.tdiv a1_1 t124))).bind fun bt125 => (if bt125.1 > 0 then (none) else (if bt125.2 > 9223372036854775807 then (none) else ((Podd.odds_wide_by.f kj2 t116 t117 t124).bind fun bt128 => (some (bt128.2.1, bt125.2, 0))))))) = some (r1, r2, r3) := H
       have A33 := Aside0.mk A330
       clear A330
       by_cases c34 : t124 = 0
       ·
        rw [if_pos c34] at H
        exact absurd H (by simp)
       ·
        rw [if_neg c34] at H
        have c34b0 : (t124 == 0) = false := beq_eq_false_iff_ne.mpr c34
        have c34b1 : (t124 != 0) = true := bne_iff_ne.mpr c34
        replace H := Option.bind_eq_some_iff.mp H
        obtain ⟨⟨t125, t126⟩, A350, H⟩ := H
        replace H : (if t125 > 0 then (none) else (if t126 > 9223372036854775807 then (none) else ((Podd.odds_wide_by.f kj2 t116 t117 t124).bind fun bt128 => (some (bt128.2.1, t126, 0))))) = some (r1, r2, r3) := H
        have A35 := Aside0.mk A350
        clear A350
        by_cases c36 : t125 > 0
        ·
         rw [if_pos c36] at H
         have c36b0 : decide (0 < t125) = true := decide_eq_true c36
         clear c36
         exact absurd H (by simp)
        ·
         rw [if_neg c36] at H
         have c36b0 : decide (0 < t125) = false := decide_eq_false c36
         clear c36
         by_cases c37 : t126 > 9223372036854775807
         ·
          rw [if_pos c37] at H
          have c37b0 : decide (9223372036854775807 < t126) = true := decide_eq_true c37
          clear c37
          exact absurd H (by simp)
         ·
          rw [if_neg c37] at H
          have c37b0 : decide (9223372036854775807 < t126) = false := decide_eq_false c37
          clear c37
          replace H := Option.bind_eq_some_iff.mp H
          obtain ⟨⟨t128, t129, t130⟩, A380, H⟩ := H
          replace H : (some (t129, t126, 0)) = some (r1, r2, r3) := H
          have A38 := Aside0.mk A380
          clear A380
          simp only [Option.some.injEq, Prod.mk.injEq] at H
          obtain ⟨rfl, rfl, rfl⟩ := H
          try go_wp2
          have n0_ := Aside0.mk (blk_drew BK101.out)
          have n1_ := Aside0.mk (blk_drew BK102.out)
          have n2_ := Aside0.mk (blk_drew BK103.out)
          have n3_ := Aside0.mk (below_drew1 HB.out)
          clear BK101
          clear BK102
          clear BK103
          clear HB
          have BK101 := n0_
          have BK102 := n1_
          have BK103 := n2_
          have HB := n3_
          clear n0_ n1_ n2_ n3_
          refine start_ (n := 15) (S := fun w' => w'.cell? ⟨gb101, 0, none⟩ = some (.int .u64 a0_0) ∧ w'.cell? ⟨gb101, 1, none⟩ = some (.int .u64 a0_1) ∧ w'.cell? ⟨gb102, 0, none⟩ = some (.int .u64 a1_0) ∧ w'.cell? ⟨gb102, 1, none⟩ = some (.int .u64 a1_1)) (ds := []) #[false, false, false, false, false, false, false, false, false, false, false, false, false, false, false] (by kernel_rfl) rfl rfl ⟨(blk_cell BK101.out 0).trans rfl, (blk_cell BK101.out 1).trans rfl, (blk_cell BK102.out 0).trans rfl, (blk_cell BK102.out 1).trans rfl⟩ (fun hHeld => ?_); refine with_tabW odds_Sum.tab3 odds_Sum.bits3 (fun HT_ HW_ => ?_)
          generalize wc.drew = w39 at BK101 BK102 BK103 HB hHeld ⊢
          refine pure_ (i := 0) (N := some 22) (v := ?_) (a' := ?_) #[true, false, false, false, false, false, false, false, false, false, false, false, false, false, false] rfl rfl (any_of HT_.out (by kernel_rfl)) (fun _ _ _ h => h) (Or.inl ⟨by rfl, ?_⟩) ?_ ?_
          rotate_left
          ·
           intro w'
           go_simp
           with_reducible rfl
          rotate_left
          ·
           simp only [Act.put, List.setIfInBounds_toArray, List.set_cons_zero, List.set_cons_succ, i64_w, i32_w]
           rfl
          refine pure_ (i := 2) (N := some 24) (v := ?_) (a' := ?_) #[true, false, true, false, false, false, false, false, false, false, false, false, false, false, false] rfl rfl (any_of HT_.out (by kernel_rfl)) (fun _ _ _ h => h) (Or.inl ⟨by rfl, ?_⟩) ?_ ?_
          rotate_left
          ·
           intro w'
           go_simp
           with_reducible rfl
          rotate_left
          ·
           simp only [Act.put, List.setIfInBounds_toArray, List.set_cons_zero, List.set_cons_succ, i64_w, i32_w]
           rfl
          refine pure_ (i := 5) (N := some 27) (v := ?_) (a' := ?_) #[true, false, true, false, false, true, false, false, false, false, false, false, false, false, false] rfl rfl (any_of HT_.out (by kernel_rfl)) (fun _ _ _ h => h) (Or.inl ⟨by rfl, ?_⟩) ?_ ?_
          rotate_left
          ·
           intro w'
           go_simp
           with_reducible rfl
          rotate_left
          ·
           simp only [Act.put, List.setIfInBounds_toArray, List.set_cons_zero, List.set_cons_succ, i64_w, i32_w]
           rfl
          refine pure_ (i := 7) (N := some 29) (v := ?_) (a' := ?_) #[true, false, true, false, false, true, false, true, false, false, false, false, false, false, false] rfl rfl (any_of HT_.out (by kernel_rfl)) (fun _ _ _ h => h) (Or.inl ⟨by rfl, ?_⟩) ?_ ?_
          rotate_left
          ·
           intro w'
           go_simp
           with_reducible rfl
          rotate_left
          ·
           simp only [Act.put, List.setIfInBounds_toArray, List.set_cons_zero, List.set_cons_succ, i64_w, i32_w]
           rfl
          refine pure_ (i := 10) (N := some 32) (v := ?_) (a' := ?_) #[true, false, true, false, false, true, false, true, false, false, true, false, false, false, false] rfl rfl (any_of HT_.out (by kernel_rfl)) (fun _ _ _ h => h) (Or.inl ⟨by rfl, ?_⟩) ?_ ?_
          rotate_left
          ·
           intro w'
           go_simp
           with_reducible rfl
          rotate_left
          ·
           simp only [Act.put, List.setIfInBounds_toArray, List.set_cons_zero, List.set_cons_succ, i64_w, i32_w]
           rfl
          refine take_ (i := 1) (N := some 23) (v := ?_) (a' := ?_) #[true, true, true, false, false, true, false, true, false, false, true, false, false, false, false] rfl rfl (take_ofW HT_.out HW_.out (by kernel_rfl)) (fun _ _ _ h => h) (Or.inl ⟨by rfl, ?_⟩) hHeld ?_ ?_
          rotate_left
          ·
           rintro w' ⟨s0, s1, s2, s3⟩
           go_simp
           with_reducible rfl
          rotate_left
          ·
           simp only [Act.put, List.setIfInBounds_toArray, List.set_cons_zero, List.set_cons_succ, i64_w, i32_w]
           rfl
          refine take_ (i := 3) (N := some 25) (v := ?_) (a' := ?_) #[true, true, true, true, false, true, false, true, false, false, true, false, false, false, false] rfl rfl (take_ofW HT_.out HW_.out (by kernel_rfl)) (fun _ _ _ h => h) (Or.inl ⟨by rfl, ?_⟩) hHeld ?_ ?_
          rotate_left
          ·
           rintro w' ⟨s0, s1, s2, s3⟩
           go_simp
           with_reducible rfl
          rotate_left
          ·
           simp only [Act.put, List.setIfInBounds_toArray, List.set_cons_zero, List.set_cons_succ, i64_w, i32_w]
           rfl
          refine take_ (i := 6) (N := some 28) (v := ?_) (a' := ?_) #[true, true, true, true, false, true, true, true, false, false, true, false, false, false, false] rfl rfl (take_ofW HT_.out HW_.out (by kernel_rfl)) (fun _ _ _ h => h) (Or.inl ⟨by rfl, ?_⟩) hHeld ?_ ?_
          rotate_left
          ·
           rintro w' ⟨s0, s1, s2, s3⟩
           go_simp
           with_reducible rfl
          rotate_left
          ·
           simp only [Act.put, List.setIfInBounds_toArray, List.set_cons_zero, List.set_cons_succ, i64_w, i32_w]
           rfl
          refine take_ (i := 8) (N := some 30) (v := ?_) (a' := ?_) #[true, true, true, true, false, true, true, true, true, false, true, false, false, false, false] rfl rfl (take_ofW HT_.out HW_.out (by kernel_rfl)) (fun _ _ _ h => h) (Or.inl ⟨by rfl, ?_⟩) hHeld ?_ ?_
          rotate_left
          ·
           rintro w' ⟨s0, s1, s2, s3⟩
           go_simp
           with_reducible rfl
          rotate_left
          ·
           simp only [Act.put, List.setIfInBounds_toArray, List.set_cons_zero, List.set_cons_succ, i64_w, i32_w]
           rfl
          refine pure_ (i := 9) (N := some 31) (v := ?_) (a' := ?_) #[true, true, true, true, false, true, true, true, true, true, true, false, false, false, false] rfl rfl (any_of HT_.out (by kernel_rfl)) (fun _ _ _ h => h) (Or.inl ⟨by rfl, ?_⟩) ?_ ?_
          rotate_left
          ·
           intro w'
           go_simp
           with_reducible rfl
          rotate_left
          ·
           simp only [Act.put, List.setIfInBounds_toArray, List.set_cons_zero, List.set_cons_succ, i64_w, i32_w]
           rfl
          refine take_ (i := 11) (N := some 33) (v := ?_) (a' := ?_) #[true, true, true, true, false, true, true, true, true, true, true, true, false, false, false] rfl rfl (take_ofW HT_.out HW_.out (by kernel_rfl)) (fun _ _ _ h => h) (Or.inl ⟨by rfl, ?_⟩) hHeld ?_ ?_
          rotate_left
          ·
           rintro w' ⟨s0, s1, s2, s3⟩
           go_simp
           with_reducible rfl
          rotate_left
          ·
           simp only [Act.put, List.setIfInBounds_toArray, List.set_cons_zero, List.set_cons_succ, i64_w, i32_w]
           rfl
          refine one_ (i := 4) (N := some 26) #[true, true, true, true, true, true, true, true, true, true, true, true, false, false, false] rfl rfl (one_of HT_.out (by kernel_rfl)) (by decide) (fun K hK => ?_)
          refine goes_ Tryd.func63 (by kernel_rfl) rfl #[.int .u64 a0_0, .int .u64 a1_1] (by rfl) rfl rfl (by (try simp only [List.map_toArray, List.map_cons, List.map_nil]); first | done | rfl | (simp only [List.length_drop, List.length_take]; rfl)) ?_
          with_reducible refine (Podd.odds_times.calls a0_0 a1_1 t106 t107 _ A22.out).mono ?_
          rintro e w40 ⟨rfl, hb⟩
          refine ⟨_, rfl, ?_⟩
          have n0_ := Aside0.mk (blk_below (g := gb101) (o := .cells #[.int .u64 a0_0, .int .u64 a0_1] 47 (0, 0)) of_lies hb)
          have n1_ := Aside0.mk (blk_below (g := gb102) (o := .cells #[.int .u64 a1_0, .int .u64 a1_1] 47 (0, 0)) of_lies hb)
          have n2_ := Aside0.mk (blk_below (g := gb103) (o := .cells #[.int .u64 0, .int .u64 0] 47 (0, 0)) of_lies hb)
          have n3_ := Aside0.mk (below_step (low HB) hb)
          clear BK101
          clear BK102
          clear BK103
          clear HB
          have BK101 := n0_
          have BK102 := n1_
          have BK103 := n2_
          have HB := n3_
          clear n0_ n1_ n2_ n3_
          (try clear hb)
          (try clear hb2)
          (try clear hk)
          (try clear hi)
          refine hK.out _ _ ⟨(blk_cell BK101.out 0).trans rfl, (blk_cell BK101.out 1).trans rfl, (blk_cell BK102.out 0).trans rfl, (blk_cell BK102.out 1).trans rfl⟩ (fun hHeld => ?_)
          clear hK K
          refine norm_ (a' := ?_) ?_ ?_
          rotate_left
          ·
           show Act.put _ (some 26) _ = _
           simp only [Act.put, List.setIfInBounds_toArray, List.set_cons_zero, List.set_cons_succ, i64_w, i32_w]
           rfl
          refine one_ (i := 12) (N := some 34) #[true, true, true, true, true, true, true, true, true, true, true, true, true, false, false] rfl rfl (one_of HT_.out (by kernel_rfl)) (by decide) (fun K hK => ?_)
          refine goes_ Tryd.func63 (by kernel_rfl) rfl #[.int .u64 (IntKind.u64.wrap (a1_1 - a1_0)), .int .u64 a0_1] (by rfl) rfl rfl (by (try simp only [List.map_toArray, List.map_cons, List.map_nil]); first | done | rfl | (simp only [List.length_drop, List.length_take]; rfl)) ?_
          with_reducible refine (Podd.odds_times.calls (IntKind.u64.wrap (a1_1 - a1_0)) a0_1 t108 t109 _ A23.out).mono ?_
          rintro e w41 ⟨rfl, hb⟩
          refine ⟨_, rfl, ?_⟩
          have n0_ := Aside0.mk (blk_below (g := gb101) (o := .cells #[.int .u64 a0_0, .int .u64 a0_1] 47 (0, 0)) of_lies hb)
          have n1_ := Aside0.mk (blk_below (g := gb102) (o := .cells #[.int .u64 a1_0, .int .u64 a1_1] 47 (0, 0)) of_lies hb)
          have n2_ := Aside0.mk (blk_below (g := gb103) (o := .cells #[.int .u64 0, .int .u64 0] 47 (0, 0)) of_lies hb)
          have n3_ := Aside0.mk (below_step (low HB) hb)
          clear BK101
          clear BK102
          clear BK103
          clear HB
          have BK101 := n0_
          have BK102 := n1_
          have BK103 := n2_
          have HB := n3_
          clear n0_ n1_ n2_ n3_
          (try clear hb)
          (try clear hb2)
          (try clear hk)
          (try clear hi)
          refine hK.out _ _ ⟨(blk_cell BK101.out 0).trans rfl, (blk_cell BK101.out 1).trans rfl, (blk_cell BK102.out 0).trans rfl, (blk_cell BK102.out 1).trans rfl⟩ (fun hHeld => ?_)
          clear hK K
          refine norm_ (a' := ?_) ?_ ?_
          rotate_left
          ·
           show Act.put _ (some 34) _ = _
           simp only [Act.put, List.setIfInBounds_toArray, List.set_cons_zero, List.set_cons_succ, i64_w, i32_w]
           rfl
          refine one_ (i := 13) (N := some 35) #[true, true, true, true, true, true, true, true, true, true, true, true, true, true, false] rfl rfl (one_of HT_.out (by kernel_rfl)) (by decide) (fun K hK => ?_)
          refine goes_ Tryd.func64 (by kernel_rfl) rfl #[.agg #[.int .u64 t106, .int .u64 t107], .agg #[.int .u64 t108, .int .u64 t109]] (by rfl) rfl rfl (by (try simp only [List.map_toArray, List.map_cons, List.map_nil]); first | done | rfl | (simp only [List.length_drop, List.length_take]; rfl)) ?_
          with_reducible refine (Podd.odds_wide_compare.calls kj2 t106 t107 t108 t109 t110 _ A24.out).mono ?_
          rintro e w42 ⟨rfl, hb⟩
          refine ⟨_, rfl, ?_⟩
          have n0_ := Aside0.mk (blk_below (g := gb101) (o := .cells #[.int .u64 a0_0, .int .u64 a0_1] 47 (0, 0)) of_lies hb)
          have n1_ := Aside0.mk (blk_below (g := gb102) (o := .cells #[.int .u64 a1_0, .int .u64 a1_1] 47 (0, 0)) of_lies hb)
          have n2_ := Aside0.mk (blk_below (g := gb103) (o := .cells #[.int .u64 0, .int .u64 0] 47 (0, 0)) of_lies hb)
          have n3_ := Aside0.mk (below_step (low HB) hb)
          clear BK101
          clear BK102
          clear BK103
          clear HB
          have BK101 := n0_
          have BK102 := n1_
          have BK103 := n2_
          have HB := n3_
          clear n0_ n1_ n2_ n3_
          (try clear hb)
          (try clear hb2)
          (try clear hk)
          (try clear hi)
          refine hK.out _ _ ⟨(blk_cell BK101.out 0).trans rfl, (blk_cell BK101.out 1).trans rfl, (blk_cell BK102.out 0).trans rfl, (blk_cell BK102.out 1).trans rfl⟩ (fun hHeld => ?_)
          clear hK K
          refine norm_ (a' := ?_) ?_ ?_
          rotate_left
          ·
           show Act.put _ (some 35) _ = _
           simp only [Act.put, List.setIfInBounds_toArray, List.set_cons_zero, List.set_cons_succ, i64_w, i32_w]
           rfl
          refine pure_ (i := 14) (N := some 36) (v := ?_) (a' := ?_) #[true, true, true, true, true, true, true, true, true, true, true, true, true, true, true] rfl rfl (any_of HT_.out (by kernel_rfl)) (fun _ _ _ h => h) (Or.inl ⟨by rfl, ?_⟩) ?_ ?_
          rotate_left
          ·
           intro w'
           go_simp
           with_reducible rfl
          rotate_left
          ·
           simp only [Act.put, List.setIfInBounds_toArray, List.set_cons_zero, List.set_cons_succ, i64_w, i32_w]
           rfl
          refine done_ (done_of HT_.out (by kernel_rfl)) ?_
          have hnb43 := NB101_102.out
          have hnc43 := NB102_101.out
          have hnb44 := NB101_103.out
          have hnc44 := NB103_101.out
          have hcz45_0 : w42.cell? ⟨gb101, 0, none⟩ = some (.int .u64 a0_0) := (blk_cell BK101.out 0).trans rfl
          have hcz45_1 : w42.cell? ⟨gb101, 1, none⟩ = some (.int .u64 a0_1) := (blk_cell BK101.out 1).trans rfl
          have hfz45_0 := blk_frozen BK101.out 0
          have hfz45_1 := blk_frozen BK101.out 1
          have hnb46 := NB102_103.out
          have hnc46 := NB103_102.out
          have hcz47_0 : w42.cell? ⟨gb102, 0, none⟩ = some (.int .u64 a1_0) := (blk_cell BK102.out 0).trans rfl
          have hcz47_1 : w42.cell? ⟨gb102, 1, none⟩ = some (.int .u64 a1_1) := (blk_cell BK102.out 1).trans rfl
          have hfz47_0 := blk_frozen BK102.out 0
          have hfz47_1 := blk_frozen BK102.out 1
          try go_wp2_with (first | ((with_reducible refine gate_callee (f := 65) rfl ?_); refine goesL_ (some 42) rfl rfl Tryd.func65 (by kernel_rfl) rfl #[.int .u64 a0_1, .int .u64 a1_1] rfl (by (try simp only [List.map_toArray, List.map_cons, List.map_nil]); first | done | rfl | (simp only [List.length_drop, List.length_take]; rfl)) ?_; (with_reducible refine (Podd.odds_divisor.calls kj2 a0_1 a1_1 t111 _ A26.out).mono ?_); rintro e w' ⟨rfl, ⟨nd, rfl⟩⟩; refine ⟨_, rfl, ?_⟩; (try (rw [drewN_self w42]; generalize hq_ : World.drewN w42 _ = w42; have n0_ : Aside0 (w42.heap[gb101]? = some (.cells #[.int .u64 a0_0, .int .u64 a0_1] 47 (0, 0))) := ⟨by rw [← hq_]; exact of_lies⟩; have n1_ : Aside0 (w42.heap[gb102]? = some (.cells #[.int .u64 a1_0, .int .u64 a1_1] 47 (0, 0))) := ⟨by rw [← hq_]; exact of_lies⟩; have n2_ : Aside0 (w42.heap[gb103]? = some (.cells #[.int .u64 0, .int .u64 0] 47 (0, 0))) := ⟨by rw [← hq_]; exact of_lies⟩; have n3_ : Aside0 (Below w.heap.size w w42) := ⟨by rw [← hq_]; exact (low HB)⟩; clear BK101 BK102 BK103 HB hq_; have BK101 := n0_; have BK102 := n1_; have BK103 := n2_; have HB := n3_; clear n0_ n1_ n2_ n3_))))
          have n0_ := Aside0.mk (blk_drew BK101.out)
          have n1_ := Aside0.mk (blk_drew BK102.out)
          have n2_ := Aside0.mk (blk_drew BK103.out)
          have n3_ := Aside0.mk (below_drew1 HB.out)
          clear BK101
          clear BK102
          clear BK103
          clear HB
          have BK101 := n0_
          have BK102 := n1_
          have BK103 := n2_
          have HB := n3_
          clear n0_ n1_ n2_ n3_
          refine start_ (n := 21) (S := fun w' => w'.cell? ⟨gb101, 0, none⟩ = some (.int .u64 a0_0) ∧ w'.cell? ⟨gb101, 1, none⟩ = some (.int .u64 a0_1) ∧ w'.cell? ⟨gb102, 0, none⟩ = some (.int .u64 a1_0) ∧ w'.cell? ⟨gb102, 1, none⟩ = some (.int .u64 a1_1)) (ds := []) #[false, false, false, false, false, false, false, false, false, false, false, false, false, false, false, false, false, false, false, false, false] (by kernel_rfl) rfl rfl ⟨(blk_cell BK101.out 0).trans rfl, (blk_cell BK101.out 1).trans rfl, (blk_cell BK102.out 0).trans rfl, (blk_cell BK102.out 1).trans rfl⟩ (fun hHeld => ?_); refine with_tabW odds_Sum.tab6 odds_Sum.bits6 (fun HT_ HW_ => ?_)
          generalize w42.drew = w48 at BK101 BK102 BK103 HB hHeld ⊢
          refine pure_ (i := 0) (N := some 44) (v := ?_) (a' := ?_) #[true, false, false, false, false, false, false, false, false, false, false, false, false, false, false, false, false, false, false, false, false] rfl rfl (any_of HT_.out (by kernel_rfl)) (fun _ _ _ h => h) (Or.inl ⟨by rfl, ?_⟩) ?_ ?_
          rotate_left
          ·
           intro w'
           go_simp
           with_reducible rfl
          rotate_left
          ·
           simp only [Act.put, List.setIfInBounds_toArray, List.set_cons_zero, List.set_cons_succ, i64_w, i32_w]
           rfl
          refine pure_ (i := 2) (N := some 46) (v := ?_) (a' := ?_) #[true, false, true, false, false, false, false, false, false, false, false, false, false, false, false, false, false, false, false, false, false] rfl rfl (any_of HT_.out (by kernel_rfl)) (fun _ _ _ h => h) (Or.inl ⟨by rfl, ?_⟩) ?_ ?_
          rotate_left
          ·
           intro w'
           go_simp
           with_reducible rfl
          rotate_left
          ·
           simp only [Act.put, List.setIfInBounds_toArray, List.set_cons_zero, List.set_cons_succ, i64_w, i32_w]
           rfl
          refine pure_ (i := 4) (N := some 48) (v := ?_) (a' := ?_) #[true, false, true, false, true, false, false, false, false, false, false, false, false, false, false, false, false, false, false, false, false] rfl rfl (any_of HT_.out (by kernel_rfl)) (fun _ _ _ h => h) (Or.inl ⟨by rfl, ?_⟩) ?_ ?_
          rotate_left
          ·
           intro w'
           go_simp
           with_reducible rfl
          rotate_left
          ·
           simp only [Act.put, List.setIfInBounds_toArray, List.set_cons_zero, List.set_cons_succ, i64_w, i32_w]
           rfl
          refine pure_ (i := 7) (N := some 51) (v := ?_) (a' := ?_) #[true, false, true, false, true, false, false, true, false, false, false, false, false, false, false, false, false, false, false, false, false] rfl rfl (any_of HT_.out (by kernel_rfl)) (fun _ _ _ h => h) (Or.inl ⟨by rfl, ?_⟩) ?_ ?_
          rotate_left
          ·
           intro w'
           go_simp
           with_reducible rfl
          rotate_left
          ·
           simp only [Act.put, List.setIfInBounds_toArray, List.set_cons_zero, List.set_cons_succ, i64_w, i32_w]
           rfl
          refine pure_ (i := 9) (N := some 53) (v := ?_) (a' := ?_) #[true, false, true, false, true, false, false, true, false, true, false, false, false, false, false, false, false, false, false, false, false] rfl rfl (any_of HT_.out (by kernel_rfl)) (fun _ _ _ h => h) (Or.inl ⟨by rfl, ?_⟩) ?_ ?_
          rotate_left
          ·
           intro w'
           go_simp
           with_reducible rfl
          rotate_left
          ·
           simp only [Act.put, List.setIfInBounds_toArray, List.set_cons_zero, List.set_cons_succ, i64_w, i32_w]
           rfl
          refine pure_ (i := 11) (N := some 55) (v := ?_) (a' := ?_) #[true, false, true, false, true, false, false, true, false, true, false, true, false, false, false, false, false, false, false, false, false] rfl rfl (any_of HT_.out (by kernel_rfl)) (fun _ _ _ h => h) (Or.inl ⟨by rfl, ?_⟩) ?_ ?_
          rotate_left
          ·
           intro w'
           go_simp
           with_reducible rfl
          rotate_left
          ·
           simp only [Act.put, List.setIfInBounds_toArray, List.set_cons_zero, List.set_cons_succ, i64_w, i32_w]
           rfl
          refine take_ (i := 1) (N := some 45) (v := ?_) (a' := ?_) #[true, true, true, false, true, false, false, true, false, true, false, true, false, false, false, false, false, false, false, false, false] rfl rfl (take_ofW HT_.out HW_.out (by kernel_rfl)) (fun _ _ _ h => h) (Or.inl ⟨by rfl, ?_⟩) hHeld ?_ ?_
          rotate_left
          ·
           rintro w' ⟨s0, s1, s2, s3⟩
           go_simp
           with_reducible rfl
          rotate_left
          ·
           simp only [Act.put, List.setIfInBounds_toArray, List.set_cons_zero, List.set_cons_succ, i64_w, i32_w]
           rfl
          refine take_ (i := 3) (N := some 47) (v := ?_) (a' := ?_) #[true, true, true, true, true, false, false, true, false, true, false, true, false, false, false, false, false, false, false, false, false] rfl rfl (take_ofW HT_.out HW_.out (by kernel_rfl)) (fun _ _ _ h => h) (Or.inl ⟨by rfl, ?_⟩) hHeld ?_ ?_
          rotate_left
          ·
           rintro w' ⟨s0, s1, s2, s3⟩
           go_simp
           with_reducible rfl
          rotate_left
          ·
           simp only [Act.put, List.setIfInBounds_toArray, List.set_cons_zero, List.set_cons_succ, i64_w, i32_w]
           rfl
          refine pure_ (i := 5) (N := some 49) (v := ?_) (a' := ?_) #[true, true, true, true, true, true, false, true, false, true, false, true, false, false, false, false, false, false, false, false, false] rfl rfl (any_of HT_.out (by kernel_rfl)) (fun _ _ _ h => h) (Or.inl ⟨by rfl, ?_⟩) ?_ ?_
          rotate_left
          ·
           intro w'
           go_simp
           with_reducible rfl
          rotate_left
          ·
           simp only [Act.put, List.setIfInBounds_toArray, List.set_cons_zero, List.set_cons_succ, i64_w, i32_w]
           rfl
          refine take_ (i := 8) (N := some 52) (v := ?_) (a' := ?_) #[true, true, true, true, true, true, false, true, true, true, false, true, false, false, false, false, false, false, false, false, false] rfl rfl (take_ofW HT_.out HW_.out (by kernel_rfl)) (fun _ _ _ h => h) (Or.inl ⟨by rfl, ?_⟩) hHeld ?_ ?_
          rotate_left
          ·
           rintro w' ⟨s0, s1, s2, s3⟩
           go_simp
           with_reducible rfl
          rotate_left
          ·
           simp only [Act.put, List.setIfInBounds_toArray, List.set_cons_zero, List.set_cons_succ, i64_w, i32_w]
           rfl
          refine take_ (i := 10) (N := some 54) (v := ?_) (a' := ?_) #[true, true, true, true, true, true, false, true, true, true, true, true, false, false, false, false, false, false, false, false, false] rfl rfl (take_ofW HT_.out HW_.out (by kernel_rfl)) (fun _ _ _ h => h) (Or.inl ⟨by rfl, ?_⟩) hHeld ?_ ?_
          rotate_left
          ·
           rintro w' ⟨s0, s1, s2, s3⟩
           go_simp
           with_reducible rfl
          rotate_left
          ·
           simp only [Act.put, List.setIfInBounds_toArray, List.set_cons_zero, List.set_cons_succ, i64_w, i32_w]
           rfl
          refine pure_ (i := 12) (N := some 56) (v := ?_) (a' := ?_) #[true, true, true, true, true, true, false, true, true, true, true, true, true, false, false, false, false, false, false, false, false] rfl rfl (any_of HT_.out (by kernel_rfl)) (fun _ _ _ h => h) (Or.inl ⟨by rfl, ?_⟩) ?_ ?_
          rotate_left
          ·
           intro w'
           go_simp
           with_reducible rfl
          rotate_left
          ·
           simp only [Act.put, List.setIfInBounds_toArray, List.set_cons_zero, List.set_cons_succ, i64_w, i32_w]
           rfl
          refine join_ (σ := Nat) 2 #[true, true, true, true, true, true, true, true, true, true, true, true, true, true, true, true, true, true, true, false, false] (fun s_ => [(50, .agg #[.int .u64 t112, .int .u64 t113]), (57, .agg #[.int .u64 t114, .int .u64 t115]), (58, .tuple #[.agg #[.int .u64 t116, .int .u64 t117], .bool true]), (7, .pointer (some ⟨s_, 0, none⟩)), (43, .tuple #[.agg #[.int .u64 t116, .int .u64 t117], .bool true]), (59, .agg #[.int .u64 t116, .int .u64 t117]), (60, .bool true)]) (fun s_ w' => (w'.cell? ⟨gb101, 0, none⟩ = some (.int .u64 a0_0) ∧ w'.cell? ⟨gb101, 1, none⟩ = some (.int .u64 a0_1) ∧ w'.cell? ⟨gb102, 0, none⟩ = some (.int .u64 a1_0) ∧ w'.cell? ⟨gb102, 1, none⟩ = some (.int .u64 a1_1)) ∧ (w'.heap[gb101]? = some (.cells #[.int .u64 a0_0, .int .u64 a0_1] 47 (0, 0))) ∧ (w'.heap[gb102]? = some (.cells #[.int .u64 a1_0, .int .u64 a1_1] 47 (0, 0))) ∧ (w'.heap[gb103]? = some (.cells #[.int .u64 0, .int .u64 0] 47 (0, 0))) ∧ (w'.heap[s_]? = some (.cells #[.int .u64 0, .int .u64 0] 74 (0, 0))) ∧ (w.heap.size ≤ s_) ∧ (w.heap.size ≤ s_) ∧ (gb101 ≠ s_) ∧ (s_ ≠ gb101) ∧ (gb102 ≠ s_) ∧ (s_ ≠ gb102) ∧ (gb103 ≠ s_) ∧ (s_ ≠ gb103) ∧ (Below w.heap.size w w')) ?_ ?_
          rotate_left
          ·
           intro hCont
           refine two_ (i := 6) (j := 18) (Ni := some 50) (Nj := some 7) #[true, true, true, true, true, true, true, true, true, true, true, true, true, false, false, false, false, false, false, false, false] #[true, true, true, true, true, true, false, true, true, true, true, true, true, false, false, false, false, false, true, false, false] rfl rfl rfl rfl (two_of HT_.out (by kernel_rfl)) (by decide) (by decide) (fun K hK => ?_) (fun K hK => ?_)
           ·
            skip
            refine goes_ Tryd.func63 (by kernel_rfl) rfl #[.int .u64 a0_0, .int .u64 (IntKind.u64.wrap (Int.tdiv a1_1 t111))] (by rfl) rfl rfl (by (try simp only [List.map_toArray, List.map_cons, List.map_nil]); first | done | rfl | (simp only [List.length_drop, List.length_take]; rfl)) ?_
            with_reducible refine (Podd.odds_times.calls a0_0 (IntKind.u64.wrap (Int.tdiv a1_1 t111)) t112 t113 _ A28.out).mono ?_
            rintro e w49 ⟨rfl, hb⟩
            refine ⟨_, rfl, ?_⟩
            have n0_ := Aside0.mk (blk_below (g := gb101) (o := .cells #[.int .u64 a0_0, .int .u64 a0_1] 47 (0, 0)) of_lies hb)
            have n1_ := Aside0.mk (blk_below (g := gb102) (o := .cells #[.int .u64 a1_0, .int .u64 a1_1] 47 (0, 0)) of_lies hb)
            have n2_ := Aside0.mk (blk_below (g := gb103) (o := .cells #[.int .u64 0, .int .u64 0] 47 (0, 0)) of_lies hb)
            have n3_ := Aside0.mk (below_step (low HB) hb)
            clear BK101
            clear BK102
            clear BK103
            clear HB
            have BK101 := n0_
            have BK102 := n1_
            have BK103 := n2_
            have HB := n3_
            clear n0_ n1_ n2_ n3_
            (try clear hb)
            (try clear hb2)
            (try clear hk)
            (try clear hi)
            refine hK.out _ _ ⟨(blk_cell BK101.out 0).trans rfl, (blk_cell BK101.out 1).trans rfl, (blk_cell BK102.out 0).trans rfl, (blk_cell BK102.out 1).trans rfl⟩ (fun hHeld => ?_)
            clear hK K
            refine norm_ (a' := ?_) ?_ ?_
            rotate_left
            ·
             show Act.put _ (some 50) _ = _
             simp only [Act.put, List.setIfInBounds_toArray, List.set_cons_zero, List.set_cons_succ, i64_w, i32_w]
             rfl
            refine two_ (i := 13) (j := 18) (Ni := some 57) (Nj := some 7) #[true, true, true, true, true, true, true, true, true, true, true, true, true, true, false, false, false, false, false, false, false] #[true, true, true, true, true, true, true, true, true, true, true, true, true, false, false, false, false, false, true, false, false] rfl rfl rfl rfl (two_of HT_.out (by kernel_rfl)) (by decide) (by decide) (fun K hK => ?_) (fun K hK => ?_)
            ·
             skip
             refine goes_ Tryd.func63 (by kernel_rfl) rfl #[.int .u64 a1_0, .int .u64 (IntKind.u64.wrap (Int.tdiv a0_1 t111))] (by rfl) rfl rfl (by (try simp only [List.map_toArray, List.map_cons, List.map_nil]); first | done | rfl | (simp only [List.length_drop, List.length_take]; rfl)) ?_
             with_reducible refine (Podd.odds_times.calls a1_0 (IntKind.u64.wrap (Int.tdiv a0_1 t111)) t114 t115 _ A29.out).mono ?_
             rintro e w50 ⟨rfl, hb⟩
             refine ⟨_, rfl, ?_⟩
             have n0_ := Aside0.mk (blk_below (g := gb101) (o := .cells #[.int .u64 a0_0, .int .u64 a0_1] 47 (0, 0)) of_lies hb)
             have n1_ := Aside0.mk (blk_below (g := gb102) (o := .cells #[.int .u64 a1_0, .int .u64 a1_1] 47 (0, 0)) of_lies hb)
             have n2_ := Aside0.mk (blk_below (g := gb103) (o := .cells #[.int .u64 0, .int .u64 0] 47 (0, 0)) of_lies hb)
             have n3_ := Aside0.mk (below_step (low HB) hb)
             clear BK101
             clear BK102
             clear BK103
             clear HB
             have BK101 := n0_
             have BK102 := n1_
             have BK103 := n2_
             have HB := n3_
             clear n0_ n1_ n2_ n3_
             (try clear hb)
             (try clear hb2)
             (try clear hk)
             (try clear hi)
             refine hK.out _ _ ⟨(blk_cell BK101.out 0).trans rfl, (blk_cell BK101.out 1).trans rfl, (blk_cell BK102.out 0).trans rfl, (blk_cell BK102.out 1).trans rfl⟩ (fun hHeld => ?_)
             clear hK K
             refine norm_ (a' := ?_) ?_ ?_
             rotate_left
             ·
              show Act.put _ (some 57) _ = _
              simp only [Act.put, List.setIfInBounds_toArray, List.set_cons_zero, List.set_cons_succ, i64_w, i32_w]
              rfl
             refine two_ (i := 14) (j := 18) (Ni := some 58) (Nj := some 7) #[true, true, true, true, true, true, true, true, true, true, true, true, true, true, true, false, false, false, false, false, false] #[true, true, true, true, true, true, true, true, true, true, true, true, true, true, false, false, false, false, true, false, false] rfl rfl rfl rfl (two_of HT_.out (by kernel_rfl)) (by decide) (by decide) (fun K hK => ?_) (fun K hK => ?_)
             ·
              skip
              refine goes_ Tryd.func66 (by kernel_rfl) rfl #[.agg #[.int .u64 t112, .int .u64 t113], .agg #[.int .u64 t114, .int .u64 t115]] (by rfl) rfl rfl (by (try simp only [List.map_toArray, List.map_cons, List.map_nil]); first | done | rfl | (simp only [List.length_drop, List.length_take]; rfl)) ?_
              with_reducible refine (odds_wide_plus.calls t112 t113 t114 t115 t116 t117 true _ A30.out).mono ?_
              rintro e w51 ⟨rfl, hb⟩
              refine ⟨_, rfl, ?_⟩
              have n0_ := Aside0.mk (blk_below (g := gb101) (o := .cells #[.int .u64 a0_0, .int .u64 a0_1] 47 (0, 0)) of_lies hb)
              have n1_ := Aside0.mk (blk_below (g := gb102) (o := .cells #[.int .u64 a1_0, .int .u64 a1_1] 47 (0, 0)) of_lies hb)
              have n2_ := Aside0.mk (blk_below (g := gb103) (o := .cells #[.int .u64 0, .int .u64 0] 47 (0, 0)) of_lies hb)
              have n3_ := Aside0.mk (below_step (low HB) hb)
              clear BK101
              clear BK102
              clear BK103
              clear HB
              have BK101 := n0_
              have BK102 := n1_
              have BK103 := n2_
              have HB := n3_
              clear n0_ n1_ n2_ n3_
              (try clear hb)
              (try clear hb2)
              (try clear hk)
              (try clear hi)
              refine hK.out _ _ ⟨(blk_cell BK101.out 0).trans rfl, (blk_cell BK101.out 1).trans rfl, (blk_cell BK102.out 0).trans rfl, (blk_cell BK102.out 1).trans rfl⟩ (fun hHeld => ?_)
              clear hK K
              refine norm_ (a' := ?_) ?_ ?_
              rotate_left
              ·
               show Act.put _ (some 58) _ = _
               simp only [Act.put, List.setIfInBounds_toArray, List.set_cons_zero, List.set_cons_succ, i64_w, i32_w]
               rfl
              refine pure_ (i := 15) (N := some 43) (v := ?_) (a' := ?_) #[true, true, true, true, true, true, true, true, true, true, true, true, true, true, true, true, false, false, false, false, false] rfl rfl (any_of HT_.out (by kernel_rfl)) (fun _ _ _ h => h) (Or.inl ⟨by rfl, ?_⟩) ?_ ?_
              rotate_left
              ·
               intro w'
               go_simp
               with_reducible rfl
              rotate_left
              ·
               simp only [Act.put, List.setIfInBounds_toArray, List.set_cons_zero, List.set_cons_succ, i64_w, i32_w]
               rfl
              refine pure_ (i := 16) (N := some 59) (v := ?_) (a' := ?_) #[true, true, true, true, true, true, true, true, true, true, true, true, true, true, true, true, true, false, false, false, false] rfl rfl (any_of HT_.out (by kernel_rfl)) (fun _ _ _ h => h) (Or.inl ⟨by rfl, ?_⟩) ?_ ?_
              rotate_left
              ·
               intro w'
               go_simp
               with_reducible rfl
              rotate_left
              ·
               simp only [Act.put, List.setIfInBounds_toArray, List.set_cons_zero, List.set_cons_succ, i64_w, i32_w]
               rfl
              refine pure_ (i := 17) (N := some 60) (v := ?_) (a' := ?_) #[true, true, true, true, true, true, true, true, true, true, true, true, true, true, true, true, true, true, false, false, false] rfl rfl (any_of HT_.out (by kernel_rfl)) (fun _ _ _ h => h) (Or.inl ⟨by rfl, ?_⟩) ?_ ?_
              rotate_left
              ·
               intro w'
               go_simp
               with_reducible rfl
              rotate_left
              ·
               simp only [Act.put, List.setIfInBounds_toArray, List.set_cons_zero, List.set_cons_succ, i64_w, i32_w]
               rfl
              refine one_ (i := 18) (N := some 7) #[true, true, true, true, true, true, true, true, true, true, true, true, true, true, true, true, true, true, true, false, false] rfl rfl (one_of HT_.out (by kernel_rfl)) (by decide) (fun K hK => ?_)
              refine box_step ?hg (N := 7) ?hd (cs := #[.int .u64 0, .int .u64 0]) (t := 74) ?hr ?_; (case hd => rfl); (case hg => rfl); (case hr => first | (go_simp; done) | (go_simp; rfl))
              intro gb119 hg w52 hbox hb
              have n0_ := Aside0.mk (blk_below (g := gb101) (o := .cells #[.int .u64 a0_0, .int .u64 a0_1] 47 (0, 0)) of_lies hb)
              have n1_ := Aside0.mk (blk_below (g := gb102) (o := .cells #[.int .u64 a1_0, .int .u64 a1_1] 47 (0, 0)) of_lies hb)
              have n2_ := Aside0.mk (blk_below (g := gb103) (o := .cells #[.int .u64 0, .int .u64 0] 47 (0, 0)) of_lies hb)
              have n3_ := Aside0.mk (below_step (low HB) hb)
              have n4_ := Aside0.mk (hbox)
              have n5_ := Aside0.mk ((by rw [hg]; exact (below_size (low HB)) : w.heap.size ≤ gb119))
              have n6_ := Aside0.mk ((by rw [hg]; exact (below_size (low HB)) : w.heap.size ≤ gb119))
              have n7_ := Aside0.mk ((by rw [hg]; exact Nat.ne_of_lt (blk_lt (g := gb101) (o := .cells #[.int .u64 a0_0, .int .u64 a0_1] 47 (0, 0)) of_lies) : gb101 ≠ gb119))
              have n8_ := Aside0.mk ((by rw [hg]; exact Nat.ne_of_gt (blk_lt (g := gb101) (o := .cells #[.int .u64 a0_0, .int .u64 a0_1] 47 (0, 0)) of_lies) : gb119 ≠ gb101))
              have n9_ := Aside0.mk ((by rw [hg]; exact Nat.ne_of_lt (blk_lt (g := gb102) (o := .cells #[.int .u64 a1_0, .int .u64 a1_1] 47 (0, 0)) of_lies) : gb102 ≠ gb119))
              have n10_ := Aside0.mk ((by rw [hg]; exact Nat.ne_of_gt (blk_lt (g := gb102) (o := .cells #[.int .u64 a1_0, .int .u64 a1_1] 47 (0, 0)) of_lies) : gb119 ≠ gb102))
              have n11_ := Aside0.mk ((by rw [hg]; exact Nat.ne_of_lt (blk_lt (g := gb103) (o := .cells #[.int .u64 0, .int .u64 0] 47 (0, 0)) of_lies) : gb103 ≠ gb119))
              have n12_ := Aside0.mk ((by rw [hg]; exact Nat.ne_of_gt (blk_lt (g := gb103) (o := .cells #[.int .u64 0, .int .u64 0] 47 (0, 0)) of_lies) : gb119 ≠ gb103))
              clear BK101
              clear BK102
              clear BK103
              clear HB
              have BK101 := n0_
              have BK102 := n1_
              have BK103 := n2_
              have HB := n3_
              have BK119 := n4_
              have GW119 := n5_
              have GE119 := n6_
              have NB101_119 := n7_
              have NB119_101 := n8_
              have NB102_119 := n9_
              have NB119_102 := n10_
              have NB103_119 := n11_
              have NB119_103 := n12_
              clear n0_ n1_ n2_ n3_ n4_ n5_ n6_ n7_ n8_ n9_ n10_ n11_ n12_
              clear hb hbox hg
              refine hK.out _ _ ⟨(blk_cell BK101.out 0).trans rfl, (blk_cell BK101.out 1).trans rfl, (blk_cell BK102.out 0).trans rfl, (blk_cell BK102.out 1).trans rfl⟩ (fun hHeld => ?_)
              clear hK K
              refine norm_ (a' := ?_) ?_ ?_
              rotate_left
              ·
               show Act.put _ (some 7) _ = _
               simp only [Act.put, List.setIfInBounds_toArray, List.set_cons_zero, List.set_cons_succ, i64_w, i32_w]
               rfl
              exact norm_ (by simp only [putAll, Act.put, List.setIfInBounds_toArray, List.set_cons_zero, List.set_cons_succ]) (hCont (gb119) _ ⟨hHeld, of_lies, of_lies, of_lies, of_lies, GW119.out, GE119.out, NB101_119.out, NB119_101.out, NB102_119.out, NB119_102.out, NB103_119.out, NB119_103.out, (low HB)⟩)
             ·
              skip
              refine box_step ?hg (N := 7) ?hd (cs := #[.int .u64 0, .int .u64 0]) (t := 74) ?hr ?_; (case hd => rfl); (case hg => rfl); (case hr => first | (go_simp; done) | (go_simp; rfl))
              intro gb119 hg w51 hbox hb
              have n0_ := Aside0.mk (blk_below (g := gb101) (o := .cells #[.int .u64 a0_0, .int .u64 a0_1] 47 (0, 0)) of_lies hb)
              have n1_ := Aside0.mk (blk_below (g := gb102) (o := .cells #[.int .u64 a1_0, .int .u64 a1_1] 47 (0, 0)) of_lies hb)
              have n2_ := Aside0.mk (blk_below (g := gb103) (o := .cells #[.int .u64 0, .int .u64 0] 47 (0, 0)) of_lies hb)
              have n3_ := Aside0.mk (below_step (low HB) hb)
              have n4_ := Aside0.mk (hbox)
              have n5_ := Aside0.mk ((by rw [hg]; exact (below_size (low HB)) : w.heap.size ≤ gb119))
              have n6_ := Aside0.mk ((by rw [hg]; exact (below_size (low HB)) : w.heap.size ≤ gb119))
              have n7_ := Aside0.mk ((by rw [hg]; exact Nat.ne_of_lt (blk_lt (g := gb101) (o := .cells #[.int .u64 a0_0, .int .u64 a0_1] 47 (0, 0)) of_lies) : gb101 ≠ gb119))
              have n8_ := Aside0.mk ((by rw [hg]; exact Nat.ne_of_gt (blk_lt (g := gb101) (o := .cells #[.int .u64 a0_0, .int .u64 a0_1] 47 (0, 0)) of_lies) : gb119 ≠ gb101))
              have n9_ := Aside0.mk ((by rw [hg]; exact Nat.ne_of_lt (blk_lt (g := gb102) (o := .cells #[.int .u64 a1_0, .int .u64 a1_1] 47 (0, 0)) of_lies) : gb102 ≠ gb119))
              have n10_ := Aside0.mk ((by rw [hg]; exact Nat.ne_of_gt (blk_lt (g := gb102) (o := .cells #[.int .u64 a1_0, .int .u64 a1_1] 47 (0, 0)) of_lies) : gb119 ≠ gb102))
              have n11_ := Aside0.mk ((by rw [hg]; exact Nat.ne_of_lt (blk_lt (g := gb103) (o := .cells #[.int .u64 0, .int .u64 0] 47 (0, 0)) of_lies) : gb103 ≠ gb119))
              have n12_ := Aside0.mk ((by rw [hg]; exact Nat.ne_of_gt (blk_lt (g := gb103) (o := .cells #[.int .u64 0, .int .u64 0] 47 (0, 0)) of_lies) : gb119 ≠ gb103))
              clear BK101
              clear BK102
              clear BK103
              clear HB
              have BK101 := n0_
              have BK102 := n1_
              have BK103 := n2_
              have HB := n3_
              have BK119 := n4_
              have GW119 := n5_
              have GE119 := n6_
              have NB101_119 := n7_
              have NB119_101 := n8_
              have NB102_119 := n9_
              have NB119_102 := n10_
              have NB103_119 := n11_
              have NB119_103 := n12_
              clear n0_ n1_ n2_ n3_ n4_ n5_ n6_ n7_ n8_ n9_ n10_ n11_ n12_
              clear hb hbox hg
              refine hK.out _ _ ⟨(blk_cell BK101.out 0).trans rfl, (blk_cell BK101.out 1).trans rfl, (blk_cell BK102.out 0).trans rfl, (blk_cell BK102.out 1).trans rfl⟩ (fun hHeld => ?_)
              clear hK K
              refine norm_ (a' := ?_) ?_ ?_
              rotate_left
              ·
               show Act.put _ (some 7) _ = _
               simp only [Act.put, List.setIfInBounds_toArray, List.set_cons_zero, List.set_cons_succ, i64_w, i32_w]
               rfl
              refine one_ (i := 14) (N := some 58) #[true, true, true, true, true, true, true, true, true, true, true, true, true, true, true, false, false, false, true, false, false] rfl rfl (one_of HT_.out (by kernel_rfl)) (by decide) (fun K hK => ?_)
              refine goes_ Tryd.func66 (by kernel_rfl) rfl #[.agg #[.int .u64 t112, .int .u64 t113], .agg #[.int .u64 t114, .int .u64 t115]] (by rfl) rfl rfl (by (try simp only [List.map_toArray, List.map_cons, List.map_nil]); first | done | rfl | (simp only [List.length_drop, List.length_take]; rfl)) ?_
              with_reducible refine (odds_wide_plus.calls t112 t113 t114 t115 t116 t117 true _ A30.out).mono ?_
              rintro e w52 ⟨rfl, hb⟩
              refine ⟨_, rfl, ?_⟩
              have n0_ := Aside0.mk (blk_below (g := gb101) (o := .cells #[.int .u64 a0_0, .int .u64 a0_1] 47 (0, 0)) of_lies hb)
              have n1_ := Aside0.mk (blk_below (g := gb102) (o := .cells #[.int .u64 a1_0, .int .u64 a1_1] 47 (0, 0)) of_lies hb)
              have n2_ := Aside0.mk (blk_below (g := gb103) (o := .cells #[.int .u64 0, .int .u64 0] 47 (0, 0)) of_lies hb)
              have n3_ := Aside0.mk (blk_below (g := gb119) (o := .cells #[.int .u64 0, .int .u64 0] 74 (0, 0)) of_lies hb)
              have n4_ := Aside0.mk (below_step (low HB) hb)
              clear BK101
              clear BK102
              clear BK103
              clear BK119
              clear HB
              have BK101 := n0_
              have BK102 := n1_
              have BK103 := n2_
              have BK119 := n3_
              have HB := n4_
              clear n0_ n1_ n2_ n3_ n4_
              (try clear hb)
              (try clear hb2)
              (try clear hk)
              (try clear hi)
              refine hK.out _ _ ⟨(blk_cell BK101.out 0).trans rfl, (blk_cell BK101.out 1).trans rfl, (blk_cell BK102.out 0).trans rfl, (blk_cell BK102.out 1).trans rfl⟩ (fun hHeld => ?_)
              clear hK K
              refine norm_ (a' := ?_) ?_ ?_
              rotate_left
              ·
               show Act.put _ (some 58) _ = _
               simp only [Act.put, List.setIfInBounds_toArray, List.set_cons_zero, List.set_cons_succ, i64_w, i32_w]
               rfl
              refine pure_ (i := 15) (N := some 43) (v := ?_) (a' := ?_) #[true, true, true, true, true, true, true, true, true, true, true, true, true, true, true, true, false, false, true, false, false] rfl rfl (any_of HT_.out (by kernel_rfl)) (fun _ _ _ h => h) (Or.inl ⟨by rfl, ?_⟩) ?_ ?_
              rotate_left
              ·
               intro w'
               go_simp
               with_reducible rfl
              rotate_left
              ·
               simp only [Act.put, List.setIfInBounds_toArray, List.set_cons_zero, List.set_cons_succ, i64_w, i32_w]
               rfl
              refine pure_ (i := 16) (N := some 59) (v := ?_) (a' := ?_) #[true, true, true, true, true, true, true, true, true, true, true, true, true, true, true, true, true, false, true, false, false] rfl rfl (any_of HT_.out (by kernel_rfl)) (fun _ _ _ h => h) (Or.inl ⟨by rfl, ?_⟩) ?_ ?_
              rotate_left
              ·
               intro w'
               go_simp
               with_reducible rfl
              rotate_left
              ·
               simp only [Act.put, List.setIfInBounds_toArray, List.set_cons_zero, List.set_cons_succ, i64_w, i32_w]
               rfl
              refine pure_ (i := 17) (N := some 60) (v := ?_) (a' := ?_) #[true, true, true, true, true, true, true, true, true, true, true, true, true, true, true, true, true, true, true, false, false] rfl rfl (any_of HT_.out (by kernel_rfl)) (fun _ _ _ h => h) (Or.inl ⟨by rfl, ?_⟩) ?_ ?_
              rotate_left
              ·
               intro w'
               go_simp
               with_reducible rfl
              rotate_left
              ·
               simp only [Act.put, List.setIfInBounds_toArray, List.set_cons_zero, List.set_cons_succ, i64_w, i32_w]
               rfl
              exact norm_ (by simp only [putAll, Act.put, List.setIfInBounds_toArray, List.set_cons_zero, List.set_cons_succ]) (hCont (gb119) _ ⟨hHeld, of_lies, of_lies, of_lies, of_lies, GW119.out, GE119.out, NB101_119.out, NB119_101.out, NB102_119.out, NB119_102.out, NB103_119.out, NB119_103.out, (low HB)⟩)
            ·
             skip
             refine box_step ?hg (N := 7) ?hd (cs := #[.int .u64 0, .int .u64 0]) (t := 74) ?hr ?_; (case hd => rfl); (case hg => rfl); (case hr => first | (go_simp; done) | (go_simp; rfl))
             intro gb119 hg w50 hbox hb
             have n0_ := Aside0.mk (blk_below (g := gb101) (o := .cells #[.int .u64 a0_0, .int .u64 a0_1] 47 (0, 0)) of_lies hb)
             have n1_ := Aside0.mk (blk_below (g := gb102) (o := .cells #[.int .u64 a1_0, .int .u64 a1_1] 47 (0, 0)) of_lies hb)
             have n2_ := Aside0.mk (blk_below (g := gb103) (o := .cells #[.int .u64 0, .int .u64 0] 47 (0, 0)) of_lies hb)
             have n3_ := Aside0.mk (below_step (low HB) hb)
             have n4_ := Aside0.mk (hbox)
             have n5_ := Aside0.mk ((by rw [hg]; exact (below_size (low HB)) : w.heap.size ≤ gb119))
             have n6_ := Aside0.mk ((by rw [hg]; exact (below_size (low HB)) : w.heap.size ≤ gb119))
             have n7_ := Aside0.mk ((by rw [hg]; exact Nat.ne_of_lt (blk_lt (g := gb101) (o := .cells #[.int .u64 a0_0, .int .u64 a0_1] 47 (0, 0)) of_lies) : gb101 ≠ gb119))
             have n8_ := Aside0.mk ((by rw [hg]; exact Nat.ne_of_gt (blk_lt (g := gb101) (o := .cells #[.int .u64 a0_0, .int .u64 a0_1] 47 (0, 0)) of_lies) : gb119 ≠ gb101))
             have n9_ := Aside0.mk ((by rw [hg]; exact Nat.ne_of_lt (blk_lt (g := gb102) (o := .cells #[.int .u64 a1_0, .int .u64 a1_1] 47 (0, 0)) of_lies) : gb102 ≠ gb119))
             have n10_ := Aside0.mk ((by rw [hg]; exact Nat.ne_of_gt (blk_lt (g := gb102) (o := .cells #[.int .u64 a1_0, .int .u64 a1_1] 47 (0, 0)) of_lies) : gb119 ≠ gb102))
             have n11_ := Aside0.mk ((by rw [hg]; exact Nat.ne_of_lt (blk_lt (g := gb103) (o := .cells #[.int .u64 0, .int .u64 0] 47 (0, 0)) of_lies) : gb103 ≠ gb119))
             have n12_ := Aside0.mk ((by rw [hg]; exact Nat.ne_of_gt (blk_lt (g := gb103) (o := .cells #[.int .u64 0, .int .u64 0] 47 (0, 0)) of_lies) : gb119 ≠ gb103))
             clear BK101
             clear BK102
             clear BK103
             clear HB
             have BK101 := n0_
             have BK102 := n1_
             have BK103 := n2_
             have HB := n3_
             have BK119 := n4_
             have GW119 := n5_
             have GE119 := n6_
             have NB101_119 := n7_
             have NB119_101 := n8_
             have NB102_119 := n9_
             have NB119_102 := n10_
             have NB103_119 := n11_
             have NB119_103 := n12_
             clear n0_ n1_ n2_ n3_ n4_ n5_ n6_ n7_ n8_ n9_ n10_ n11_ n12_
             clear hb hbox hg
             refine hK.out _ _ ⟨(blk_cell BK101.out 0).trans rfl, (blk_cell BK101.out 1).trans rfl, (blk_cell BK102.out 0).trans rfl, (blk_cell BK102.out 1).trans rfl⟩ (fun hHeld => ?_)
             clear hK K
             refine norm_ (a' := ?_) ?_ ?_
             rotate_left
             ·
              show Act.put _ (some 7) _ = _
              simp only [Act.put, List.setIfInBounds_toArray, List.set_cons_zero, List.set_cons_succ, i64_w, i32_w]
              rfl
             refine one_ (i := 13) (N := some 57) #[true, true, true, true, true, true, true, true, true, true, true, true, true, true, false, false, false, false, true, false, false] rfl rfl (one_of HT_.out (by kernel_rfl)) (by decide) (fun K hK => ?_)
             refine goes_ Tryd.func63 (by kernel_rfl) rfl #[.int .u64 a1_0, .int .u64 (IntKind.u64.wrap (Int.tdiv a0_1 t111))] (by rfl) rfl rfl (by (try simp only [List.map_toArray, List.map_cons, List.map_nil]); first | done | rfl | (simp only [List.length_drop, List.length_take]; rfl)) ?_
             with_reducible refine (Podd.odds_times.calls a1_0 (IntKind.u64.wrap (Int.tdiv a0_1 t111)) t114 t115 _ A29.out).mono ?_
             rintro e w51 ⟨rfl, hb⟩
             refine ⟨_, rfl, ?_⟩
             have n0_ := Aside0.mk (blk_below (g := gb101) (o := .cells #[.int .u64 a0_0, .int .u64 a0_1] 47 (0, 0)) of_lies hb)
             have n1_ := Aside0.mk (blk_below (g := gb102) (o := .cells #[.int .u64 a1_0, .int .u64 a1_1] 47 (0, 0)) of_lies hb)
             have n2_ := Aside0.mk (blk_below (g := gb103) (o := .cells #[.int .u64 0, .int .u64 0] 47 (0, 0)) of_lies hb)
             have n3_ := Aside0.mk (blk_below (g := gb119) (o := .cells #[.int .u64 0, .int .u64 0] 74 (0, 0)) of_lies hb)
             have n4_ := Aside0.mk (below_step (low HB) hb)
             clear BK101
             clear BK102
             clear BK103
             clear BK119
             clear HB
             have BK101 := n0_
             have BK102 := n1_
             have BK103 := n2_
             have BK119 := n3_
             have HB := n4_
             clear n0_ n1_ n2_ n3_ n4_
             (try clear hb)
             (try clear hb2)
             (try clear hk)
             (try clear hi)
             refine hK.out _ _ ⟨(blk_cell BK101.out 0).trans rfl, (blk_cell BK101.out 1).trans rfl, (blk_cell BK102.out 0).trans rfl, (blk_cell BK102.out 1).trans rfl⟩ (fun hHeld => ?_)
             clear hK K
             refine norm_ (a' := ?_) ?_ ?_
             rotate_left
             ·
              show Act.put _ (some 57) _ = _
              simp only [Act.put, List.setIfInBounds_toArray, List.set_cons_zero, List.set_cons_succ, i64_w, i32_w]
              rfl
             refine one_ (i := 14) (N := some 58) #[true, true, true, true, true, true, true, true, true, true, true, true, true, true, true, false, false, false, true, false, false] rfl rfl (one_of HT_.out (by kernel_rfl)) (by decide) (fun K hK => ?_)
             refine goes_ Tryd.func66 (by kernel_rfl) rfl #[.agg #[.int .u64 t112, .int .u64 t113], .agg #[.int .u64 t114, .int .u64 t115]] (by rfl) rfl rfl (by (try simp only [List.map_toArray, List.map_cons, List.map_nil]); first | done | rfl | (simp only [List.length_drop, List.length_take]; rfl)) ?_
             with_reducible refine (odds_wide_plus.calls t112 t113 t114 t115 t116 t117 true _ A30.out).mono ?_
             rintro e w52 ⟨rfl, hb⟩
             refine ⟨_, rfl, ?_⟩
             have n0_ := Aside0.mk (blk_below (g := gb101) (o := .cells #[.int .u64 a0_0, .int .u64 a0_1] 47 (0, 0)) of_lies hb)
             have n1_ := Aside0.mk (blk_below (g := gb102) (o := .cells #[.int .u64 a1_0, .int .u64 a1_1] 47 (0, 0)) of_lies hb)
             have n2_ := Aside0.mk (blk_below (g := gb103) (o := .cells #[.int .u64 0, .int .u64 0] 47 (0, 0)) of_lies hb)
             have n3_ := Aside0.mk (blk_below (g := gb119) (o := .cells #[.int .u64 0, .int .u64 0] 74 (0, 0)) of_lies hb)
             have n4_ := Aside0.mk (below_step (low HB) hb)
             clear BK101
             clear BK102
             clear BK103
             clear BK119
             clear HB
             have BK101 := n0_
             have BK102 := n1_
             have BK103 := n2_
             have BK119 := n3_
             have HB := n4_
             clear n0_ n1_ n2_ n3_ n4_
             (try clear hb)
             (try clear hb2)
             (try clear hk)
             (try clear hi)
             refine hK.out _ _ ⟨(blk_cell BK101.out 0).trans rfl, (blk_cell BK101.out 1).trans rfl, (blk_cell BK102.out 0).trans rfl, (blk_cell BK102.out 1).trans rfl⟩ (fun hHeld => ?_)
             clear hK K
             refine norm_ (a' := ?_) ?_ ?_
             rotate_left
             ·
              show Act.put _ (some 58) _ = _
              simp only [Act.put, List.setIfInBounds_toArray, List.set_cons_zero, List.set_cons_succ, i64_w, i32_w]
              rfl
             refine pure_ (i := 15) (N := some 43) (v := ?_) (a' := ?_) #[true, true, true, true, true, true, true, true, true, true, true, true, true, true, true, true, false, false, true, false, false] rfl rfl (any_of HT_.out (by kernel_rfl)) (fun _ _ _ h => h) (Or.inl ⟨by rfl, ?_⟩) ?_ ?_
             rotate_left
             ·
              intro w'
              go_simp
              with_reducible rfl
             rotate_left
             ·
              simp only [Act.put, List.setIfInBounds_toArray, List.set_cons_zero, List.set_cons_succ, i64_w, i32_w]
              rfl
             refine pure_ (i := 16) (N := some 59) (v := ?_) (a' := ?_) #[true, true, true, true, true, true, true, true, true, true, true, true, true, true, true, true, true, false, true, false, false] rfl rfl (any_of HT_.out (by kernel_rfl)) (fun _ _ _ h => h) (Or.inl ⟨by rfl, ?_⟩) ?_ ?_
             rotate_left
             ·
              intro w'
              go_simp
              with_reducible rfl
             rotate_left
             ·
              simp only [Act.put, List.setIfInBounds_toArray, List.set_cons_zero, List.set_cons_succ, i64_w, i32_w]
              rfl
             refine pure_ (i := 17) (N := some 60) (v := ?_) (a' := ?_) #[true, true, true, true, true, true, true, true, true, true, true, true, true, true, true, true, true, true, true, false, false] rfl rfl (any_of HT_.out (by kernel_rfl)) (fun _ _ _ h => h) (Or.inl ⟨by rfl, ?_⟩) ?_ ?_
             rotate_left
             ·
              intro w'
              go_simp
              with_reducible rfl
             rotate_left
             ·
              simp only [Act.put, List.setIfInBounds_toArray, List.set_cons_zero, List.set_cons_succ, i64_w, i32_w]
              rfl
             exact norm_ (by simp only [putAll, Act.put, List.setIfInBounds_toArray, List.set_cons_zero, List.set_cons_succ]) (hCont (gb119) _ ⟨hHeld, of_lies, of_lies, of_lies, of_lies, GW119.out, GE119.out, NB101_119.out, NB119_101.out, NB102_119.out, NB119_102.out, NB103_119.out, NB119_103.out, (low HB)⟩)
           ·
            skip
            refine box_step ?hg (N := 7) ?hd (cs := #[.int .u64 0, .int .u64 0]) (t := 74) ?hr ?_; (case hd => rfl); (case hg => rfl); (case hr => first | (go_simp; done) | (go_simp; rfl))
            intro gb119 hg w49 hbox hb
            have n0_ := Aside0.mk (blk_below (g := gb101) (o := .cells #[.int .u64 a0_0, .int .u64 a0_1] 47 (0, 0)) of_lies hb)
            have n1_ := Aside0.mk (blk_below (g := gb102) (o := .cells #[.int .u64 a1_0, .int .u64 a1_1] 47 (0, 0)) of_lies hb)
            have n2_ := Aside0.mk (blk_below (g := gb103) (o := .cells #[.int .u64 0, .int .u64 0] 47 (0, 0)) of_lies hb)
            have n3_ := Aside0.mk (below_step (low HB) hb)
            have n4_ := Aside0.mk (hbox)
            have n5_ := Aside0.mk ((by rw [hg]; exact (below_size (low HB)) : w.heap.size ≤ gb119))
            have n6_ := Aside0.mk ((by rw [hg]; exact (below_size (low HB)) : w.heap.size ≤ gb119))
            have n7_ := Aside0.mk ((by rw [hg]; exact Nat.ne_of_lt (blk_lt (g := gb101) (o := .cells #[.int .u64 a0_0, .int .u64 a0_1] 47 (0, 0)) of_lies) : gb101 ≠ gb119))
            have n8_ := Aside0.mk ((by rw [hg]; exact Nat.ne_of_gt (blk_lt (g := gb101) (o := .cells #[.int .u64 a0_0, .int .u64 a0_1] 47 (0, 0)) of_lies) : gb119 ≠ gb101))
            have n9_ := Aside0.mk ((by rw [hg]; exact Nat.ne_of_lt (blk_lt (g := gb102) (o := .cells #[.int .u64 a1_0, .int .u64 a1_1] 47 (0, 0)) of_lies) : gb102 ≠ gb119))
            have n10_ := Aside0.mk ((by rw [hg]; exact Nat.ne_of_gt (blk_lt (g := gb102) (o := .cells #[.int .u64 a1_0, .int .u64 a1_1] 47 (0, 0)) of_lies) : gb119 ≠ gb102))
            have n11_ := Aside0.mk ((by rw [hg]; exact Nat.ne_of_lt (blk_lt (g := gb103) (o := .cells #[.int .u64 0, .int .u64 0] 47 (0, 0)) of_lies) : gb103 ≠ gb119))
            have n12_ := Aside0.mk ((by rw [hg]; exact Nat.ne_of_gt (blk_lt (g := gb103) (o := .cells #[.int .u64 0, .int .u64 0] 47 (0, 0)) of_lies) : gb119 ≠ gb103))
            clear BK101
            clear BK102
            clear BK103
            clear HB
            have BK101 := n0_
            have BK102 := n1_
            have BK103 := n2_
            have HB := n3_
            have BK119 := n4_
            have GW119 := n5_
            have GE119 := n6_
            have NB101_119 := n7_
            have NB119_101 := n8_
            have NB102_119 := n9_
            have NB119_102 := n10_
            have NB103_119 := n11_
            have NB119_103 := n12_
            clear n0_ n1_ n2_ n3_ n4_ n5_ n6_ n7_ n8_ n9_ n10_ n11_ n12_
            clear hb hbox hg
            refine hK.out _ _ ⟨(blk_cell BK101.out 0).trans rfl, (blk_cell BK101.out 1).trans rfl, (blk_cell BK102.out 0).trans rfl, (blk_cell BK102.out 1).trans rfl⟩ (fun hHeld => ?_)
            clear hK K
            refine norm_ (a' := ?_) ?_ ?_
            rotate_left
            ·
             show Act.put _ (some 7) _ = _
             simp only [Act.put, List.setIfInBounds_toArray, List.set_cons_zero, List.set_cons_succ, i64_w, i32_w]
             rfl
            refine one_ (i := 6) (N := some 50) #[true, true, true, true, true, true, true, true, true, true, true, true, true, false, false, false, false, false, true, false, false] rfl rfl (one_of HT_.out (by kernel_rfl)) (by decide) (fun K hK => ?_)
            refine goes_ Tryd.func63 (by kernel_rfl) rfl #[.int .u64 a0_0, .int .u64 (IntKind.u64.wrap (Int.tdiv a1_1 t111))] (by rfl) rfl rfl (by (try simp only [List.map_toArray, List.map_cons, List.map_nil]); first | done | rfl | (simp only [List.length_drop, List.length_take]; rfl)) ?_
            with_reducible refine (Podd.odds_times.calls a0_0 (IntKind.u64.wrap (Int.tdiv a1_1 t111)) t112 t113 _ A28.out).mono ?_
            rintro e w50 ⟨rfl, hb⟩
            refine ⟨_, rfl, ?_⟩
            have n0_ := Aside0.mk (blk_below (g := gb101) (o := .cells #[.int .u64 a0_0, .int .u64 a0_1] 47 (0, 0)) of_lies hb)
            have n1_ := Aside0.mk (blk_below (g := gb102) (o := .cells #[.int .u64 a1_0, .int .u64 a1_1] 47 (0, 0)) of_lies hb)
            have n2_ := Aside0.mk (blk_below (g := gb103) (o := .cells #[.int .u64 0, .int .u64 0] 47 (0, 0)) of_lies hb)
            have n3_ := Aside0.mk (blk_below (g := gb119) (o := .cells #[.int .u64 0, .int .u64 0] 74 (0, 0)) of_lies hb)
            have n4_ := Aside0.mk (below_step (low HB) hb)
            clear BK101
            clear BK102
            clear BK103
            clear BK119
            clear HB
            have BK101 := n0_
            have BK102 := n1_
            have BK103 := n2_
            have BK119 := n3_
            have HB := n4_
            clear n0_ n1_ n2_ n3_ n4_
            (try clear hb)
            (try clear hb2)
            (try clear hk)
            (try clear hi)
            refine hK.out _ _ ⟨(blk_cell BK101.out 0).trans rfl, (blk_cell BK101.out 1).trans rfl, (blk_cell BK102.out 0).trans rfl, (blk_cell BK102.out 1).trans rfl⟩ (fun hHeld => ?_)
            clear hK K
            refine norm_ (a' := ?_) ?_ ?_
            rotate_left
            ·
             show Act.put _ (some 50) _ = _
             simp only [Act.put, List.setIfInBounds_toArray, List.set_cons_zero, List.set_cons_succ, i64_w, i32_w]
             rfl
            refine one_ (i := 13) (N := some 57) #[true, true, true, true, true, true, true, true, true, true, true, true, true, true, false, false, false, false, true, false, false] rfl rfl (one_of HT_.out (by kernel_rfl)) (by decide) (fun K hK => ?_)
            refine goes_ Tryd.func63 (by kernel_rfl) rfl #[.int .u64 a1_0, .int .u64 (IntKind.u64.wrap (Int.tdiv a0_1 t111))] (by rfl) rfl rfl (by (try simp only [List.map_toArray, List.map_cons, List.map_nil]); first | done | rfl | (simp only [List.length_drop, List.length_take]; rfl)) ?_
            with_reducible refine (Podd.odds_times.calls a1_0 (IntKind.u64.wrap (Int.tdiv a0_1 t111)) t114 t115 _ A29.out).mono ?_
            rintro e w51 ⟨rfl, hb⟩
            refine ⟨_, rfl, ?_⟩
            have n0_ := Aside0.mk (blk_below (g := gb101) (o := .cells #[.int .u64 a0_0, .int .u64 a0_1] 47 (0, 0)) of_lies hb)
            have n1_ := Aside0.mk (blk_below (g := gb102) (o := .cells #[.int .u64 a1_0, .int .u64 a1_1] 47 (0, 0)) of_lies hb)
            have n2_ := Aside0.mk (blk_below (g := gb103) (o := .cells #[.int .u64 0, .int .u64 0] 47 (0, 0)) of_lies hb)
            have n3_ := Aside0.mk (blk_below (g := gb119) (o := .cells #[.int .u64 0, .int .u64 0] 74 (0, 0)) of_lies hb)
            have n4_ := Aside0.mk (below_step (low HB) hb)
            clear BK101
            clear BK102
            clear BK103
            clear BK119
            clear HB
            have BK101 := n0_
            have BK102 := n1_
            have BK103 := n2_
            have BK119 := n3_
            have HB := n4_
            clear n0_ n1_ n2_ n3_ n4_
            (try clear hb)
            (try clear hb2)
            (try clear hk)
            (try clear hi)
            refine hK.out _ _ ⟨(blk_cell BK101.out 0).trans rfl, (blk_cell BK101.out 1).trans rfl, (blk_cell BK102.out 0).trans rfl, (blk_cell BK102.out 1).trans rfl⟩ (fun hHeld => ?_)
            clear hK K
            refine norm_ (a' := ?_) ?_ ?_
            rotate_left
            ·
             show Act.put _ (some 57) _ = _
             simp only [Act.put, List.setIfInBounds_toArray, List.set_cons_zero, List.set_cons_succ, i64_w, i32_w]
             rfl
            refine one_ (i := 14) (N := some 58) #[true, true, true, true, true, true, true, true, true, true, true, true, true, true, true, false, false, false, true, false, false] rfl rfl (one_of HT_.out (by kernel_rfl)) (by decide) (fun K hK => ?_)
            refine goes_ Tryd.func66 (by kernel_rfl) rfl #[.agg #[.int .u64 t112, .int .u64 t113], .agg #[.int .u64 t114, .int .u64 t115]] (by rfl) rfl rfl (by (try simp only [List.map_toArray, List.map_cons, List.map_nil]); first | done | rfl | (simp only [List.length_drop, List.length_take]; rfl)) ?_
            with_reducible refine (odds_wide_plus.calls t112 t113 t114 t115 t116 t117 true _ A30.out).mono ?_
            rintro e w52 ⟨rfl, hb⟩
            refine ⟨_, rfl, ?_⟩
            have n0_ := Aside0.mk (blk_below (g := gb101) (o := .cells #[.int .u64 a0_0, .int .u64 a0_1] 47 (0, 0)) of_lies hb)
            have n1_ := Aside0.mk (blk_below (g := gb102) (o := .cells #[.int .u64 a1_0, .int .u64 a1_1] 47 (0, 0)) of_lies hb)
            have n2_ := Aside0.mk (blk_below (g := gb103) (o := .cells #[.int .u64 0, .int .u64 0] 47 (0, 0)) of_lies hb)
            have n3_ := Aside0.mk (blk_below (g := gb119) (o := .cells #[.int .u64 0, .int .u64 0] 74 (0, 0)) of_lies hb)
            have n4_ := Aside0.mk (below_step (low HB) hb)
            clear BK101
            clear BK102
            clear BK103
            clear BK119
            clear HB
            have BK101 := n0_
            have BK102 := n1_
            have BK103 := n2_
            have BK119 := n3_
            have HB := n4_
            clear n0_ n1_ n2_ n3_ n4_
            (try clear hb)
            (try clear hb2)
            (try clear hk)
            (try clear hi)
            refine hK.out _ _ ⟨(blk_cell BK101.out 0).trans rfl, (blk_cell BK101.out 1).trans rfl, (blk_cell BK102.out 0).trans rfl, (blk_cell BK102.out 1).trans rfl⟩ (fun hHeld => ?_)
            clear hK K
            refine norm_ (a' := ?_) ?_ ?_
            rotate_left
            ·
             show Act.put _ (some 58) _ = _
             simp only [Act.put, List.setIfInBounds_toArray, List.set_cons_zero, List.set_cons_succ, i64_w, i32_w]
             rfl
            refine pure_ (i := 15) (N := some 43) (v := ?_) (a' := ?_) #[true, true, true, true, true, true, true, true, true, true, true, true, true, true, true, true, false, false, true, false, false] rfl rfl (any_of HT_.out (by kernel_rfl)) (fun _ _ _ h => h) (Or.inl ⟨by rfl, ?_⟩) ?_ ?_
            rotate_left
            ·
             intro w'
             go_simp
             with_reducible rfl
            rotate_left
            ·
             simp only [Act.put, List.setIfInBounds_toArray, List.set_cons_zero, List.set_cons_succ, i64_w, i32_w]
             rfl
            refine pure_ (i := 16) (N := some 59) (v := ?_) (a' := ?_) #[true, true, true, true, true, true, true, true, true, true, true, true, true, true, true, true, true, false, true, false, false] rfl rfl (any_of HT_.out (by kernel_rfl)) (fun _ _ _ h => h) (Or.inl ⟨by rfl, ?_⟩) ?_ ?_
            rotate_left
            ·
             intro w'
             go_simp
             with_reducible rfl
            rotate_left
            ·
             simp only [Act.put, List.setIfInBounds_toArray, List.set_cons_zero, List.set_cons_succ, i64_w, i32_w]
             rfl
            refine pure_ (i := 17) (N := some 60) (v := ?_) (a' := ?_) #[true, true, true, true, true, true, true, true, true, true, true, true, true, true, true, true, true, true, true, false, false] rfl rfl (any_of HT_.out (by kernel_rfl)) (fun _ _ _ h => h) (Or.inl ⟨by rfl, ?_⟩) ?_ ?_
            rotate_left
            ·
             intro w'
             go_simp
             with_reducible rfl
            rotate_left
            ·
             simp only [Act.put, List.setIfInBounds_toArray, List.set_cons_zero, List.set_cons_succ, i64_w, i32_w]
             rfl
            exact norm_ (by simp only [putAll, Act.put, List.setIfInBounds_toArray, List.set_cons_zero, List.set_cons_succ]) (hCont (gb119) _ ⟨hHeld, of_lies, of_lies, of_lies, of_lies, GW119.out, GE119.out, NB101_119.out, NB119_101.out, NB102_119.out, NB119_102.out, NB103_119.out, NB119_103.out, (low HB)⟩)
          rintro gb119 w53 ⟨hS_, h0_, h1_, h2_, h3_, h4_, h5_, h6_, h7_, h8_, h9_, h10_, h11_, h12_⟩
          have n0_ : Aside0 (w53.heap[gb101]? = some (.cells #[.int .u64 a0_0, .int .u64 a0_1] 47 (0, 0))) := ⟨h0_⟩
          have n1_ : Aside0 (w53.heap[gb102]? = some (.cells #[.int .u64 a1_0, .int .u64 a1_1] 47 (0, 0))) := ⟨h1_⟩
          have n2_ : Aside0 (w53.heap[gb103]? = some (.cells #[.int .u64 0, .int .u64 0] 47 (0, 0))) := ⟨h2_⟩
          have n3_ : Aside0 (w53.heap[gb119]? = some (.cells #[.int .u64 0, .int .u64 0] 74 (0, 0))) := ⟨h3_⟩
          have n4_ : Aside0 (w.heap.size ≤ gb119) := ⟨h4_⟩
          have n5_ : Aside0 (w.heap.size ≤ gb119) := ⟨h5_⟩
          have n6_ : Aside0 (gb101 ≠ gb119) := ⟨h6_⟩
          have n7_ : Aside0 (gb119 ≠ gb101) := ⟨h7_⟩
          have n8_ : Aside0 (gb102 ≠ gb119) := ⟨h8_⟩
          have n9_ : Aside0 (gb119 ≠ gb102) := ⟨h9_⟩
          have n10_ : Aside0 (gb103 ≠ gb119) := ⟨h10_⟩
          have n11_ : Aside0 (gb119 ≠ gb103) := ⟨h11_⟩
          have n12_ : Aside0 (Below w.heap.size w w53) := ⟨h12_⟩
          clear BK101
          clear BK102
          clear BK103
          clear HB
          clear h0_ h1_ h2_ h3_ h4_ h5_ h6_ h7_ h8_ h9_ h10_ h11_ h12_
          have BK101 := n0_
          have BK102 := n1_
          have BK103 := n2_
          have BK119 := n3_
          have GW119 := n4_
          have GE119 := n5_
          have NB101_119 := n6_
          have NB119_101 := n7_
          have NB102_119 := n8_
          have NB119_102 := n9_
          have NB103_119 := n10_
          have NB119_103 := n11_
          have HB := n12_
          clear n0_ n1_ n2_ n3_ n4_ n5_ n6_ n7_ n8_ n9_ n10_ n11_ n12_
          have hHeld : w53.cell? ⟨gb101, 0, none⟩ = some (.int .u64 a0_0) ∧ w53.cell? ⟨gb101, 1, none⟩ = some (.int .u64 a0_1) ∧ w53.cell? ⟨gb102, 0, none⟩ = some (.int .u64 a1_0) ∧ w53.cell? ⟨gb102, 1, none⟩ = some (.int .u64 a1_1) := hS_
          refine norm_ (a' := ?_) ?_ ?_
          rotate_left
          ·
           simp only [putAll, Act.put, List.setIfInBounds_toArray, List.set_cons_zero, List.set_cons_succ]
           rfl
          refine one_ (i := 19) (N := none) #[true, true, true, true, true, true, true, true, true, true, true, true, true, true, true, true, true, true, true, true, false] rfl rfl (one_of HT_.out (by kernel_rfl)) (by decide) (fun K hK => ?_)
          have hs54 : w53.cell? ⟨gb119, 0, none⟩ = some (.int .u64 0) := (blk_cell BK119.out 0).trans rfl
          have hfs54 := blk_frozen BK119.out 0
          have hns54_0 := NB101_119.out
          have hns54_1 := NB102_119.out
          have hns54_2 := NB103_119.out
          have hms54_0 := NB119_101.out
          have hms54_1 := NB119_102.out
          have hms54_2 := NB119_103.out
          have hs55 : w53.cell? ⟨gb119, 1, none⟩ = some (.int .u64 0) := (blk_cell BK119.out 1).trans rfl
          have hfs55 := blk_frozen BK119.out 1
          have hns55_0 := NB101_119.out
          have hns55_1 := NB102_119.out
          have hns55_2 := NB103_119.out
          have hms55_0 := NB119_101.out
          have hms55_1 := NB119_102.out
          have hms55_2 := NB119_103.out
          refine skip_ (w1 := ?_) (by rfl) rfl ?_ ?_
          rotate_left
          ·
           go_simp
           rfl
          refine hK.out _ _ ⟨((cell_far (p := ⟨gb119, _, none⟩) NB101_119.out _).trans (((cell_far (p := ⟨gb119, _, none⟩) NB101_119.out _).trans (hHeld.1)))), ((cell_far (p := ⟨gb119, _, none⟩) NB101_119.out _).trans (((cell_far (p := ⟨gb119, _, none⟩) NB101_119.out _).trans (hHeld.2.1)))), ((cell_far (p := ⟨gb119, _, none⟩) NB102_119.out _).trans (((cell_far (p := ⟨gb119, _, none⟩) NB102_119.out _).trans (hHeld.2.2.1)))), ((cell_far (p := ⟨gb119, _, none⟩) NB102_119.out _).trans (((cell_far (p := ⟨gb119, _, none⟩) NB102_119.out _).trans (hHeld.2.2.2))))⟩ (fun hHeld => ?_)
          clear hK K
          refine pure_ (i := 20) (N := some 8) (v := ?_) (a' := ?_) #[true, true, true, true, true, true, true, true, true, true, true, true, true, true, true, true, true, true, true, true, true] rfl rfl (any_of HT_.out (by kernel_rfl)) (fun _ _ _ h => h) (Or.inl ⟨by rfl, ?_⟩) ?_ ?_
          rotate_left
          ·
           intro w'
           go_simp
           with_reducible rfl
          rotate_left
          ·
           simp only [Act.put, List.setIfInBounds_toArray, List.set_cons_zero, List.set_cons_succ, i64_w, i32_w]
           rfl
          refine done_ (done_of HT_.out (by kernel_rfl)) ?_
          have hnb56 := NB119_101.out
          have hnc56 := NB101_119.out
          have hnb57 := NB119_102.out
          have hnc57 := NB102_119.out
          have hnb58 := NB119_103.out
          have hnc58 := NB103_119.out
          have hcz59_0 : w53.cell? ⟨gb119, 0, none⟩ = some (.int .u64 0) := (blk_cell BK119.out 0).trans rfl
          have hcz59_1 : w53.cell? ⟨gb119, 1, none⟩ = some (.int .u64 0) := (blk_cell BK119.out 1).trans rfl
          have hfz59_0 := blk_frozen BK119.out 0
          have hfz59_1 := blk_frozen BK119.out 1
          try go_wp2_with (first | ((with_reducible refine gate_callee (f := 67) rfl ?_); refine goesL_ (some 67) rfl rfl Tryd.func67 (by kernel_rfl) rfl #[.agg #[.int .u64 t116, .int .u64 t117], .int .u64 t111] rfl (by (try simp only [List.map_toArray, List.map_cons, List.map_nil]); first | done | rfl | (simp only [List.length_drop, List.length_take]; rfl)) ?_; (with_reducible refine (Podd.odds_wide_by.calls kj2 t116 t117 t111 t120 t121 t122 _ A32.out).mono ?_); rintro e w60 ⟨rfl, hb⟩; refine ⟨_, rfl, ?_⟩; have n0_ := Aside0.mk (blk_below (g := gb101) (o := .cells #[.int .u64 a0_0, .int .u64 a0_1] 47 (0, 0)) of_lies hb); have n1_ := Aside0.mk (blk_below (g := gb102) (o := .cells #[.int .u64 a1_0, .int .u64 a1_1] 47 (0, 0)) of_lies hb); have n2_ := Aside0.mk (blk_below (g := gb103) (o := .cells #[.int .u64 0, .int .u64 0] 47 (0, 0)) of_lies hb); have n3_ := Aside0.mk (blk_below (g := gb119) (o := .cells #[.int .u64 t116, .int .u64 t117] 74 (0, 0)) of_lies hb); have n4_ := Aside0.mk (below_step (low HB) hb); clear BK101; clear BK102; clear BK103; clear BK119; clear HB; have BK101 := n0_; have BK102 := n1_; have BK103 := n2_; have BK119 := n3_; have HB := n4_; clear n0_ n1_ n2_ n3_ n4_; (try clear hb); (try clear hb2); (try clear hk); (try clear hi)) | ((with_reducible refine gate_dst (N := 9) rfl ?_); refine box_event ?hg (N := 9) ?hd (cs := #[.int .u64 0, .int .u64 0]) (t := 74) ?hr ?_; (case hd => rfl); (case hg => rfl); (case hr => first | (go_simp; done) | (go_simp; rfl)); intro gb123 hg w61 hbox hb; have n0_ := Aside0.mk (blk_below (g := gb101) (o := .cells #[.int .u64 a0_0, .int .u64 a0_1] 47 (0, 0)) of_lies hb); have n1_ := Aside0.mk (blk_below (g := gb102) (o := .cells #[.int .u64 a1_0, .int .u64 a1_1] 47 (0, 0)) of_lies hb); have n2_ := Aside0.mk (blk_below (g := gb103) (o := .cells #[.int .u64 0, .int .u64 0] 47 (0, 0)) of_lies hb); have n3_ := Aside0.mk (blk_below (g := gb119) (o := .cells #[.int .u64 t116, .int .u64 t117] 74 (0, 0)) of_lies hb); have n4_ := Aside0.mk (below_step (low HB) hb); have n5_ := Aside0.mk (hbox); have n6_ := Aside0.mk ((by rw [hg]; exact (below_size (low HB)) : w.heap.size ≤ gb123)); have n7_ := Aside0.mk ((by rw [hg]; exact (below_size (low HB)) : w.heap.size ≤ gb123)); have n8_ := Aside0.mk ((by rw [hg]; exact Nat.ne_of_lt (blk_lt (g := gb101) (o := .cells #[.int .u64 a0_0, .int .u64 a0_1] 47 (0, 0)) of_lies) : gb101 ≠ gb123)); have n9_ := Aside0.mk ((by rw [hg]; exact Nat.ne_of_gt (blk_lt (g := gb101) (o := .cells #[.int .u64 a0_0, .int .u64 a0_1] 47 (0, 0)) of_lies) : gb123 ≠ gb101)); have n10_ := Aside0.mk ((by rw [hg]; exact Nat.ne_of_lt (blk_lt (g := gb102) (o := .cells #[.int .u64 a1_0, .int .u64 a1_1] 47 (0, 0)) of_lies) : gb102 ≠ gb123)); have n11_ := Aside0.mk ((by rw [hg]; exact Nat.ne_of_gt (blk_lt (g := gb102) (o := .cells #[.int .u64 a1_0, .int .u64 a1_1] 47 (0, 0)) of_lies) : gb123 ≠ gb102)); have n12_ := Aside0.mk ((by rw [hg]; exact Nat.ne_of_lt (blk_lt (g := gb103) (o := .cells #[.int .u64 0, .int .u64 0] 47 (0, 0)) of_lies) : gb103 ≠ gb123)); have n13_ := Aside0.mk ((by rw [hg]; exact Nat.ne_of_gt (blk_lt (g := gb103) (o := .cells #[.int .u64 0, .int .u64 0] 47 (0, 0)) of_lies) : gb123 ≠ gb103)); have n14_ := Aside0.mk ((by rw [hg]; exact Nat.ne_of_lt (blk_lt (g := gb119) (o := .cells #[.int .u64 t116, .int .u64 t117] 74 (0, 0)) of_lies) : gb119 ≠ gb123)); have n15_ := Aside0.mk ((by rw [hg]; exact Nat.ne_of_gt (blk_lt (g := gb119) (o := .cells #[.int .u64 t116, .int .u64 t117] 74 (0, 0)) of_lies) : gb123 ≠ gb119)); clear BK101; clear BK102; clear BK103; clear BK119; clear HB; have BK101 := n0_; have BK102 := n1_; have BK103 := n2_; have BK119 := n3_; have HB := n4_; have BK123 := n5_; have GW123 := n6_; have GE123 := n7_; have NB101_123 := n8_; have NB123_101 := n9_; have NB102_123 := n10_; have NB123_102 := n11_; have NB103_123 := n12_; have NB123_103 := n13_; have NB119_123 := n14_; have NB123_119 := n15_; clear n0_ n1_ n2_ n3_ n4_ n5_ n6_ n7_ n8_ n9_ n10_ n11_ n12_ n13_ n14_ n15_; clear hb hbox hg; have hnb62 := NB123_101.out; have hnc62 := NB101_123.out; have hnb63 := NB123_102.out; have hnc63 := NB102_123.out; have hnb64 := NB123_103.out; have hnc64 := NB103_123.out; have hnb65 := NB123_119.out; have hnc65 := NB119_123.out; obtain ⟨hcz66_0, hcz66_1, hfz66_0, hfz66_1⟩ := cells2 BK123.out) | ((with_reducible refine gate_callee (f := 65) rfl ?_); refine goesL_ (some 72) rfl rfl Tryd.func65 (by kernel_rfl) rfl #[.int .u64 t111, .int .u64 t122] rfl (by (try simp only [List.map_toArray, List.map_cons, List.map_nil]); first | done | rfl | (simp only [List.length_drop, List.length_take]; rfl)) ?_; (with_reducible refine (Podd.odds_divisor.calls kj2 t111 t122 t124 _ A33.out).mono ?_); rintro e w' ⟨rfl, ⟨nd, rfl⟩⟩; refine ⟨_, rfl, ?_⟩))
          have n0_ : Aside0 (((w61.setCell ⟨gb123, 0, none⟩ (.int .u64 t120)).setCell ⟨gb123, 1, none⟩ (.int .u64 t121)).heap[gb101]? = some (.cells #[.int .u64 a0_0, .int .u64 a0_1] 47 (0, 0))) := ⟨of_lies⟩
          have n1_ : Aside0 (((w61.setCell ⟨gb123, 0, none⟩ (.int .u64 t120)).setCell ⟨gb123, 1, none⟩ (.int .u64 t121)).heap[gb102]? = some (.cells #[.int .u64 a1_0, .int .u64 a1_1] 47 (0, 0))) := ⟨of_lies⟩
          have n2_ : Aside0 (((w61.setCell ⟨gb123, 0, none⟩ (.int .u64 t120)).setCell ⟨gb123, 1, none⟩ (.int .u64 t121)).heap[gb103]? = some (.cells #[.int .u64 0, .int .u64 0] 47 (0, 0))) := ⟨of_lies⟩
          have n3_ : Aside0 (((w61.setCell ⟨gb123, 0, none⟩ (.int .u64 t120)).setCell ⟨gb123, 1, none⟩ (.int .u64 t121)).heap[gb119]? = some (.cells #[.int .u64 t116, .int .u64 t117] 74 (0, 0))) := ⟨of_lies⟩
          have n4_ : Aside0 (((w61.setCell ⟨gb123, 0, none⟩ (.int .u64 t120)).setCell ⟨gb123, 1, none⟩ (.int .u64 t121)).heap[gb123]? = some (.cells #[.int .u64 t120, .int .u64 t121] 74 (0, 0))) := ⟨of_lies⟩
          have n5_ : Aside0 (Below w.heap.size w ((w61.setCell ⟨gb123, 0, none⟩ (.int .u64 t120)).setCell ⟨gb123, 1, none⟩ (.int .u64 t121))) := ⟨low HB⟩
          (try clear BK101)
          (try clear BK102)
          (try clear BK103)
          (try clear BK119)
          (try clear BK123)
          (try clear HB)
          generalize ((w61.setCell ⟨gb123, 0, none⟩ (.int .u64 t120)).setCell ⟨gb123, 1, none⟩ (.int .u64 t121)) = w67 at n0_ n1_ n2_ n3_ n4_ n5_ ⊢
          have BK101 := n0_
          have BK102 := n1_
          have BK103 := n2_
          have BK119 := n3_
          have BK123 := n4_
          have HB := n5_
          clear n0_ n1_ n2_ n3_ n4_ n5_
          (try (rw [drewN_self w67]; generalize hq_ : World.drewN w67 _ = w67; have n0_ : Aside0 (w67.heap[gb101]? = some (.cells #[.int .u64 a0_0, .int .u64 a0_1] 47 (0, 0))) := ⟨by rw [← hq_]; exact of_lies⟩; have n1_ : Aside0 (w67.heap[gb102]? = some (.cells #[.int .u64 a1_0, .int .u64 a1_1] 47 (0, 0))) := ⟨by rw [← hq_]; exact of_lies⟩; have n2_ : Aside0 (w67.heap[gb103]? = some (.cells #[.int .u64 0, .int .u64 0] 47 (0, 0))) := ⟨by rw [← hq_]; exact of_lies⟩; have n3_ : Aside0 (w67.heap[gb119]? = some (.cells #[.int .u64 t116, .int .u64 t117] 74 (0, 0))) := ⟨by rw [← hq_]; exact of_lies⟩; have n4_ : Aside0 (w67.heap[gb123]? = some (.cells #[.int .u64 t120, .int .u64 t121] 74 (0, 0))) := ⟨by rw [← hq_]; exact of_lies⟩; have n5_ : Aside0 (Below w.heap.size w w67) := ⟨by rw [← hq_]; exact (low HB)⟩; clear BK101 BK102 BK103 BK119 BK123 HB hq_; have BK101 := n0_; have BK102 := n1_; have BK103 := n2_; have BK119 := n3_; have BK123 := n4_; have HB := n5_; clear n0_ n1_ n2_ n3_ n4_ n5_))
          have n0_ := Aside0.mk (blk_drew BK101.out)
          have n1_ := Aside0.mk (blk_drew BK102.out)
          have n2_ := Aside0.mk (blk_drew BK103.out)
          have n3_ := Aside0.mk (blk_drew BK119.out)
          have n4_ := Aside0.mk (blk_drew BK123.out)
          have n5_ := Aside0.mk (below_drew1 HB.out)
          clear BK101
          clear BK102
          clear BK103
          clear BK119
          clear BK123
          clear HB
          have BK101 := n0_
          have BK102 := n1_
          have BK103 := n2_
          have BK119 := n3_
          have BK123 := n4_
          have HB := n5_
          clear n0_ n1_ n2_ n3_ n4_ n5_
          refine start_ (n := 11) (S := fun w' => w'.cell? ⟨gb101, 0, none⟩ = some (.int .u64 a0_0) ∧ w'.cell? ⟨gb101, 1, none⟩ = some (.int .u64 a0_1) ∧ w'.cell? ⟨gb102, 0, none⟩ = some (.int .u64 a1_0) ∧ w'.cell? ⟨gb102, 1, none⟩ = some (.int .u64 a1_1)) (ds := []) #[false, false, false, false, false, false, false, false, false, false, false] (by kernel_rfl) rfl rfl ⟨(blk_cell BK101.out 0).trans rfl, (blk_cell BK101.out 1).trans rfl, (blk_cell BK102.out 0).trans rfl, (blk_cell BK102.out 1).trans rfl⟩ (fun hHeld => ?_); refine with_tabW odds_Sum.tab11 odds_Sum.bits11 (fun HT_ HW_ => ?_)
          generalize w67.drew = w68 at BK101 BK102 BK103 BK119 BK123 HB hHeld ⊢
          refine pure_ (i := 0) (N := some 73) (v := ?_) (a' := ?_) #[true, false, false, false, false, false, false, false, false, false, false] rfl rfl (any_of HT_.out (by kernel_rfl)) (fun _ _ _ h => h) (Or.inl ⟨by rfl, ?_⟩) ?_ ?_
          rotate_left
          ·
           intro w'
           go_simp
           with_reducible rfl
          rotate_left
          ·
           simp only [Act.put, List.setIfInBounds_toArray, List.set_cons_zero, List.set_cons_succ, i64_w, i32_w]
           rfl
          refine pure_ (i := 2) (N := some 75) (v := ?_) (a' := ?_) #[true, false, true, false, false, false, false, false, false, false, false] rfl rfl (any_of HT_.out (by kernel_rfl)) (fun _ _ _ h => h) (Or.inl ⟨by rfl, ?_⟩) ?_ ?_
          rotate_left
          ·
           intro w'
           go_simp
           with_reducible rfl
          rotate_left
          ·
           simp only [Act.put, List.setIfInBounds_toArray, List.set_cons_zero, List.set_cons_succ, i64_w, i32_w]
           rfl
          refine pure_ (i := 4) (N := some 77) (v := ?_) (a' := ?_) #[true, false, true, false, true, false, false, false, false, false, false] rfl rfl (any_of HT_.out (by kernel_rfl)) (fun _ _ _ h => h) (Or.inl ⟨by rfl, ?_⟩) ?_ ?_
          rotate_left
          ·
           intro w'
           go_simp
           with_reducible rfl
          rotate_left
          ·
           simp only [Act.put, List.setIfInBounds_toArray, List.set_cons_zero, List.set_cons_succ, i64_w, i32_w]
           rfl
          refine pure_ (i := 6) (N := some 79) (v := ?_) (a' := ?_) #[true, false, true, false, true, false, true, false, false, false, false] rfl rfl (any_of HT_.out (by kernel_rfl)) (fun _ _ _ h => h) (Or.inl ⟨by rfl, ?_⟩) ?_ ?_
          rotate_left
          ·
           intro w'
           go_simp
           with_reducible rfl
          rotate_left
          ·
           simp only [Act.put, List.setIfInBounds_toArray, List.set_cons_zero, List.set_cons_succ, i64_w, i32_w]
           rfl
          refine take_ (i := 1) (N := some 74) (v := ?_) (a' := ?_) #[true, true, true, false, true, false, true, false, false, false, false] rfl rfl (take_ofW HT_.out HW_.out (by kernel_rfl)) (fun _ _ _ h => h) (Or.inl ⟨by rfl, ?_⟩) hHeld ?_ ?_
          rotate_left
          ·
           rintro w' ⟨s0, s1, s2, s3⟩
           go_simp
           with_reducible rfl
          rotate_left
          ·
           simp only [Act.put, List.setIfInBounds_toArray, List.set_cons_zero, List.set_cons_succ, i64_w, i32_w]
           rfl
          refine pure_ (i := 3) (N := some 76) (v := ?_) (a' := ?_) #[true, true, true, true, true, false, true, false, false, false, false] rfl rfl (any_of HT_.out (by kernel_rfl)) (fun _ _ _ h => h) (Or.inl ⟨by rfl, ?_⟩) ?_ ?_
          rotate_left
          ·
           intro w'
           go_simp
           with_reducible rfl
          rotate_left
          ·
           simp only [Act.put, List.setIfInBounds_toArray, List.set_cons_zero, List.set_cons_succ, i64_w, i32_w]
           rfl
          refine take_ (i := 5) (N := some 78) (v := ?_) (a' := ?_) #[true, true, true, true, true, true, true, false, false, false, false] rfl rfl (take_ofW HT_.out HW_.out (by kernel_rfl)) (fun _ _ _ h => h) (Or.inl ⟨by rfl, ?_⟩) hHeld ?_ ?_
          rotate_left
          ·
           rintro w' ⟨s0, s1, s2, s3⟩
           go_simp
           with_reducible rfl
          rotate_left
          ·
           simp only [Act.put, List.setIfInBounds_toArray, List.set_cons_zero, List.set_cons_succ, i64_w, i32_w]
           rfl
          refine pure_ (i := 7) (N := some 80) (v := ?_) (a' := ?_) #[true, true, true, true, true, true, true, true, false, false, false] rfl rfl (any_of HT_.out (by kernel_rfl)) (fun _ _ _ h => h) (Or.inl ⟨by rfl, ?_⟩) ?_ ?_
          rotate_left
          ·
           intro w'
           go_simp
           with_reducible rfl
          rotate_left
          ·
           simp only [Act.put, List.setIfInBounds_toArray, List.set_cons_zero, List.set_cons_succ, i64_w, i32_w]
           rfl
          refine join_ (σ := Nat) 1 #[true, true, true, true, true, true, true, true, true, true, false] (fun s_ => [(81, .agg #[.int .u64 t125, .int .u64 t126]), (12, .pointer (some ⟨s_, 0, none⟩))]) (fun s_ w' => (w'.cell? ⟨gb101, 0, none⟩ = some (.int .u64 a0_0) ∧ w'.cell? ⟨gb101, 1, none⟩ = some (.int .u64 a0_1) ∧ w'.cell? ⟨gb102, 0, none⟩ = some (.int .u64 a1_0) ∧ w'.cell? ⟨gb102, 1, none⟩ = some (.int .u64 a1_1)) ∧ (w'.heap[gb101]? = some (.cells #[.int .u64 a0_0, .int .u64 a0_1] 47 (0, 0))) ∧ (w'.heap[gb102]? = some (.cells #[.int .u64 a1_0, .int .u64 a1_1] 47 (0, 0))) ∧ (w'.heap[gb103]? = some (.cells #[.int .u64 0, .int .u64 0] 47 (0, 0))) ∧ (w'.heap[gb119]? = some (.cells #[.int .u64 t116, .int .u64 t117] 74 (0, 0))) ∧ (w'.heap[gb123]? = some (.cells #[.int .u64 t120, .int .u64 t121] 74 (0, 0))) ∧ (w'.heap[s_]? = some (.cells #[.int .u64 0, .int .u64 0] 74 (0, 0))) ∧ (w.heap.size ≤ s_) ∧ (w.heap.size ≤ s_) ∧ (gb101 ≠ s_) ∧ (s_ ≠ gb101) ∧ (gb102 ≠ s_) ∧ (s_ ≠ gb102) ∧ (gb103 ≠ s_) ∧ (s_ ≠ gb103) ∧ (gb119 ≠ s_) ∧ (s_ ≠ gb119) ∧ (gb123 ≠ s_) ∧ (s_ ≠ gb123) ∧ (Below w.heap.size w w')) ?_ ?_
          rotate_left
          ·
           intro hCont
           refine two_ (i := 8) (j := 9) (Ni := some 81) (Nj := some 12) #[true, true, true, true, true, true, true, true, true, false, false] #[true, true, true, true, true, true, true, true, false, true, false] rfl rfl rfl rfl (two_of HT_.out (by kernel_rfl)) (by decide) (by decide) (fun K hK => ?_) (fun K hK => ?_)
           ·
            skip
            refine goes_ Tryd.func63 (by kernel_rfl) rfl #[.int .u64 (IntKind.u64.wrap (Int.tdiv a0_1 t111)), .int .u64 (IntKind.u64.wrap (Int.tdiv a1_1 t124))] (by rfl) rfl rfl (by (try simp only [List.map_toArray, List.map_cons, List.map_nil]); first | done | rfl | (simp only [List.length_drop, List.length_take]; rfl)) ?_
            with_reducible refine (Podd.odds_times.calls (IntKind.u64.wrap (Int.tdiv a0_1 t111)) (IntKind.u64.wrap (Int.tdiv a1_1 t124)) t125 t126 _ A35.out).mono ?_
            rintro e w69 ⟨rfl, hb⟩
            refine ⟨_, rfl, ?_⟩
            have n0_ := Aside0.mk (blk_below (g := gb101) (o := .cells #[.int .u64 a0_0, .int .u64 a0_1] 47 (0, 0)) of_lies hb)
            have n1_ := Aside0.mk (blk_below (g := gb102) (o := .cells #[.int .u64 a1_0, .int .u64 a1_1] 47 (0, 0)) of_lies hb)
            have n2_ := Aside0.mk (blk_below (g := gb103) (o := .cells #[.int .u64 0, .int .u64 0] 47 (0, 0)) of_lies hb)
            have n3_ := Aside0.mk (blk_below (g := gb119) (o := .cells #[.int .u64 t116, .int .u64 t117] 74 (0, 0)) of_lies hb)
            have n4_ := Aside0.mk (blk_below (g := gb123) (o := .cells #[.int .u64 t120, .int .u64 t121] 74 (0, 0)) of_lies hb)
            have n5_ := Aside0.mk (below_step (low HB) hb)
            clear BK101
            clear BK102
            clear BK103
            clear BK119
            clear BK123
            clear HB
            have BK101 := n0_
            have BK102 := n1_
            have BK103 := n2_
            have BK119 := n3_
            have BK123 := n4_
            have HB := n5_
            clear n0_ n1_ n2_ n3_ n4_ n5_
            (try clear hb)
            (try clear hb2)
            (try clear hk)
            (try clear hi)
            refine hK.out _ _ ⟨(blk_cell BK101.out 0).trans rfl, (blk_cell BK101.out 1).trans rfl, (blk_cell BK102.out 0).trans rfl, (blk_cell BK102.out 1).trans rfl⟩ (fun hHeld => ?_)
            clear hK K
            refine norm_ (a' := ?_) ?_ ?_
            rotate_left
            ·
             show Act.put _ (some 81) _ = _
             simp only [Act.put, List.setIfInBounds_toArray, List.set_cons_zero, List.set_cons_succ, i64_w, i32_w]
             rfl
            refine one_ (i := 9) (N := some 12) #[true, true, true, true, true, true, true, true, true, true, false] rfl rfl (one_of HT_.out (by kernel_rfl)) (by decide) (fun K hK => ?_)
            refine box_step ?hg (N := 12) ?hd (cs := #[.int .u64 0, .int .u64 0]) (t := 74) ?hr ?_; (case hd => rfl); (case hg => rfl); (case hr => first | (go_simp; done) | (go_simp; rfl))
            intro gb127 hg w70 hbox hb
            have n0_ := Aside0.mk (blk_below (g := gb101) (o := .cells #[.int .u64 a0_0, .int .u64 a0_1] 47 (0, 0)) of_lies hb)
            have n1_ := Aside0.mk (blk_below (g := gb102) (o := .cells #[.int .u64 a1_0, .int .u64 a1_1] 47 (0, 0)) of_lies hb)
            have n2_ := Aside0.mk (blk_below (g := gb103) (o := .cells #[.int .u64 0, .int .u64 0] 47 (0, 0)) of_lies hb)
            have n3_ := Aside0.mk (blk_below (g := gb119) (o := .cells #[.int .u64 t116, .int .u64 t117] 74 (0, 0)) of_lies hb)
            have n4_ := Aside0.mk (blk_below (g := gb123) (o := .cells #[.int .u64 t120, .int .u64 t121] 74 (0, 0)) of_lies hb)
            have n5_ := Aside0.mk (below_step (low HB) hb)
            have n6_ := Aside0.mk (hbox)
            have n7_ := Aside0.mk ((by rw [hg]; exact (below_size (low HB)) : w.heap.size ≤ gb127))
            have n8_ := Aside0.mk ((by rw [hg]; exact (below_size (low HB)) : w.heap.size ≤ gb127))
            have n9_ := Aside0.mk ((by rw [hg]; exact Nat.ne_of_lt (blk_lt (g := gb101) (o := .cells #[.int .u64 a0_0, .int .u64 a0_1] 47 (0, 0)) of_lies) : gb101 ≠ gb127))
            have n10_ := Aside0.mk ((by rw [hg]; exact Nat.ne_of_gt (blk_lt (g := gb101) (o := .cells #[.int .u64 a0_0, .int .u64 a0_1] 47 (0, 0)) of_lies) : gb127 ≠ gb101))
            have n11_ := Aside0.mk ((by rw [hg]; exact Nat.ne_of_lt (blk_lt (g := gb102) (o := .cells #[.int .u64 a1_0, .int .u64 a1_1] 47 (0, 0)) of_lies) : gb102 ≠ gb127))
            have n12_ := Aside0.mk ((by rw [hg]; exact Nat.ne_of_gt (blk_lt (g := gb102) (o := .cells #[.int .u64 a1_0, .int .u64 a1_1] 47 (0, 0)) of_lies) : gb127 ≠ gb102))
            have n13_ := Aside0.mk ((by rw [hg]; exact Nat.ne_of_lt (blk_lt (g := gb103) (o := .cells #[.int .u64 0, .int .u64 0] 47 (0, 0)) of_lies) : gb103 ≠ gb127))
            have n14_ := Aside0.mk ((by rw [hg]; exact Nat.ne_of_gt (blk_lt (g := gb103) (o := .cells #[.int .u64 0, .int .u64 0] 47 (0, 0)) of_lies) : gb127 ≠ gb103))
            have n15_ := Aside0.mk ((by rw [hg]; exact Nat.ne_of_lt (blk_lt (g := gb119) (o := .cells #[.int .u64 t116, .int .u64 t117] 74 (0, 0)) of_lies) : gb119 ≠ gb127))
            have n16_ := Aside0.mk ((by rw [hg]; exact Nat.ne_of_gt (blk_lt (g := gb119) (o := .cells #[.int .u64 t116, .int .u64 t117] 74 (0, 0)) of_lies) : gb127 ≠ gb119))
            have n17_ := Aside0.mk ((by rw [hg]; exact Nat.ne_of_lt (blk_lt (g := gb123) (o := .cells #[.int .u64 t120, .int .u64 t121] 74 (0, 0)) of_lies) : gb123 ≠ gb127))
            have n18_ := Aside0.mk ((by rw [hg]; exact Nat.ne_of_gt (blk_lt (g := gb123) (o := .cells #[.int .u64 t120, .int .u64 t121] 74 (0, 0)) of_lies) : gb127 ≠ gb123))
            clear BK101
            clear BK102
            clear BK103
            clear BK119
            clear BK123
            clear HB
            have BK101 := n0_
            have BK102 := n1_
            have BK103 := n2_
            have BK119 := n3_
            have BK123 := n4_
            have HB := n5_
            have BK127 := n6_
            have GW127 := n7_
            have GE127 := n8_
            have NB101_127 := n9_
            have NB127_101 := n10_
            have NB102_127 := n11_
            have NB127_102 := n12_
            have NB103_127 := n13_
            have NB127_103 := n14_
            have NB119_127 := n15_
            have NB127_119 := n16_
            have NB123_127 := n17_
            have NB127_123 := n18_
            clear n0_ n1_ n2_ n3_ n4_ n5_ n6_ n7_ n8_ n9_ n10_ n11_ n12_ n13_ n14_ n15_ n16_ n17_ n18_
            clear hb hbox hg
            refine hK.out _ _ ⟨(blk_cell BK101.out 0).trans rfl, (blk_cell BK101.out 1).trans rfl, (blk_cell BK102.out 0).trans rfl, (blk_cell BK102.out 1).trans rfl⟩ (fun hHeld => ?_)
            clear hK K
            refine norm_ (a' := ?_) ?_ ?_
            rotate_left
            ·
             show Act.put _ (some 12) _ = _
             simp only [Act.put, List.setIfInBounds_toArray, List.set_cons_zero, List.set_cons_succ, i64_w, i32_w]
             rfl
            exact norm_ (by simp only [putAll, Act.put, List.setIfInBounds_toArray, List.set_cons_zero, List.set_cons_succ]) (hCont (gb127) _ ⟨hHeld, of_lies, of_lies, of_lies, of_lies, of_lies, of_lies, GW127.out, GE127.out, NB101_127.out, NB127_101.out, NB102_127.out, NB127_102.out, NB103_127.out, NB127_103.out, NB119_127.out, NB127_119.out, NB123_127.out, NB127_123.out, (low HB)⟩)
           ·
            skip
            refine box_step ?hg (N := 12) ?hd (cs := #[.int .u64 0, .int .u64 0]) (t := 74) ?hr ?_; (case hd => rfl); (case hg => rfl); (case hr => first | (go_simp; done) | (go_simp; rfl))
            intro gb127 hg w69 hbox hb
            have n0_ := Aside0.mk (blk_below (g := gb101) (o := .cells #[.int .u64 a0_0, .int .u64 a0_1] 47 (0, 0)) of_lies hb)
            have n1_ := Aside0.mk (blk_below (g := gb102) (o := .cells #[.int .u64 a1_0, .int .u64 a1_1] 47 (0, 0)) of_lies hb)
            have n2_ := Aside0.mk (blk_below (g := gb103) (o := .cells #[.int .u64 0, .int .u64 0] 47 (0, 0)) of_lies hb)
            have n3_ := Aside0.mk (blk_below (g := gb119) (o := .cells #[.int .u64 t116, .int .u64 t117] 74 (0, 0)) of_lies hb)
            have n4_ := Aside0.mk (blk_below (g := gb123) (o := .cells #[.int .u64 t120, .int .u64 t121] 74 (0, 0)) of_lies hb)
            have n5_ := Aside0.mk (below_step (low HB) hb)
            have n6_ := Aside0.mk (hbox)
            have n7_ := Aside0.mk ((by rw [hg]; exact (below_size (low HB)) : w.heap.size ≤ gb127))
            have n8_ := Aside0.mk ((by rw [hg]; exact (below_size (low HB)) : w.heap.size ≤ gb127))
            have n9_ := Aside0.mk ((by rw [hg]; exact Nat.ne_of_lt (blk_lt (g := gb101) (o := .cells #[.int .u64 a0_0, .int .u64 a0_1] 47 (0, 0)) of_lies) : gb101 ≠ gb127))
            have n10_ := Aside0.mk ((by rw [hg]; exact Nat.ne_of_gt (blk_lt (g := gb101) (o := .cells #[.int .u64 a0_0, .int .u64 a0_1] 47 (0, 0)) of_lies) : gb127 ≠ gb101))
            have n11_ := Aside0.mk ((by rw [hg]; exact Nat.ne_of_lt (blk_lt (g := gb102) (o := .cells #[.int .u64 a1_0, .int .u64 a1_1] 47 (0, 0)) of_lies) : gb102 ≠ gb127))
            have n12_ := Aside0.mk ((by rw [hg]; exact Nat.ne_of_gt (blk_lt (g := gb102) (o := .cells #[.int .u64 a1_0, .int .u64 a1_1] 47 (0, 0)) of_lies) : gb127 ≠ gb102))
            have n13_ := Aside0.mk ((by rw [hg]; exact Nat.ne_of_lt (blk_lt (g := gb103) (o := .cells #[.int .u64 0, .int .u64 0] 47 (0, 0)) of_lies) : gb103 ≠ gb127))
            have n14_ := Aside0.mk ((by rw [hg]; exact Nat.ne_of_gt (blk_lt (g := gb103) (o := .cells #[.int .u64 0, .int .u64 0] 47 (0, 0)) of_lies) : gb127 ≠ gb103))
            have n15_ := Aside0.mk ((by rw [hg]; exact Nat.ne_of_lt (blk_lt (g := gb119) (o := .cells #[.int .u64 t116, .int .u64 t117] 74 (0, 0)) of_lies) : gb119 ≠ gb127))
            have n16_ := Aside0.mk ((by rw [hg]; exact Nat.ne_of_gt (blk_lt (g := gb119) (o := .cells #[.int .u64 t116, .int .u64 t117] 74 (0, 0)) of_lies) : gb127 ≠ gb119))
            have n17_ := Aside0.mk ((by rw [hg]; exact Nat.ne_of_lt (blk_lt (g := gb123) (o := .cells #[.int .u64 t120, .int .u64 t121] 74 (0, 0)) of_lies) : gb123 ≠ gb127))
            have n18_ := Aside0.mk ((by rw [hg]; exact Nat.ne_of_gt (blk_lt (g := gb123) (o := .cells #[.int .u64 t120, .int .u64 t121] 74 (0, 0)) of_lies) : gb127 ≠ gb123))
            clear BK101
            clear BK102
            clear BK103
            clear BK119
            clear BK123
            clear HB
            have BK101 := n0_
            have BK102 := n1_
            have BK103 := n2_
            have BK119 := n3_
            have BK123 := n4_
            have HB := n5_
            have BK127 := n6_
            have GW127 := n7_
            have GE127 := n8_
            have NB101_127 := n9_
            have NB127_101 := n10_
            have NB102_127 := n11_
            have NB127_102 := n12_
            have NB103_127 := n13_
            have NB127_103 := n14_
            have NB119_127 := n15_
            have NB127_119 := n16_
            have NB123_127 := n17_
            have NB127_123 := n18_
            clear n0_ n1_ n2_ n3_ n4_ n5_ n6_ n7_ n8_ n9_ n10_ n11_ n12_ n13_ n14_ n15_ n16_ n17_ n18_
            clear hb hbox hg
            refine hK.out _ _ ⟨(blk_cell BK101.out 0).trans rfl, (blk_cell BK101.out 1).trans rfl, (blk_cell BK102.out 0).trans rfl, (blk_cell BK102.out 1).trans rfl⟩ (fun hHeld => ?_)
            clear hK K
            refine norm_ (a' := ?_) ?_ ?_
            rotate_left
            ·
             show Act.put _ (some 12) _ = _
             simp only [Act.put, List.setIfInBounds_toArray, List.set_cons_zero, List.set_cons_succ, i64_w, i32_w]
             rfl
            refine one_ (i := 8) (N := some 81) #[true, true, true, true, true, true, true, true, true, true, false] rfl rfl (one_of HT_.out (by kernel_rfl)) (by decide) (fun K hK => ?_)
            refine goes_ Tryd.func63 (by kernel_rfl) rfl #[.int .u64 (IntKind.u64.wrap (Int.tdiv a0_1 t111)), .int .u64 (IntKind.u64.wrap (Int.tdiv a1_1 t124))] (by rfl) rfl rfl (by (try simp only [List.map_toArray, List.map_cons, List.map_nil]); first | done | rfl | (simp only [List.length_drop, List.length_take]; rfl)) ?_
            with_reducible refine (Podd.odds_times.calls (IntKind.u64.wrap (Int.tdiv a0_1 t111)) (IntKind.u64.wrap (Int.tdiv a1_1 t124)) t125 t126 _ A35.out).mono ?_
            rintro e w70 ⟨rfl, hb⟩
            refine ⟨_, rfl, ?_⟩
            have n0_ := Aside0.mk (blk_below (g := gb101) (o := .cells #[.int .u64 a0_0, .int .u64 a0_1] 47 (0, 0)) of_lies hb)
            have n1_ := Aside0.mk (blk_below (g := gb102) (o := .cells #[.int .u64 a1_0, .int .u64 a1_1] 47 (0, 0)) of_lies hb)
            have n2_ := Aside0.mk (blk_below (g := gb103) (o := .cells #[.int .u64 0, .int .u64 0] 47 (0, 0)) of_lies hb)
            have n3_ := Aside0.mk (blk_below (g := gb119) (o := .cells #[.int .u64 t116, .int .u64 t117] 74 (0, 0)) of_lies hb)
            have n4_ := Aside0.mk (blk_below (g := gb123) (o := .cells #[.int .u64 t120, .int .u64 t121] 74 (0, 0)) of_lies hb)
            have n5_ := Aside0.mk (blk_below (g := gb127) (o := .cells #[.int .u64 0, .int .u64 0] 74 (0, 0)) of_lies hb)
            have n6_ := Aside0.mk (below_step (low HB) hb)
            clear BK101
            clear BK102
            clear BK103
            clear BK119
            clear BK123
            clear BK127
            clear HB
            have BK101 := n0_
            have BK102 := n1_
            have BK103 := n2_
            have BK119 := n3_
            have BK123 := n4_
            have BK127 := n5_
            have HB := n6_
            clear n0_ n1_ n2_ n3_ n4_ n5_ n6_
            (try clear hb)
            (try clear hb2)
            (try clear hk)
            (try clear hi)
            refine hK.out _ _ ⟨(blk_cell BK101.out 0).trans rfl, (blk_cell BK101.out 1).trans rfl, (blk_cell BK102.out 0).trans rfl, (blk_cell BK102.out 1).trans rfl⟩ (fun hHeld => ?_)
            clear hK K
            refine norm_ (a' := ?_) ?_ ?_
            rotate_left
            ·
             show Act.put _ (some 81) _ = _
             simp only [Act.put, List.setIfInBounds_toArray, List.set_cons_zero, List.set_cons_succ, i64_w, i32_w]
             rfl
            exact norm_ (by simp only [putAll, Act.put, List.setIfInBounds_toArray, List.set_cons_zero, List.set_cons_succ]) (hCont (gb127) _ ⟨hHeld, of_lies, of_lies, of_lies, of_lies, of_lies, of_lies, GW127.out, GE127.out, NB101_127.out, NB127_101.out, NB102_127.out, NB127_102.out, NB103_127.out, NB127_103.out, NB119_127.out, NB127_119.out, NB123_127.out, NB127_123.out, (low HB)⟩)
          rintro gb127 w71 ⟨hS_, h0_, h1_, h2_, h3_, h4_, h5_, h6_, h7_, h8_, h9_, h10_, h11_, h12_, h13_, h14_, h15_, h16_, h17_, h18_⟩
          have n0_ : Aside0 (w71.heap[gb101]? = some (.cells #[.int .u64 a0_0, .int .u64 a0_1] 47 (0, 0))) := ⟨h0_⟩
          have n1_ : Aside0 (w71.heap[gb102]? = some (.cells #[.int .u64 a1_0, .int .u64 a1_1] 47 (0, 0))) := ⟨h1_⟩
          have n2_ : Aside0 (w71.heap[gb103]? = some (.cells #[.int .u64 0, .int .u64 0] 47 (0, 0))) := ⟨h2_⟩
          have n3_ : Aside0 (w71.heap[gb119]? = some (.cells #[.int .u64 t116, .int .u64 t117] 74 (0, 0))) := ⟨h3_⟩
          have n4_ : Aside0 (w71.heap[gb123]? = some (.cells #[.int .u64 t120, .int .u64 t121] 74 (0, 0))) := ⟨h4_⟩
          have n5_ : Aside0 (w71.heap[gb127]? = some (.cells #[.int .u64 0, .int .u64 0] 74 (0, 0))) := ⟨h5_⟩
          have n6_ : Aside0 (w.heap.size ≤ gb127) := ⟨h6_⟩
          have n7_ : Aside0 (w.heap.size ≤ gb127) := ⟨h7_⟩
          have n8_ : Aside0 (gb101 ≠ gb127) := ⟨h8_⟩
          have n9_ : Aside0 (gb127 ≠ gb101) := ⟨h9_⟩
          have n10_ : Aside0 (gb102 ≠ gb127) := ⟨h10_⟩
          have n11_ : Aside0 (gb127 ≠ gb102) := ⟨h11_⟩
          have n12_ : Aside0 (gb103 ≠ gb127) := ⟨h12_⟩
          have n13_ : Aside0 (gb127 ≠ gb103) := ⟨h13_⟩
          have n14_ : Aside0 (gb119 ≠ gb127) := ⟨h14_⟩
          have n15_ : Aside0 (gb127 ≠ gb119) := ⟨h15_⟩
          have n16_ : Aside0 (gb123 ≠ gb127) := ⟨h16_⟩
          have n17_ : Aside0 (gb127 ≠ gb123) := ⟨h17_⟩
          have n18_ : Aside0 (Below w.heap.size w w71) := ⟨h18_⟩
          clear BK101
          clear BK102
          clear BK103
          clear BK119
          clear BK123
          clear HB
          clear h0_ h1_ h2_ h3_ h4_ h5_ h6_ h7_ h8_ h9_ h10_ h11_ h12_ h13_ h14_ h15_ h16_ h17_ h18_
          have BK101 := n0_
          have BK102 := n1_
          have BK103 := n2_
          have BK119 := n3_
          have BK123 := n4_
          have BK127 := n5_
          have GW127 := n6_
          have GE127 := n7_
          have NB101_127 := n8_
          have NB127_101 := n9_
          have NB102_127 := n10_
          have NB127_102 := n11_
          have NB103_127 := n12_
          have NB127_103 := n13_
          have NB119_127 := n14_
          have NB127_119 := n15_
          have NB123_127 := n16_
          have NB127_123 := n17_
          have HB := n18_
          clear n0_ n1_ n2_ n3_ n4_ n5_ n6_ n7_ n8_ n9_ n10_ n11_ n12_ n13_ n14_ n15_ n16_ n17_ n18_
          have hHeld : w71.cell? ⟨gb101, 0, none⟩ = some (.int .u64 a0_0) ∧ w71.cell? ⟨gb101, 1, none⟩ = some (.int .u64 a0_1) ∧ w71.cell? ⟨gb102, 0, none⟩ = some (.int .u64 a1_0) ∧ w71.cell? ⟨gb102, 1, none⟩ = some (.int .u64 a1_1) := hS_
          refine norm_ (a' := ?_) ?_ ?_
          rotate_left
          ·
           simp only [putAll, Act.put, List.setIfInBounds_toArray, List.set_cons_zero, List.set_cons_succ]
           rfl
          refine one_ (i := 10) (N := none) #[true, true, true, true, true, true, true, true, true, true, true] rfl rfl (one_of HT_.out (by kernel_rfl)) (by decide) (fun K hK => ?_)
          have hs72 : w71.cell? ⟨gb127, 0, none⟩ = some (.int .u64 0) := (blk_cell BK127.out 0).trans rfl
          have hfs72 := blk_frozen BK127.out 0
          have hns72_0 := NB101_127.out
          have hns72_1 := NB102_127.out
          have hns72_2 := NB103_127.out
          have hns72_3 := NB119_127.out
          have hns72_4 := NB123_127.out
          have hms72_0 := NB127_101.out
          have hms72_1 := NB127_102.out
          have hms72_2 := NB127_103.out
          have hms72_3 := NB127_119.out
          have hms72_4 := NB127_123.out
          have hs73 : w71.cell? ⟨gb127, 1, none⟩ = some (.int .u64 0) := (blk_cell BK127.out 1).trans rfl
          have hfs73 := blk_frozen BK127.out 1
          have hns73_0 := NB101_127.out
          have hns73_1 := NB102_127.out
          have hns73_2 := NB103_127.out
          have hns73_3 := NB119_127.out
          have hns73_4 := NB123_127.out
          have hms73_0 := NB127_101.out
          have hms73_1 := NB127_102.out
          have hms73_2 := NB127_103.out
          have hms73_3 := NB127_119.out
          have hms73_4 := NB127_123.out
          refine skip_ (w1 := ?_) (by rfl) rfl ?_ ?_
          rotate_left
          ·
           go_simp
           rfl
          refine hK.out _ _ ⟨((cell_far (p := ⟨gb127, _, none⟩) NB101_127.out _).trans (((cell_far (p := ⟨gb127, _, none⟩) NB101_127.out _).trans (hHeld.1)))), ((cell_far (p := ⟨gb127, _, none⟩) NB101_127.out _).trans (((cell_far (p := ⟨gb127, _, none⟩) NB101_127.out _).trans (hHeld.2.1)))), ((cell_far (p := ⟨gb127, _, none⟩) NB102_127.out _).trans (((cell_far (p := ⟨gb127, _, none⟩) NB102_127.out _).trans (hHeld.2.2.1)))), ((cell_far (p := ⟨gb127, _, none⟩) NB102_127.out _).trans (((cell_far (p := ⟨gb127, _, none⟩) NB102_127.out _).trans (hHeld.2.2.2))))⟩ (fun hHeld => ?_)
          clear hK K
          refine done_ (done_of HT_.out (by kernel_rfl)) ?_
          have hnb74 := NB127_101.out
          have hnc74 := NB101_127.out
          have hnb75 := NB127_102.out
          have hnc75 := NB102_127.out
          have hnb76 := NB127_103.out
          have hnc76 := NB103_127.out
          have hnb77 := NB127_119.out
          have hnc77 := NB119_127.out
          have hnb78 := NB127_123.out
          have hnc78 := NB123_127.out
          have hcz79_0 : w71.cell? ⟨gb127, 0, none⟩ = some (.int .u64 0) := (blk_cell BK127.out 0).trans rfl
          have hcz79_1 : w71.cell? ⟨gb127, 1, none⟩ = some (.int .u64 0) := (blk_cell BK127.out 1).trans rfl
          have hfz79_0 := blk_frozen BK127.out 0
          have hfz79_1 := blk_frozen BK127.out 1
          have hcz80_0 : w71.cell? ⟨gb119, 0, none⟩ = some (.int .u64 t116) := (blk_cell BK119.out 0).trans rfl
          have hcz80_1 : w71.cell? ⟨gb119, 1, none⟩ = some (.int .u64 t117) := (blk_cell BK119.out 1).trans rfl
          have hfz80_0 := blk_frozen BK119.out 0
          have hfz80_1 := blk_frozen BK119.out 1
          try go_wp2_with (first | ((with_reducible refine gate_callee (f := 67) rfl ?_); refine goesL_ (some 94) rfl rfl Tryd.func67 (by kernel_rfl) rfl #[.agg #[.int .u64 t116, .int .u64 t117], .int .u64 t124] rfl (by (try simp only [List.map_toArray, List.map_cons, List.map_nil]); first | done | rfl | (simp only [List.length_drop, List.length_take]; rfl)) ?_; (with_reducible refine (Podd.odds_wide_by.calls kj2 t116 t117 t124 t128 t129 t130 _ A38.out).mono ?_); rintro e w81 ⟨rfl, hb⟩; refine ⟨_, rfl, ?_⟩; have n0_ := Aside0.mk (blk_below (g := gb101) (o := .cells #[.int .u64 a0_0, .int .u64 a0_1] 47 (0, 0)) of_lies hb); have n1_ := Aside0.mk (blk_below (g := gb102) (o := .cells #[.int .u64 a1_0, .int .u64 a1_1] 47 (0, 0)) of_lies hb); have n2_ := Aside0.mk (blk_below (g := gb103) (o := .cells #[.int .u64 0, .int .u64 0] 47 (0, 0)) of_lies hb); have n3_ := Aside0.mk (blk_below (g := gb119) (o := .cells #[.int .u64 t116, .int .u64 t117] 74 (0, 0)) of_lies hb); have n4_ := Aside0.mk (blk_below (g := gb123) (o := .cells #[.int .u64 t120, .int .u64 t121] 74 (0, 0)) of_lies hb); have n5_ := Aside0.mk (blk_below (g := gb127) (o := .cells #[.int .u64 t125, .int .u64 t126] 74 (0, 0)) of_lies hb); have n6_ := Aside0.mk (below_step (low HB) hb); clear BK101; clear BK102; clear BK103; clear BK119; clear BK123; clear BK127; clear HB; have BK101 := n0_; have BK102 := n1_; have BK103 := n2_; have BK119 := n3_; have BK123 := n4_; have BK127 := n5_; have HB := n6_; clear n0_ n1_ n2_ n3_ n4_ n5_ n6_; (try clear hb); (try clear hb2); (try clear hk); (try clear hi); obtain ⟨hcz82_0, hcz82_1, hfz82_0, hfz82_1⟩ := cells2 BK119.out; obtain ⟨hcz83_0, hcz83_1, hfz83_0, hfz83_1⟩ := cells2 BK127.out; obtain ⟨hcz84_0, hcz84_1, hfz84_0, hfz84_1⟩ := cells2 BK103.out))
          refine bodyPost_ret (results_ct rfl _ _ gb103 47 #[.int .u64 t129, .int .u64 t126] (0, 0) _ rfl of_lies Tryd.underlying47 rfl (by kernel_rfl)) rfl ?_
          exact ⟨by first | rfl | (simp [errW_none, errW_some] <;> rfl) | (simp [*, errW_none, errW_some] <;> rfl), low HB⟩
      ·
       replace c31 := Bool.eq_false_iff.mpr c31
       subst c31
       have H1 : (none) = some (r1, r2, r3) := by rw [if_neg (show ¬ (false = true) by decide)] at H; exact H
       clear H
       have H := H1
       clear H1
       exact absurd H (by simp)
end Go.Proofs.YtcdcpnhlmgmnkaaDoor.Pos5
end
