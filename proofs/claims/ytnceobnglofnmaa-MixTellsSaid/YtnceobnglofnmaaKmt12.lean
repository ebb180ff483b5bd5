/- Joined by a program of this session (pack.py) out of: Pmxtx0 Pmxtx1 -/
import Derived.ArgAppend
import Derived.Below
import Derived.BigQuiet
import Derived.Deep.AppendLies
import Derived.Deep.CutBlock
import Derived.Deep.DeepCutAuto
import Derived.Deep.Draws
import Derived.Deep.LoopGhost
import Derived.Deep.OwnRows
import Derived.Deep.QuietTactic
import Derived.Deep.RegionHeld3
import Derived.KernelRfl
import Derived.Laws.BitsLemmas
import Derived.Laws.BytesArg
import Derived.Laws.IdiomCopy
import Derived.Laws.MakeOwn
import Derived.Laws.OwnMore
import Derived.Laws.Rows
import Derived.Laws.Slices
import Derived.Lib.AppendStr
import Derived.Lib.ConvBytes
import Derived.Maps.AppendAt
import Derived.OrdersHeld
import Derived.OwnWalk
import Derived.RowKit
import Derived.RowKit3
import Derived.Tactics
import Derived.Test.YtnceobnglofnmaaProg
import Derived.WalkKit
import Derived.WideLaws
import Derived.Test.YtnceobnglofnmaaKmt1
import Derived.Test.YtnceobnglofnmaaKmt5
import Derived.Test.YtnceobnglofnmaaKmt11
section
namespace Go.Proofs.Ytnceobnglofnmaa.Pmxt
open Go.RowKit Go.Proofs.Ytnceobnglofnmaa.Base Go.Proofs.YtnceobnglofnmaaW.PrintWords Go.Proofs.YtnceobnglofnmaaW.PrintLast Go.Proofs.YtnceobnglofnmaaW.PrintMore
attribute [local go_sem] max2_int min2_int max_two min_two max_three min_three max_four min_four   -- for this text's walks alone
set_option linter.unusedVariables false
set_option linter.unusedSimpArgs false
def errW : Option Int → Value
  | none => .nilIface
  | some c => .iface 0 (.int .i64 c)
theorem errW_none : errW none = .nilIface := rfl
theorem errW_some (c : Int) : errW (some c) = .iface 0 (.int .i64 c) := rfl
def rd_L2 (xs : List (List Int)) (i : Int) : (List Int) := xs.getD i.toNat ([] : List Int)
theorem at_L2 {w : World} {A : Option Addr} {n : Nat} {xs : List (List Int)} (h : Kd.C (Kd.slice 3 (Kd.int .i64)) w A n xs) (i : Int) (h0 : 0 ≤ i) (h1 : i < n) : ∃ ad A0 c0, A = some ad ∧ w.cell? (ad.add i.toNat) = some (.slice A0 (rd_L2 xs i).length c0) ∧ (rd_L2 xs i).length ≤ c0 ∧ (Kd.int .i64).C w A0 (rd_L2 xs i).length (rd_L2 xs i) := by
  obtain ⟨ad, c, e, _, hK, hc0⟩ := Kd.C_get h ([] : List Int) i h0 h1
  have hc : ∀ j u, c[j]? = some u → w.cell? (ad.add (i.toNat * 1 + j)) = some u := hc0
  obtain ⟨A0, c0, rfl, l0, g0⟩ := hK
  exact ⟨ad, A0, c0, e, by have hq := hc 0 _ rfl; rwa [Nat.mul_one, Nat.add_zero] at hq, l0, g0⟩
structure S66 where
  f0 : Int
  f1 : Int
def z66 : S66 := ⟨(0 : Int), (0 : Int)⟩
def k66 : Kd S66 := Kd.iso (Kd.pair (Kd.int .u64) (Kd.int .u64)) (fun x : S66 => (x.f0, x.f1))
theorem k66_open {w : World} {x : S66} {cs : List Value} (h : k66.K w x cs) : cs = [.int .u64 x.f0, .int .u64 x.f1] := by
  obtain ⟨_, _, rfl, rfl, rfl⟩ := h
  exact rfl
theorem k66_openM {w : World} {base : Nat} {ok : Nat → Prop} {x : S66} {cs : List Value} (h : k66.M w base ok x cs) : cs = [.int .u64 x.f0, .int .u64 x.f1] := by
  obtain ⟨_, _, rfl, rfl, rfl⟩ := h
  exact rfl
theorem k66_mk (w : World) (x : S66)  : k66.K w x [.int .u64 x.f0, .int .u64 x.f1] := ⟨[.int .u64 x.f0], [.int .u64 x.f1], rfl, rfl, rfl⟩
theorem k66_mkM (w : World) (base : Nat) (ok : Nat → Prop) (x : S66)  : k66.M w base ok x [.int .u64 x.f0, .int .u64 x.f1] := ⟨[.int .u64 x.f0], [.int .u64 x.f1], rfl, rfl, rfl⟩
def rd_T66 (xs : List S66) (i : Int) : S66 := xs.getD i.toNat z66
theorem at_T66 {w : World} {A : Option Addr} {n : Nat} {xs : List S66} (h : Kd.C k66 w A n xs) (i : Int) (h0 : 0 ≤ i) (h1 : i < n) : ∃ ad , A = some ad ∧ w.cell? (ad.add (i.toNat * 2)) = some (.int .u64 (rd_T66 xs i).f0) ∧ w.cell? ⟨(ad.add (i.toNat * 2)).block, (ad.add (i.toNat * 2)).off + 1, none⟩ = some (.int .u64 (rd_T66 xs i).f1) := by
  obtain ⟨ad, c, e, _, hK, hc0⟩ := Kd.C_get h z66 i h0 h1
  have hc : ∀ j u, c[j]? = some u → w.cell? (ad.add (i.toNat * 2 + j)) = some u := hc0
  obtain rfl := k66_open hK
  exact ⟨ad, e, hc 0 _ rfl, by rw [← add_field _ _ 1 (by omega)]; exact hc 1 _ rfl⟩
end Go.Proofs.Ytnceobnglofnmaa.Pmxt
end
section
namespace Go.Proofs.Ytnceobnglofnmaa.Pmxt
open Go.RowKit Go.Proofs.Ytnceobnglofnmaa.Base Go.Proofs.YtnceobnglofnmaaW.PrintWords Go.Proofs.YtnceobnglofnmaaW.PrintLast Go.Proofs.YtnceobnglofnmaaW.PrintMore
attribute [local go_sem] max2_int min2_int max_two min_two max_three min_three max_four min_four   -- for this text's walks alone
set_option linter.unusedVariables false
set_option linter.unusedSimpArgs false
mutual
def joustlaw27_MixTells.j0 : Nat → Int → Int → Int → Int → Int → Bool → Int → Int → Int → Int → Option (Bool)
 | 0, _, _, _, _, _, _, _, _, _, _ => none
 | k + 1, x0, x3, x4, x5, x6, x34, x102000, x102001, x103000, x103001 => if x34 = true then ((Pmxl.joustlaw27_lives.f k).bind fun t103 => (some t103)) else ((Pmxa.mix_Commit.f x0).bind fun bt104 => ((Pmxa.joustref27_Commit.f x0).bind fun bt106 => ((Pmxa.mix_Seed.f k x102000 x102001 x103000 x103001).bind fun bt108 => ((Pmxa.joustref27_Seed.f k x102000 x102001 x103000 x103001).bind fun bt110 => ((Pmxa.mix_Mix.f x0).bind fun t112 => ((Pmxa.joustref27_Mix.f x0).bind fun t113 => (if t112 = t113 then (if bt104.1 = bt106.1 then (if bt104.2 = bt106.2 then (if bt108.1 = bt110.1 then (joustlaw27_MixTells.j1 k x3 x4 x5 x6 (bt108.2 != bt110.2)) else (joustlaw27_MixTells.j1 k x3 x4 x5 x6 true)) else (joustlaw27_MixTells.j1 k x3 x4 x5 x6 true)) else (joustlaw27_MixTells.j1 k x3 x4 x5 x6 true)) else (joustlaw27_MixTells.j1 k x3 x4 x5 x6 true))))))))
def joustlaw27_MixTells.j1 : Nat → Int → Int → Int → Int → Bool → Option (Bool)
 | 0, _, _, _, _, _ => none
 | k + 1, x3, x4, x5, x6, x82 => if x82 = true then (some false) else ((mix_Below.f k x3 x4 x5).bind fun bt114 => ((Pmxa.joustref27_Below.f k x3 x4 x5).bind fun bt117 => (if bt114.1 = bt117.1 then (if bt114.2.1 = bt117.2.1 then (joustlaw27_MixTells.j2 k x3 x6 (bt114.2.2 != bt117.2.2)) else (joustlaw27_MixTells.j2 k x3 x6 true)) else (joustlaw27_MixTells.j2 k x3 x6 true))))
def joustlaw27_MixTells.j2 : Nat → Int → Int → Bool → Option (Bool)
 | 0, _, _, _ => none
 | k + 1, x3, x6, x111 => if x111 = true then (some false) else ((Pmxb.mix_Order.f k x3 x6).bind fun bt120 => ((Pmxa.joustref27_Order.f k x3 x6).bind fun bt124 => ((Pmxa.joustref27_Ints.f k bt120.1 bt124.1).bind fun t128 => (if t128 = true then (if bt120.2 = bt124.2 then ((Pmxl.joustlaw27_lives.f k).bind fun t129 => (some t129)) else (some false)) else (some false)))))
end
def joustlaw27_MixTells.f (k : Nat) (a0 : Int) (a1_0 : Int) (a1_1 : Int) (a2_0 : Int) (a2_1 : Int) (a3 : Int) (a4 : Int) (a5 : Int) (a6 : Int) : Option (Bool) := if a6 > 60 then (joustlaw27_MixTells.j0 k a0 a3 a4 a5 a6 (decide (a6 ≤ 1000)) a1_0 a1_1 a2_0 a2_1) else (joustlaw27_MixTells.j0 k a0 a3 a4 a5 a6 false a1_0 a1_1 a2_0 a2_1)
theorem joustlaw27_MixTells.mono_l : ∀ k, (∀ y0 y1 y2 y3 y4 y5 y6 y7 y8 y9, LeO (joustlaw27_MixTells.j0 k y0 y1 y2 y3 y4 y5 y6 y7 y8 y9) (joustlaw27_MixTells.j0 (k + 1) y0 y1 y2 y3 y4 y5 y6 y7 y8 y9)) ∧ (∀ y0 y1 y2 y3 y4, LeO (joustlaw27_MixTells.j1 k y0 y1 y2 y3 y4) (joustlaw27_MixTells.j1 (k + 1) y0 y1 y2 y3 y4)) ∧ (∀ y0 y1 y2, LeO (joustlaw27_MixTells.j2 k y0 y1 y2) (joustlaw27_MixTells.j2 (k + 1) y0 y1 y2))
 | 0 => ⟨fun _ _ _ _ _ _ _ _ _ _ r h => by simp [joustlaw27_MixTells.j0] at h, fun _ _ _ _ _ r h => by simp [joustlaw27_MixTells.j1] at h, fun _ _ _ r h => by simp [joustlaw27_MixTells.j2] at h⟩
 | k + 1 => by
  obtain ⟨ih0, ih1, ih2⟩ := joustlaw27_MixTells.mono_l k
  refine ⟨?_, ?_, ?_⟩
  ·
   intro y0 y1 y2 y3 y4 y5 y6 y7 y8 y9
   unfold joustlaw27_MixTells.j0
   repeat' first
   | (with_reducible exact ih0 _ _ _ _ _ _ _ _ _ _)
   | (with_reducible exact ih1 _ _ _ _ _)
   | (with_reducible exact ih2 _ _ _)
   | (with_reducible exact Pmxa.joustref27_Below.mono _ _ _ _)
   | (with_reducible exact Pmxa.joustref27_Ints.mono _ _ _)
   | (with_reducible exact Pmxa.joustref27_Order.mono _ _ _)
   | (with_reducible exact Pmxa.joustref27_Seed.mono _ _ _ _ _)
   | (with_reducible exact Pmxa.mix_Seed.mono _ _ _ _ _)
   | (with_reducible exact Pmxb.mix_Order.mono _ _ _)
   | (with_reducible exact Pmxl.joustlaw27_lives.mono _)
   | (with_reducible exact mix_Below.mono _ _ _ _)
   | (with_reducible exact LeO.refl _)
   | (with_reducible exact LeO.none _)
   | (with_reducible refine LeO.ite ?_ ?_)
   | (with_reducible refine LeO.bind ?_ (fun _ => ?_))
   | exact ih0 _ _ _ _ _ _ _ _ _ _
   | exact ih1 _ _ _ _ _
   | exact ih2 _ _ _
   | exact Pmxa.joustref27_Below.mono _ _ _ _
   | exact Pmxa.joustref27_Ints.mono _ _ _
   | exact Pmxa.joustref27_Order.mono _ _ _
   | exact Pmxa.joustref27_Seed.mono _ _ _ _ _
   | exact Pmxa.mix_Seed.mono _ _ _ _ _
   | exact Pmxb.mix_Order.mono _ _ _
   | exact Pmxl.joustlaw27_lives.mono _
   | exact mix_Below.mono _ _ _ _
   | exact LeO.none _
   | refine LeO.ite ?_ ?_
   | refine LeO.bind ?_ (fun _ => ?_)
  ·
   intro y0 y1 y2 y3 y4
   unfold joustlaw27_MixTells.j1
   repeat' first
   | (with_reducible exact ih0 _ _ _ _ _ _ _ _ _ _)
   | (with_reducible exact ih1 _ _ _ _ _)
   | (with_reducible exact ih2 _ _ _)
   | (with_reducible exact Pmxa.joustref27_Below.mono _ _ _ _)
   | (with_reducible exact Pmxa.joustref27_Ints.mono _ _ _)
   | (with_reducible exact Pmxa.joustref27_Order.mono _ _ _)
   | (with_reducible exact Pmxa.joustref27_Seed.mono _ _ _ _ _)
   | (with_reducible exact Pmxa.mix_Seed.mono _ _ _ _ _)
   | (with_reducible exact Pmxb.mix_Order.mono _ _ _)
   | (with_reducible exact Pmxl.joustlaw27_lives.mono _)
   | (with_reducible exact mix_Below.mono _ _ _ _)
   | (with_reducible exact LeO.refl _)
   | (with_reducible exact LeO.none _)
   | (with_reducible refine LeO.ite ?_ ?_)
   | (with_reducible refine LeO.bind ?_ (fun _ => ?_))
   | exact ih0 _ _ _ _ _ _ _ _ _ _
   | exact ih1 _ _ _ _ _
   | exact ih2 _ _ _
   | exact Pmxa.joustref27_Below.mono _ _ _ _
   | exact Pmxa.joustref27_Ints.mono _ _ _
   | exact Pmxa.joustref27_Order.mono _ _ _
   | exact Pmxa.joustref27_Seed.mono _ _ _ _ _
   | exact Pmxa.mix_Seed.mono _ _ _ _ _
   | exact Pmxb.mix_Order.mono _ _ _
   | exact Pmxl.joustlaw27_lives.mono _
   | exact mix_Below.mono _ _ _ _
   | exact LeO.none _
   | refine LeO.ite ?_ ?_
   | refine LeO.bind ?_ (fun _ => ?_)
  ·
   intro y0 y1 y2
   unfold joustlaw27_MixTells.j2
   repeat' first
   | (with_reducible exact ih0 _ _ _ _ _ _ _ _ _ _)
   | (with_reducible exact ih1 _ _ _ _ _)
   | (with_reducible exact ih2 _ _ _)
   | (with_reducible exact Pmxa.joustref27_Below.mono _ _ _ _)
   | (with_reducible exact Pmxa.joustref27_Ints.mono _ _ _)
   | (with_reducible exact Pmxa.joustref27_Order.mono _ _ _)
   | (with_reducible exact Pmxa.joustref27_Seed.mono _ _ _ _ _)
   | (with_reducible exact Pmxa.mix_Seed.mono _ _ _ _ _)
   | (with_reducible exact Pmxb.mix_Order.mono _ _ _)
   | (with_reducible exact Pmxl.joustlaw27_lives.mono _)
   | (with_reducible exact mix_Below.mono _ _ _ _)
   | (with_reducible exact LeO.refl _)
   | (with_reducible exact LeO.none _)
   | (with_reducible refine LeO.ite ?_ ?_)
   | (with_reducible refine LeO.bind ?_ (fun _ => ?_))
   | exact ih0 _ _ _ _ _ _ _ _ _ _
   | exact ih1 _ _ _ _ _
   | exact ih2 _ _ _
   | exact Pmxa.joustref27_Below.mono _ _ _ _
   | exact Pmxa.joustref27_Ints.mono _ _ _
   | exact Pmxa.joustref27_Order.mono _ _ _
   | exact Pmxa.joustref27_Seed.mono _ _ _ _ _
   | exact Pmxa.mix_Seed.mono _ _ _ _ _
   | exact Pmxb.mix_Order.mono _ _ _
   | exact Pmxl.joustlaw27_lives.mono _
   | exact mix_Below.mono _ _ _ _
   | exact LeO.none _
   | refine LeO.ite ?_ ?_
   | refine LeO.bind ?_ (fun _ => ?_)
theorem joustlaw27_MixTells.mono : ∀ a0 a1 a2 a3 a4 a5 a6 a7 a8 k, LeO (joustlaw27_MixTells.f k a0 a1 a2 a3 a4 a5 a6 a7 a8) (joustlaw27_MixTells.f (k + 1) a0 a1 a2 a3 a4 a5 a6 a7 a8) := by
 intro a0 a1 a2 a3 a4 a5 a6 a7 a8 k
 obtain ⟨ih0, ih1, ih2⟩ := joustlaw27_MixTells.mono_l k
 unfold joustlaw27_MixTells.f
 repeat' first
   | (with_reducible exact ih0 _ _ _ _ _ _ _ _ _ _)
   | (with_reducible exact ih1 _ _ _ _ _)
   | (with_reducible exact ih2 _ _ _)
   | (with_reducible exact Pmxa.joustref27_Below.mono _ _ _ _)
   | (with_reducible exact Pmxa.joustref27_Ints.mono _ _ _)
   | (with_reducible exact Pmxa.joustref27_Order.mono _ _ _)
   | (with_reducible exact Pmxa.joustref27_Seed.mono _ _ _ _ _)
   | (with_reducible exact Pmxa.mix_Seed.mono _ _ _ _ _)
   | (with_reducible exact Pmxb.mix_Order.mono _ _ _)
   | (with_reducible exact Pmxl.joustlaw27_lives.mono _)
   | (with_reducible exact mix_Below.mono _ _ _ _)
   | (with_reducible exact LeO.refl _)
   | (with_reducible exact LeO.none _)
   | (with_reducible refine LeO.ite ?_ ?_)
   | (with_reducible refine LeO.bind ?_ (fun _ => ?_))
   | exact ih0 _ _ _ _ _ _ _ _ _ _
   | exact ih1 _ _ _ _ _
   | exact ih2 _ _ _
   | exact Pmxa.joustref27_Below.mono _ _ _ _
   | exact Pmxa.joustref27_Ints.mono _ _ _
   | exact Pmxa.joustref27_Order.mono _ _ _
   | exact Pmxa.joustref27_Seed.mono _ _ _ _ _
   | exact Pmxa.mix_Seed.mono _ _ _ _ _
   | exact Pmxb.mix_Order.mono _ _ _
   | exact Pmxl.joustlaw27_lives.mono _
   | exact mix_Below.mono _ _ _ _
   | exact LeO.none _
   | refine LeO.ite ?_ ?_
   | refine LeO.bind ?_ (fun _ => ?_)
set_option maxHeartbeats 8000000 in
set_option maxRecDepth 100000 in
theorem joustlaw27_MixTells.calls (k : Nat) (a0 : Int) (a1_0 : Int) (a1_1 : Int) (a2_0 : Int) (a2_1 : Int) (a3 : Int) (a4 : Int) (a5 : Int) (a6 : Int) (r : Bool) (w : World) (h : joustlaw27_MixTells.f k a0 a1_0 a1_1 a2_0 a2_1 a3 a4 a5 a6 = some r) :
  Calls Try.prog 10 #[.int .u64 a0, .agg #[.int .u64 a1_0, .int .u64 a1_1], .agg #[.int .u64 a2_0, .int .u64 a2_1], .int .u64 a3, .int .u64 a4, .int .u64 a5, .int .i64 a6] w fun e w' => e = .returned (.bool r) ∧ Below w.heap.size w w' := by
 have hu66 := Try.underlying66
 have HB := Az (Below.refl w.heap.size w)
 have H : (if a6 > 60 then (joustlaw27_MixTells.j0 k a0 a3 a4 a5 a6 (decide (a6 ≤ 1000)) a1_0 a1_1 a2_0 a2_1) else (joustlaw27_MixTells.j0 k a0 a3 a4 a5 a6 false a1_0 a1_1 a2_0 a2_1)) = some r := h
 clear h
 have HC8 := Az H
 clear H
 go_enter Try.func10, Try.ntmps10
 go_upto_region 1 with (first | ((with_reducible refine gate_dst (N := 8) rfl ?_); refine box_event ?hg (N := 8) ?hd (cs := #[.int .u64 a1_0, .int .u64 a1_1]) (t := 66) ?hr ?_; (case hd => rfl); (case hg => rfl); (case hr => first | (go_simp; done) | (go_simp; rfl)); intro gb101 hg w9 hbox hb; have n0_ := Az (below_step (low HB) hb); have n1_ := Az (hbox); have n2_ := Az ((by rw [hg]; exact (below_size (low HB)) : w.heap.size ≤ gb101)); have n3_ := Az ((by rw [hg]; exact (below_size (low HB)) : w.heap.size ≤ gb101)); clear HB; have HB := n0_; have BK101 := n1_; have GW101 := n2_; have GE101 := n3_; clear n0_ n1_ n2_ n3_; clear hb hbox hg) | ((with_reducible refine gate_dst (N := 9) rfl ?_); refine box_event ?hg (N := 9) ?hd (cs := #[.int .u64 a2_0, .int .u64 a2_1]) (t := 66) ?hr ?_; (case hd => rfl); (case hg => rfl); (case hr => first | (go_simp; done) | (go_simp; rfl)); intro gb102 hg w10 hbox hb; have n0_ := Az (blk_below (g := gb101) (o := .cells #[.int .u64 a1_0, .int .u64 a1_1] 66 (0, 0)) of_lies hb); have n1_ := Az (below_step (low HB) hb); have n2_ := Az (hbox); have n3_ := Az ((by rw [hg]; exact (below_size (low HB)) : w.heap.size ≤ gb102)); have n4_ := Az ((by rw [hg]; exact (below_size (low HB)) : w.heap.size ≤ gb102)); have n5_ := Az ((by rw [hg]; exact Nat.ne_of_lt (blk_lt (g := gb101) (o := .cells #[.int .u64 a1_0, .int .u64 a1_1] 66 (0, 0)) of_lies) : gb101 ≠ gb102)); have n6_ := Az ((by rw [hg]; exact Nat.ne_of_gt (blk_lt (g := gb101) (o := .cells #[.int .u64 a1_0, .int .u64 a1_1] 66 (0, 0)) of_lies) : gb102 ≠ gb101)); clear BK101; clear HB; have BK101 := n0_; have HB := n1_; have BK102 := n2_; have GW102 := n3_; have GE102 := n4_; have NB101_102 := n5_; have NB102_101 := n6_; clear n0_ n1_ n2_ n3_ n4_ n5_ n6_; clear hb hbox hg))
 (try simp only [Act.put, List.setIfInBounds_toArray, List.set_cons_zero, List.set_cons_succ])
 go_cut [34] (fun v34 wc => ∃ (kq : Nat) (x34_7 : Bool), v34 = .bool x34_7 ∧ Aside0 (joustlaw27_MixTells.j0 kq a0 a3 a4 a5 a6 x34_7 a1_0 a1_1 a2_0 a2_1 = some r) ∧ Aside0 (kq ≤ k) ∧ Aside0 (wc.heap[gb101]? = some (.cells #[.int .u64 a1_0, .int .u64 a1_1] 66 (0, 0))) ∧ Aside0 (wc.heap[gb102]? = some (.cells #[.int .u64 a2_0, .int .u64 a2_1] 66 (0, 0))) ∧ Aside0 (Below w.heap.size w wc))
 case first =>
  have H := HC8.out
  clear HC8
  by_cases c11 : a6 > 60
  ·
   rw [if_pos c11] at H
   have c11b0 : decide (60 < a6) = true := decide_eq_true c11
   clear c11
   (first | rw [c11b0] | (simp only [i64_w, i32_w]; rw [c11b0]) | skip)
   have H' := Az H
   clear H
   go_wp2
   go_meet
   case rel => exact ⟨_, (decide (a6 ≤ 1000)), (by first | rfl | (simp; done) | (simp [*]; done)), H', ⟨by first | omega | exact Nat.le_refl _⟩, ⟨of_lies⟩, ⟨of_lies⟩, ⟨low HB⟩⟩
  ·
   rw [if_neg c11] at H
   have c11b0 : decide (60 < a6) = false := decide_eq_false c11
   clear c11
   (first | rw [c11b0] | (simp only [i64_w, i32_w]; rw [c11b0]) | skip)
   have H' := Az H
   clear H
   go_wp2
   go_meet
   case rel => exact ⟨_, (false), (by first | rfl | (simp; done) | (simp [*]; done)), H', ⟨by first | omega | exact Nat.le_refl _⟩, ⟨of_lies⟩, ⟨of_lies⟩, ⟨low HB⟩⟩
 case rest =>
  clear HC8
  try clear c1
  try clear p2
  try clear c10
  try clear c11
  try clear c11b0
  obtain ⟨kq, x34_7, rfl, HA, HJ7, BK101, BK102, HB⟩ := hcut
  cases kq with
  | zero => exact absurd HA.out (by simp [joustlaw27_MixTells.j0])
  | succ kj7 =>
   have H := HA.out
   clear HA
   simp only [joustlaw27_MixTells.j0] at H
   by_cases c12 : x34_7 = true
   ·
    subst c12
    have H1 : ((Pmxl.joustlaw27_lives.f kj7).bind fun t103 => (some t103)) = some r := by rw [if_pos rfl] at H; exact H
    clear H
    have H := H1
    clear H1
    replace H := Option.bind_eq_some_iff.mp H
    obtain ⟨t103, A130, H⟩ := H
    replace H : (some t103) = some r := H
    have A13 := Az A130
    clear A130
    obtain rfl := Option.some.inj H
    go_wp2_with (first | ((with_reducible refine gate_callee (f := 33) rfl ?_); refine goesL_ (some 35) rfl rfl Try.func33 (by kernel_rfl) rfl #[] rfl (by (try simp only [List.map_toArray, List.map_cons, List.map_nil]); first | done | rfl | (simp only [List.length_drop, List.length_take]; rfl)) ?_; (with_reducible refine (Pmxl.joustlaw27_lives.calls kj7  t103 _ A13.out).mono ?_); rintro e w14 ⟨rfl, hb⟩; refine ⟨_, rfl, ?_⟩; have n0_ := Az (blk_below (g := gb101) (o := .cells #[.int .u64 a1_0, .int .u64 a1_1] 66 (0, 0)) of_lies hb); have n1_ := Az (blk_below (g := gb102) (o := .cells #[.int .u64 a2_0, .int .u64 a2_1] 66 (0, 0)) of_lies hb); have n2_ := Az (below_step (low HB) hb); clear BK101; clear BK102; clear HB; have BK101 := n0_; have BK102 := n1_; have HB := n2_; clear n0_ n1_ n2_; (try clear hb); (try clear hb2); (try clear hk); (try clear hi)))
    go_ret
    exact ⟨by first | rfl | (simp [errW_none, errW_some] <;> rfl) | (simp [*, errW_none, errW_some] <;> rfl), low HB⟩
   ·
    replace c12 := Bool.eq_false_iff.mpr c12
    subst c12
    have H1 : ((Pmxa.mix_Commit.f a0).bind fun bt104 => ((Pmxa.joustref27_Commit.f a0).bind fun bt106 => ((Pmxa.mix_Seed.f kj7 a1_0 a1_1 a2_0 a2_1).bind fun bt108 => ((Pmxa.joustref27_Seed.f kj7 a1_0 a1_1 a2_0 a2_1).bind fun bt110 => ((Pmxa.mix_Mix.f a0).bind fun t112 => ((Pmxa.joustref27_Mix.f a0).bind fun t113 => (if t112 = t113 then (if bt104.1 = bt106.1 then (if bt104.2 = bt106.2 then (if bt108.1 = bt110.1 then (joustlaw27_MixTells.j1 kj7 a3 a4 a5 a6 (bt108.2 != bt110.2)) else (joustlaw27_MixTells.j1 kj7 a3 a4 a5 a6 true)) else (joustlaw27_MixTells.j1 kj7 a3 a4 a5 a6 true)) else (joustlaw27_MixTells.j1 kj7 a3 a4 a5 a6 true)) else (joustlaw27_MixTells.j1 kj7 a3 a4 a5 a6 true)))))))) = some r := by rw [if_neg (show ¬ (false = true) by decide)] at H; exact H
    clear H
    have H := H1
    clear H1
    replace H := Option.bind_eq_some_iff.mp H
    obtain ⟨⟨t104, t105⟩, A150, H⟩ := H
    replace H : ((Pmxa.joustref27_Commit.f a0).bind fun bt106 => ((Pmxa.mix_Seed.f kj7 a1_0 a1_1 a2_0 a2_1).bind fun bt108 => ((Pmxa.joustref27_Seed.f kj7 a1_0 a1_1 a2_0 a2_1).bind fun bt110 => ((Pmxa.mix_Mix.f a0).bind fun t112 => ((Pmxa.joustref27_Mix.f a0).bind fun t113 => (if t112 = t113 then (if t104 = bt106.1 then (if t105 = bt106.2 then (if bt108.1 = bt110.1 then (joustlaw27_MixTells.j1 kj7 a3 a4 a5 a6 (bt108.2 != bt110.2)) else (joustlaw27_MixTells.j1 kj7 a3 a4 a5 a6 true)) else (joustlaw27_MixTells.j1 kj7 a3 a4 a5 a6 true)) else (joustlaw27_MixTells.j1 kj7 a3 a4 a5 a6 true)) else (joustlaw27_MixTells.j1 kj7 a3 a4 a5 a6 true))))))) = some r := H
    have A15 := Az A150
    clear A150
    replace H := Option.bind_eq_some_iff.mp H
    obtain ⟨⟨t106, t107⟩, A160, H⟩ := H
    replace H : ((Pmxa.mix_Seed.f kj7 a1_0 a1_1 a2_0 a2_1).bind fun bt108 => ((Pmxa.joustref27_Seed.f kj7 a1_0 a1_1 a2_0 a2_1).bind fun bt110 => ((Pmxa.mix_Mix.f a0).bind fun t112 => ((Pmxa.joustref27_Mix.f a0).bind fun t113 => (if t112 = t113 then (if t104 = t106 then (if t105 = t107 then (if bt108.1 = bt110.1 then (joustlaw27_MixTells.j1 kj7 a3 a4 a5 a6 (bt108.2 != bt110.2)) else (joustlaw27_MixTells.j1 kj7 a3 a4 a5 a6 true)) else (joustlaw27_MixTells.j1 kj7 a3 a4 a5 a6 true)) else (joustlaw27_MixTells.j1 kj7 a3 a4 a5 a6 true)) else (joustlaw27_MixTells.j1 kj7 a3 a4 a5 a6 true)))))) = some r := H
    have A16 := Az A160
    clear A160
    replace H := Option.bind_eq_some_iff.mp H
    obtain ⟨⟨t108, t109⟩, A170, H⟩ := H
    replace H : ((Pmxa.joustref27_Seed.f kj7 a1_0 a1_1 a2_0 a2_1).bind fun bt110 => ((Pmxa.mix_Mix.f a0).bind fun t112 => ((Pmxa.joustref27_Mix.f a0).bind fun t113 => (if t112 = t113 then (if t104 = t106 then (if t105 = t107 then (if t108 = bt110.1 then (joustlaw27_MixTells.j1 kj7 a3 a4 a5 a6 (t109 != bt110.2)) else (joustlaw27_MixTells.j1 kj7 a3 a4 a5 a6 true)) else (joustlaw27_MixTells.j1 kj7 a3 a4 a5 a6 true)) else (joustlaw27_MixTells.j1 kj7 a3 a4 a5 a6 true)) else (joustlaw27_MixTells.j1 kj7 a3 a4 a5 a6 true))))) = some r := H
    have A17 := Az A170
    clear A170
    replace H := Option.bind_eq_some_iff.mp H
    obtain ⟨⟨t110, t111⟩, A180, H⟩ := H
    replace H : ((Pmxa.mix_Mix.f a0).bind fun t112 => ((Pmxa.joustref27_Mix.f a0).bind fun t113 => (if t112 = t113 then (if t104 = t106 then (if t105 = t107 then (if t108 = t110 then (joustlaw27_MixTells.j1 kj7 a3 a4 a5 a6 (t109 != t111)) else (joustlaw27_MixTells.j1 kj7 a3 a4 a5 a6 true)) else (joustlaw27_MixTells.j1 kj7 a3 a4 a5 a6 true)) else (joustlaw27_MixTells.j1 kj7 a3 a4 a5 a6 true)) else (joustlaw27_MixTells.j1 kj7 a3 a4 a5 a6 true)))) = some r := H
    have A18 := Az A180
    clear A180
    have HC19 := Az H
    clear H
    go_upto_region 7 with (first | ((with_reducible refine gate_callee (f := 39) rfl ?_); refine goesL_ (some 38) rfl rfl Try.func39 (by kernel_rfl) rfl #[.int .u64 a0] rfl (by (try simp only [List.map_toArray, List.map_cons, List.map_nil]); first | done | rfl | (simp only [List.length_drop, List.length_take]; rfl)) ?_; (with_reducible refine (Pmxa.mix_Commit.calls a0 t104 t105 _ A15.out).mono ?_); rintro e w' ⟨rfl, ⟨nd, rfl⟩⟩; refine ⟨_, rfl, ?_⟩) | ((with_reducible refine gate_callee (f := 40) rfl ?_); refine goesL_ (some 43) rfl rfl Try.func40 (by kernel_rfl) rfl #[.int .u64 a0] rfl (by (try simp only [List.map_toArray, List.map_cons, List.map_nil]); first | done | rfl | (simp only [List.length_drop, List.length_take]; rfl)) ?_; (with_reducible refine (Pmxa.joustref27_Commit.calls a0 t106 t107 _ A16.out).mono ?_); rintro e w' ⟨rfl, ⟨nd, rfl⟩⟩; refine ⟨_, rfl, ?_⟩; have hnb20 := NB101_102.out; have hnc20 := NB102_101.out; obtain ⟨hcz21_0, hcz21_1, hfz21_0, hfz21_1⟩ := cells2 BK101.out; obtain ⟨hcz22_0, hcz22_1, hfz22_0, hfz22_1⟩ := cells2 BK102.out) | ((with_reducible refine gate_callee (f := 41) rfl ?_); refine goesL_ (some 49) rfl rfl Try.func41 (by kernel_rfl) rfl #[.agg #[.int .u64 a1_0, .int .u64 a1_1], .agg #[.int .u64 a2_0, .int .u64 a2_1]] rfl (by (try simp only [List.map_toArray, List.map_cons, List.map_nil]); first | done | rfl | (simp only [List.length_drop, List.length_take]; rfl)) ?_; (with_reducible refine (Pmxa.mix_Seed.calls kj7 a1_0 a1_1 a2_0 a2_1 t108 t109 _ A17.out).mono ?_); rintro e w23 ⟨rfl, hb⟩; refine ⟨_, rfl, ?_⟩; have n0_ := Az (blk_below (g := gb101) (o := .cells #[.int .u64 a1_0, .int .u64 a1_1] 66 (0, 0)) of_lies hb); have n1_ := Az (blk_below (g := gb102) (o := .cells #[.int .u64 a2_0, .int .u64 a2_1] 66 (0, 0)) of_lies hb); have n2_ := Az (below_step (low HB) hb); clear BK101; clear BK102; clear HB; have BK101 := n0_; have BK102 := n1_; have HB := n2_; clear n0_ n1_ n2_; (try clear hb); (try clear hb2); (try clear hk); (try clear hi); obtain ⟨hcz24_0, hcz24_1, hfz24_0, hfz24_1⟩ := cells2 BK101.out; obtain ⟨hcz25_0, hcz25_1, hfz25_0, hfz25_1⟩ := cells2 BK102.out) | ((with_reducible refine gate_callee (f := 42) rfl ?_); refine goesL_ (some 55) rfl rfl Try.func42 (by kernel_rfl) rfl #[.agg #[.int .u64 a1_0, .int .u64 a1_1], .agg #[.int .u64 a2_0, .int .u64 a2_1]] rfl (by (try simp only [List.map_toArray, List.map_cons, List.map_nil]); first | done | rfl | (simp only [List.length_drop, List.length_take]; rfl)) ?_; (with_reducible refine (Pmxa.joustref27_Seed.calls kj7 a1_0 a1_1 a2_0 a2_1 t110 t111 _ A18.out).mono ?_); rintro e w26 ⟨rfl, hb⟩; refine ⟨_, rfl, ?_⟩; have n0_ := Az (blk_below (g := gb101) (o := .cells #[.int .u64 a1_0, .int .u64 a1_1] 66 (0, 0)) of_lies hb); have n1_ := Az (blk_below (g := gb102) (o := .cells #[.int .u64 a2_0, .int .u64 a2_1] 66 (0, 0)) of_lies hb); have n2_ := Az (below_step (low HB) hb); clear BK101; clear BK102; clear HB; have BK101 := n0_; have BK102 := n1_; have HB := n2_; clear n0_ n1_ n2_; (try clear hb); (try clear hb2); (try clear hk); (try clear hi)))
    (try simp only [Act.put, List.setIfInBounds_toArray, List.set_cons_zero, List.set_cons_succ])
    go_cut [82] (fun v82 wc => ∃ (kq : Nat) (x82_18 : Bool), v82 = .bool x82_18 ∧ Aside0 (joustlaw27_MixTells.j1 kq a3 a4 a5 a6 x82_18 = some r) ∧ Aside0 (kq ≤ kj7) ∧ Aside0 (wc.heap[gb101]? = some (.cells #[.int .u64 a1_0, .int .u64 a1_1] 66 (0, 0))) ∧ Aside0 (wc.heap[gb102]? = some (.cells #[.int .u64 a2_0, .int .u64 a2_1] 66 (0, 0))) ∧ Aside0 (Below w.heap.size w wc))
    case first =>
     have H := HC19.out
     clear HC19
     replace H := Option.bind_eq_some_iff.mp H
     obtain ⟨t112, A270, H⟩ := H
     replace H : ((Pmxa.joustref27_Mix.f a0).bind fun t113 => (if t112 = t113 then (if t104 = t106 then (if t105 = t107 then (if t108 = t110 then (joustlaw27_MixTells.j1 kj7 a3 a4 a5 a6 (t109 != t111)) else (joustlaw27_MixTells.j1 kj7 a3 a4 a5 a6 true)) else (joustlaw27_MixTells.j1 kj7 a3 a4 a5 a6 true)) else (joustlaw27_MixTells.j1 kj7 a3 a4 a5 a6 true)) else (joustlaw27_MixTells.j1 kj7 a3 a4 a5 a6 true))) = some r := H
     have A27 := Az A270
     clear A270
     replace H := Option.bind_eq_some_iff.mp H
     obtain ⟨t113, A280, H⟩ := H
     replace H : (if t112 = t113 then (if t104 = t106 then (if t105 = t107 then (if t108 = t110 then (joustlaw27_MixTells.j1 kj7 a3 a4 a5 a6 (t109 != t111)) else (joustlaw27_MixTells.j1 kj7 a3 a4 a5 a6 true)) else (joustlaw27_MixTells.j1 kj7 a3 a4 a5 a6 true)) else (joustlaw27_MixTells.j1 kj7 a3 a4 a5 a6 true)) else (joustlaw27_MixTells.j1 kj7 a3 a4 a5 a6 true)) = some r := H
     have A28 := Az A280
     clear A280
     by_cases c29 : t112 = t113
     ·
      rw [if_pos c29] at H
      have c29b0 : (t112 == t113) = true := beq_iff_eq.mpr c29
      have c29b1 : (t112 != t113) = false := bne_eq_false_iff_eq.mpr c29
      clear c29
      (first | rw [c29b0] | (simp only [i64_w, i32_w]; rw [c29b0]) | skip)
      by_cases c30 : t104 = t106
      ·
       rw [if_pos c30] at H
       have c30b0 : (t104 == t106) = true := beq_iff_eq.mpr c30
       have c30b1 : (t104 != t106) = false := bne_eq_false_iff_eq.mpr c30
       clear c30
       by_cases c31 : t105 = t107
       ·
        rw [if_pos c31] at H
        have c31b0 : (t105 == t107) = true := beq_iff_eq.mpr c31
        have c31b1 : (t105 != t107) = false := bne_eq_false_iff_eq.mpr c31
        clear c31
        by_cases c32 : t108 = t110
        ·
         rw [if_pos c32] at H
         have c32b0 : (t108 == t110) = true := beq_iff_eq.mpr c32
         have c32b1 : (t108 != t110) = false := bne_eq_false_iff_eq.mpr c32
         clear c32
         have H' := Az H
         clear H
         go_wp2_with (first | ((with_reducible refine gate_callee (f := 43) rfl ?_); refine goesL_ (some 59) rfl rfl Try.func43 (by kernel_rfl) rfl #[.int .u64 a0] rfl (by (try simp only [List.map_toArray, List.map_cons, List.map_nil]); first | done | rfl | (simp only [List.length_drop, List.length_take]; rfl)) ?_; (with_reducible refine (Pmxa.mix_Mix.calls a0 t112 _ A27.out).mono ?_); rintro e w' ⟨rfl, ⟨nd, rfl⟩⟩; refine ⟨_, rfl, ?_⟩) | ((with_reducible refine gate_callee (f := 44) rfl ?_); refine goesL_ (some 61) rfl rfl Try.func44 (by kernel_rfl) rfl #[.int .u64 a0] rfl (by (try simp only [List.map_toArray, List.map_cons, List.map_nil]); first | done | rfl | (simp only [List.length_drop, List.length_take]; rfl)) ?_; (with_reducible refine (Pmxa.joustref27_Mix.calls a0 t113 _ A28.out).mono ?_); rintro e w' ⟨rfl, ⟨nd, rfl⟩⟩; refine ⟨_, rfl, ?_⟩))
         go_meet
         case rel => exact ⟨_, ((t109 != t111)), (by first | rfl | (simp; done) | (simp [*]; done)), H', ⟨by have := HJ7.out; first | omega | exact Nat.le_refl _⟩, ⟨of_lies⟩, ⟨of_lies⟩, ⟨low HB⟩⟩
        ·
         rw [if_neg c32] at H
         have c32b0 : (t108 == t110) = false := beq_eq_false_iff_ne.mpr c32
         have c32b1 : (t108 != t110) = true := bne_iff_ne.mpr c32
         have H' := Az H
         clear H
         go_wp2_with (first | ((with_reducible refine gate_callee (f := 43) rfl ?_); refine goesL_ (some 59) rfl rfl Try.func43 (by kernel_rfl) rfl #[.int .u64 a0] rfl (by (try simp only [List.map_toArray, List.map_cons, List.map_nil]); first | done | rfl | (simp only [List.length_drop, List.length_take]; rfl)) ?_; (with_reducible refine (Pmxa.mix_Mix.calls a0 t112 _ A27.out).mono ?_); rintro e w' ⟨rfl, ⟨nd, rfl⟩⟩; refine ⟨_, rfl, ?_⟩) | ((with_reducible refine gate_callee (f := 44) rfl ?_); refine goesL_ (some 61) rfl rfl Try.func44 (by kernel_rfl) rfl #[.int .u64 a0] rfl (by (try simp only [List.map_toArray, List.map_cons, List.map_nil]); first | done | rfl | (simp only [List.length_drop, List.length_take]; rfl)) ?_; (with_reducible refine (Pmxa.joustref27_Mix.calls a0 t113 _ A28.out).mono ?_); rintro e w' ⟨rfl, ⟨nd, rfl⟩⟩; refine ⟨_, rfl, ?_⟩))
         go_meet
         case rel => exact ⟨_, (true), (by first | rfl | (simp; done) | (simp [*]; done)), H', ⟨by have := HJ7.out; first | omega | exact Nat.le_refl _⟩, ⟨of_lies⟩, ⟨of_lies⟩, ⟨low HB⟩⟩
       ·
        rw [if_neg c31] at H
        have c31b0 : (t105 == t107) = false := beq_eq_false_iff_ne.mpr c31
        have c31b1 : (t105 != t107) = true := bne_iff_ne.mpr c31
        have H' := Az H
        clear H
        go_wp2_with (first | ((with_reducible refine gate_callee (f := 43) rfl ?_); refine goesL_ (some 59) rfl rfl Try.func43 (by kernel_rfl) rfl #[.int .u64 a0] rfl (by (try simp only [List.map_toArray, List.map_cons, List.map_nil]); first | done | rfl | (simp only [List.length_drop, List.length_take]; rfl)) ?_; (with_reducible refine (Pmxa.mix_Mix.calls a0 t112 _ A27.out).mono ?_); rintro e w' ⟨rfl, ⟨nd, rfl⟩⟩; refine ⟨_, rfl, ?_⟩) | ((with_reducible refine gate_callee (f := 44) rfl ?_); refine goesL_ (some 61) rfl rfl Try.func44 (by kernel_rfl) rfl #[.int .u64 a0] rfl (by (try simp only [List.map_toArray, List.map_cons, List.map_nil]); first | done | rfl | (simp only [List.length_drop, List.length_take]; rfl)) ?_; (with_reducible refine (Pmxa.joustref27_Mix.calls a0 t113 _ A28.out).mono ?_); rintro e w' ⟨rfl, ⟨nd, rfl⟩⟩; refine ⟨_, rfl, ?_⟩))
        go_meet
        case rel => exact ⟨_, (true), (by first | rfl | (simp; done) | (simp [*]; done)), H', ⟨by have := HJ7.out; first | omega | exact Nat.le_refl _⟩, ⟨of_lies⟩, ⟨of_lies⟩, ⟨low HB⟩⟩
      ·
       rw [if_neg c30] at H
       have c30b0 : (t104 == t106) = false := beq_eq_false_iff_ne.mpr c30
       have c30b1 : (t104 != t106) = true := bne_iff_ne.mpr c30
       have H' := Az H
       clear H
       go_wp2_with (first | ((with_reducible refine gate_callee (f := 43) rfl ?_); refine goesL_ (some 59) rfl rfl Try.func43 (by kernel_rfl) rfl #[.int .u64 a0] rfl (by (try simp only [List.map_toArray, List.map_cons, List.map_nil]); first | done | rfl | (simp only [List.length_drop, List.length_take]; rfl)) ?_; (with_reducible refine (Pmxa.mix_Mix.calls a0 t112 _ A27.out).mono ?_); rintro e w' ⟨rfl, ⟨nd, rfl⟩⟩; refine ⟨_, rfl, ?_⟩) | ((with_reducible refine gate_callee (f := 44) rfl ?_); refine goesL_ (some 61) rfl rfl Try.func44 (by kernel_rfl) rfl #[.int .u64 a0] rfl (by (try simp only [List.map_toArray, List.map_cons, List.map_nil]); first | done | rfl | (simp only [List.length_drop, List.length_take]; rfl)) ?_; (with_reducible refine (Pmxa.joustref27_Mix.calls a0 t113 _ A28.out).mono ?_); rintro e w' ⟨rfl, ⟨nd, rfl⟩⟩; refine ⟨_, rfl, ?_⟩))
       go_meet
       case rel => exact ⟨_, (true), (by first | rfl | (simp; done) | (simp [*]; done)), H', ⟨by have := HJ7.out; first | omega | exact Nat.le_refl _⟩, ⟨of_lies⟩, ⟨of_lies⟩, ⟨low HB⟩⟩
     ·
      rw [if_neg c29] at H
      have c29b0 : (t112 == t113) = false := beq_eq_false_iff_ne.mpr c29
      have c29b1 : (t112 != t113) = true := bne_iff_ne.mpr c29
      (first | rw [c29b0] | (simp only [i64_w, i32_w]; rw [c29b0]) | skip)
      have H' := Az H
      clear H
      go_wp2_with (first | ((with_reducible refine gate_callee (f := 43) rfl ?_); refine goesL_ (some 59) rfl rfl Try.func43 (by kernel_rfl) rfl #[.int .u64 a0] rfl (by (try simp only [List.map_toArray, List.map_cons, List.map_nil]); first | done | rfl | (simp only [List.length_drop, List.length_take]; rfl)) ?_; (with_reducible refine (Pmxa.mix_Mix.calls a0 t112 _ A27.out).mono ?_); rintro e w' ⟨rfl, ⟨nd, rfl⟩⟩; refine ⟨_, rfl, ?_⟩) | ((with_reducible refine gate_callee (f := 44) rfl ?_); refine goesL_ (some 61) rfl rfl Try.func44 (by kernel_rfl) rfl #[.int .u64 a0] rfl (by (try simp only [List.map_toArray, List.map_cons, List.map_nil]); first | done | rfl | (simp only [List.length_drop, List.length_take]; rfl)) ?_; (with_reducible refine (Pmxa.joustref27_Mix.calls a0 t113 _ A28.out).mono ?_); rintro e w' ⟨rfl, ⟨nd, rfl⟩⟩; refine ⟨_, rfl, ?_⟩))
      go_meet
      case rel => exact ⟨_, (true), (by first | rfl | (simp; done) | (simp [*]; done)), H', ⟨by have := HJ7.out; first | omega | exact Nat.le_refl _⟩, ⟨of_lies⟩, ⟨of_lies⟩, ⟨low HB⟩⟩
    case rest =>
     clear HC19
     try clear c1
     try clear c2
     try clear p2
     try clear c3
     try clear c4
     try clear c10
     try clear c11
     try clear c11b0
     try clear c12
     try clear c20
     try clear c29
     try clear c29b0
     try clear c29b1
     try clear c30
     try clear c30b0
     try clear c30b1
     try clear c31
     try clear c31b0
     try clear c31b1
     try clear c32
     try clear c32b0
     try clear c32b1
     try clear hcz21_0
     try clear hcz21_1
     try clear hcz22_0
     try clear hcz22_1
     try clear hcz24_0
     try clear hcz24_1
     try clear hcz25_0
     try clear hcz25_1
     try clear hfz21_0
     try clear hfz21_1
     try clear hfz22_0
     try clear hfz22_1
     try clear hfz24_0
     try clear hfz24_1
     try clear hfz25_0
     try clear hfz25_1
     try clear p2
     obtain ⟨kq, x82_18, rfl, HA, HJ18, BK101, BK102, HB⟩ := hcut
     cases kq with
     | zero => exact absurd HA.out (by simp [joustlaw27_MixTells.j1])
     | succ kj18 =>
      have H := HA.out
      clear HA
      simp only [joustlaw27_MixTells.j1] at H
      by_cases c33 : x82_18 = true
      ·
       subst c33
       have H1 : (some false) = some r := by rw [if_pos rfl] at H; exact H
       clear H
       have H := H1
       clear H1
       obtain rfl := Option.some.inj H
       go_wp2
       go_ret
       exact ⟨by first | rfl | (simp [errW_none, errW_some] <;> rfl) | (simp [*, errW_none, errW_some] <;> rfl), low HB⟩
      ·
       replace c33 := Bool.eq_false_iff.mpr c33
       subst c33
       have H1 : ((mix_Below.f kj18 a3 a4 a5).bind fun bt114 => ((Pmxa.joustref27_Below.f kj18 a3 a4 a5).bind fun bt117 => (if bt114.1 = bt117.1 then (if bt114.2.1 = bt117.2.1 then (joustlaw27_MixTells.j2 kj18 a3 a6 (bt114.2.2 != bt117.2.2)) else (joustlaw27_MixTells.j2 kj18 a3 a6 true)) else (joustlaw27_MixTells.j2 kj18 a3 a6 true)))) = some r := by rw [if_neg (show ¬ (false = true) by decide)] at H; exact H
       clear H
       have H := H1
       clear H1
       replace H := Option.bind_eq_some_iff.mp H
       obtain ⟨⟨t114, t115, t116⟩, A340, H⟩ := H
       replace H : ((Pmxa.joustref27_Below.f kj18 a3 a4 a5).bind fun bt117 => (if t114 = bt117.1 then (if t115 = bt117.2.1 then (joustlaw27_MixTells.j2 kj18 a3 a6 (t116 != bt117.2.2)) else (joustlaw27_MixTells.j2 kj18 a3 a6 true)) else (joustlaw27_MixTells.j2 kj18 a3 a6 true))) = some r := H
       have A34 := Az A340
       clear A340
       replace H := Option.bind_eq_some_iff.mp H
       obtain ⟨⟨t117, t118, t119⟩, A350, H⟩ := H
       replace H : (if t114 = t117 then (if t115 = t118 then (joustlaw27_MixTells.j2 kj18 a3 a6 (t116 != t119)) else (joustlaw27_MixTells.j2 kj18 a3 a6 true)) else (joustlaw27_MixTells.j2 kj18 a3 a6 true)) = some r := H
       have A35 := Az A350
       clear A350
       have HC36 := Az H
       clear H
       go_upto_region 11 with (first | ((with_reducible refine gate_callee (f := 38) rfl ?_); refine goesL_ (some 87) rfl rfl Try.func38 (by kernel_rfl) rfl #[.int .u64 a3, .int .u64 a4, .int .u64 a5] rfl (by (try simp only [List.map_toArray, List.map_cons, List.map_nil]); first | done | rfl | (simp only [List.length_drop, List.length_take]; rfl)) ?_; (with_reducible refine (mix_Below.calls kj18 a3 a4 a5 t114 t115 t116 _ A34.out).mono ?_); rintro e w37 ⟨rfl, hb⟩; refine ⟨_, rfl, ?_⟩; have n0_ := Az (blk_below (g := gb101) (o := .cells #[.int .u64 a1_0, .int .u64 a1_1] 66 (0, 0)) of_lies hb); have n1_ := Az (blk_below (g := gb102) (o := .cells #[.int .u64 a2_0, .int .u64 a2_1] 66 (0, 0)) of_lies hb); have n2_ := Az (below_step (low HB) hb); clear BK101; clear BK102; clear HB; have BK101 := n0_; have BK102 := n1_; have HB := n2_; clear n0_ n1_ n2_; (try clear hb); (try clear hb2); (try clear hk); (try clear hi)) | ((with_reducible refine gate_callee (f := 45) rfl ?_); refine goesL_ (some 95) rfl rfl Try.func45 (by kernel_rfl) rfl #[.int .u64 a3, .int .u64 a4, .int .u64 a5] rfl (by (try simp only [List.map_toArray, List.map_cons, List.map_nil]); first | done | rfl | (simp only [List.length_drop, List.length_take]; rfl)) ?_; (with_reducible refine (Pmxa.joustref27_Below.calls kj18 a3 a4 a5 t117 t118 t119 _ A35.out).mono ?_); rintro e w' ⟨rfl, ⟨nd, rfl⟩⟩; refine ⟨_, rfl, ?_⟩))
       (try simp only [Act.put, List.setIfInBounds_toArray, List.set_cons_zero, List.set_cons_succ])
       go_cut [111] (fun v111 wc => ∃ (kq : Nat) (x111_35 : Bool), v111 = .bool x111_35 ∧ Aside0 (joustlaw27_MixTells.j2 kq a3 a6 x111_35 = some r) ∧ Aside0 (kq ≤ kj18) ∧ Aside0 (wc.heap[gb101]? = some (.cells #[.int .u64 a1_0, .int .u64 a1_1] 66 (0, 0))) ∧ Aside0 (wc.heap[gb102]? = some (.cells #[.int .u64 a2_0, .int .u64 a2_1] 66 (0, 0))) ∧ Aside0 (Below w.heap.size w wc))
       case first =>
        have H := HC36.out
        clear HC36
        by_cases c38 : t114 = t117
        ·
         rw [if_pos c38] at H
         have c38b0 : (t114 == t117) = true := beq_iff_eq.mpr c38
         have c38b1 : (t114 != t117) = false := bne_eq_false_iff_eq.mpr c38
         clear c38
         (first | rw [c38b0] | (simp only [i64_w, i32_w]; rw [c38b0]) | skip)
         by_cases c39 : t115 = t118
         ·
          rw [if_pos c39] at H
          have c39b0 : (t115 == t118) = true := beq_iff_eq.mpr c39
          have c39b1 : (t115 != t118) = false := bne_eq_false_iff_eq.mpr c39
          clear c39
          have H' := Az H
          clear H
          go_wp2
          go_meet
          case rel => exact ⟨_, ((t116 != t119)), (by first | rfl | (simp; done) | (simp [*]; done)), H', ⟨by have := HJ7.out; have := HJ18.out; first | omega | exact Nat.le_refl _⟩, ⟨of_lies⟩, ⟨of_lies⟩, ⟨low HB⟩⟩
         ·
          rw [if_neg c39] at H
          have c39b0 : (t115 == t118) = false := beq_eq_false_iff_ne.mpr c39
          have c39b1 : (t115 != t118) = true := bne_iff_ne.mpr c39
          have H' := Az H
          clear H
          go_wp2
          go_meet
          case rel => exact ⟨_, (true), (by first | rfl | (simp; done) | (simp [*]; done)), H', ⟨by have := HJ7.out; have := HJ18.out; first | omega | exact Nat.le_refl _⟩, ⟨of_lies⟩, ⟨of_lies⟩, ⟨low HB⟩⟩
        ·
         rw [if_neg c38] at H
         have c38b0 : (t114 == t117) = false := beq_eq_false_iff_ne.mpr c38
         have c38b1 : (t114 != t117) = true := bne_iff_ne.mpr c38
         (first | rw [c38b0] | (simp only [i64_w, i32_w]; rw [c38b0]) | skip)
         have H' := Az H
         clear H
         go_wp2
         go_meet
         case rel => exact ⟨_, (true), (by first | rfl | (simp; done) | (simp [*]; done)), H', ⟨by have := HJ7.out; have := HJ18.out; first | omega | exact Nat.le_refl _⟩, ⟨of_lies⟩, ⟨of_lies⟩, ⟨low HB⟩⟩
       case rest =>
        clear HC36
        try clear c1
        try clear c2
        try clear p2
        try clear c3
        try clear c4
        try clear c10
        try clear c11
        try clear c11b0
        try clear c12
        try clear c20
        try clear c29
        try clear c29b0
        try clear c29b1
        try clear c30
        try clear c30b0
        try clear c30b1
        try clear c31
        try clear c31b0
        try clear c31b1
        try clear c32
        try clear c32b0
        try clear c32b1
        try clear c33
        try clear c38
        try clear c38b0
        try clear c38b1
        try clear c39
        try clear c39b0
        try clear c39b1
        try clear hcz21_0
        try clear hcz21_1
        try clear hcz22_0
        try clear hcz22_1
        try clear hcz24_0
        try clear hcz24_1
        try clear hcz25_0
        try clear hcz25_1
        try clear hfz21_0
        try clear hfz21_1
        try clear hfz22_0
        try clear hfz22_1
        try clear hfz24_0
        try clear hfz24_1
        try clear hfz25_0
        try clear hfz25_1
        try clear p2
        obtain ⟨kq, x111_35, rfl, HA, HJ35, BK101, BK102, HB⟩ := hcut
        cases kq with
        | zero => exact absurd HA.out (by simp [joustlaw27_MixTells.j2])
        | succ kj35 =>
         have H := HA.out
         clear HA
         simp only [joustlaw27_MixTells.j2] at H
         by_cases c40 : x111_35 = true
         ·
          subst c40
          have H1 : (some false) = some r := by rw [if_pos rfl] at H; exact H
          clear H
          have H := H1
          clear H1
          obtain rfl := Option.some.inj H
          go_wp2
          go_ret
          exact ⟨by first | rfl | (simp [errW_none, errW_some] <;> rfl) | (simp [*, errW_none, errW_some] <;> rfl), low HB⟩
         ·
          replace c40 := Bool.eq_false_iff.mpr c40
          subst c40
          have H1 : ((Pmxb.mix_Order.f kj35 a3 a6).bind fun bt120 => ((Pmxa.joustref27_Order.f kj35 a3 a6).bind fun bt124 => ((Pmxa.joustref27_Ints.f kj35 bt120.1 bt124.1).bind fun t128 => (if t128 = true then (if bt120.2 = bt124.2 then ((Pmxl.joustlaw27_lives.f kj35).bind fun t129 => (some t129)) else (some false)) else (some false))))) = some r := by rw [if_neg (show ¬ (false = true) by decide)] at H; exact H
          clear H
          have H := H1
          clear H1
          replace H := Option.bind_eq_some_iff.mp H
          obtain ⟨⟨t120, t121⟩, A410, H⟩ := H
          replace H : ((Pmxa.joustref27_Order.f kj35 a3 a6).bind fun bt124 => ((Pmxa.joustref27_Ints.f kj35 t120 bt124.1).bind fun t128 => (if t128 = true then (if t121 = bt124.2 then ((Pmxl.joustlaw27_lives.f kj35).bind fun t129 => (some t129)) else (some false)) else (some false)))) = some r := H
          have A41 := Az A410
          clear A410
          replace H := Option.bind_eq_some_iff.mp H
          obtain ⟨⟨t124, t125⟩, A420, H⟩ := H
          replace H : ((Pmxa.joustref27_Ints.f kj35 t120 t124).bind fun t128 => (if t128 = true then (if t121 = t125 then ((Pmxl.joustlaw27_lives.f kj35).bind fun t129 => (some t129)) else (some false)) else (some false))) = some r := H
          have A42 := Az A420
          clear A420
          replace H := Option.bind_eq_some_iff.mp H
          obtain ⟨t128, A430, H⟩ := H
          replace H : (if t128 = true then (if t121 = t125 then ((Pmxl.joustlaw27_lives.f kj35).bind fun t129 => (some t129)) else (some false)) else (some false)) = some r := H
          have A43 := Az A430
          clear A430
          by_cases c44 : t128 = true
          ·
           subst c44
           have H1 : (if t121 = t125 then ((Pmxl.joustlaw27_lives.f kj35).bind fun t129 => (some t129)) else (some false)) = some r := by rw [if_pos rfl] at H; exact H
           clear H
           have H := H1
           clear H1
           by_cases c45 : t121 = t125
           ·
            rw [if_pos c45] at H
            have c45b0 : (t121 == t125) = true := beq_iff_eq.mpr c45
            have c45b1 : (t121 != t125) = false := bne_eq_false_iff_eq.mpr c45
            clear c45
            replace H := Option.bind_eq_some_iff.mp H
            obtain ⟨t129, A460, H⟩ := H
            replace H : (some t129) = some r := H
            have A46 := Az A460
            clear A460
            obtain rfl := Option.some.inj H
            go_wp2_with (first | ((with_reducible refine gate_callee (f := 37) rfl ?_); refine goesL_ (some 115) rfl rfl Try.func37 (by kernel_rfl) rfl #[.int .u64 a3, .int .i64 a6] rfl (by (try simp only [List.map_toArray, List.map_cons, List.map_nil]); first | done | rfl | (simp only [List.length_drop, List.length_take]; rfl)) ?_; (with_reducible refine (Pmxb.mix_Order.calls kj35 a3 a6 t120 t121 _ A41.out).mono ?_); rintro e w47 ⟨v122, rfl, ho0, hb⟩; refine ⟨_, rfl, ?_⟩; have n0_ := Az (Kd.R_lower ho0 (below_size (low HB))); have n1_ := Az (blk_below (g := gb101) (o := .cells #[.int .u64 a1_0, .int .u64 a1_1] 66 (0, 0)) of_lies hb); have n2_ := Az (blk_below (g := gb102) (o := .cells #[.int .u64 a2_0, .int .u64 a2_1] 66 (0, 0)) of_lies hb); have n3_ := Az (below_step (low HB) hb); clear BK101; clear BK102; clear HB; have HO123 := n0_; have BK101 := n1_; have BK102 := n2_; have HB := n3_; clear n0_ n1_ n2_ n3_; (try clear hb); (try clear hb2); (try clear hk); (try clear hi); (try clear ho0)) | ((with_reducible refine gate_callee (f := 46) rfl ?_); refine goesL_ (some 121) rfl rfl Try.func46 (by kernel_rfl) rfl #[.int .u64 a3, .int .i64 a6] rfl (by (try simp only [List.map_toArray, List.map_cons, List.map_nil]); first | done | rfl | (simp only [List.length_drop, List.length_take]; rfl)) ?_; (with_reducible refine (Pmxa.joustref27_Order.calls kj35 a3 a6 t124 t125 _ A42.out).mono ?_); rintro e w48 ⟨v126, rfl, ho0, hb⟩; refine ⟨_, rfl, ?_⟩; have n0_ := Az (Kd.R_elder' (by (with_reducible repeat (first | apply Kd.R_alloc | apply Kd.R_drewN | apply Kd.R_drew)); exact HO123.out) (Kd.R_base ho0) hb); have n1_ := Az (Kd.R_lower (Kd.R_new' ho0 (Kd.R_lt (by (with_reducible repeat (first | apply Kd.R_alloc | apply Kd.R_drewN | apply Kd.R_drew)); exact HO123.out))) (below_size (low HB))); have n2_ := Az (blk_below (g := gb101) (o := .cells #[.int .u64 a1_0, .int .u64 a1_1] 66 (0, 0)) of_lies hb); have n3_ := Az (blk_below (g := gb102) (o := .cells #[.int .u64 a2_0, .int .u64 a2_1] 66 (0, 0)) of_lies hb); have n4_ := Az (below_step (low HB) hb); clear HO123; clear BK101; clear BK102; clear HB; have HO123 := n0_; have HO127 := n1_; have BK101 := n2_; have BK102 := n3_; have HB := n4_; clear n0_ n1_ n2_ n3_ n4_; (try clear hb); (try clear hb2); (try clear hk); (try clear hi); (try clear ho0); obtain ⟨Ao49, co49, eo49⟩ := Kd.R_slice HO123.out; subst eo49; obtain ⟨Ao50, co50, eo50⟩ := Kd.R_slice HO127.out; subst eo50) | ((with_reducible refine gate_callee (f := 36) rfl ?_); refine goesL_ (some 126) rfl rfl Try.func36 (by kernel_rfl) rfl #[.slice Ao49 t120.length co49, .slice Ao50 t124.length co50] rfl (by (try simp only [List.map_toArray, List.map_cons, List.map_nil]); first | done | rfl | (simp only [List.length_drop, List.length_take]; rfl)) ?_; (with_reducible refine (Pmxa.joustref27_Ints.calls kj35 _ _ t120 _ _ t124 true _ ?side1 ?side2 ?side3 ?side4 A43.out).mono ?_); (case side1 => repeat (first | exact (Kd.R_reads' HO123.out).2.2 | (with_reducible refine Kd.C_alloc ?_ _) | (with_reducible refine Kd.C_drewN ?_ _) | (with_reducible refine Kd.C_drew ?_))); (case side2 => exact (Kd.R_reads' HO123.out).2.1); (case side3 => repeat (first | exact (Kd.R_reads' HO127.out).2.2 | (with_reducible refine Kd.C_alloc ?_ _) | (with_reducible refine Kd.C_drewN ?_ _) | (with_reducible refine Kd.C_drew ?_))); (case side4 => exact (Kd.R_reads' HO127.out).2.1); rintro e w' ⟨rfl, ⟨nd, rfl⟩⟩; refine ⟨_, rfl, ?_⟩) | (go_at_call 33; (with_reducible refine (Pmxl.joustlaw27_lives.calls kj35  t129 _ A46.out).mono ?_); rintro e w51 ⟨rfl, hb⟩; have n0_ := Az (Kd.R_below (by (with_reducible repeat (first | apply Kd.R_alloc | apply Kd.R_drewN | apply Kd.R_drew)); exact HO123.out) hb); have n1_ := Az (Kd.R_below (by (with_reducible repeat (first | apply Kd.R_alloc | apply Kd.R_drewN | apply Kd.R_drew)); exact HO127.out) hb); have n2_ := Az (blk_below (g := gb101) (o := .cells #[.int .u64 a1_0, .int .u64 a1_1] 66 (0, 0)) of_lies hb); have n3_ := Az (blk_below (g := gb102) (o := .cells #[.int .u64 a2_0, .int .u64 a2_1] 66 (0, 0)) of_lies hb); have n4_ := Az (below_step (low HB) hb); clear HO123; clear HO127; clear BK101; clear BK102; clear HB; have HO123 := n0_; have HO127 := n1_; have BK101 := n2_; have BK102 := n3_; have HB := n4_; clear n0_ n1_ n2_ n3_ n4_; (try clear hb); (try clear hb2); (try clear hk); (try clear hi)))
            go_ret
            exact ⟨by first | rfl | (simp [errW_none, errW_some] <;> rfl) | (simp [*, errW_none, errW_some] <;> rfl), low HB⟩
           ·
            rw [if_neg c45] at H
            have c45b0 : (t121 == t125) = false := beq_eq_false_iff_ne.mpr c45
            have c45b1 : (t121 != t125) = true := bne_iff_ne.mpr c45
            obtain rfl := Option.some.inj H
            go_wp2_with (first | ((with_reducible refine gate_callee (f := 37) rfl ?_); refine goesL_ (some 115) rfl rfl Try.func37 (by kernel_rfl) rfl #[.int .u64 a3, .int .i64 a6] rfl (by (try simp only [List.map_toArray, List.map_cons, List.map_nil]); first | done | rfl | (simp only [List.length_drop, List.length_take]; rfl)) ?_; (with_reducible refine (Pmxb.mix_Order.calls kj35 a3 a6 t120 t121 _ A41.out).mono ?_); rintro e w52 ⟨v122, rfl, ho0, hb⟩; refine ⟨_, rfl, ?_⟩; have n0_ := Az (Kd.R_lower ho0 (below_size (low HB))); have n1_ := Az (blk_below (g := gb101) (o := .cells #[.int .u64 a1_0, .int .u64 a1_1] 66 (0, 0)) of_lies hb); have n2_ := Az (blk_below (g := gb102) (o := .cells #[.int .u64 a2_0, .int .u64 a2_1] 66 (0, 0)) of_lies hb); have n3_ := Az (below_step (low HB) hb); clear BK101; clear BK102; clear HB; have HO123 := n0_; have BK101 := n1_; have BK102 := n2_; have HB := n3_; clear n0_ n1_ n2_ n3_; (try clear hb); (try clear hb2); (try clear hk); (try clear hi); (try clear ho0)) | ((with_reducible refine gate_callee (f := 46) rfl ?_); refine goesL_ (some 121) rfl rfl Try.func46 (by kernel_rfl) rfl #[.int .u64 a3, .int .i64 a6] rfl (by (try simp only [List.map_toArray, List.map_cons, List.map_nil]); first | done | rfl | (simp only [List.length_drop, List.length_take]; rfl)) ?_; (with_reducible refine (Pmxa.joustref27_Order.calls kj35 a3 a6 t124 t125 _ A42.out).mono ?_); rintro e w53 ⟨v126, rfl, ho0, hb⟩; refine ⟨_, rfl, ?_⟩; have n0_ := Az (Kd.R_elder' (by (with_reducible repeat (first | apply Kd.R_alloc | apply Kd.R_drewN | apply Kd.R_drew)); exact HO123.out) (Kd.R_base ho0) hb); have n1_ := Az (Kd.R_lower (Kd.R_new' ho0 (Kd.R_lt (by (with_reducible repeat (first | apply Kd.R_alloc | apply Kd.R_drewN | apply Kd.R_drew)); exact HO123.out))) (below_size (low HB))); have n2_ := Az (blk_below (g := gb101) (o := .cells #[.int .u64 a1_0, .int .u64 a1_1] 66 (0, 0)) of_lies hb); have n3_ := Az (blk_below (g := gb102) (o := .cells #[.int .u64 a2_0, .int .u64 a2_1] 66 (0, 0)) of_lies hb); have n4_ := Az (below_step (low HB) hb); clear HO123; clear BK101; clear BK102; clear HB; have HO123 := n0_; have HO127 := n1_; have BK101 := n2_; have BK102 := n3_; have HB := n4_; clear n0_ n1_ n2_ n3_ n4_; (try clear hb); (try clear hb2); (try clear hk); (try clear hi); (try clear ho0); obtain ⟨Ao54, co54, eo54⟩ := Kd.R_slice HO123.out; subst eo54; obtain ⟨Ao55, co55, eo55⟩ := Kd.R_slice HO127.out; subst eo55) | ((with_reducible refine gate_callee (f := 36) rfl ?_); refine goesL_ (some 126) rfl rfl Try.func36 (by kernel_rfl) rfl #[.slice Ao54 t120.length co54, .slice Ao55 t124.length co55] rfl (by (try simp only [List.map_toArray, List.map_cons, List.map_nil]); first | done | rfl | (simp only [List.length_drop, List.length_take]; rfl)) ?_; (with_reducible refine (Pmxa.joustref27_Ints.calls kj35 _ _ t120 _ _ t124 true _ ?side1 ?side2 ?side3 ?side4 A43.out).mono ?_); (case side1 => repeat (first | exact (Kd.R_reads' HO123.out).2.2 | (with_reducible refine Kd.C_alloc ?_ _) | (with_reducible refine Kd.C_drewN ?_ _) | (with_reducible refine Kd.C_drew ?_))); (case side2 => exact (Kd.R_reads' HO123.out).2.1); (case side3 => repeat (first | exact (Kd.R_reads' HO127.out).2.2 | (with_reducible refine Kd.C_alloc ?_ _) | (with_reducible refine Kd.C_drewN ?_ _) | (with_reducible refine Kd.C_drew ?_))); (case side4 => exact (Kd.R_reads' HO127.out).2.1); rintro e w' ⟨rfl, ⟨nd, rfl⟩⟩; refine ⟨_, rfl, ?_⟩))
            go_ret
            exact ⟨by first | rfl | (simp [errW_none, errW_some] <;> rfl) | (simp [*, errW_none, errW_some] <;> rfl), low HB⟩
          ·
           replace c44 := Bool.eq_false_iff.mpr c44
           subst c44
           have H1 : (some false) = some r := by rw [if_neg (show ¬ (false = true) by decide)] at H; exact H
           clear H
           have H := H1
           clear H1
           obtain rfl := Option.some.inj H
           go_wp2_with (first | ((with_reducible refine gate_callee (f := 37) rfl ?_); refine goesL_ (some 115) rfl rfl Try.func37 (by kernel_rfl) rfl #[.int .u64 a3, .int .i64 a6] rfl (by (try simp only [List.map_toArray, List.map_cons, List.map_nil]); first | done | rfl | (simp only [List.length_drop, List.length_take]; rfl)) ?_; (with_reducible refine (Pmxb.mix_Order.calls kj35 a3 a6 t120 t121 _ A41.out).mono ?_); rintro e w56 ⟨v122, rfl, ho0, hb⟩; refine ⟨_, rfl, ?_⟩; have n0_ := Az (Kd.R_lower ho0 (below_size (low HB))); have n1_ := Az (blk_below (g := gb101) (o := .cells #[.int .u64 a1_0, .int .u64 a1_1] 66 (0, 0)) of_lies hb); have n2_ := Az (blk_below (g := gb102) (o := .cells #[.int .u64 a2_0, .int .u64 a2_1] 66 (0, 0)) of_lies hb); have n3_ := Az (below_step (low HB) hb); clear BK101; clear BK102; clear HB; have HO123 := n0_; have BK101 := n1_; have BK102 := n2_; have HB := n3_; clear n0_ n1_ n2_ n3_; (try clear hb); (try clear hb2); (try clear hk); (try clear hi); (try clear ho0)) | ((with_reducible refine gate_callee (f := 46) rfl ?_); refine goesL_ (some 121) rfl rfl Try.func46 (by kernel_rfl) rfl #[.int .u64 a3, .int .i64 a6] rfl (by (try simp only [List.map_toArray, List.map_cons, List.map_nil]); first | done | rfl | (simp only [List.length_drop, List.length_take]; rfl)) ?_; (with_reducible refine (Pmxa.joustref27_Order.calls kj35 a3 a6 t124 t125 _ A42.out).mono ?_); rintro e w57 ⟨v126, rfl, ho0, hb⟩; refine ⟨_, rfl, ?_⟩; have n0_ := Az (Kd.R_elder' (by (with_reducible repeat (first | apply Kd.R_alloc | apply Kd.R_drewN | apply Kd.R_drew)); exact HO123.out) (Kd.R_base ho0) hb); have n1_ := Az (Kd.R_lower (Kd.R_new' ho0 (Kd.R_lt (by (with_reducible repeat (first | apply Kd.R_alloc | apply Kd.R_drewN | apply Kd.R_drew)); exact HO123.out))) (below_size (low HB))); have n2_ := Az (blk_below (g := gb101) (o := .cells #[.int .u64 a1_0, .int .u64 a1_1] 66 (0, 0)) of_lies hb); have n3_ := Az (blk_below (g := gb102) (o := .cells #[.int .u64 a2_0, .int .u64 a2_1] 66 (0, 0)) of_lies hb); have n4_ := Az (below_step (low HB) hb); clear HO123; clear BK101; clear BK102; clear HB; have HO123 := n0_; have HO127 := n1_; have BK101 := n2_; have BK102 := n3_; have HB := n4_; clear n0_ n1_ n2_ n3_ n4_; (try clear hb); (try clear hb2); (try clear hk); (try clear hi); (try clear ho0); obtain ⟨Ao58, co58, eo58⟩ := Kd.R_slice HO123.out; subst eo58; obtain ⟨Ao59, co59, eo59⟩ := Kd.R_slice HO127.out; subst eo59) | ((with_reducible refine gate_callee (f := 36) rfl ?_); refine goesL_ (some 126) rfl rfl Try.func36 (by kernel_rfl) rfl #[.slice Ao58 t120.length co58, .slice Ao59 t124.length co59] rfl (by (try simp only [List.map_toArray, List.map_cons, List.map_nil]); first | done | rfl | (simp only [List.length_drop, List.length_take]; rfl)) ?_; (with_reducible refine (Pmxa.joustref27_Ints.calls kj35 _ _ t120 _ _ t124 false _ ?side1 ?side2 ?side3 ?side4 A43.out).mono ?_); (case side1 => repeat (first | exact (Kd.R_reads' HO123.out).2.2 | (with_reducible refine Kd.C_alloc ?_ _) | (with_reducible refine Kd.C_drewN ?_ _) | (with_reducible refine Kd.C_drew ?_))); (case side2 => exact (Kd.R_reads' HO123.out).2.1); (case side3 => repeat (first | exact (Kd.R_reads' HO127.out).2.2 | (with_reducible refine Kd.C_alloc ?_ _) | (with_reducible refine Kd.C_drewN ?_ _) | (with_reducible refine Kd.C_drew ?_))); (case side4 => exact (Kd.R_reads' HO127.out).2.1); rintro e w' ⟨rfl, ⟨nd, rfl⟩⟩; refine ⟨_, rfl, ?_⟩))
           go_ret
           exact ⟨by first | rfl | (simp [errW_none, errW_some] <;> rfl) | (simp [*, errW_none, errW_some] <;> rfl), low HB⟩
end Go.Proofs.Ytnceobnglofnmaa.Pmxt
end
