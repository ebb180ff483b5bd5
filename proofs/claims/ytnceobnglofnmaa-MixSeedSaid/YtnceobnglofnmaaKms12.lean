/- Joined by a program of this session (pack.py) out of: Pmxsx0 Pmxsx1 -/
import Derived.ArgAppend
import Derived.Below
import Derived.BigQuiet
import Derived.Deep.AppendLies
import Derived.Deep.CutBlock
import Derived.Deep.DeepCutAuto
import Derived.Deep.Draws
import Derived.Deep.LoopGhost
import Derived.Deep.OwnRows
import Derived.Deep.QuietTactic
import Derived.Deep.RegionHeld3
import Derived.KernelRfl
import Derived.Laws.BitsLemmas
import Derived.Laws.BytesArg
import Derived.Laws.IdiomCopy
import Derived.Laws.MakeOwn
import Derived.Laws.OwnMore
import Derived.Laws.Rows
import Derived.Laws.Slices
import Derived.Lib.AppendStr
import Derived.Lib.ConvBytes
import Derived.Maps.AppendAt
import Derived.OrdersHeld
import Derived.OwnWalk
import Derived.RowKit
import Derived.RowKit3
import Derived.Tactics
import Derived.Test.YtnceobnglofnmaaProg
import Derived.WalkKit
import Derived.WideLaws
import Derived.Test.YtnceobnglofnmaaKms1
import Derived.Test.YtnceobnglofnmaaKms5
import Derived.Test.YtnceobnglofnmaaKms11
section
namespace Go.Proofs.Ytnceobnglofnmaa.Pmxs
open Go.RowKit Go.Proofs.Ytnceobnglofnmaa.Base Go.Proofs.YtnceobnglofnmaaW.PrintWords Go.Proofs.YtnceobnglofnmaaW.PrintLast Go.Proofs.YtnceobnglofnmaaW.PrintMore
attribute [local go_sem] max2_int min2_int max_two min_two max_three min_three max_four min_four   -- for this text's walks alone
set_option linter.unusedVariables false
set_option linter.unusedSimpArgs false
def errW : Option Int → Value
  | none => .nilIface
  | some c => .iface 0 (.int .i64 c)
theorem errW_none : errW none = .nilIface := rfl
theorem errW_some (c : Int) : errW (some c) = .iface 0 (.int .i64 c) := rfl
structure S66 where
  f0 : Int
  f1 : Int
def z66 : S66 := ⟨(0 : Int), (0 : Int)⟩
def k66 : Kd S66 := Kd.iso (Kd.pair (Kd.int .u64) (Kd.int .u64)) (fun x : S66 => (x.f0, x.f1))
theorem k66_open {w : World} {x : S66} {cs : List Value} (h : k66.K w x cs) : cs = [.int .u64 x.f0, .int .u64 x.f1] := by
  obtain ⟨_, _, rfl, rfl, rfl⟩ := h
  exact rfl
theorem k66_openM {w : World} {base : Nat} {ok : Nat → Prop} {x : S66} {cs : List Value} (h : k66.M w base ok x cs) : cs = [.int .u64 x.f0, .int .u64 x.f1] := by
  obtain ⟨_, _, rfl, rfl, rfl⟩ := h
  exact rfl
theorem k66_mk (w : World) (x : S66)  : k66.K w x [.int .u64 x.f0, .int .u64 x.f1] := ⟨[.int .u64 x.f0], [.int .u64 x.f1], rfl, rfl, rfl⟩
theorem k66_mkM (w : World) (base : Nat) (ok : Nat → Prop) (x : S66)  : k66.M w base ok x [.int .u64 x.f0, .int .u64 x.f1] := ⟨[.int .u64 x.f0], [.int .u64 x.f1], rfl, rfl, rfl⟩
def rd_T66 (xs : List S66) (i : Int) : S66 := xs.getD i.toNat z66
theorem at_T66 {w : World} {A : Option Addr} {n : Nat} {xs : List S66} (h : Kd.C k66 w A n xs) (i : Int) (h0 : 0 ≤ i) (h1 : i < n) : ∃ ad , A = some ad ∧ w.cell? (ad.add (i.toNat * 2)) = some (.int .u64 (rd_T66 xs i).f0) ∧ w.cell? ⟨(ad.add (i.toNat * 2)).block, (ad.add (i.toNat * 2)).off + 1, none⟩ = some (.int .u64 (rd_T66 xs i).f1) := by
  obtain ⟨ad, c, e, _, hK, hc0⟩ := Kd.C_get h z66 i h0 h1
  have hc : ∀ j u, c[j]? = some u → w.cell? (ad.add (i.toNat * 2 + j)) = some u := hc0
  obtain rfl := k66_open hK
  exact ⟨ad, e, hc 0 _ rfl, by rw [← add_field _ _ 1 (by omega)]; exact hc 1 _ rfl⟩
end Go.Proofs.Ytnceobnglofnmaa.Pmxs
end
section
namespace Go.Proofs.Ytnceobnglofnmaa.Pmxs
open Go.RowKit Go.Proofs.Ytnceobnglofnmaa.Base Go.Proofs.YtnceobnglofnmaaW.PrintWords Go.Proofs.YtnceobnglofnmaaW.PrintLast Go.Proofs.YtnceobnglofnmaaW.PrintMore
attribute [local go_sem] max2_int min2_int max_two min_two max_three min_three max_four min_four   -- for this text's walks alone
set_option linter.unusedVariables false
set_option linter.unusedSimpArgs false
mutual
def joustlaw27_MixSeed.j0 : Nat → Int → Int → Int → Bool → Int → Int → Option (Bool)
 | 0, _, _, _, _, _, _ => none
 | k + 1, x1, x5, x7, x35, x102000, x102001 => if x35 = true then (if x102000 = 0 then ((Pmxl.joustlaw27_lives.f k).bind fun t106 => (some t106)) else (if x102001 = 0 then ((Pmxl.joustlaw27_lives.f k).bind fun t107 => (some t107)) else (some false))) else ((Pmxa.mix_Seed.f k x5 x7 x102000 x102001).bind fun bt108 => (if x102000 = x102001 then (if bt108.2 = 2 then (if x5 = x7 then ((Pmxl.joustlaw27_lives.f k).bind fun t110 => (some t110)) else (some false)) else (some false)) else (if bt108.2 = 0 then (if x5 = x7 then (joustlaw27_MixSeed.j1 k x1 x5 x7 bt108.1 true x102000 x102001) else ((Pmxa.mix_Mix.f x102000).bind fun t111 => ((Pmxa.mix_Mix.f x102001).bind fun t112 => (joustlaw27_MixSeed.j1 k x1 x5 x7 bt108.1 (t111 == t112) x102000 x102001)))) else (joustlaw27_MixSeed.j1 k x1 x5 x7 bt108.1 true x102000 x102001))))
def joustlaw27_MixSeed.j1 : Nat → Int → Int → Int → Int → Bool → Int → Int → Option (Bool)
 | 0, _, _, _, _, _, _, _ => none
 | k + 1, x1, x5, x7, x9, x85, x102000, x102001 => if x85 = true then (some false) else ((Pmxa.mix_Seed.f k x7 x5 x102001 x102000).bind fun bt113 => ((Pmxa.mix_Seed.f k x5 x7 x102000 x102001).bind fun bt115 => ((Pmxa.mix_Seed.f k x5 x7 x102000 x1).bind fun bt117 => (if x1 = 0 then (if bt113.2 = 0 then (if bt115.2 = 0 then (if bt115.1 = x9 then (if bt117.2 = 2 then ((Pmxl.joustlaw27_lives.f k).bind fun t119 => (some t119)) else (some false)) else (some false)) else (some false)) else (some false)) else (if x1 = x102001 then (if bt113.2 = 0 then (if bt115.2 = 0 then (if bt115.1 = x9 then (if bt117.2 = 0 then ((Pmxl.joustlaw27_lives.f k).bind fun t120 => (some t120)) else (some false)) else (some false)) else (some false)) else (some false)) else (if bt113.2 = 0 then (if bt115.2 = 0 then (if bt115.1 = x9 then (if bt117.2 = 9 then ((Pmxl.joustlaw27_lives.f k).bind fun t121 => (some t121)) else (some false)) else (some false)) else (some false)) else (some false)))))))
end
def joustlaw27_MixSeed.f (k : Nat) (a0_0 : Int) (a0_1 : Int) (a1 : Int) : Option (Bool) := (Pmxa.mix_Commit.f a0_0).bind fun bt102 => ((Pmxa.mix_Commit.f a0_1).bind fun bt104 => (if bt102.2 = 0 then (joustlaw27_MixSeed.j0 k a1 bt102.1 bt104.1 (bt104.2 != 0) a0_0 a0_1) else (joustlaw27_MixSeed.j0 k a1 bt102.1 bt104.1 true a0_0 a0_1)))
theorem joustlaw27_MixSeed.mono_l : ∀ k, (∀ y0 y1 y2 y3 y4 y5, LeO (joustlaw27_MixSeed.j0 k y0 y1 y2 y3 y4 y5) (joustlaw27_MixSeed.j0 (k + 1) y0 y1 y2 y3 y4 y5)) ∧ (∀ y0 y1 y2 y3 y4 y5 y6, LeO (joustlaw27_MixSeed.j1 k y0 y1 y2 y3 y4 y5 y6) (joustlaw27_MixSeed.j1 (k + 1) y0 y1 y2 y3 y4 y5 y6))
 | 0 => ⟨fun _ _ _ _ _ _ r h => by simp [joustlaw27_MixSeed.j0] at h, fun _ _ _ _ _ _ _ r h => by simp [joustlaw27_MixSeed.j1] at h⟩
 | k + 1 => by
  obtain ⟨ih0, ih1⟩ := joustlaw27_MixSeed.mono_l k
  refine ⟨?_, ?_⟩
  ·
   intro y0 y1 y2 y3 y4 y5
   unfold joustlaw27_MixSeed.j0
   repeat' first
   | (with_reducible exact ih0 _ _ _ _ _ _)
   | (with_reducible exact ih1 _ _ _ _ _ _ _)
   | (with_reducible exact Pmxa.mix_Seed.mono _ _ _ _ _)
   | (with_reducible exact Pmxl.joustlaw27_lives.mono _)
   | (with_reducible exact LeO.refl _)
   | (with_reducible exact LeO.none _)
   | (with_reducible refine LeO.ite ?_ ?_)
   | (with_reducible refine LeO.bind ?_ (fun _ => ?_))
   | exact ih0 _ _ _ _ _ _
   | exact ih1 _ _ _ _ _ _ _
   | exact Pmxa.mix_Seed.mono _ _ _ _ _
   | exact Pmxl.joustlaw27_lives.mono _
   | exact LeO.none _
   | refine LeO.ite ?_ ?_
   | refine LeO.bind ?_ (fun _ => ?_)
  ·
   intro y0 y1 y2 y3 y4 y5 y6
   unfold joustlaw27_MixSeed.j1
   repeat' first
   | (with_reducible exact ih0 _ _ _ _ _ _)
   | (with_reducible exact ih1 _ _ _ _ _ _ _)
   | (with_reducible exact Pmxa.mix_Seed.mono _ _ _ _ _)
   | (with_reducible exact Pmxl.joustlaw27_lives.mono _)
   | (with_reducible exact LeO.refl _)
   | (with_reducible exact LeO.none _)
   | (with_reducible refine LeO.ite ?_ ?_)
   | (with_reducible refine LeO.bind ?_ (fun _ => ?_))
   | exact ih0 _ _ _ _ _ _
   | exact ih1 _ _ _ _ _ _ _
   | exact Pmxa.mix_Seed.mono _ _ _ _ _
   | exact Pmxl.joustlaw27_lives.mono _
   | exact LeO.none _
   | refine LeO.ite ?_ ?_
   | refine LeO.bind ?_ (fun _ => ?_)
theorem joustlaw27_MixSeed.mono : ∀ a0 a1 a2 k, LeO (joustlaw27_MixSeed.f k a0 a1 a2) (joustlaw27_MixSeed.f (k + 1) a0 a1 a2) := by
 intro a0 a1 a2 k
 obtain ⟨ih0, ih1⟩ := joustlaw27_MixSeed.mono_l k
 unfold joustlaw27_MixSeed.f
 repeat' first
   | (with_reducible exact ih0 _ _ _ _ _ _)
   | (with_reducible exact ih1 _ _ _ _ _ _ _)
   | (with_reducible exact Pmxa.mix_Seed.mono _ _ _ _ _)
   | (with_reducible exact Pmxl.joustlaw27_lives.mono _)
   | (with_reducible exact LeO.refl _)
   | (with_reducible exact LeO.none _)
   | (with_reducible refine LeO.ite ?_ ?_)
   | (with_reducible refine LeO.bind ?_ (fun _ => ?_))
   | exact ih0 _ _ _ _ _ _
   | exact ih1 _ _ _ _ _ _ _
   | exact Pmxa.mix_Seed.mono _ _ _ _ _
   | exact Pmxl.joustlaw27_lives.mono _
   | exact LeO.none _
   | refine LeO.ite ?_ ?_
   | refine LeO.bind ?_ (fun _ => ?_)
set_option maxHeartbeats 8000000 in
set_option maxRecDepth 100000 in
theorem joustlaw27_MixSeed.calls (k : Nat) (a0_0 : Int) (a0_1 : Int) (a1 : Int) (r : Bool) (w : World) (h : joustlaw27_MixSeed.f k a0_0 a0_1 a1 = some r) :
  Calls Try.prog 11 #[.agg #[.int .u64 a0_0, .int .u64 a0_1], .int .u64 a1] w fun e w' => e = .returned (.bool r) ∧ Below w.heap.size w w' := by
 have hu66 := Try.underlying66
 have HB := Az (Below.refl w.heap.size w)
 have H : ((Pmxa.mix_Commit.f a0_0).bind fun bt102 => ((Pmxa.mix_Commit.f a0_1).bind fun bt104 => (if bt102.2 = 0 then (joustlaw27_MixSeed.j0 k a1 bt102.1 bt104.1 (bt104.2 != 0) a0_0 a0_1) else (joustlaw27_MixSeed.j0 k a1 bt102.1 bt104.1 true a0_0 a0_1)))) = some r := h
 clear h
 replace H := Option.bind_eq_some_iff.mp H
 obtain ⟨⟨t102, t103⟩, A30, H⟩ := H
 replace H : ((Pmxa.mix_Commit.f a0_1).bind fun bt104 => (if t103 = 0 then (joustlaw27_MixSeed.j0 k a1 t102 bt104.1 (bt104.2 != 0) a0_0 a0_1) else (joustlaw27_MixSeed.j0 k a1 t102 bt104.1 true a0_0 a0_1))) = some r := H
 have A3 := Az A30
 clear A30
 replace H := Option.bind_eq_some_iff.mp H
 obtain ⟨⟨t104, t105⟩, A40, H⟩ := H
 replace H : (if t103 = 0 then (joustlaw27_MixSeed.j0 k a1 t102 t104 (t105 != 0) a0_0 a0_1) else (joustlaw27_MixSeed.j0 k a1 t102 t104 true a0_0 a0_1)) = some r := H
 have A4 := Az A40
 clear A40
 have HC5 := Az H
 clear H
 go_enter Try.func11, Try.ntmps11
 go_upto_region 3 with (first | ((with_reducible refine gate_dst (N := 2) rfl ?_); refine box_event ?hg (N := 2) ?hd (cs := #[.int .u64 a0_0, .int .u64 a0_1]) (t := 66) ?hr ?_; (case hd => rfl); (case hg => rfl); (case hr => first | (go_simp; done) | (go_simp; rfl)); intro gb101 hg w6 hbox hb; have n0_ := Az (below_step (low HB) hb); have n1_ := Az (hbox); have n2_ := Az ((by rw [hg]; exact (below_size (low HB)) : w.heap.size ≤ gb101)); have n3_ := Az ((by rw [hg]; exact (below_size (low HB)) : w.heap.size ≤ gb101)); clear HB; have HB := n0_; have BK101 := n1_; have GW101 := n2_; have GE101 := n3_; clear n0_ n1_ n2_ n3_; clear hb hbox hg; obtain ⟨hcz7_0, hcz7_1, hfz7_0, hfz7_1⟩ := cells2 BK101.out) | (go_at_call 39; (with_reducible refine (Pmxa.mix_Commit.calls a0_0 t102 t103 _ A3.out).mono ?_); rintro e w' ⟨rfl, ⟨nd, rfl⟩⟩; (try first | exact ⟨rfl, _, World.drewN_drewN _ _ _⟩ | exact ⟨rfl, _, Eq.trans (World.drewN_drewN _ _ _) (congrArg (World.drewN _) (Nat.add_assoc _ _ _))⟩)) | (go_at_call 39; (with_reducible refine (Pmxa.mix_Commit.calls a0_1 t104 t105 _ A4.out).mono ?_); rintro e w' ⟨rfl, ⟨nd, rfl⟩⟩; (try first | exact ⟨rfl, _, World.drewN_drewN _ _ _⟩ | exact ⟨rfl, _, Eq.trans (World.drewN_drewN _ _ _) (congrArg (World.drewN _) (Nat.add_assoc _ _ _))⟩)))
 repeat (go_quiet (first | ((with_reducible refine gate_dst (N := 2) rfl ?_); refine box_event ?hg (N := 2) ?hd (cs := #[.int .u64 a0_0, .int .u64 a0_1]) (t := 66) ?hr ?_; (case hd => rfl); (case hg => rfl); (case hr => first | (go_simp; done) | (go_simp; rfl)); intro gb101 hg w6 hbox hb; have n0_ := Az (below_step (low HB) hb); have n1_ := Az (hbox); have n2_ := Az ((by rw [hg]; exact (below_size (low HB)) : w.heap.size ≤ gb101)); have n3_ := Az ((by rw [hg]; exact (below_size (low HB)) : w.heap.size ≤ gb101)); clear HB; have HB := n0_; have BK101 := n1_; have GW101 := n2_; have GE101 := n3_; clear n0_ n1_ n2_ n3_; clear hb hbox hg; obtain ⟨hcz7_0, hcz7_1, hfz7_0, hfz7_1⟩ := cells2 BK101.out) | (go_at_call 39; (with_reducible refine (Pmxa.mix_Commit.calls a0_0 t102 t103 _ A3.out).mono ?_); rintro e w' ⟨rfl, ⟨nd, rfl⟩⟩; (try first | exact ⟨rfl, _, World.drewN_drewN _ _ _⟩ | exact ⟨rfl, _, Eq.trans (World.drewN_drewN _ _ _) (congrArg (World.drewN _) (Nat.add_assoc _ _ _))⟩)) | (go_at_call 39; (with_reducible refine (Pmxa.mix_Commit.calls a0_1 t104 t105 _ A4.out).mono ?_); rintro e w' ⟨rfl, ⟨nd, rfl⟩⟩; (try first | exact ⟨rfl, _, World.drewN_drewN _ _ _⟩ | exact ⟨rfl, _, Eq.trans (World.drewN_drewN _ _ _) (congrArg (World.drewN _) (Nat.add_assoc _ _ _))⟩))); go_upto_region 3 with (first | ((with_reducible refine gate_dst (N := 2) rfl ?_); refine box_event ?hg (N := 2) ?hd (cs := #[.int .u64 a0_0, .int .u64 a0_1]) (t := 66) ?hr ?_; (case hd => rfl); (case hg => rfl); (case hr => first | (go_simp; done) | (go_simp; rfl)); intro gb101 hg w6 hbox hb; have n0_ := Az (below_step (low HB) hb); have n1_ := Az (hbox); have n2_ := Az ((by rw [hg]; exact (below_size (low HB)) : w.heap.size ≤ gb101)); have n3_ := Az ((by rw [hg]; exact (below_size (low HB)) : w.heap.size ≤ gb101)); clear HB; have HB := n0_; have BK101 := n1_; have GW101 := n2_; have GE101 := n3_; clear n0_ n1_ n2_ n3_; clear hb hbox hg; obtain ⟨hcz7_0, hcz7_1, hfz7_0, hfz7_1⟩ := cells2 BK101.out) | (go_at_call 39; (with_reducible refine (Pmxa.mix_Commit.calls a0_0 t102 t103 _ A3.out).mono ?_); rintro e w' ⟨rfl, ⟨nd, rfl⟩⟩; (try first | exact ⟨rfl, _, World.drewN_drewN _ _ _⟩ | exact ⟨rfl, _, Eq.trans (World.drewN_drewN _ _ _) (congrArg (World.drewN _) (Nat.add_assoc _ _ _))⟩)) | (go_at_call 39; (with_reducible refine (Pmxa.mix_Commit.calls a0_1 t104 t105 _ A4.out).mono ?_); rintro e w' ⟨rfl, ⟨nd, rfl⟩⟩; (try first | exact ⟨rfl, _, World.drewN_drewN _ _ _⟩ | exact ⟨rfl, _, Eq.trans (World.drewN_drewN _ _ _) (congrArg (World.drewN _) (Nat.add_assoc _ _ _))⟩))))
 (try simp only [Act.put, List.setIfInBounds_toArray, List.set_cons_zero, List.set_cons_succ])
 go_cut [35] (fun v35 wc => ∃ (kq : Nat) (x35_4 : Bool), v35 = .bool x35_4 ∧ Aside0 (joustlaw27_MixSeed.j0 kq a1 t102 t104 x35_4 a0_0 a0_1 = some r) ∧ Aside0 (kq ≤ k) ∧ Aside0 (wc.heap[gb101]? = some (.cells #[.int .u64 a0_0, .int .u64 a0_1] 66 (0, 0))) ∧ Aside0 (Below w.heap.size w wc))
 case first =>
  have H := HC5.out
  clear HC5
  by_cases c8 : t103 = 0
  ·
   rw [if_pos c8] at H
   have c8b0 : (t103 == 0) = true := beq_iff_eq.mpr c8
   have c8b1 : (t103 != 0) = false := bne_eq_false_iff_eq.mpr c8
   clear c8
   (first | rw [c8b0] | (simp only [i64_w, i32_w]; rw [c8b0]) | skip)
   have H' := Az H
   clear H
   go_wp2
   repeat (go_quiet (fail); try go_wp2)
   go_meet
   case rel => exact ⟨_, ((t105 != 0)), (by first | rfl | (simp; done) | (simp [*]; done)), H', ⟨by first | omega | exact Nat.le_refl _⟩, ⟨of_lies⟩, ⟨low HB⟩⟩
  ·
   rw [if_neg c8] at H
   have c8b0 : (t103 == 0) = false := beq_eq_false_iff_ne.mpr c8
   have c8b1 : (t103 != 0) = true := bne_iff_ne.mpr c8
   (first | rw [c8b0] | (simp only [i64_w, i32_w]; rw [c8b0]) | skip)
   have H' := Az H
   clear H
   go_wp2
   repeat (go_quiet (fail); try go_wp2)
   go_meet
   case rel => exact ⟨_, (true), (by first | rfl | (simp; done) | (simp [*]; done)), H', ⟨by first | omega | exact Nat.le_refl _⟩, ⟨of_lies⟩, ⟨low HB⟩⟩
 case rest =>
  clear HC5
  try clear c1
  try clear p2
  try clear c8
  try clear c8b0
  try clear c8b1
  try clear hcz7_0
  try clear hcz7_1
  try clear hfz7_0
  try clear hfz7_1
  obtain ⟨kq, x35_4, rfl, HA, HJ4, BK101, HB⟩ := hcut
  cases kq with
  | zero => exact absurd HA.out (by simp [joustlaw27_MixSeed.j0])
  | succ kj4 =>
   have H := HA.out
   clear HA
   simp only [joustlaw27_MixSeed.j0] at H
   by_cases c9 : x35_4 = true
   ·
    subst c9
    have H1 : (if a0_0 = 0 then ((Pmxl.joustlaw27_lives.f kj4).bind fun t106 => (some t106)) else (if a0_1 = 0 then ((Pmxl.joustlaw27_lives.f kj4).bind fun t107 => (some t107)) else (some false))) = some r := by rw [if_pos rfl] at H; exact H
    clear H
    have H := H1
    clear H1
    by_cases c10 : a0_0 = 0
    ·
     rw [if_pos c10] at H
     have c10b0 : (a0_0 == 0) = true := beq_iff_eq.mpr c10
     have c10b1 : (a0_0 != 0) = false := bne_eq_false_iff_eq.mpr c10
     clear c10
     replace H := Option.bind_eq_some_iff.mp H
     obtain ⟨t106, A110, H⟩ := H
     replace H : (some t106) = some r := H
     have A11 := Az A110
     clear A110
     obtain rfl := Option.some.inj H
     have hcz12_0 : wc.cell? ⟨gb101, 0, none⟩ = some (.int .u64 a0_0) := (blk_cell BK101.out 0).trans rfl
     have hcz12_1 : wc.cell? ⟨gb101, 1, none⟩ = some (.int .u64 a0_1) := (blk_cell BK101.out 1).trans rfl
     have hfz12_0 := blk_frozen BK101.out 0
     have hfz12_1 := blk_frozen BK101.out 1
     go_wp2_with (first | (go_at_call 33; (with_reducible refine (Pmxl.joustlaw27_lives.calls kj4  t106 _ A11.out).mono ?_); rintro e w13 ⟨rfl, hb⟩; have n0_ := Az (blk_below (g := gb101) (o := .cells #[.int .u64 a0_0, .int .u64 a0_1] 66 (0, 0)) of_lies hb); have n1_ := Az (below_step (low HB) hb); clear BK101; clear HB; have BK101 := n0_; have HB := n1_; clear n0_ n1_; (try clear hb); (try clear hb2); (try clear hk); (try clear hi)))
     repeat (go_quiet (first | (go_at_call 33; (with_reducible refine (Pmxl.joustlaw27_lives.calls kj4  t106 _ A11.out).mono ?_); rintro e w13 ⟨rfl, hb⟩; have n0_ := Az (blk_below (g := gb101) (o := .cells #[.int .u64 a0_0, .int .u64 a0_1] 66 (0, 0)) of_lies hb); have n1_ := Az (below_step (low HB) hb); clear BK101; clear HB; have BK101 := n0_; have HB := n1_; clear n0_ n1_; (try clear hb); (try clear hb2); (try clear hk); (try clear hi))); try go_wp2_with (first | (go_at_call 33; (with_reducible refine (Pmxl.joustlaw27_lives.calls kj4  t106 _ A11.out).mono ?_); rintro e w13 ⟨rfl, hb⟩; have n0_ := Az (blk_below (g := gb101) (o := .cells #[.int .u64 a0_0, .int .u64 a0_1] 66 (0, 0)) of_lies hb); have n1_ := Az (below_step (low HB) hb); clear BK101; clear HB; have BK101 := n0_; have HB := n1_; clear n0_ n1_; (try clear hb); (try clear hb2); (try clear hk); (try clear hi))))
     go_ret
     exact ⟨by first | rfl | (simp [errW_none, errW_some] <;> rfl) | (simp [*, errW_none, errW_some] <;> rfl), low HB⟩
    ·
     rw [if_neg c10] at H
     have c10b0 : (a0_0 == 0) = false := beq_eq_false_iff_ne.mpr c10
     have c10b1 : (a0_0 != 0) = true := bne_iff_ne.mpr c10
     by_cases c14 : a0_1 = 0
     ·
      rw [if_pos c14] at H
      have c14b0 : (a0_1 == 0) = true := beq_iff_eq.mpr c14
      have c14b1 : (a0_1 != 0) = false := bne_eq_false_iff_eq.mpr c14
      clear c14
      replace H := Option.bind_eq_some_iff.mp H
      obtain ⟨t107, A150, H⟩ := H
      replace H : (some t107) = some r := H
      have A15 := Az A150
      clear A150
      obtain rfl := Option.some.inj H
      have hcz16_0 : wc.cell? ⟨gb101, 0, none⟩ = some (.int .u64 a0_0) := (blk_cell BK101.out 0).trans rfl
      have hcz16_1 : wc.cell? ⟨gb101, 1, none⟩ = some (.int .u64 a0_1) := (blk_cell BK101.out 1).trans rfl
      have hfz16_0 := blk_frozen BK101.out 0
      have hfz16_1 := blk_frozen BK101.out 1
      go_wp2_with (first | (go_at_call 33; (with_reducible refine (Pmxl.joustlaw27_lives.calls kj4  t107 _ A15.out).mono ?_); rintro e w17 ⟨rfl, hb⟩; have n0_ := Az (blk_below (g := gb101) (o := .cells #[.int .u64 a0_0, .int .u64 a0_1] 66 (0, 0)) of_lies hb); have n1_ := Az (below_step (low HB) hb); clear BK101; clear HB; have BK101 := n0_; have HB := n1_; clear n0_ n1_; (try clear hb); (try clear hb2); (try clear hk); (try clear hi)))
      repeat (go_quiet (first | (go_at_call 33; (with_reducible refine (Pmxl.joustlaw27_lives.calls kj4  t107 _ A15.out).mono ?_); rintro e w17 ⟨rfl, hb⟩; have n0_ := Az (blk_below (g := gb101) (o := .cells #[.int .u64 a0_0, .int .u64 a0_1] 66 (0, 0)) of_lies hb); have n1_ := Az (below_step (low HB) hb); clear BK101; clear HB; have BK101 := n0_; have HB := n1_; clear n0_ n1_; (try clear hb); (try clear hb2); (try clear hk); (try clear hi))); try go_wp2_with (first | (go_at_call 33; (with_reducible refine (Pmxl.joustlaw27_lives.calls kj4  t107 _ A15.out).mono ?_); rintro e w17 ⟨rfl, hb⟩; have n0_ := Az (blk_below (g := gb101) (o := .cells #[.int .u64 a0_0, .int .u64 a0_1] 66 (0, 0)) of_lies hb); have n1_ := Az (below_step (low HB) hb); clear BK101; clear HB; have BK101 := n0_; have HB := n1_; clear n0_ n1_; (try clear hb); (try clear hb2); (try clear hk); (try clear hi))))
      go_ret
      exact ⟨by first | rfl | (simp [errW_none, errW_some] <;> rfl) | (simp [*, errW_none, errW_some] <;> rfl), low HB⟩
     ·
      rw [if_neg c14] at H
      have c14b0 : (a0_1 == 0) = false := beq_eq_false_iff_ne.mpr c14
      have c14b1 : (a0_1 != 0) = true := bne_iff_ne.mpr c14
      obtain rfl := Option.some.inj H
      have hcz18_0 : wc.cell? ⟨gb101, 0, none⟩ = some (.int .u64 a0_0) := (blk_cell BK101.out 0).trans rfl
      have hcz18_1 : wc.cell? ⟨gb101, 1, none⟩ = some (.int .u64 a0_1) := (blk_cell BK101.out 1).trans rfl
      have hfz18_0 := blk_frozen BK101.out 0
      have hfz18_1 := blk_frozen BK101.out 1
      go_wp2
      repeat (go_quiet (fail); try go_wp2)
      go_ret
      exact ⟨by first | rfl | (simp [errW_none, errW_some] <;> rfl) | (simp [*, errW_none, errW_some] <;> rfl), low HB⟩
   ·
    replace c9 := Bool.eq_false_iff.mpr c9
    subst c9
    have H1 : ((Pmxa.mix_Seed.f kj4 t102 t104 a0_0 a0_1).bind fun bt108 => (if a0_0 = a0_1 then (if bt108.2 = 2 then (if t102 = t104 then ((Pmxl.joustlaw27_lives.f kj4).bind fun t110 => (some t110)) else (some false)) else (some false)) else (if bt108.2 = 0 then (if t102 = t104 then (joustlaw27_MixSeed.j1 kj4 a1 t102 t104 bt108.1 true a0_0 a0_1) else ((Pmxa.mix_Mix.f a0_0).bind fun t111 => ((Pmxa.mix_Mix.f a0_1).bind fun t112 => (joustlaw27_MixSeed.j1 kj4 a1 t102 t104 bt108.1 (t111 == t112) a0_0 a0_1)))) else (joustlaw27_MixSeed.j1 kj4 a1 t102 t104 bt108.1 true a0_0 a0_1)))) = some r := by rw [if_neg (show ¬ (false = true) by decide)] at H; exact H
    clear H
    have H := H1
    clear H1
    replace H := Option.bind_eq_some_iff.mp H
    obtain ⟨⟨t108, t109⟩, A190, H⟩ := H
    replace H : (if a0_0 = a0_1 then (if t109 = 2 then (if t102 = t104 then ((Pmxl.joustlaw27_lives.f kj4).bind fun t110 => (some t110)) else (some false)) else (some false)) else (if t109 = 0 then (if t102 = t104 then (joustlaw27_MixSeed.j1 kj4 a1 t102 t104 t108 true a0_0 a0_1) else ((Pmxa.mix_Mix.f a0_0).bind fun t111 => ((Pmxa.mix_Mix.f a0_1).bind fun t112 => (joustlaw27_MixSeed.j1 kj4 a1 t102 t104 t108 (t111 == t112) a0_0 a0_1)))) else (joustlaw27_MixSeed.j1 kj4 a1 t102 t104 t108 true a0_0 a0_1))) = some r := H
    have A19 := Az A190
    clear A190
    by_cases c20 : a0_0 = a0_1
    ·
     rw [if_pos c20] at H
     have c20b0 : (a0_0 == a0_1) = true := beq_iff_eq.mpr c20
     have c20b1 : (a0_0 != a0_1) = false := bne_eq_false_iff_eq.mpr c20
     clear c20
     by_cases c21 : t109 = 2
     ·
      rw [if_pos c21] at H
      have c21b0 : (t109 == 2) = true := beq_iff_eq.mpr c21
      have c21b1 : (t109 != 2) = false := bne_eq_false_iff_eq.mpr c21
      clear c21
      by_cases c22 : t102 = t104
      ·
       rw [if_pos c22] at H
       have c22b0 : (t102 == t104) = true := beq_iff_eq.mpr c22
       have c22b1 : (t102 != t104) = false := bne_eq_false_iff_eq.mpr c22
       clear c22
       replace H := Option.bind_eq_some_iff.mp H
       obtain ⟨t110, A230, H⟩ := H
       replace H : (some t110) = some r := H
       have A23 := Az A230
       clear A230
       obtain rfl := Option.some.inj H
       have hcz24_0 : wc.cell? ⟨gb101, 0, none⟩ = some (.int .u64 a0_0) := (blk_cell BK101.out 0).trans rfl
       have hcz24_1 : wc.cell? ⟨gb101, 1, none⟩ = some (.int .u64 a0_1) := (blk_cell BK101.out 1).trans rfl
       have hfz24_0 := blk_frozen BK101.out 0
       have hfz24_1 := blk_frozen BK101.out 1
       go_wp2_with (first | (go_at_call 41; (with_reducible refine (Pmxa.mix_Seed.calls kj4 t102 t104 a0_0 a0_1 t108 t109 _ A19.out).mono ?_); rintro e w25 ⟨rfl, hb⟩; have n0_ := Az (blk_below (g := gb101) (o := .cells #[.int .u64 a0_0, .int .u64 a0_1] 66 (0, 0)) of_lies hb); have n1_ := Az (below_step (low HB) hb); clear BK101; clear HB; have BK101 := n0_; have HB := n1_; clear n0_ n1_; (try clear hb); (try clear hb2); (try clear hk); (try clear hi); obtain ⟨hcz26_0, hcz26_1, hfz26_0, hfz26_1⟩ := cells2 BK101.out) | (go_at_call 33; (with_reducible refine (Pmxl.joustlaw27_lives.calls kj4  t110 _ A23.out).mono ?_); rintro e w27 ⟨rfl, hb⟩; have n0_ := Az (blk_below (g := gb101) (o := .cells #[.int .u64 a0_0, .int .u64 a0_1] 66 (0, 0)) of_lies hb); have n1_ := Az (below_step (low HB) hb); clear BK101; clear HB; have BK101 := n0_; have HB := n1_; clear n0_ n1_; (try clear hb); (try clear hb2); (try clear hk); (try clear hi)))
       repeat (go_quiet (first | (go_at_call 41; (with_reducible refine (Pmxa.mix_Seed.calls kj4 t102 t104 a0_0 a0_1 t108 t109 _ A19.out).mono ?_); rintro e w25 ⟨rfl, hb⟩; have n0_ := Az (blk_below (g := gb101) (o := .cells #[.int .u64 a0_0, .int .u64 a0_1] 66 (0, 0)) of_lies hb); have n1_ := Az (below_step (low HB) hb); clear BK101; clear HB; have BK101 := n0_; have HB := n1_; clear n0_ n1_; (try clear hb); (try clear hb2); (try clear hk); (try clear hi); obtain ⟨hcz26_0, hcz26_1, hfz26_0, hfz26_1⟩ := cells2 BK101.out) | (go_at_call 33; (with_reducible refine (Pmxl.joustlaw27_lives.calls kj4  t110 _ A23.out).mono ?_); rintro e w27 ⟨rfl, hb⟩; have n0_ := Az (blk_below (g := gb101) (o := .cells #[.int .u64 a0_0, .int .u64 a0_1] 66 (0, 0)) of_lies hb); have n1_ := Az (below_step (low HB) hb); clear BK101; clear HB; have BK101 := n0_; have HB := n1_; clear n0_ n1_; (try clear hb); (try clear hb2); (try clear hk); (try clear hi))); try go_wp2_with (first | (go_at_call 41; (with_reducible refine (Pmxa.mix_Seed.calls kj4 t102 t104 a0_0 a0_1 t108 t109 _ A19.out).mono ?_); rintro e w25 ⟨rfl, hb⟩; have n0_ := Az (blk_below (g := gb101) (o := .cells #[.int .u64 a0_0, .int .u64 a0_1] 66 (0, 0)) of_lies hb); have n1_ := Az (below_step (low HB) hb); clear BK101; clear HB; have BK101 := n0_; have HB := n1_; clear n0_ n1_; (try clear hb); (try clear hb2); (try clear hk); (try clear hi); obtain ⟨hcz26_0, hcz26_1, hfz26_0, hfz26_1⟩ := cells2 BK101.out) | (go_at_call 33; (with_reducible refine (Pmxl.joustlaw27_lives.calls kj4  t110 _ A23.out).mono ?_); rintro e w27 ⟨rfl, hb⟩; have n0_ := Az (blk_below (g := gb101) (o := .cells #[.int .u64 a0_0, .int .u64 a0_1] 66 (0, 0)) of_lies hb); have n1_ := Az (below_step (low HB) hb); clear BK101; clear HB; have BK101 := n0_; have HB := n1_; clear n0_ n1_; (try clear hb); (try clear hb2); (try clear hk); (try clear hi))))
       go_ret
       exact ⟨by first | rfl | (simp [errW_none, errW_some] <;> rfl) | (simp [*, errW_none, errW_some] <;> rfl), low HB⟩
      ·
       rw [if_neg c22] at H
       have c22b0 : (t102 == t104) = false := beq_eq_false_iff_ne.mpr c22
       have c22b1 : (t102 != t104) = true := bne_iff_ne.mpr c22
       obtain rfl := Option.some.inj H
       have hcz28_0 : wc.cell? ⟨gb101, 0, none⟩ = some (.int .u64 a0_0) := (blk_cell BK101.out 0).trans rfl
       have hcz28_1 : wc.cell? ⟨gb101, 1, none⟩ = some (.int .u64 a0_1) := (blk_cell BK101.out 1).trans rfl
       have hfz28_0 := blk_frozen BK101.out 0
       have hfz28_1 := blk_frozen BK101.out 1
       go_wp2_with (first | (go_at_call 41; (with_reducible refine (Pmxa.mix_Seed.calls kj4 t102 t104 a0_0 a0_1 t108 t109 _ A19.out).mono ?_); rintro e w29 ⟨rfl, hb⟩; have n0_ := Az (blk_below (g := gb101) (o := .cells #[.int .u64 a0_0, .int .u64 a0_1] 66 (0, 0)) of_lies hb); have n1_ := Az (below_step (low HB) hb); clear BK101; clear HB; have BK101 := n0_; have HB := n1_; clear n0_ n1_; (try clear hb); (try clear hb2); (try clear hk); (try clear hi); obtain ⟨hcz30_0, hcz30_1, hfz30_0, hfz30_1⟩ := cells2 BK101.out))
       repeat (go_quiet (first | (go_at_call 41; (with_reducible refine (Pmxa.mix_Seed.calls kj4 t102 t104 a0_0 a0_1 t108 t109 _ A19.out).mono ?_); rintro e w29 ⟨rfl, hb⟩; have n0_ := Az (blk_below (g := gb101) (o := .cells #[.int .u64 a0_0, .int .u64 a0_1] 66 (0, 0)) of_lies hb); have n1_ := Az (below_step (low HB) hb); clear BK101; clear HB; have BK101 := n0_; have HB := n1_; clear n0_ n1_; (try clear hb); (try clear hb2); (try clear hk); (try clear hi); obtain ⟨hcz30_0, hcz30_1, hfz30_0, hfz30_1⟩ := cells2 BK101.out)); try go_wp2_with (first | (go_at_call 41; (with_reducible refine (Pmxa.mix_Seed.calls kj4 t102 t104 a0_0 a0_1 t108 t109 _ A19.out).mono ?_); rintro e w29 ⟨rfl, hb⟩; have n0_ := Az (blk_below (g := gb101) (o := .cells #[.int .u64 a0_0, .int .u64 a0_1] 66 (0, 0)) of_lies hb); have n1_ := Az (below_step (low HB) hb); clear BK101; clear HB; have BK101 := n0_; have HB := n1_; clear n0_ n1_; (try clear hb); (try clear hb2); (try clear hk); (try clear hi); obtain ⟨hcz30_0, hcz30_1, hfz30_0, hfz30_1⟩ := cells2 BK101.out)))
       go_ret
       exact ⟨by first | rfl | (simp [errW_none, errW_some] <;> rfl) | (simp [*, errW_none, errW_some] <;> rfl), low HB⟩
     ·
      rw [if_neg c21] at H
      have c21b0 : (t109 == 2) = false := beq_eq_false_iff_ne.mpr c21
      have c21b1 : (t109 != 2) = true := bne_iff_ne.mpr c21
      obtain rfl := Option.some.inj H
      have hcz31_0 : wc.cell? ⟨gb101, 0, none⟩ = some (.int .u64 a0_0) := (blk_cell BK101.out 0).trans rfl
      have hcz31_1 : wc.cell? ⟨gb101, 1, none⟩ = some (.int .u64 a0_1) := (blk_cell BK101.out 1).trans rfl
      have hfz31_0 := blk_frozen BK101.out 0
      have hfz31_1 := blk_frozen BK101.out 1
      go_wp2_with (first | (go_at_call 41; (with_reducible refine (Pmxa.mix_Seed.calls kj4 t102 t104 a0_0 a0_1 t108 t109 _ A19.out).mono ?_); rintro e w32 ⟨rfl, hb⟩; have n0_ := Az (blk_below (g := gb101) (o := .cells #[.int .u64 a0_0, .int .u64 a0_1] 66 (0, 0)) of_lies hb); have n1_ := Az (below_step (low HB) hb); clear BK101; clear HB; have BK101 := n0_; have HB := n1_; clear n0_ n1_; (try clear hb); (try clear hb2); (try clear hk); (try clear hi); obtain ⟨hcz33_0, hcz33_1, hfz33_0, hfz33_1⟩ := cells2 BK101.out))
      repeat (go_quiet (first | (go_at_call 41; (with_reducible refine (Pmxa.mix_Seed.calls kj4 t102 t104 a0_0 a0_1 t108 t109 _ A19.out).mono ?_); rintro e w32 ⟨rfl, hb⟩; have n0_ := Az (blk_below (g := gb101) (o := .cells #[.int .u64 a0_0, .int .u64 a0_1] 66 (0, 0)) of_lies hb); have n1_ := Az (below_step (low HB) hb); clear BK101; clear HB; have BK101 := n0_; have HB := n1_; clear n0_ n1_; (try clear hb); (try clear hb2); (try clear hk); (try clear hi); obtain ⟨hcz33_0, hcz33_1, hfz33_0, hfz33_1⟩ := cells2 BK101.out)); try go_wp2_with (first | (go_at_call 41; (with_reducible refine (Pmxa.mix_Seed.calls kj4 t102 t104 a0_0 a0_1 t108 t109 _ A19.out).mono ?_); rintro e w32 ⟨rfl, hb⟩; have n0_ := Az (blk_below (g := gb101) (o := .cells #[.int .u64 a0_0, .int .u64 a0_1] 66 (0, 0)) of_lies hb); have n1_ := Az (below_step (low HB) hb); clear BK101; clear HB; have BK101 := n0_; have HB := n1_; clear n0_ n1_; (try clear hb); (try clear hb2); (try clear hk); (try clear hi); obtain ⟨hcz33_0, hcz33_1, hfz33_0, hfz33_1⟩ := cells2 BK101.out)))
      go_ret
      exact ⟨by first | rfl | (simp [errW_none, errW_some] <;> rfl) | (simp [*, errW_none, errW_some] <;> rfl), low HB⟩
    ·
     rw [if_neg c20] at H
     have c20b0 : (a0_0 == a0_1) = false := beq_eq_false_iff_ne.mpr c20
     have c20b1 : (a0_0 != a0_1) = true := bne_iff_ne.mpr c20
     have HC34 := Az H
     clear H
     have hcz35_0 : wc.cell? ⟨gb101, 0, none⟩ = some (.int .u64 a0_0) := (blk_cell BK101.out 0).trans rfl
     have hcz35_1 : wc.cell? ⟨gb101, 1, none⟩ = some (.int .u64 a0_1) := (blk_cell BK101.out 1).trans rfl
     have hfz35_0 := blk_frozen BK101.out 0
     have hfz35_1 := blk_frozen BK101.out 1
     go_upto_region 8 with (first | (go_at_call 41; (with_reducible refine (Pmxa.mix_Seed.calls kj4 t102 t104 a0_0 a0_1 t108 t109 _ A19.out).mono ?_); rintro e w36 ⟨rfl, hb⟩; have n0_ := Az (blk_below (g := gb101) (o := .cells #[.int .u64 a0_0, .int .u64 a0_1] 66 (0, 0)) of_lies hb); have n1_ := Az (below_step (low HB) hb); clear BK101; clear HB; have BK101 := n0_; have HB := n1_; clear n0_ n1_; (try clear hb); (try clear hb2); (try clear hk); (try clear hi); obtain ⟨hcz37_0, hcz37_1, hfz37_0, hfz37_1⟩ := cells2 BK101.out))
     repeat (go_quiet (first | (go_at_call 41; (with_reducible refine (Pmxa.mix_Seed.calls kj4 t102 t104 a0_0 a0_1 t108 t109 _ A19.out).mono ?_); rintro e w36 ⟨rfl, hb⟩; have n0_ := Az (blk_below (g := gb101) (o := .cells #[.int .u64 a0_0, .int .u64 a0_1] 66 (0, 0)) of_lies hb); have n1_ := Az (below_step (low HB) hb); clear BK101; clear HB; have BK101 := n0_; have HB := n1_; clear n0_ n1_; (try clear hb); (try clear hb2); (try clear hk); (try clear hi); obtain ⟨hcz37_0, hcz37_1, hfz37_0, hfz37_1⟩ := cells2 BK101.out)); go_upto_region 8 with (first | (go_at_call 41; (with_reducible refine (Pmxa.mix_Seed.calls kj4 t102 t104 a0_0 a0_1 t108 t109 _ A19.out).mono ?_); rintro e w36 ⟨rfl, hb⟩; have n0_ := Az (blk_below (g := gb101) (o := .cells #[.int .u64 a0_0, .int .u64 a0_1] 66 (0, 0)) of_lies hb); have n1_ := Az (below_step (low HB) hb); clear BK101; clear HB; have BK101 := n0_; have HB := n1_; clear n0_ n1_; (try clear hb); (try clear hb2); (try clear hk); (try clear hi); obtain ⟨hcz37_0, hcz37_1, hfz37_0, hfz37_1⟩ := cells2 BK101.out)))
     (try simp only [Act.put, List.setIfInBounds_toArray, List.set_cons_zero, List.set_cons_succ])
     go_cut [85] (fun v85 wc => ∃ (kq : Nat) (x85_33 : Bool), v85 = .bool x85_33 ∧ Aside0 (joustlaw27_MixSeed.j1 kq a1 t102 t104 t108 x85_33 a0_0 a0_1 = some r) ∧ Aside0 (kq ≤ kj4) ∧ Aside0 (wc.heap[gb101]? = some (.cells #[.int .u64 a0_0, .int .u64 a0_1] 66 (0, 0))) ∧ Aside0 (Below w.heap.size w wc))
     case first =>
      have H := HC34.out
      clear HC34
      by_cases c38 : t109 = 0
      ·
       rw [if_pos c38] at H
       have c38b0 : (t109 == 0) = true := beq_iff_eq.mpr c38
       have c38b1 : (t109 != 0) = false := bne_eq_false_iff_eq.mpr c38
       clear c38
       (first | rw [c38b0] | (simp only [i64_w, i32_w]; rw [c38b0]) | skip)
       by_cases c39 : t102 = t104
       ·
        rw [if_pos c39] at H
        have c39b0 : (t102 == t104) = true := beq_iff_eq.mpr c39
        have c39b1 : (t102 != t104) = false := bne_eq_false_iff_eq.mpr c39
        clear c39
        have H' := Az H
        clear H
        go_wp2
        repeat (go_quiet (fail); try go_wp2)
        go_meet
        case rel => exact ⟨_, (true), (by first | rfl | (simp; done) | (simp [*]; done)), H', ⟨by have := HJ4.out; first | omega | exact Nat.le_refl _⟩, ⟨of_lies⟩, ⟨low HB⟩⟩
       ·
        rw [if_neg c39] at H
        have c39b0 : (t102 == t104) = false := beq_eq_false_iff_ne.mpr c39
        have c39b1 : (t102 != t104) = true := bne_iff_ne.mpr c39
        replace H := Option.bind_eq_some_iff.mp H
        obtain ⟨t111, A400, H⟩ := H
        replace H : ((Pmxa.mix_Mix.f a0_1).bind fun t112 => (joustlaw27_MixSeed.j1 kj4 a1 t102 t104 t108 (t111 == t112) a0_0 a0_1)) = some r := H
        have A40 := Az A400
        clear A400
        replace H := Option.bind_eq_some_iff.mp H
        obtain ⟨t112, A410, H⟩ := H
        replace H : (joustlaw27_MixSeed.j1 kj4 a1 t102 t104 t108 (t111 == t112) a0_0 a0_1) = some r := H
        have A41 := Az A410
        clear A410
        have H' := Az H
        clear H
        have hcz42_0 : w36.cell? ⟨gb101, 0, none⟩ = some (.int .u64 a0_0) := (blk_cell BK101.out 0).trans rfl
        have hcz42_1 : w36.cell? ⟨gb101, 1, none⟩ = some (.int .u64 a0_1) := (blk_cell BK101.out 1).trans rfl
        have hfz42_0 := blk_frozen BK101.out 0
        have hfz42_1 := blk_frozen BK101.out 1
        go_wp2_with (first | (go_at_call 43; (with_reducible refine (Pmxa.mix_Mix.calls a0_0 t111 _ A40.out).mono ?_); rintro e w' ⟨rfl, ⟨nd, rfl⟩⟩; (try first | exact ⟨rfl, _, World.drewN_drewN _ _ _⟩ | exact ⟨rfl, _, Eq.trans (World.drewN_drewN _ _ _) (congrArg (World.drewN _) (Nat.add_assoc _ _ _))⟩)) | (go_at_call 43; (with_reducible refine (Pmxa.mix_Mix.calls a0_1 t112 _ A41.out).mono ?_); rintro e w' ⟨rfl, ⟨nd, rfl⟩⟩; (try first | exact ⟨rfl, _, World.drewN_drewN _ _ _⟩ | exact ⟨rfl, _, Eq.trans (World.drewN_drewN _ _ _) (congrArg (World.drewN _) (Nat.add_assoc _ _ _))⟩)))
        repeat (go_quiet (first | (go_at_call 43; (with_reducible refine (Pmxa.mix_Mix.calls a0_0 t111 _ A40.out).mono ?_); rintro e w' ⟨rfl, ⟨nd, rfl⟩⟩; (try first | exact ⟨rfl, _, World.drewN_drewN _ _ _⟩ | exact ⟨rfl, _, Eq.trans (World.drewN_drewN _ _ _) (congrArg (World.drewN _) (Nat.add_assoc _ _ _))⟩)) | (go_at_call 43; (with_reducible refine (Pmxa.mix_Mix.calls a0_1 t112 _ A41.out).mono ?_); rintro e w' ⟨rfl, ⟨nd, rfl⟩⟩; (try first | exact ⟨rfl, _, World.drewN_drewN _ _ _⟩ | exact ⟨rfl, _, Eq.trans (World.drewN_drewN _ _ _) (congrArg (World.drewN _) (Nat.add_assoc _ _ _))⟩))); try go_wp2_with (first | (go_at_call 43; (with_reducible refine (Pmxa.mix_Mix.calls a0_0 t111 _ A40.out).mono ?_); rintro e w' ⟨rfl, ⟨nd, rfl⟩⟩; (try first | exact ⟨rfl, _, World.drewN_drewN _ _ _⟩ | exact ⟨rfl, _, Eq.trans (World.drewN_drewN _ _ _) (congrArg (World.drewN _) (Nat.add_assoc _ _ _))⟩)) | (go_at_call 43; (with_reducible refine (Pmxa.mix_Mix.calls a0_1 t112 _ A41.out).mono ?_); rintro e w' ⟨rfl, ⟨nd, rfl⟩⟩; (try first | exact ⟨rfl, _, World.drewN_drewN _ _ _⟩ | exact ⟨rfl, _, Eq.trans (World.drewN_drewN _ _ _) (congrArg (World.drewN _) (Nat.add_assoc _ _ _))⟩))))
        go_meet
        case rel => exact ⟨_, ((t111 == t112)), (by first | rfl | (simp; done) | (simp [*]; done)), H', ⟨by have := HJ4.out; first | omega | exact Nat.le_refl _⟩, ⟨of_lies⟩, ⟨low HB⟩⟩
      ·
       rw [if_neg c38] at H
       have c38b0 : (t109 == 0) = false := beq_eq_false_iff_ne.mpr c38
       have c38b1 : (t109 != 0) = true := bne_iff_ne.mpr c38
       (first | rw [c38b0] | (simp only [i64_w, i32_w]; rw [c38b0]) | skip)
       have H' := Az H
       clear H
       go_wp2
       repeat (go_quiet (fail); try go_wp2)
       go_meet
       case rel => exact ⟨_, (true), (by first | rfl | (simp; done) | (simp [*]; done)), H', ⟨by have := HJ4.out; first | omega | exact Nat.le_refl _⟩, ⟨of_lies⟩, ⟨low HB⟩⟩
     case rest =>
      clear HC34
      try clear c1
      try clear c2
      try clear p2
      try clear c3
      try clear c8
      try clear c8b0
      try clear c8b1
      try clear c9
      try clear c10
      try clear c10b0
      try clear c10b1
      try clear c11
      try clear c14
      try clear c14b0
      try clear c14b1
      try clear c20
      try clear c20b0
      try clear c20b1
      try clear c21
      try clear c21b0
      try clear c21b1
      try clear c22
      try clear c22b0
      try clear c22b1
      try clear c38
      try clear c38b0
      try clear c38b1
      try clear c39
      try clear c39b0
      try clear c39b1
      try clear hcz12_0
      try clear hcz12_1
      try clear hcz16_0
      try clear hcz16_1
      try clear hcz18_0
      try clear hcz18_1
      try clear hcz24_0
      try clear hcz24_1
      try clear hcz26_0
      try clear hcz26_1
      try clear hcz28_0
      try clear hcz28_1
      try clear hcz30_0
      try clear hcz30_1
      try clear hcz31_0
      try clear hcz31_1
      try clear hcz33_0
      try clear hcz33_1
      try clear hcz35_0
      try clear hcz35_1
      try clear hcz37_0
      try clear hcz37_1
      try clear hcz42_0
      try clear hcz42_1
      try clear hcz7_0
      try clear hcz7_1
      try clear hfz12_0
      try clear hfz12_1
      try clear hfz16_0
      try clear hfz16_1
      try clear hfz18_0
      try clear hfz18_1
      try clear hfz24_0
      try clear hfz24_1
      try clear hfz26_0
      try clear hfz26_1
      try clear hfz28_0
      try clear hfz28_1
      try clear hfz30_0
      try clear hfz30_1
      try clear hfz31_0
      try clear hfz31_1
      try clear hfz33_0
      try clear hfz33_1
      try clear hfz35_0
      try clear hfz35_1
      try clear hfz37_0
      try clear hfz37_1
      try clear hfz42_0
      try clear hfz42_1
      try clear hfz7_0
      try clear hfz7_1
      try clear p2
      obtain ⟨kq, x85_33, rfl, HA, HJ33, BK101, HB⟩ := hcut
      cases kq with
      | zero => exact absurd HA.out (by simp [joustlaw27_MixSeed.j1])
      | succ kj33 =>
       have H := HA.out
       clear HA
       simp only [joustlaw27_MixSeed.j1] at H
       by_cases c43 : x85_33 = true
       ·
        subst c43
        have H1 : (some false) = some r := by rw [if_pos rfl] at H; exact H
        clear H
        have H := H1
        clear H1
        obtain rfl := Option.some.inj H
        go_wp2
        repeat (go_quiet (fail); try go_wp2)
        go_ret
        exact ⟨by first | rfl | (simp [errW_none, errW_some] <;> rfl) | (simp [*, errW_none, errW_some] <;> rfl), low HB⟩
       ·
        replace c43 := Bool.eq_false_iff.mpr c43
        subst c43
        have H1 : ((Pmxa.mix_Seed.f kj33 t104 t102 a0_1 a0_0).bind fun bt113 => ((Pmxa.mix_Seed.f kj33 t102 t104 a0_0 a0_1).bind fun bt115 => ((Pmxa.mix_Seed.f kj33 t102 t104 a0_0 a1).bind fun bt117 => (if a1 = 0 then (if bt113.2 = 0 then (if bt115.2 = 0 then (if bt115.1 = t108 then (if bt117.2 = 2 then ((Pmxl.joustlaw27_lives.f kj33).bind fun t119 => (some t119)) else (some false)) else (some false)) else (some false)) else (some false)) else (if a1 = a0_1 then (if bt113.2 = 0 then (if bt115.2 = 0 then (if bt115.1 = t108 then (if bt117.2 = 0 then ((Pmxl.joustlaw27_lives.f kj33).bind fun t120 => (some t120)) else (some false)) else (some false)) else (some false)) else (some false)) else (if bt113.2 = 0 then (if bt115.2 = 0 then (if bt115.1 = t108 then (if bt117.2 = 9 then ((Pmxl.joustlaw27_lives.f kj33).bind fun t121 => (some t121)) else (some false)) else (some false)) else (some false)) else (some false))))))) = some r := by rw [if_neg (show ¬ (false = true) by decide)] at H; exact H
        clear H
        have H := H1
        clear H1
        replace H := Option.bind_eq_some_iff.mp H
        obtain ⟨⟨t113, t114⟩, A440, H⟩ := H
        replace H : ((Pmxa.mix_Seed.f kj33 t102 t104 a0_0 a0_1).bind fun bt115 => ((Pmxa.mix_Seed.f kj33 t102 t104 a0_0 a1).bind fun bt117 => (if a1 = 0 then (if t114 = 0 then (if bt115.2 = 0 then (if bt115.1 = t108 then (if bt117.2 = 2 then ((Pmxl.joustlaw27_lives.f kj33).bind fun t119 => (some t119)) else (some false)) else (some false)) else (some false)) else (some false)) else (if a1 = a0_1 then (if t114 = 0 then (if bt115.2 = 0 then (if bt115.1 = t108 then (if bt117.2 = 0 then ((Pmxl.joustlaw27_lives.f kj33).bind fun t120 => (some t120)) else (some false)) else (some false)) else (some false)) else (some false)) else (if t114 = 0 then (if bt115.2 = 0 then (if bt115.1 = t108 then (if bt117.2 = 9 then ((Pmxl.joustlaw27_lives.f kj33).bind fun t121 => (some t121)) else (some false)) else (some false)) else (some false)) else (some false)))))) = some r := H
        have A44 := Az A440
        clear A440
        replace H := Option.bind_eq_some_iff.mp H
        obtain ⟨⟨t115, t116⟩, A450, H⟩ := H
        replace H : ((Pmxa.mix_Seed.f kj33 t102 t104 a0_0 a1).bind fun bt117 => (if a1 = 0 then (if t114 = 0 then (if t116 = 0 then (if t115 = t108 then (if bt117.2 = 2 then ((Pmxl.joustlaw27_lives.f kj33).bind fun t119 => (some t119)) else (some false)) else (some false)) else (some false)) else (some false)) else (if a1 = a0_1 then (if t114 = 0 then (if t116 = 0 then (if t115 = t108 then (if bt117.2 = 0 then ((Pmxl.joustlaw27_lives.f kj33).bind fun t120 => (some t120)) else (some false)) else (some false)) else (some false)) else (some false)) else (if t114 = 0 then (if t116 = 0 then (if t115 = t108 then (if bt117.2 = 9 then ((Pmxl.joustlaw27_lives.f kj33).bind fun t121 => (some t121)) else (some false)) else (some false)) else (some false)) else (some false))))) = some r := H
        have A45 := Az A450
        clear A450
        replace H := Option.bind_eq_some_iff.mp H
        obtain ⟨⟨t117, t118⟩, A460, H⟩ := H
        replace H : (if a1 = 0 then (if t114 = 0 then (if t116 = 0 then (if t115 = t108 then (if t118 = 2 then ((Pmxl.joustlaw27_lives.f kj33).bind fun t119 => (some t119)) else (some false)) else (some false)) else (some false)) else (some false)) else (if a1 = a0_1 then (if t114 = 0 then (if t116 = 0 then (if t115 = t108 then (if t118 = 0 then ((Pmxl.joustlaw27_lives.f kj33).bind fun t120 => (some t120)) else (some false)) else (some false)) else (some false)) else (some false)) else (if t114 = 0 then (if t116 = 0 then (if t115 = t108 then (if t118 = 9 then ((Pmxl.joustlaw27_lives.f kj33).bind fun t121 => (some t121)) else (some false)) else (some false)) else (some false)) else (some false)))) = some r := H
        have A46 := Az A460
        clear A460
        by_cases c47 : a1 = 0
        ·
         rw [if_pos c47] at H
         have c47b0 : (a1 == 0) = true := beq_iff_eq.mpr c47
         have c47b1 : (a1 != 0) = false := bne_eq_false_iff_eq.mpr c47
         clear c47
         by_cases c48 : t114 = 0
         ·
          rw [if_pos c48] at H
          have c48b0 : (t114 == 0) = true := beq_iff_eq.mpr c48
          have c48b1 : (t114 != 0) = false := bne_eq_false_iff_eq.mpr c48
          clear c48
          by_cases c49 : t116 = 0
          ·
           rw [if_pos c49] at H
           have c49b0 : (t116 == 0) = true := beq_iff_eq.mpr c49
           have c49b1 : (t116 != 0) = false := bne_eq_false_iff_eq.mpr c49
           clear c49
           by_cases c50 : t115 = t108
           ·
            rw [if_pos c50] at H
            have c50b0 : (t115 == t108) = true := beq_iff_eq.mpr c50
            have c50b1 : (t115 != t108) = false := bne_eq_false_iff_eq.mpr c50
            clear c50
            by_cases c51 : t118 = 2
            ·
             rw [if_pos c51] at H
             have c51b0 : (t118 == 2) = true := beq_iff_eq.mpr c51
             have c51b1 : (t118 != 2) = false := bne_eq_false_iff_eq.mpr c51
             clear c51
             replace H := Option.bind_eq_some_iff.mp H
             obtain ⟨t119, A520, H⟩ := H
             replace H : (some t119) = some r := H
             have A52 := Az A520
             clear A520
             obtain rfl := Option.some.inj H
             have hcz53_0 : wc.cell? ⟨gb101, 0, none⟩ = some (.int .u64 a0_0) := (blk_cell BK101.out 0).trans rfl
             have hcz53_1 : wc.cell? ⟨gb101, 1, none⟩ = some (.int .u64 a0_1) := (blk_cell BK101.out 1).trans rfl
             have hfz53_0 := blk_frozen BK101.out 0
             have hfz53_1 := blk_frozen BK101.out 1
             go_wp2_with (first | (go_at_call 41; (with_reducible refine (Pmxa.mix_Seed.calls kj33 t104 t102 a0_1 a0_0 t113 t114 _ A44.out).mono ?_); rintro e w54 ⟨rfl, hb⟩; have n0_ := Az (blk_below (g := gb101) (o := .cells #[.int .u64 a0_0, .int .u64 a0_1] 66 (0, 0)) of_lies hb); have n1_ := Az (below_step (low HB) hb); clear BK101; clear HB; have BK101 := n0_; have HB := n1_; clear n0_ n1_; (try clear hb); (try clear hb2); (try clear hk); (try clear hi); obtain ⟨hcz55_0, hcz55_1, hfz55_0, hfz55_1⟩ := cells2 BK101.out) | (go_at_call 41; (with_reducible refine (Pmxa.mix_Seed.calls kj33 t102 t104 a0_0 a0_1 t115 t116 _ A45.out).mono ?_); rintro e w56 ⟨rfl, hb⟩; have n0_ := Az (blk_below (g := gb101) (o := .cells #[.int .u64 a0_0, .int .u64 a0_1] 66 (0, 0)) of_lies hb); have n1_ := Az (below_step (low HB) hb); clear BK101; clear HB; have BK101 := n0_; have HB := n1_; clear n0_ n1_; (try clear hb); (try clear hb2); (try clear hk); (try clear hi); obtain ⟨hcz57_0, hcz57_1, hfz57_0, hfz57_1⟩ := cells2 BK101.out) | (go_at_call 41; (with_reducible refine (Pmxa.mix_Seed.calls kj33 t102 t104 a0_0 a1 t117 t118 _ A46.out).mono ?_); rintro e w58 ⟨rfl, hb⟩; have n0_ := Az (blk_below (g := gb101) (o := .cells #[.int .u64 a0_0, .int .u64 a0_1] 66 (0, 0)) of_lies hb); have n1_ := Az (below_step (low HB) hb); clear BK101; clear HB; have BK101 := n0_; have HB := n1_; clear n0_ n1_; (try clear hb); (try clear hb2); (try clear hk); (try clear hi)) | (go_at_call 33; (with_reducible refine (Pmxl.joustlaw27_lives.calls kj33  t119 _ A52.out).mono ?_); rintro e w59 ⟨rfl, hb⟩; have n0_ := Az (blk_below (g := gb101) (o := .cells #[.int .u64 a0_0, .int .u64 a0_1] 66 (0, 0)) of_lies hb); have n1_ := Az (below_step (low HB) hb); clear BK101; clear HB; have BK101 := n0_; have HB := n1_; clear n0_ n1_; (try clear hb); (try clear hb2); (try clear hk); (try clear hi)))
             repeat (go_quiet (first | (go_at_call 41; (with_reducible refine (Pmxa.mix_Seed.calls kj33 t104 t102 a0_1 a0_0 t113 t114 _ A44.out).mono ?_); rintro e w54 ⟨rfl, hb⟩; have n0_ := Az (blk_below (g := gb101) (o := .cells #[.int .u64 a0_0, .int .u64 a0_1] 66 (0, 0)) of_lies hb); have n1_ := Az (below_step (low HB) hb); clear BK101; clear HB; have BK101 := n0_; have HB := n1_; clear n0_ n1_; (try clear hb); (try clear hb2); (try clear hk); (try clear hi); obtain ⟨hcz55_0, hcz55_1, hfz55_0, hfz55_1⟩ := cells2 BK101.out) | (go_at_call 41; (with_reducible refine (Pmxa.mix_Seed.calls kj33 t102 t104 a0_0 a0_1 t115 t116 _ A45.out).mono ?_); rintro e w56 ⟨rfl, hb⟩; have n0_ := Az (blk_below (g := gb101) (o := .cells #[.int .u64 a0_0, .int .u64 a0_1] 66 (0, 0)) of_lies hb); have n1_ := Az (below_step (low HB) hb); clear BK101; clear HB; have BK101 := n0_; have HB := n1_; clear n0_ n1_; (try clear hb); (try clear hb2); (try clear hk); (try clear hi); obtain ⟨hcz57_0, hcz57_1, hfz57_0, hfz57_1⟩ := cells2 BK101.out) | (go_at_call 41; (with_reducible refine (Pmxa.mix_Seed.calls kj33 t102 t104 a0_0 a1 t117 t118 _ A46.out).mono ?_); rintro e w58 ⟨rfl, hb⟩; have n0_ := Az (blk_below (g := gb101) (o := .cells #[.int .u64 a0_0, .int .u64 a0_1] 66 (0, 0)) of_lies hb); have n1_ := Az (below_step (low HB) hb); clear BK101; clear HB; have BK101 := n0_; have HB := n1_; clear n0_ n1_; (try clear hb); (try clear hb2); (try clear hk); (try clear hi)) | (go_at_call 33; (with_reducible refine (Pmxl.joustlaw27_lives.calls kj33  t119 _ A52.out).mono ?_); rintro e w59 ⟨rfl, hb⟩; have n0_ := Az (blk_below (g := gb101) (o := .cells #[.int .u64 a0_0, .int .u64 a0_1] 66 (0, 0)) of_lies hb); have n1_ := Az (below_step (low HB) hb); clear BK101; clear HB; have BK101 := n0_; have HB := n1_; clear n0_ n1_; (try clear hb); (try clear hb2); (try clear hk); (try clear hi))); try go_wp2_with (first | (go_at_call 41; (with_reducible refine (Pmxa.mix_Seed.calls kj33 t104 t102 a0_1 a0_0 t113 t114 _ A44.out).mono ?_); rintro e w54 ⟨rfl, hb⟩; have n0_ := Az (blk_below (g := gb101) (o := .cells #[.int .u64 a0_0, .int .u64 a0_1] 66 (0, 0)) of_lies hb); have n1_ := Az (below_step (low HB) hb); clear BK101; clear HB; have BK101 := n0_; have HB := n1_; clear n0_ n1_; (try clear hb); (try clear hb2); (try clear hk); (try clear hi); obtain ⟨hcz55_0, hcz55_1, hfz55_0, hfz55_1⟩ := cells2 BK101.out) | (go_at_call 41; (with_reducible refine (Pmxa.mix_Seed.calls kj33 t102 t104 a0_0 a0_1 t115 t116 _ A45.out).mono ?_); rintro e w56 ⟨rfl, hb⟩; have n0_ := Az (blk_below (g := gb101) (o := .cells #[.int .u64 a0_0, .int .u64 a0_1] 66 (0, 0)) of_lies hb); have n1_ := Az (below_step (low HB) hb); clear BK101; clear HB; have BK101 := n0_; have HB := n1_; clear n0_ n1_; (try clear hb); (try clear hb2); (try clear hk); (try clear hi); obtain ⟨hcz57_0, hcz57_1, hfz57_0, hfz57_1⟩ := cells2 BK101.out) | (go_at_call 41; (with_reducible refine (Pmxa.mix_Seed.calls kj33 t102 t104 a0_0 a1 t117 t118 _ A46.out).mono ?_); rintro e w58 ⟨rfl, hb⟩; have n0_ := Az (blk_below (g := gb101) (o := .cells #[.int .u64 a0_0, .int .u64 a0_1] 66 (0, 0)) of_lies hb); have n1_ := Az (below_step (low HB) hb); clear BK101; clear HB; have BK101 := n0_; have HB := n1_; clear n0_ n1_; (try clear hb); (try clear hb2); (try clear hk); (try clear hi)) | (go_at_call 33; (with_reducible refine (Pmxl.joustlaw27_lives.calls kj33  t119 _ A52.out).mono ?_); rintro e w59 ⟨rfl, hb⟩; have n0_ := Az (blk_below (g := gb101) (o := .cells #[.int .u64 a0_0, .int .u64 a0_1] 66 (0, 0)) of_lies hb); have n1_ := Az (below_step (low HB) hb); clear BK101; clear HB; have BK101 := n0_; have HB := n1_; clear n0_ n1_; (try clear hb); (try clear hb2); (try clear hk); (try clear hi))))
             go_ret
             exact ⟨by first | rfl | (simp [errW_none, errW_some] <;> rfl) | (simp [*, errW_none, errW_some] <;> rfl), low HB⟩
            ·
             rw [if_neg c51] at H
             have c51b0 : (t118 == 2) = false := beq_eq_false_iff_ne.mpr c51
             have c51b1 : (t118 != 2) = true := bne_iff_ne.mpr c51
             obtain rfl := Option.some.inj H
             have hcz60_0 : wc.cell? ⟨gb101, 0, none⟩ = some (.int .u64 a0_0) := (blk_cell BK101.out 0).trans rfl
             have hcz60_1 : wc.cell? ⟨gb101, 1, none⟩ = some (.int .u64 a0_1) := (blk_cell BK101.out 1).trans rfl
             have hfz60_0 := blk_frozen BK101.out 0
             have hfz60_1 := blk_frozen BK101.out 1
             go_wp2_with (first | (go_at_call 41; (with_reducible refine (Pmxa.mix_Seed.calls kj33 t104 t102 a0_1 a0_0 t113 t114 _ A44.out).mono ?_); rintro e w61 ⟨rfl, hb⟩; have n0_ := Az (blk_below (g := gb101) (o := .cells #[.int .u64 a0_0, .int .u64 a0_1] 66 (0, 0)) of_lies hb); have n1_ := Az (below_step (low HB) hb); clear BK101; clear HB; have BK101 := n0_; have HB := n1_; clear n0_ n1_; (try clear hb); (try clear hb2); (try clear hk); (try clear hi); obtain ⟨hcz62_0, hcz62_1, hfz62_0, hfz62_1⟩ := cells2 BK101.out) | (go_at_call 41; (with_reducible refine (Pmxa.mix_Seed.calls kj33 t102 t104 a0_0 a0_1 t115 t116 _ A45.out).mono ?_); rintro e w63 ⟨rfl, hb⟩; have n0_ := Az (blk_below (g := gb101) (o := .cells #[.int .u64 a0_0, .int .u64 a0_1] 66 (0, 0)) of_lies hb); have n1_ := Az (below_step (low HB) hb); clear BK101; clear HB; have BK101 := n0_; have HB := n1_; clear n0_ n1_; (try clear hb); (try clear hb2); (try clear hk); (try clear hi); obtain ⟨hcz64_0, hcz64_1, hfz64_0, hfz64_1⟩ := cells2 BK101.out) | (go_at_call 41; (with_reducible refine (Pmxa.mix_Seed.calls kj33 t102 t104 a0_0 a1 t117 t118 _ A46.out).mono ?_); rintro e w65 ⟨rfl, hb⟩; have n0_ := Az (blk_below (g := gb101) (o := .cells #[.int .u64 a0_0, .int .u64 a0_1] 66 (0, 0)) of_lies hb); have n1_ := Az (below_step (low HB) hb); clear BK101; clear HB; have BK101 := n0_; have HB := n1_; clear n0_ n1_; (try clear hb); (try clear hb2); (try clear hk); (try clear hi)))
             repeat (go_quiet (first | (go_at_call 41; (with_reducible refine (Pmxa.mix_Seed.calls kj33 t104 t102 a0_1 a0_0 t113 t114 _ A44.out).mono ?_); rintro e w61 ⟨rfl, hb⟩; have n0_ := Az (blk_below (g := gb101) (o := .cells #[.int .u64 a0_0, .int .u64 a0_1] 66 (0, 0)) of_lies hb); have n1_ := Az (below_step (low HB) hb); clear BK101; clear HB; have BK101 := n0_; have HB := n1_; clear n0_ n1_; (try clear hb); (try clear hb2); (try clear hk); (try clear hi); obtain ⟨hcz62_0, hcz62_1, hfz62_0, hfz62_1⟩ := cells2 BK101.out) | (go_at_call 41; (with_reducible refine (Pmxa.mix_Seed.calls kj33 t102 t104 a0_0 a0_1 t115 t116 _ A45.out).mono ?_); rintro e w63 ⟨rfl, hb⟩; have n0_ := Az (blk_below (g := gb101) (o := .cells #[.int .u64 a0_0, .int .u64 a0_1] 66 (0, 0)) of_lies hb); have n1_ := Az (below_step (low HB) hb); clear BK101; clear HB; have BK101 := n0_; have HB := n1_; clear n0_ n1_; (try clear hb); (try clear hb2); (try clear hk); (try clear hi); obtain ⟨hcz64_0, hcz64_1, hfz64_0, hfz64_1⟩ := cells2 BK101.out) | (go_at_call 41; (with_reducible refine (Pmxa.mix_Seed.calls kj33 t102 t104 a0_0 a1 t117 t118 _ A46.out).mono ?_); rintro e w65 ⟨rfl, hb⟩; have n0_ := Az (blk_below (g := gb101) (o := .cells #[.int .u64 a0_0, .int .u64 a0_1] 66 (0, 0)) of_lies hb); have n1_ := Az (below_step (low HB) hb); clear BK101; clear HB; have BK101 := n0_; have HB := n1_; clear n0_ n1_; (try clear hb); (try clear hb2); (try clear hk); (try clear hi))); try go_wp2_with (first | (go_at_call 41; (with_reducible refine (Pmxa.mix_Seed.calls kj33 t104 t102 a0_1 a0_0 t113 t114 _ A44.out).mono ?_); rintro e w61 ⟨rfl, hb⟩; have n0_ := Az (blk_below (g := gb101) (o := .cells #[.int .u64 a0_0, .int .u64 a0_1] 66 (0, 0)) of_lies hb); have n1_ := Az (below_step (low HB) hb); clear BK101; clear HB; have BK101 := n0_; have HB := n1_; clear n0_ n1_; (try clear hb); (try clear hb2); (try clear hk); (try clear hi); obtain ⟨hcz62_0, hcz62_1, hfz62_0, hfz62_1⟩ := cells2 BK101.out) | (go_at_call 41; (with_reducible refine (Pmxa.mix_Seed.calls kj33 t102 t104 a0_0 a0_1 t115 t116 _ A45.out).mono ?_); rintro e w63 ⟨rfl, hb⟩; have n0_ := Az (blk_below (g := gb101) (o := .cells #[.int .u64 a0_0, .int .u64 a0_1] 66 (0, 0)) of_lies hb); have n1_ := Az (below_step (low HB) hb); clear BK101; clear HB; have BK101 := n0_; have HB := n1_; clear n0_ n1_; (try clear hb); (try clear hb2); (try clear hk); (try clear hi); obtain ⟨hcz64_0, hcz64_1, hfz64_0, hfz64_1⟩ := cells2 BK101.out) | (go_at_call 41; (with_reducible refine (Pmxa.mix_Seed.calls kj33 t102 t104 a0_0 a1 t117 t118 _ A46.out).mono ?_); rintro e w65 ⟨rfl, hb⟩; have n0_ := Az (blk_below (g := gb101) (o := .cells #[.int .u64 a0_0, .int .u64 a0_1] 66 (0, 0)) of_lies hb); have n1_ := Az (below_step (low HB) hb); clear BK101; clear HB; have BK101 := n0_; have HB := n1_; clear n0_ n1_; (try clear hb); (try clear hb2); (try clear hk); (try clear hi))))
             go_ret
             exact ⟨by first | rfl | (simp [errW_none, errW_some] <;> rfl) | (simp [*, errW_none, errW_some] <;> rfl), low HB⟩
           ·
            rw [if_neg c50] at H
            have c50b0 : (t115 == t108) = false := beq_eq_false_iff_ne.mpr c50
            have c50b1 : (t115 != t108) = true := bne_iff_ne.mpr c50
            obtain rfl := Option.some.inj H
            have hcz66_0 : wc.cell? ⟨gb101, 0, none⟩ = some (.int .u64 a0_0) := (blk_cell BK101.out 0).trans rfl
            have hcz66_1 : wc.cell? ⟨gb101, 1, none⟩ = some (.int .u64 a0_1) := (blk_cell BK101.out 1).trans rfl
            have hfz66_0 := blk_frozen BK101.out 0
            have hfz66_1 := blk_frozen BK101.out 1
            go_wp2_with (first | (go_at_call 41; (with_reducible refine (Pmxa.mix_Seed.calls kj33 t104 t102 a0_1 a0_0 t113 t114 _ A44.out).mono ?_); rintro e w67 ⟨rfl, hb⟩; have n0_ := Az (blk_below (g := gb101) (o := .cells #[.int .u64 a0_0, .int .u64 a0_1] 66 (0, 0)) of_lies hb); have n1_ := Az (below_step (low HB) hb); clear BK101; clear HB; have BK101 := n0_; have HB := n1_; clear n0_ n1_; (try clear hb); (try clear hb2); (try clear hk); (try clear hi); obtain ⟨hcz68_0, hcz68_1, hfz68_0, hfz68_1⟩ := cells2 BK101.out) | (go_at_call 41; (with_reducible refine (Pmxa.mix_Seed.calls kj33 t102 t104 a0_0 a0_1 t115 t116 _ A45.out).mono ?_); rintro e w69 ⟨rfl, hb⟩; have n0_ := Az (blk_below (g := gb101) (o := .cells #[.int .u64 a0_0, .int .u64 a0_1] 66 (0, 0)) of_lies hb); have n1_ := Az (below_step (low HB) hb); clear BK101; clear HB; have BK101 := n0_; have HB := n1_; clear n0_ n1_; (try clear hb); (try clear hb2); (try clear hk); (try clear hi); obtain ⟨hcz70_0, hcz70_1, hfz70_0, hfz70_1⟩ := cells2 BK101.out) | (go_at_call 41; (with_reducible refine (Pmxa.mix_Seed.calls kj33 t102 t104 a0_0 a1 t117 t118 _ A46.out).mono ?_); rintro e w71 ⟨rfl, hb⟩; have n0_ := Az (blk_below (g := gb101) (o := .cells #[.int .u64 a0_0, .int .u64 a0_1] 66 (0, 0)) of_lies hb); have n1_ := Az (below_step (low HB) hb); clear BK101; clear HB; have BK101 := n0_; have HB := n1_; clear n0_ n1_; (try clear hb); (try clear hb2); (try clear hk); (try clear hi)))
            repeat (go_quiet (first | (go_at_call 41; (with_reducible refine (Pmxa.mix_Seed.calls kj33 t104 t102 a0_1 a0_0 t113 t114 _ A44.out).mono ?_); rintro e w67 ⟨rfl, hb⟩; have n0_ := Az (blk_below (g := gb101) (o := .cells #[.int .u64 a0_0, .int .u64 a0_1] 66 (0, 0)) of_lies hb); have n1_ := Az (below_step (low HB) hb); clear BK101; clear HB; have BK101 := n0_; have HB := n1_; clear n0_ n1_; (try clear hb); (try clear hb2); (try clear hk); (try clear hi); obtain ⟨hcz68_0, hcz68_1, hfz68_0, hfz68_1⟩ := cells2 BK101.out) | (go_at_call 41; (with_reducible refine (Pmxa.mix_Seed.calls kj33 t102 t104 a0_0 a0_1 t115 t116 _ A45.out).mono ?_); rintro e w69 ⟨rfl, hb⟩; have n0_ := Az (blk_below (g := gb101) (o := .cells #[.int .u64 a0_0, .int .u64 a0_1] 66 (0, 0)) of_lies hb); have n1_ := Az (below_step (low HB) hb); clear BK101; clear HB; have BK101 := n0_; have HB := n1_; clear n0_ n1_; (try clear hb); (try clear hb2); (try clear hk); (try clear hi); obtain ⟨hcz70_0, hcz70_1, hfz70_0, hfz70_1⟩ := cells2 BK101.out) | (go_at_call 41; (with_reducible refine (Pmxa.mix_Seed.calls kj33 t102 t104 a0_0 a1 t117 t118 _ A46.out).mono ?_); rintro e w71 ⟨rfl, hb⟩; have n0_ := Az (blk_below (g := gb101) (o := .cells #[.int .u64 a0_0, .int .u64 a0_1] 66 (0, 0)) of_lies hb); have n1_ := Az (below_step (low HB) hb); clear BK101; clear HB; have BK101 := n0_; have HB := n1_; clear n0_ n1_; (try clear hb); (try clear hb2); (try clear hk); (try clear hi))); try go_wp2_with (first | (go_at_call 41; (with_reducible refine (Pmxa.mix_Seed.calls kj33 t104 t102 a0_1 a0_0 t113 t114 _ A44.out).mono ?_); rintro e w67 ⟨rfl, hb⟩; have n0_ := Az (blk_below (g := gb101) (o := .cells #[.int .u64 a0_0, .int .u64 a0_1] 66 (0, 0)) of_lies hb); have n1_ := Az (below_step (low HB) hb); clear BK101; clear HB; have BK101 := n0_; have HB := n1_; clear n0_ n1_; (try clear hb); (try clear hb2); (try clear hk); (try clear hi); obtain ⟨hcz68_0, hcz68_1, hfz68_0, hfz68_1⟩ := cells2 BK101.out) | (go_at_call 41; (with_reducible refine (Pmxa.mix_Seed.calls kj33 t102 t104 a0_0 a0_1 t115 t116 _ A45.out).mono ?_); rintro e w69 ⟨rfl, hb⟩; have n0_ := Az (blk_below (g := gb101) (o := .cells #[.int .u64 a0_0, .int .u64 a0_1] 66 (0, 0)) of_lies hb); have n1_ := Az (below_step (low HB) hb); clear BK101; clear HB; have BK101 := n0_; have HB := n1_; clear n0_ n1_; (try clear hb); (try clear hb2); (try clear hk); (try clear hi); obtain ⟨hcz70_0, hcz70_1, hfz70_0, hfz70_1⟩ := cells2 BK101.out) | (go_at_call 41; (with_reducible refine (Pmxa.mix_Seed.calls kj33 t102 t104 a0_0 a1 t117 t118 _ A46.out).mono ?_); rintro e w71 ⟨rfl, hb⟩; have n0_ := Az (blk_below (g := gb101) (o := .cells #[.int .u64 a0_0, .int .u64 a0_1] 66 (0, 0)) of_lies hb); have n1_ := Az (below_step (low HB) hb); clear BK101; clear HB; have BK101 := n0_; have HB := n1_; clear n0_ n1_; (try clear hb); (try clear hb2); (try clear hk); (try clear hi))))
            go_ret
            exact ⟨by first | rfl | (simp [errW_none, errW_some] <;> rfl) | (simp [*, errW_none, errW_some] <;> rfl), low HB⟩
          ·
           rw [if_neg c49] at H
           have c49b0 : (t116 == 0) = false := beq_eq_false_iff_ne.mpr c49
           have c49b1 : (t116 != 0) = true := bne_iff_ne.mpr c49
           obtain rfl := Option.some.inj H
           have hcz72_0 : wc.cell? ⟨gb101, 0, none⟩ = some (.int .u64 a0_0) := (blk_cell BK101.out 0).trans rfl
           have hcz72_1 : wc.cell? ⟨gb101, 1, none⟩ = some (.int .u64 a0_1) := (blk_cell BK101.out 1).trans rfl
           have hfz72_0 := blk_frozen BK101.out 0
           have hfz72_1 := blk_frozen BK101.out 1
           go_wp2_with (first | (go_at_call 41; (with_reducible refine (Pmxa.mix_Seed.calls kj33 t104 t102 a0_1 a0_0 t113 t114 _ A44.out).mono ?_); rintro e w73 ⟨rfl, hb⟩; have n0_ := Az (blk_below (g := gb101) (o := .cells #[.int .u64 a0_0, .int .u64 a0_1] 66 (0, 0)) of_lies hb); have n1_ := Az (below_step (low HB) hb); clear BK101; clear HB; have BK101 := n0_; have HB := n1_; clear n0_ n1_; (try clear hb); (try clear hb2); (try clear hk); (try clear hi); obtain ⟨hcz74_0, hcz74_1, hfz74_0, hfz74_1⟩ := cells2 BK101.out) | (go_at_call 41; (with_reducible refine (Pmxa.mix_Seed.calls kj33 t102 t104 a0_0 a0_1 t115 t116 _ A45.out).mono ?_); rintro e w75 ⟨rfl, hb⟩; have n0_ := Az (blk_below (g := gb101) (o := .cells #[.int .u64 a0_0, .int .u64 a0_1] 66 (0, 0)) of_lies hb); have n1_ := Az (below_step (low HB) hb); clear BK101; clear HB; have BK101 := n0_; have HB := n1_; clear n0_ n1_; (try clear hb); (try clear hb2); (try clear hk); (try clear hi); obtain ⟨hcz76_0, hcz76_1, hfz76_0, hfz76_1⟩ := cells2 BK101.out) | (go_at_call 41; (with_reducible refine (Pmxa.mix_Seed.calls kj33 t102 t104 a0_0 a1 t117 t118 _ A46.out).mono ?_); rintro e w77 ⟨rfl, hb⟩; have n0_ := Az (blk_below (g := gb101) (o := .cells #[.int .u64 a0_0, .int .u64 a0_1] 66 (0, 0)) of_lies hb); have n1_ := Az (below_step (low HB) hb); clear BK101; clear HB; have BK101 := n0_; have HB := n1_; clear n0_ n1_; (try clear hb); (try clear hb2); (try clear hk); (try clear hi)))
           repeat (go_quiet (first | (go_at_call 41; (with_reducible refine (Pmxa.mix_Seed.calls kj33 t104 t102 a0_1 a0_0 t113 t114 _ A44.out).mono ?_); rintro e w73 ⟨rfl, hb⟩; have n0_ := Az (blk_below (g := gb101) (o := .cells #[.int .u64 a0_0, .int .u64 a0_1] 66 (0, 0)) of_lies hb); have n1_ := Az (below_step (low HB) hb); clear BK101; clear HB; have BK101 := n0_; have HB := n1_; clear n0_ n1_; (try clear hb); (try clear hb2); (try clear hk); (try clear hi); obtain ⟨hcz74_0, hcz74_1, hfz74_0, hfz74_1⟩ := cells2 BK101.out) | (go_at_call 41; (with_reducible refine (Pmxa.mix_Seed.calls kj33 t102 t104 a0_0 a0_1 t115 t116 _ A45.out).mono ?_); rintro e w75 ⟨rfl, hb⟩; have n0_ := Az (blk_below (g := gb101) (o := .cells #[.int .u64 a0_0, .int .u64 a0_1] 66 (0, 0)) of_lies hb); have n1_ := Az (below_step (low HB) hb); clear BK101; clear HB; have BK101 := n0_; have HB := n1_; clear n0_ n1_; (try clear hb); (try clear hb2); (try clear hk); (try clear hi); obtain ⟨hcz76_0, hcz76_1, hfz76_0, hfz76_1⟩ := cells2 BK101.out) | (go_at_call 41; (with_reducible refine (Pmxa.mix_Seed.calls kj33 t102 t104 a0_0 a1 t117 t118 _ A46.out).mono ?_); rintro e w77 ⟨rfl, hb⟩; have n0_ := Az (blk_below (g := gb101) (o := .cells #[.int .u64 a0_0, .int .u64 a0_1] 66 (0, 0)) of_lies hb); have n1_ := Az (below_step (low HB) hb); clear BK101; clear HB; have BK101 := n0_; have HB := n1_; clear n0_ n1_; (try clear hb); (try clear hb2); (try clear hk); (try clear hi))); try go_wp2_with (first | (go_at_call 41; (with_reducible refine (Pmxa.mix_Seed.calls kj33 t104 t102 a0_1 a0_0 t113 t114 _ A44.out).mono ?_); rintro e w73 ⟨rfl, hb⟩; have n0_ := Az (blk_below (g := gb101) (o := .cells #[.int .u64 a0_0, .int .u64 a0_1] 66 (0, 0)) of_lies hb); have n1_ := Az (below_step (low HB) hb); clear BK101; clear HB; have BK101 := n0_; have HB := n1_; clear n0_ n1_; (try clear hb); (try clear hb2); (try clear hk); (try clear hi); obtain ⟨hcz74_0, hcz74_1, hfz74_0, hfz74_1⟩ := cells2 BK101.out) | (go_at_call 41; (with_reducible refine (Pmxa.mix_Seed.calls kj33 t102 t104 a0_0 a0_1 t115 t116 _ A45.out).mono ?_); rintro e w75 ⟨rfl, hb⟩; have n0_ := Az (blk_below (g := gb101) (o := .cells #[.int .u64 a0_0, .int .u64 a0_1] 66 (0, 0)) of_lies hb); have n1_ := Az (below_step (low HB) hb); clear BK101; clear HB; have BK101 := n0_; have HB := n1_; clear n0_ n1_; (try clear hb); (try clear hb2); (try clear hk); (try clear hi); obtain ⟨hcz76_0, hcz76_1, hfz76_0, hfz76_1⟩ := cells2 BK101.out) | (go_at_call 41; (with_reducible refine (Pmxa.mix_Seed.calls kj33 t102 t104 a0_0 a1 t117 t118 _ A46.out).mono ?_); rintro e w77 ⟨rfl, hb⟩; have n0_ := Az (blk_below (g := gb101) (o := .cells #[.int .u64 a0_0, .int .u64 a0_1] 66 (0, 0)) of_lies hb); have n1_ := Az (below_step (low HB) hb); clear BK101; clear HB; have BK101 := n0_; have HB := n1_; clear n0_ n1_; (try clear hb); (try clear hb2); (try clear hk); (try clear hi))))
           go_ret
           exact ⟨by first | rfl | (simp [errW_none, errW_some] <;> rfl) | (simp [*, errW_none, errW_some] <;> rfl), low HB⟩
         ·
          rw [if_neg c48] at H
          have c48b0 : (t114 == 0) = false := beq_eq_false_iff_ne.mpr c48
          have c48b1 : (t114 != 0) = true := bne_iff_ne.mpr c48
          obtain rfl := Option.some.inj H
          have hcz78_0 : wc.cell? ⟨gb101, 0, none⟩ = some (.int .u64 a0_0) := (blk_cell BK101.out 0).trans rfl
          have hcz78_1 : wc.cell? ⟨gb101, 1, none⟩ = some (.int .u64 a0_1) := (blk_cell BK101.out 1).trans rfl
          have hfz78_0 := blk_frozen BK101.out 0
          have hfz78_1 := blk_frozen BK101.out 1
          go_wp2_with (first | (go_at_call 41; (with_reducible refine (Pmxa.mix_Seed.calls kj33 t104 t102 a0_1 a0_0 t113 t114 _ A44.out).mono ?_); rintro e w79 ⟨rfl, hb⟩; have n0_ := Az (blk_below (g := gb101) (o := .cells #[.int .u64 a0_0, .int .u64 a0_1] 66 (0, 0)) of_lies hb); have n1_ := Az (below_step (low HB) hb); clear BK101; clear HB; have BK101 := n0_; have HB := n1_; clear n0_ n1_; (try clear hb); (try clear hb2); (try clear hk); (try clear hi); obtain ⟨hcz80_0, hcz80_1, hfz80_0, hfz80_1⟩ := cells2 BK101.out) | (go_at_call 41; (with_reducible refine (Pmxa.mix_Seed.calls kj33 t102 t104 a0_0 a0_1 t115 t116 _ A45.out).mono ?_); rintro e w81 ⟨rfl, hb⟩; have n0_ := Az (blk_below (g := gb101) (o := .cells #[.int .u64 a0_0, .int .u64 a0_1] 66 (0, 0)) of_lies hb); have n1_ := Az (below_step (low HB) hb); clear BK101; clear HB; have BK101 := n0_; have HB := n1_; clear n0_ n1_; (try clear hb); (try clear hb2); (try clear hk); (try clear hi); obtain ⟨hcz82_0, hcz82_1, hfz82_0, hfz82_1⟩ := cells2 BK101.out) | (go_at_call 41; (with_reducible refine (Pmxa.mix_Seed.calls kj33 t102 t104 a0_0 a1 t117 t118 _ A46.out).mono ?_); rintro e w83 ⟨rfl, hb⟩; have n0_ := Az (blk_below (g := gb101) (o := .cells #[.int .u64 a0_0, .int .u64 a0_1] 66 (0, 0)) of_lies hb); have n1_ := Az (below_step (low HB) hb); clear BK101; clear HB; have BK101 := n0_; have HB := n1_; clear n0_ n1_; (try clear hb); (try clear hb2); (try clear hk); (try clear hi)))
          repeat (go_quiet (first | (go_at_call 41; (with_reducible refine (Pmxa.mix_Seed.calls kj33 t104 t102 a0_1 a0_0 t113 t114 _ A44.out).mono ?_); rintro e w79 ⟨rfl, hb⟩; have n0_ := Az (blk_below (g := gb101) (o := .cells #[.int .u64 a0_0, .int .u64 a0_1] 66 (0, 0)) of_lies hb); have n1_ := Az (below_step (low HB) hb); clear BK101; clear HB; have BK101 := n0_; have HB := n1_; clear n0_ n1_; (try clear hb); (try clear hb2); (try clear hk); (try clear hi); obtain ⟨hcz80_0, hcz80_1, hfz80_0, hfz80_1⟩ := cells2 BK101.out) | (go_at_call 41; (with_reducible refine (Pmxa.mix_Seed.calls kj33 t102 t104 a0_0 a0_1 t115 t116 _ A45.out).mono ?_); rintro e w81 ⟨rfl, hb⟩; have n0_ := Az (blk_below (g := gb101) (o := .cells #[.int .u64 a0_0, .int .u64 a0_1] 66 (0, 0)) of_lies hb); have n1_ := Az (below_step (low HB) hb); clear BK101; clear HB; have BK101 := n0_; have HB := n1_; clear n0_ n1_; (try clear hb); (try clear hb2); (try clear hk); (try clear hi); obtain ⟨hcz82_0, hcz82_1, hfz82_0, hfz82_1⟩ := cells2 BK101.out) | (go_at_call 41; (with_reducible refine (Pmxa.mix_Seed.calls kj33 t102 t104 a0_0 a1 t117 t118 _ A46.out).mono ?_); rintro e w83 ⟨rfl, hb⟩; have n0_ := Az (blk_below (g := gb101) (o := .cells #[.int .u64 a0_0, .int .u64 a0_1] 66 (0, 0)) of_lies hb); have n1_ := Az (below_step (low HB) hb); clear BK101; clear HB; have BK101 := n0_; have HB := n1_; clear n0_ n1_; (try clear hb); (try clear hb2); (try clear hk); (try clear hi))); try go_wp2_with (first | (go_at_call 41; (with_reducible refine (Pmxa.mix_Seed.calls kj33 t104 t102 a0_1 a0_0 t113 t114 _ A44.out).mono ?_); rintro e w79 ⟨rfl, hb⟩; have n0_ := Az (blk_below (g := gb101) (o := .cells #[.int .u64 a0_0, .int .u64 a0_1] 66 (0, 0)) of_lies hb); have n1_ := Az (below_step (low HB) hb); clear BK101; clear HB; have BK101 := n0_; have HB := n1_; clear n0_ n1_; (try clear hb); (try clear hb2); (try clear hk); (try clear hi); obtain ⟨hcz80_0, hcz80_1, hfz80_0, hfz80_1⟩ := cells2 BK101.out) | (go_at_call 41; (with_reducible refine (Pmxa.mix_Seed.calls kj33 t102 t104 a0_0 a0_1 t115 t116 _ A45.out).mono ?_); rintro e w81 ⟨rfl, hb⟩; have n0_ := Az (blk_below (g := gb101) (o := .cells #[.int .u64 a0_0, .int .u64 a0_1] 66 (0, 0)) of_lies hb); have n1_ := Az (below_step (low HB) hb); clear BK101; clear HB; have BK101 := n0_; have HB := n1_; clear n0_ n1_; (try clear hb); (try clear hb2); (try clear hk); (try clear hi); obtain ⟨hcz82_0, hcz82_1, hfz82_0, hfz82_1⟩ := cells2 BK101.out) | (go_at_call 41; (with_reducible refine (Pmxa.mix_Seed.calls kj33 t102 t104 a0_0 a1 t117 t118 _ A46.out).mono ?_); rintro e w83 ⟨rfl, hb⟩; have n0_ := Az (blk_below (g := gb101) (o := .cells #[.int .u64 a0_0, .int .u64 a0_1] 66 (0, 0)) of_lies hb); have n1_ := Az (below_step (low HB) hb); clear BK101; clear HB; have BK101 := n0_; have HB := n1_; clear n0_ n1_; (try clear hb); (try clear hb2); (try clear hk); (try clear hi))))
          go_ret
          exact ⟨by first | rfl | (simp [errW_none, errW_some] <;> rfl) | (simp [*, errW_none, errW_some] <;> rfl), low HB⟩
        ·
         rw [if_neg c47] at H
         have c47b0 : (a1 == 0) = false := beq_eq_false_iff_ne.mpr c47
         have c47b1 : (a1 != 0) = true := bne_iff_ne.mpr c47
         by_cases c84 : a1 = a0_1
         ·
          rw [if_pos c84] at H
          have c84b0 : (a1 == a0_1) = true := beq_iff_eq.mpr c84
          have c84b1 : (a1 != a0_1) = false := bne_eq_false_iff_eq.mpr c84
          clear c84
          by_cases c85 : t114 = 0
          ·
           rw [if_pos c85] at H
           have c85b0 : (t114 == 0) = true := beq_iff_eq.mpr c85
           have c85b1 : (t114 != 0) = false := bne_eq_false_iff_eq.mpr c85
           clear c85
           by_cases c86 : t116 = 0
           ·
            rw [if_pos c86] at H
            have c86b0 : (t116 == 0) = true := beq_iff_eq.mpr c86
            have c86b1 : (t116 != 0) = false := bne_eq_false_iff_eq.mpr c86
            clear c86
            by_cases c87 : t115 = t108
            ·
             rw [if_pos c87] at H
             have c87b0 : (t115 == t108) = true := beq_iff_eq.mpr c87
             have c87b1 : (t115 != t108) = false := bne_eq_false_iff_eq.mpr c87
             clear c87
             by_cases c88 : t118 = 0
             ·
              rw [if_pos c88] at H
              have c88b0 : (t118 == 0) = true := beq_iff_eq.mpr c88
              have c88b1 : (t118 != 0) = false := bne_eq_false_iff_eq.mpr c88
              clear c88
              replace H := Option.bind_eq_some_iff.mp H
              obtain ⟨t120, A890, H⟩ := H
              replace H : (some t120) = some r := H
              have A89 := Az A890
              clear A890
              obtain rfl := Option.some.inj H
              have hcz90_0 : wc.cell? ⟨gb101, 0, none⟩ = some (.int .u64 a0_0) := (blk_cell BK101.out 0).trans rfl
              have hcz90_1 : wc.cell? ⟨gb101, 1, none⟩ = some (.int .u64 a0_1) := (blk_cell BK101.out 1).trans rfl
              have hfz90_0 := blk_frozen BK101.out 0
              have hfz90_1 := blk_frozen BK101.out 1
              go_wp2_with (first | (go_at_call 41; (with_reducible refine (Pmxa.mix_Seed.calls kj33 t104 t102 a0_1 a0_0 t113 t114 _ A44.out).mono ?_); rintro e w91 ⟨rfl, hb⟩; have n0_ := Az (blk_below (g := gb101) (o := .cells #[.int .u64 a0_0, .int .u64 a0_1] 66 (0, 0)) of_lies hb); have n1_ := Az (below_step (low HB) hb); clear BK101; clear HB; have BK101 := n0_; have HB := n1_; clear n0_ n1_; (try clear hb); (try clear hb2); (try clear hk); (try clear hi); obtain ⟨hcz92_0, hcz92_1, hfz92_0, hfz92_1⟩ := cells2 BK101.out) | (go_at_call 41; (with_reducible refine (Pmxa.mix_Seed.calls kj33 t102 t104 a0_0 a0_1 t115 t116 _ A45.out).mono ?_); rintro e w93 ⟨rfl, hb⟩; have n0_ := Az (blk_below (g := gb101) (o := .cells #[.int .u64 a0_0, .int .u64 a0_1] 66 (0, 0)) of_lies hb); have n1_ := Az (below_step (low HB) hb); clear BK101; clear HB; have BK101 := n0_; have HB := n1_; clear n0_ n1_; (try clear hb); (try clear hb2); (try clear hk); (try clear hi); obtain ⟨hcz94_0, hcz94_1, hfz94_0, hfz94_1⟩ := cells2 BK101.out) | (go_at_call 41; (with_reducible refine (Pmxa.mix_Seed.calls kj33 t102 t104 a0_0 a1 t117 t118 _ A46.out).mono ?_); rintro e w95 ⟨rfl, hb⟩; have n0_ := Az (blk_below (g := gb101) (o := .cells #[.int .u64 a0_0, .int .u64 a0_1] 66 (0, 0)) of_lies hb); have n1_ := Az (below_step (low HB) hb); clear BK101; clear HB; have BK101 := n0_; have HB := n1_; clear n0_ n1_; (try clear hb); (try clear hb2); (try clear hk); (try clear hi); obtain ⟨hcz96_0, hcz96_1, hfz96_0, hfz96_1⟩ := cells2 BK101.out) | (go_at_call 33; (with_reducible refine (Pmxl.joustlaw27_lives.calls kj33  t120 _ A89.out).mono ?_); rintro e w97 ⟨rfl, hb⟩; have n0_ := Az (blk_below (g := gb101) (o := .cells #[.int .u64 a0_0, .int .u64 a0_1] 66 (0, 0)) of_lies hb); have n1_ := Az (below_step (low HB) hb); clear BK101; clear HB; have BK101 := n0_; have HB := n1_; clear n0_ n1_; (try clear hb); (try clear hb2); (try clear hk); (try clear hi)))
              repeat (go_quiet (first | (go_at_call 41; (with_reducible refine (Pmxa.mix_Seed.calls kj33 t104 t102 a0_1 a0_0 t113 t114 _ A44.out).mono ?_); rintro e w91 ⟨rfl, hb⟩; have n0_ := Az (blk_below (g := gb101) (o := .cells #[.int .u64 a0_0, .int .u64 a0_1] 66 (0, 0)) of_lies hb); have n1_ := Az (below_step (low HB) hb); clear BK101; clear HB; have BK101 := n0_; have HB := n1_; clear n0_ n1_; (try clear hb); (try clear hb2); (try clear hk); (try clear hi); obtain ⟨hcz92_0, hcz92_1, hfz92_0, hfz92_1⟩ := cells2 BK101.out) | (go_at_call 41; (with_reducible refine (Pmxa.mix_Seed.calls kj33 t102 t104 a0_0 a0_1 t115 t116 _ A45.out).mono ?_); rintro e w93 ⟨rfl, hb⟩; have n0_ := Az (blk_below (g := gb101) (o := .cells #[.int .u64 a0_0, .int .u64 a0_1] 66 (0, 0)) of_lies hb); have n1_ := Az (below_step (low HB) hb); clear BK101; clear HB; have BK101 := n0_; have HB := n1_; clear n0_ n1_; (try clear hb); (try clear hb2); (try clear hk); (try clear hi); obtain ⟨hcz94_0, hcz94_1, hfz94_0, hfz94_1⟩ := cells2 BK101.out) | (go_at_call 41; (with_reducible refine (Pmxa.mix_Seed.calls kj33 t102 t104 a0_0 a1 t117 t118 _ A46.out).mono ?_); rintro e w95 ⟨rfl, hb⟩; have n0_ := Az (blk_below (g := gb101) (o := .cells #[.int .u64 a0_0, .int .u64 a0_1] 66 (0, 0)) of_lies hb); have n1_ := Az (below_step (low HB) hb); clear BK101; clear HB; have BK101 := n0_; have HB := n1_; clear n0_ n1_; (try clear hb); (try clear hb2); (try clear hk); (try clear hi); obtain ⟨hcz96_0, hcz96_1, hfz96_0, hfz96_1⟩ := cells2 BK101.out) | (go_at_call 33; (with_reducible refine (Pmxl.joustlaw27_lives.calls kj33  t120 _ A89.out).mono ?_); rintro e w97 ⟨rfl, hb⟩; have n0_ := Az (blk_below (g := gb101) (o := .cells #[.int .u64 a0_0, .int .u64 a0_1] 66 (0, 0)) of_lies hb); have n1_ := Az (below_step (low HB) hb); clear BK101; clear HB; have BK101 := n0_; have HB := n1_; clear n0_ n1_; (try clear hb); (try clear hb2); (try clear hk); (try clear hi))); try go_wp2_with (first | (go_at_call 41; (with_reducible refine (Pmxa.mix_Seed.calls kj33 t104 t102 a0_1 a0_0 t113 t114 _ A44.out).mono ?_); rintro e w91 ⟨rfl, hb⟩; have n0_ := Az (blk_below (g := gb101) (o := .cells #[.int .u64 a0_0, .int .u64 a0_1] 66 (0, 0)) of_lies hb); have n1_ := Az (below_step (low HB) hb); clear BK101; clear HB; have BK101 := n0_; have HB := n1_; clear n0_ n1_; (try clear hb); (try clear hb2); (try clear hk); (try clear hi); obtain ⟨hcz92_0, hcz92_1, hfz92_0, hfz92_1⟩ := cells2 BK101.out) | (go_at_call 41; (with_reducible refine (Pmxa.mix_Seed.calls kj33 t102 t104 a0_0 a0_1 t115 t116 _ A45.out).mono ?_); rintro e w93 ⟨rfl, hb⟩; have n0_ := Az (blk_below (g := gb101) (o := .cells #[.int .u64 a0_0, .int .u64 a0_1] 66 (0, 0)) of_lies hb); have n1_ := Az (below_step (low HB) hb); clear BK101; clear HB; have BK101 := n0_; have HB := n1_; clear n0_ n1_; (try clear hb); (try clear hb2); (try clear hk); (try clear hi); obtain ⟨hcz94_0, hcz94_1, hfz94_0, hfz94_1⟩ := cells2 BK101.out) | (go_at_call 41; (with_reducible refine (Pmxa.mix_Seed.calls kj33 t102 t104 a0_0 a1 t117 t118 _ A46.out).mono ?_); rintro e w95 ⟨rfl, hb⟩; have n0_ := Az (blk_below (g := gb101) (o := .cells #[.int .u64 a0_0, .int .u64 a0_1] 66 (0, 0)) of_lies hb); have n1_ := Az (below_step (low HB) hb); clear BK101; clear HB; have BK101 := n0_; have HB := n1_; clear n0_ n1_; (try clear hb); (try clear hb2); (try clear hk); (try clear hi); obtain ⟨hcz96_0, hcz96_1, hfz96_0, hfz96_1⟩ := cells2 BK101.out) | (go_at_call 33; (with_reducible refine (Pmxl.joustlaw27_lives.calls kj33  t120 _ A89.out).mono ?_); rintro e w97 ⟨rfl, hb⟩; have n0_ := Az (blk_below (g := gb101) (o := .cells #[.int .u64 a0_0, .int .u64 a0_1] 66 (0, 0)) of_lies hb); have n1_ := Az (below_step (low HB) hb); clear BK101; clear HB; have BK101 := n0_; have HB := n1_; clear n0_ n1_; (try clear hb); (try clear hb2); (try clear hk); (try clear hi))))
              go_ret
              exact ⟨by first | rfl | (simp [errW_none, errW_some] <;> rfl) | (simp [*, errW_none, errW_some] <;> rfl), low HB⟩
             ·
              rw [if_neg c88] at H
              have c88b0 : (t118 == 0) = false := beq_eq_false_iff_ne.mpr c88
              have c88b1 : (t118 != 0) = true := bne_iff_ne.mpr c88
              obtain rfl := Option.some.inj H
              have hcz98_0 : wc.cell? ⟨gb101, 0, none⟩ = some (.int .u64 a0_0) := (blk_cell BK101.out 0).trans rfl
              have hcz98_1 : wc.cell? ⟨gb101, 1, none⟩ = some (.int .u64 a0_1) := (blk_cell BK101.out 1).trans rfl
              have hfz98_0 := blk_frozen BK101.out 0
              have hfz98_1 := blk_frozen BK101.out 1
              go_wp2_with (first | (go_at_call 41; (with_reducible refine (Pmxa.mix_Seed.calls kj33 t104 t102 a0_1 a0_0 t113 t114 _ A44.out).mono ?_); rintro e w99 ⟨rfl, hb⟩; have n0_ := Az (blk_below (g := gb101) (o := .cells #[.int .u64 a0_0, .int .u64 a0_1] 66 (0, 0)) of_lies hb); have n1_ := Az (below_step (low HB) hb); clear BK101; clear HB; have BK101 := n0_; have HB := n1_; clear n0_ n1_; (try clear hb); (try clear hb2); (try clear hk); (try clear hi); obtain ⟨hcz100_0, hcz100_1, hfz100_0, hfz100_1⟩ := cells2 BK101.out) | (go_at_call 41; (with_reducible refine (Pmxa.mix_Seed.calls kj33 t102 t104 a0_0 a0_1 t115 t116 _ A45.out).mono ?_); rintro e w101 ⟨rfl, hb⟩; have n0_ := Az (blk_below (g := gb101) (o := .cells #[.int .u64 a0_0, .int .u64 a0_1] 66 (0, 0)) of_lies hb); have n1_ := Az (below_step (low HB) hb); clear BK101; clear HB; have BK101 := n0_; have HB := n1_; clear n0_ n1_; (try clear hb); (try clear hb2); (try clear hk); (try clear hi); obtain ⟨hcz102_0, hcz102_1, hfz102_0, hfz102_1⟩ := cells2 BK101.out) | (go_at_call 41; (with_reducible refine (Pmxa.mix_Seed.calls kj33 t102 t104 a0_0 a1 t117 t118 _ A46.out).mono ?_); rintro e w103 ⟨rfl, hb⟩; have n0_ := Az (blk_below (g := gb101) (o := .cells #[.int .u64 a0_0, .int .u64 a0_1] 66 (0, 0)) of_lies hb); have n1_ := Az (below_step (low HB) hb); clear BK101; clear HB; have BK101 := n0_; have HB := n1_; clear n0_ n1_; (try clear hb); (try clear hb2); (try clear hk); (try clear hi); obtain ⟨hcz104_0, hcz104_1, hfz104_0, hfz104_1⟩ := cells2 BK101.out))
              repeat (go_quiet (first | (go_at_call 41; (with_reducible refine (Pmxa.mix_Seed.calls kj33 t104 t102 a0_1 a0_0 t113 t114 _ A44.out).mono ?_); rintro e w99 ⟨rfl, hb⟩; have n0_ := Az (blk_below (g := gb101) (o := .cells #[.int .u64 a0_0, .int .u64 a0_1] 66 (0, 0)) of_lies hb); have n1_ := Az (below_step (low HB) hb); clear BK101; clear HB; have BK101 := n0_; have HB := n1_; clear n0_ n1_; (try clear hb); (try clear hb2); (try clear hk); (try clear hi); obtain ⟨hcz100_0, hcz100_1, hfz100_0, hfz100_1⟩ := cells2 BK101.out) | (go_at_call 41; (with_reducible refine (Pmxa.mix_Seed.calls kj33 t102 t104 a0_0 a0_1 t115 t116 _ A45.out).mono ?_); rintro e w101 ⟨rfl, hb⟩; have n0_ := Az (blk_below (g := gb101) (o := .cells #[.int .u64 a0_0, .int .u64 a0_1] 66 (0, 0)) of_lies hb); have n1_ := Az (below_step (low HB) hb); clear BK101; clear HB; have BK101 := n0_; have HB := n1_; clear n0_ n1_; (try clear hb); (try clear hb2); (try clear hk); (try clear hi); obtain ⟨hcz102_0, hcz102_1, hfz102_0, hfz102_1⟩ := cells2 BK101.out) | (go_at_call 41; (with_reducible refine (Pmxa.mix_Seed.calls kj33 t102 t104 a0_0 a1 t117 t118 _ A46.out).mono ?_); rintro e w103 ⟨rfl, hb⟩; have n0_ := Az (blk_below (g := gb101) (o := .cells #[.int .u64 a0_0, .int .u64 a0_1] 66 (0, 0)) of_lies hb); have n1_ := Az (below_step (low HB) hb); clear BK101; clear HB; have BK101 := n0_; have HB := n1_; clear n0_ n1_; (try clear hb); (try clear hb2); (try clear hk); (try clear hi); obtain ⟨hcz104_0, hcz104_1, hfz104_0, hfz104_1⟩ := cells2 BK101.out)); try go_wp2_with (first | (go_at_call 41; (with_reducible refine (Pmxa.mix_Seed.calls kj33 t104 t102 a0_1 a0_0 t113 t114 _ A44.out).mono ?_); rintro e w99 ⟨rfl, hb⟩; have n0_ := Az (blk_below (g := gb101) (o := .cells #[.int .u64 a0_0, .int .u64 a0_1] 66 (0, 0)) of_lies hb); have n1_ := Az (below_step (low HB) hb); clear BK101; clear HB; have BK101 := n0_; have HB := n1_; clear n0_ n1_; (try clear hb); (try clear hb2); (try clear hk); (try clear hi); obtain ⟨hcz100_0, hcz100_1, hfz100_0, hfz100_1⟩ := cells2 BK101.out) | (go_at_call 41; (with_reducible refine (Pmxa.mix_Seed.calls kj33 t102 t104 a0_0 a0_1 t115 t116 _ A45.out).mono ?_); rintro e w101 ⟨rfl, hb⟩; have n0_ := Az (blk_below (g := gb101) (o := .cells #[.int .u64 a0_0, .int .u64 a0_1] 66 (0, 0)) of_lies hb); have n1_ := Az (below_step (low HB) hb); clear BK101; clear HB; have BK101 := n0_; have HB := n1_; clear n0_ n1_; (try clear hb); (try clear hb2); (try clear hk); (try clear hi); obtain ⟨hcz102_0, hcz102_1, hfz102_0, hfz102_1⟩ := cells2 BK101.out) | (go_at_call 41; (with_reducible refine (Pmxa.mix_Seed.calls kj33 t102 t104 a0_0 a1 t117 t118 _ A46.out).mono ?_); rintro e w103 ⟨rfl, hb⟩; have n0_ := Az (blk_below (g := gb101) (o := .cells #[.int .u64 a0_0, .int .u64 a0_1] 66 (0, 0)) of_lies hb); have n1_ := Az (below_step (low HB) hb); clear BK101; clear HB; have BK101 := n0_; have HB := n1_; clear n0_ n1_; (try clear hb); (try clear hb2); (try clear hk); (try clear hi); obtain ⟨hcz104_0, hcz104_1, hfz104_0, hfz104_1⟩ := cells2 BK101.out)))
              go_ret
              exact ⟨by first | rfl | (simp [errW_none, errW_some] <;> rfl) | (simp [*, errW_none, errW_some] <;> rfl), low HB⟩
            ·
             rw [if_neg c87] at H
             have c87b0 : (t115 == t108) = false := beq_eq_false_iff_ne.mpr c87
             have c87b1 : (t115 != t108) = true := bne_iff_ne.mpr c87
             obtain rfl := Option.some.inj H
             have hcz105_0 : wc.cell? ⟨gb101, 0, none⟩ = some (.int .u64 a0_0) := (blk_cell BK101.out 0).trans rfl
             have hcz105_1 : wc.cell? ⟨gb101, 1, none⟩ = some (.int .u64 a0_1) := (blk_cell BK101.out 1).trans rfl
             have hfz105_0 := blk_frozen BK101.out 0
             have hfz105_1 := blk_frozen BK101.out 1
             go_wp2_with (first | (go_at_call 41; (with_reducible refine (Pmxa.mix_Seed.calls kj33 t104 t102 a0_1 a0_0 t113 t114 _ A44.out).mono ?_); rintro e w106 ⟨rfl, hb⟩; have n0_ := Az (blk_below (g := gb101) (o := .cells #[.int .u64 a0_0, .int .u64 a0_1] 66 (0, 0)) of_lies hb); have n1_ := Az (below_step (low HB) hb); clear BK101; clear HB; have BK101 := n0_; have HB := n1_; clear n0_ n1_; (try clear hb); (try clear hb2); (try clear hk); (try clear hi); obtain ⟨hcz107_0, hcz107_1, hfz107_0, hfz107_1⟩ := cells2 BK101.out) | (go_at_call 41; (with_reducible refine (Pmxa.mix_Seed.calls kj33 t102 t104 a0_0 a0_1 t115 t116 _ A45.out).mono ?_); rintro e w108 ⟨rfl, hb⟩; have n0_ := Az (blk_below (g := gb101) (o := .cells #[.int .u64 a0_0, .int .u64 a0_1] 66 (0, 0)) of_lies hb); have n1_ := Az (below_step (low HB) hb); clear BK101; clear HB; have BK101 := n0_; have HB := n1_; clear n0_ n1_; (try clear hb); (try clear hb2); (try clear hk); (try clear hi); obtain ⟨hcz109_0, hcz109_1, hfz109_0, hfz109_1⟩ := cells2 BK101.out) | (go_at_call 41; (with_reducible refine (Pmxa.mix_Seed.calls kj33 t102 t104 a0_0 a1 t117 t118 _ A46.out).mono ?_); rintro e w110 ⟨rfl, hb⟩; have n0_ := Az (blk_below (g := gb101) (o := .cells #[.int .u64 a0_0, .int .u64 a0_1] 66 (0, 0)) of_lies hb); have n1_ := Az (below_step (low HB) hb); clear BK101; clear HB; have BK101 := n0_; have HB := n1_; clear n0_ n1_; (try clear hb); (try clear hb2); (try clear hk); (try clear hi); obtain ⟨hcz111_0, hcz111_1, hfz111_0, hfz111_1⟩ := cells2 BK101.out))
             repeat (go_quiet (first | (go_at_call 41; (with_reducible refine (Pmxa.mix_Seed.calls kj33 t104 t102 a0_1 a0_0 t113 t114 _ A44.out).mono ?_); rintro e w106 ⟨rfl, hb⟩; have n0_ := Az (blk_below (g := gb101) (o := .cells #[.int .u64 a0_0, .int .u64 a0_1] 66 (0, 0)) of_lies hb); have n1_ := Az (below_step (low HB) hb); clear BK101; clear HB; have BK101 := n0_; have HB := n1_; clear n0_ n1_; (try clear hb); (try clear hb2); (try clear hk); (try clear hi); obtain ⟨hcz107_0, hcz107_1, hfz107_0, hfz107_1⟩ := cells2 BK101.out) | (go_at_call 41; (with_reducible refine (Pmxa.mix_Seed.calls kj33 t102 t104 a0_0 a0_1 t115 t116 _ A45.out).mono ?_); rintro e w108 ⟨rfl, hb⟩; have n0_ := Az (blk_below (g := gb101) (o := .cells #[.int .u64 a0_0, .int .u64 a0_1] 66 (0, 0)) of_lies hb); have n1_ := Az (below_step (low HB) hb); clear BK101; clear HB; have BK101 := n0_; have HB := n1_; clear n0_ n1_; (try clear hb); (try clear hb2); (try clear hk); (try clear hi); obtain ⟨hcz109_0, hcz109_1, hfz109_0, hfz109_1⟩ := cells2 BK101.out) | (go_at_call 41; (with_reducible refine (Pmxa.mix_Seed.calls kj33 t102 t104 a0_0 a1 t117 t118 _ A46.out).mono ?_); rintro e w110 ⟨rfl, hb⟩; have n0_ := Az (blk_below (g := gb101) (o := .cells #[.int .u64 a0_0, .int .u64 a0_1] 66 (0, 0)) of_lies hb); have n1_ := Az (below_step (low HB) hb); clear BK101; clear HB; have BK101 := n0_; have HB := n1_; clear n0_ n1_; (try clear hb); (try clear hb2); (try clear hk); (try clear hi); obtain ⟨hcz111_0, hcz111_1, hfz111_0, hfz111_1⟩ := cells2 BK101.out)); try go_wp2_with (first | (go_at_call 41; (with_reducible refine (Pmxa.mix_Seed.calls kj33 t104 t102 a0_1 a0_0 t113 t114 _ A44.out).mono ?_); rintro e w106 ⟨rfl, hb⟩; have n0_ := Az (blk_below (g := gb101) (o := .cells #[.int .u64 a0_0, .int .u64 a0_1] 66 (0, 0)) of_lies hb); have n1_ := Az (below_step (low HB) hb); clear BK101; clear HB; have BK101 := n0_; have HB := n1_; clear n0_ n1_; (try clear hb); (try clear hb2); (try clear hk); (try clear hi); obtain ⟨hcz107_0, hcz107_1, hfz107_0, hfz107_1⟩ := cells2 BK101.out) | (go_at_call 41; (with_reducible refine (Pmxa.mix_Seed.calls kj33 t102 t104 a0_0 a0_1 t115 t116 _ A45.out).mono ?_); rintro e w108 ⟨rfl, hb⟩; have n0_ := Az (blk_below (g := gb101) (o := .cells #[.int .u64 a0_0, .int .u64 a0_1] 66 (0, 0)) of_lies hb); have n1_ := Az (below_step (low HB) hb); clear BK101; clear HB; have BK101 := n0_; have HB := n1_; clear n0_ n1_; (try clear hb); (try clear hb2); (try clear hk); (try clear hi); obtain ⟨hcz109_0, hcz109_1, hfz109_0, hfz109_1⟩ := cells2 BK101.out) | (go_at_call 41; (with_reducible refine (Pmxa.mix_Seed.calls kj33 t102 t104 a0_0 a1 t117 t118 _ A46.out).mono ?_); rintro e w110 ⟨rfl, hb⟩; have n0_ := Az (blk_below (g := gb101) (o := .cells #[.int .u64 a0_0, .int .u64 a0_1] 66 (0, 0)) of_lies hb); have n1_ := Az (below_step (low HB) hb); clear BK101; clear HB; have BK101 := n0_; have HB := n1_; clear n0_ n1_; (try clear hb); (try clear hb2); (try clear hk); (try clear hi); obtain ⟨hcz111_0, hcz111_1, hfz111_0, hfz111_1⟩ := cells2 BK101.out)))
             go_ret
             exact ⟨by first | rfl | (simp [errW_none, errW_some] <;> rfl) | (simp [*, errW_none, errW_some] <;> rfl), low HB⟩
           ·
            rw [if_neg c86] at H
            have c86b0 : (t116 == 0) = false := beq_eq_false_iff_ne.mpr c86
            have c86b1 : (t116 != 0) = true := bne_iff_ne.mpr c86
            obtain rfl := Option.some.inj H
            have hcz112_0 : wc.cell? ⟨gb101, 0, none⟩ = some (.int .u64 a0_0) := (blk_cell BK101.out 0).trans rfl
            have hcz112_1 : wc.cell? ⟨gb101, 1, none⟩ = some (.int .u64 a0_1) := (blk_cell BK101.out 1).trans rfl
            have hfz112_0 := blk_frozen BK101.out 0
            have hfz112_1 := blk_frozen BK101.out 1
            go_wp2_with (first | (go_at_call 41; (with_reducible refine (Pmxa.mix_Seed.calls kj33 t104 t102 a0_1 a0_0 t113 t114 _ A44.out).mono ?_); rintro e w113 ⟨rfl, hb⟩; have n0_ := Az (blk_below (g := gb101) (o := .cells #[.int .u64 a0_0, .int .u64 a0_1] 66 (0, 0)) of_lies hb); have n1_ := Az (below_step (low HB) hb); clear BK101; clear HB; have BK101 := n0_; have HB := n1_; clear n0_ n1_; (try clear hb); (try clear hb2); (try clear hk); (try clear hi); obtain ⟨hcz114_0, hcz114_1, hfz114_0, hfz114_1⟩ := cells2 BK101.out) | (go_at_call 41; (with_reducible refine (Pmxa.mix_Seed.calls kj33 t102 t104 a0_0 a0_1 t115 t116 _ A45.out).mono ?_); rintro e w115 ⟨rfl, hb⟩; have n0_ := Az (blk_below (g := gb101) (o := .cells #[.int .u64 a0_0, .int .u64 a0_1] 66 (0, 0)) of_lies hb); have n1_ := Az (below_step (low HB) hb); clear BK101; clear HB; have BK101 := n0_; have HB := n1_; clear n0_ n1_; (try clear hb); (try clear hb2); (try clear hk); (try clear hi); obtain ⟨hcz116_0, hcz116_1, hfz116_0, hfz116_1⟩ := cells2 BK101.out) | (go_at_call 41; (with_reducible refine (Pmxa.mix_Seed.calls kj33 t102 t104 a0_0 a1 t117 t118 _ A46.out).mono ?_); rintro e w117 ⟨rfl, hb⟩; have n0_ := Az (blk_below (g := gb101) (o := .cells #[.int .u64 a0_0, .int .u64 a0_1] 66 (0, 0)) of_lies hb); have n1_ := Az (below_step (low HB) hb); clear BK101; clear HB; have BK101 := n0_; have HB := n1_; clear n0_ n1_; (try clear hb); (try clear hb2); (try clear hk); (try clear hi); obtain ⟨hcz118_0, hcz118_1, hfz118_0, hfz118_1⟩ := cells2 BK101.out))
            repeat (go_quiet (first | (go_at_call 41; (with_reducible refine (Pmxa.mix_Seed.calls kj33 t104 t102 a0_1 a0_0 t113 t114 _ A44.out).mono ?_); rintro e w113 ⟨rfl, hb⟩; have n0_ := Az (blk_below (g := gb101) (o := .cells #[.int .u64 a0_0, .int .u64 a0_1] 66 (0, 0)) of_lies hb); have n1_ := Az (below_step (low HB) hb); clear BK101; clear HB; have BK101 := n0_; have HB := n1_; clear n0_ n1_; (try clear hb); (try clear hb2); (try clear hk); (try clear hi); obtain ⟨hcz114_0, hcz114_1, hfz114_0, hfz114_1⟩ := cells2 BK101.out) | (go_at_call 41; (with_reducible refine (Pmxa.mix_Seed.calls kj33 t102 t104 a0_0 a0_1 t115 t116 _ A45.out).mono ?_); rintro e w115 ⟨rfl, hb⟩; have n0_ := Az (blk_below (g := gb101) (o := .cells #[.int .u64 a0_0, .int .u64 a0_1] 66 (0, 0)) of_lies hb); have n1_ := Az (below_step (low HB) hb); clear BK101; clear HB; have BK101 := n0_; have HB := n1_; clear n0_ n1_; (try clear hb); (try clear hb2); (try clear hk); (try clear hi); obtain ⟨hcz116_0, hcz116_1, hfz116_0, hfz116_1⟩ := cells2 BK101.out) | (go_at_call 41; (with_reducible refine (Pmxa.mix_Seed.calls kj33 t102 t104 a0_0 a1 t117 t118 _ A46.out).mono ?_); rintro e w117 ⟨rfl, hb⟩; have n0_ := Az (blk_below (g := gb101) (o := .cells #[.int .u64 a0_0, .int .u64 a0_1] 66 (0, 0)) of_lies hb); have n1_ := Az (below_step (low HB) hb); clear BK101; clear HB; have BK101 := n0_; have HB := n1_; clear n0_ n1_; (try clear hb); (try clear hb2); (try clear hk); (try clear hi); obtain ⟨hcz118_0, hcz118_1, hfz118_0, hfz118_1⟩ := cells2 BK101.out)); try go_wp2_with (first | (go_at_call 41; (with_reducible refine (Pmxa.mix_Seed.calls kj33 t104 t102 a0_1 a0_0 t113 t114 _ A44.out).mono ?_); rintro e w113 ⟨rfl, hb⟩; have n0_ := Az (blk_below (g := gb101) (o := .cells #[.int .u64 a0_0, .int .u64 a0_1] 66 (0, 0)) of_lies hb); have n1_ := Az (below_step (low HB) hb); clear BK101; clear HB; have BK101 := n0_; have HB := n1_; clear n0_ n1_; (try clear hb); (try clear hb2); (try clear hk); (try clear hi); obtain ⟨hcz114_0, hcz114_1, hfz114_0, hfz114_1⟩ := cells2 BK101.out) | (go_at_call 41; (with_reducible refine (Pmxa.mix_Seed.calls kj33 t102 t104 a0_0 a0_1 t115 t116 _ A45.out).mono ?_); rintro e w115 ⟨rfl, hb⟩; have n0_ := Az (blk_below (g := gb101) (o := .cells #[.int .u64 a0_0, .int .u64 a0_1] 66 (0, 0)) of_lies hb); have n1_ := Az (below_step (low HB) hb); clear BK101; clear HB; have BK101 := n0_; have HB := n1_; clear n0_ n1_; (try clear hb); (try clear hb2); (try clear hk); (try clear hi); obtain ⟨hcz116_0, hcz116_1, hfz116_0, hfz116_1⟩ := cells2 BK101.out) | (go_at_call 41; (with_reducible refine (Pmxa.mix_Seed.calls kj33 t102 t104 a0_0 a1 t117 t118 _ A46.out).mono ?_); rintro e w117 ⟨rfl, hb⟩; have n0_ := Az (blk_below (g := gb101) (o := .cells #[.int .u64 a0_0, .int .u64 a0_1] 66 (0, 0)) of_lies hb); have n1_ := Az (below_step (low HB) hb); clear BK101; clear HB; have BK101 := n0_; have HB := n1_; clear n0_ n1_; (try clear hb); (try clear hb2); (try clear hk); (try clear hi); obtain ⟨hcz118_0, hcz118_1, hfz118_0, hfz118_1⟩ := cells2 BK101.out)))
            go_ret
            exact ⟨by first | rfl | (simp [errW_none, errW_some] <;> rfl) | (simp [*, errW_none, errW_some] <;> rfl), low HB⟩
          ·
           rw [if_neg c85] at H
           have c85b0 : (t114 == 0) = false := beq_eq_false_iff_ne.mpr c85
           have c85b1 : (t114 != 0) = true := bne_iff_ne.mpr c85
           obtain rfl := Option.some.inj H
           have hcz119_0 : wc.cell? ⟨gb101, 0, none⟩ = some (.int .u64 a0_0) := (blk_cell BK101.out 0).trans rfl
           have hcz119_1 : wc.cell? ⟨gb101, 1, none⟩ = some (.int .u64 a0_1) := (blk_cell BK101.out 1).trans rfl
           have hfz119_0 := blk_frozen BK101.out 0
           have hfz119_1 := blk_frozen BK101.out 1
           go_wp2_with (first | (go_at_call 41; (with_reducible refine (Pmxa.mix_Seed.calls kj33 t104 t102 a0_1 a0_0 t113 t114 _ A44.out).mono ?_); rintro e w120 ⟨rfl, hb⟩; have n0_ := Az (blk_below (g := gb101) (o := .cells #[.int .u64 a0_0, .int .u64 a0_1] 66 (0, 0)) of_lies hb); have n1_ := Az (below_step (low HB) hb); clear BK101; clear HB; have BK101 := n0_; have HB := n1_; clear n0_ n1_; (try clear hb); (try clear hb2); (try clear hk); (try clear hi); obtain ⟨hcz121_0, hcz121_1, hfz121_0, hfz121_1⟩ := cells2 BK101.out) | (go_at_call 41; (with_reducible refine (Pmxa.mix_Seed.calls kj33 t102 t104 a0_0 a0_1 t115 t116 _ A45.out).mono ?_); rintro e w122 ⟨rfl, hb⟩; have n0_ := Az (blk_below (g := gb101) (o := .cells #[.int .u64 a0_0, .int .u64 a0_1] 66 (0, 0)) of_lies hb); have n1_ := Az (below_step (low HB) hb); clear BK101; clear HB; have BK101 := n0_; have HB := n1_; clear n0_ n1_; (try clear hb); (try clear hb2); (try clear hk); (try clear hi); obtain ⟨hcz123_0, hcz123_1, hfz123_0, hfz123_1⟩ := cells2 BK101.out) | (go_at_call 41; (with_reducible refine (Pmxa.mix_Seed.calls kj33 t102 t104 a0_0 a1 t117 t118 _ A46.out).mono ?_); rintro e w124 ⟨rfl, hb⟩; have n0_ := Az (blk_below (g := gb101) (o := .cells #[.int .u64 a0_0, .int .u64 a0_1] 66 (0, 0)) of_lies hb); have n1_ := Az (below_step (low HB) hb); clear BK101; clear HB; have BK101 := n0_; have HB := n1_; clear n0_ n1_; (try clear hb); (try clear hb2); (try clear hk); (try clear hi); obtain ⟨hcz125_0, hcz125_1, hfz125_0, hfz125_1⟩ := cells2 BK101.out))
           repeat (go_quiet (first | (go_at_call 41; (with_reducible refine (Pmxa.mix_Seed.calls kj33 t104 t102 a0_1 a0_0 t113 t114 _ A44.out).mono ?_); rintro e w120 ⟨rfl, hb⟩; have n0_ := Az (blk_below (g := gb101) (o := .cells #[.int .u64 a0_0, .int .u64 a0_1] 66 (0, 0)) of_lies hb); have n1_ := Az (below_step (low HB) hb); clear BK101; clear HB; have BK101 := n0_; have HB := n1_; clear n0_ n1_; (try clear hb); (try clear hb2); (try clear hk); (try clear hi); obtain ⟨hcz121_0, hcz121_1, hfz121_0, hfz121_1⟩ := cells2 BK101.out) | (go_at_call 41; (with_reducible refine (Pmxa.mix_Seed.calls kj33 t102 t104 a0_0 a0_1 t115 t116 _ A45.out).mono ?_); rintro e w122 ⟨rfl, hb⟩; have n0_ := Az (blk_below (g := gb101) (o := .cells #[.int .u64 a0_0, .int .u64 a0_1] 66 (0, 0)) of_lies hb); have n1_ := Az (below_step (low HB) hb); clear BK101; clear HB; have BK101 := n0_; have HB := n1_; clear n0_ n1_; (try clear hb); (try clear hb2); (try clear hk); (try clear hi); obtain ⟨hcz123_0, hcz123_1, hfz123_0, hfz123_1⟩ := cells2 BK101.out) | (go_at_call 41; (with_reducible refine (Pmxa.mix_Seed.calls kj33 t102 t104 a0_0 a1 t117 t118 _ A46.out).mono ?_); rintro e w124 ⟨rfl, hb⟩; have n0_ := Az (blk_below (g := gb101) (o := .cells #[.int .u64 a0_0, .int .u64 a0_1] 66 (0, 0)) of_lies hb); have n1_ := Az (below_step (low HB) hb); clear BK101; clear HB; have BK101 := n0_; have HB := n1_; clear n0_ n1_; (try clear hb); (try clear hb2); (try clear hk); (try clear hi); obtain ⟨hcz125_0, hcz125_1, hfz125_0, hfz125_1⟩ := cells2 BK101.out)); try go_wp2_with (first | (go_at_call 41; (with_reducible refine (Pmxa.mix_Seed.calls kj33 t104 t102 a0_1 a0_0 t113 t114 _ A44.out).mono ?_); rintro e w120 ⟨rfl, hb⟩; have n0_ := Az (blk_below (g := gb101) (o := .cells #[.int .u64 a0_0, .int .u64 a0_1] 66 (0, 0)) of_lies hb); have n1_ := Az (below_step (low HB) hb); clear BK101; clear HB; have BK101 := n0_; have HB := n1_; clear n0_ n1_; (try clear hb); (try clear hb2); (try clear hk); (try clear hi); obtain ⟨hcz121_0, hcz121_1, hfz121_0, hfz121_1⟩ := cells2 BK101.out) | (go_at_call 41; (with_reducible refine (Pmxa.mix_Seed.calls kj33 t102 t104 a0_0 a0_1 t115 t116 _ A45.out).mono ?_); rintro e w122 ⟨rfl, hb⟩; have n0_ := Az (blk_below (g := gb101) (o := .cells #[.int .u64 a0_0, .int .u64 a0_1] 66 (0, 0)) of_lies hb); have n1_ := Az (below_step (low HB) hb); clear BK101; clear HB; have BK101 := n0_; have HB := n1_; clear n0_ n1_; (try clear hb); (try clear hb2); (try clear hk); (try clear hi); obtain ⟨hcz123_0, hcz123_1, hfz123_0, hfz123_1⟩ := cells2 BK101.out) | (go_at_call 41; (with_reducible refine (Pmxa.mix_Seed.calls kj33 t102 t104 a0_0 a1 t117 t118 _ A46.out).mono ?_); rintro e w124 ⟨rfl, hb⟩; have n0_ := Az (blk_below (g := gb101) (o := .cells #[.int .u64 a0_0, .int .u64 a0_1] 66 (0, 0)) of_lies hb); have n1_ := Az (below_step (low HB) hb); clear BK101; clear HB; have BK101 := n0_; have HB := n1_; clear n0_ n1_; (try clear hb); (try clear hb2); (try clear hk); (try clear hi); obtain ⟨hcz125_0, hcz125_1, hfz125_0, hfz125_1⟩ := cells2 BK101.out)))
           go_ret
           exact ⟨by first | rfl | (simp [errW_none, errW_some] <;> rfl) | (simp [*, errW_none, errW_some] <;> rfl), low HB⟩
         ·
          rw [if_neg c84] at H
          have c84b0 : (a1 == a0_1) = false := beq_eq_false_iff_ne.mpr c84
          have c84b1 : (a1 != a0_1) = true := bne_iff_ne.mpr c84
          by_cases c126 : t114 = 0
          ·
           rw [if_pos c126] at H
           have c126b0 : (t114 == 0) = true := beq_iff_eq.mpr c126
           have c126b1 : (t114 != 0) = false := bne_eq_false_iff_eq.mpr c126
           clear c126
           by_cases c127 : t116 = 0
           ·
            rw [if_pos c127] at H
            have c127b0 : (t116 == 0) = true := beq_iff_eq.mpr c127
            have c127b1 : (t116 != 0) = false := bne_eq_false_iff_eq.mpr c127
            clear c127
            by_cases c128 : t115 = t108
            ·
             rw [if_pos c128] at H
             have c128b0 : (t115 == t108) = true := beq_iff_eq.mpr c128
             have c128b1 : (t115 != t108) = false := bne_eq_false_iff_eq.mpr c128
             clear c128
             by_cases c129 : t118 = 9
             ·
              rw [if_pos c129] at H
              have c129b0 : (t118 == 9) = true := beq_iff_eq.mpr c129
              have c129b1 : (t118 != 9) = false := bne_eq_false_iff_eq.mpr c129
              clear c129
              replace H := Option.bind_eq_some_iff.mp H
              obtain ⟨t121, A1300, H⟩ := H
              replace H : (some t121) = some r := H
              have A130 := Az A1300
              clear A1300
              obtain rfl := Option.some.inj H
              have hcz131_0 : wc.cell? ⟨gb101, 0, none⟩ = some (.int .u64 a0_0) := (blk_cell BK101.out 0).trans rfl
              have hcz131_1 : wc.cell? ⟨gb101, 1, none⟩ = some (.int .u64 a0_1) := (blk_cell BK101.out 1).trans rfl
              have hfz131_0 := blk_frozen BK101.out 0
              have hfz131_1 := blk_frozen BK101.out 1
              go_wp2_with (first | (go_at_call 41; (with_reducible refine (Pmxa.mix_Seed.calls kj33 t104 t102 a0_1 a0_0 t113 t114 _ A44.out).mono ?_); rintro e w132 ⟨rfl, hb⟩; have n0_ := Az (blk_below (g := gb101) (o := .cells #[.int .u64 a0_0, .int .u64 a0_1] 66 (0, 0)) of_lies hb); have n1_ := Az (below_step (low HB) hb); clear BK101; clear HB; have BK101 := n0_; have HB := n1_; clear n0_ n1_; (try clear hb); (try clear hb2); (try clear hk); (try clear hi); obtain ⟨hcz133_0, hcz133_1, hfz133_0, hfz133_1⟩ := cells2 BK101.out) | (go_at_call 41; (with_reducible refine (Pmxa.mix_Seed.calls kj33 t102 t104 a0_0 a0_1 t115 t116 _ A45.out).mono ?_); rintro e w134 ⟨rfl, hb⟩; have n0_ := Az (blk_below (g := gb101) (o := .cells #[.int .u64 a0_0, .int .u64 a0_1] 66 (0, 0)) of_lies hb); have n1_ := Az (below_step (low HB) hb); clear BK101; clear HB; have BK101 := n0_; have HB := n1_; clear n0_ n1_; (try clear hb); (try clear hb2); (try clear hk); (try clear hi); obtain ⟨hcz135_0, hcz135_1, hfz135_0, hfz135_1⟩ := cells2 BK101.out) | (go_at_call 41; (with_reducible refine (Pmxa.mix_Seed.calls kj33 t102 t104 a0_0 a1 t117 t118 _ A46.out).mono ?_); rintro e w136 ⟨rfl, hb⟩; have n0_ := Az (blk_below (g := gb101) (o := .cells #[.int .u64 a0_0, .int .u64 a0_1] 66 (0, 0)) of_lies hb); have n1_ := Az (below_step (low HB) hb); clear BK101; clear HB; have BK101 := n0_; have HB := n1_; clear n0_ n1_; (try clear hb); (try clear hb2); (try clear hk); (try clear hi); obtain ⟨hcz137_0, hcz137_1, hfz137_0, hfz137_1⟩ := cells2 BK101.out) | (go_at_call 33; (with_reducible refine (Pmxl.joustlaw27_lives.calls kj33  t121 _ A130.out).mono ?_); rintro e w138 ⟨rfl, hb⟩; have n0_ := Az (blk_below (g := gb101) (o := .cells #[.int .u64 a0_0, .int .u64 a0_1] 66 (0, 0)) of_lies hb); have n1_ := Az (below_step (low HB) hb); clear BK101; clear HB; have BK101 := n0_; have HB := n1_; clear n0_ n1_; (try clear hb); (try clear hb2); (try clear hk); (try clear hi)))
              repeat (go_quiet (first | (go_at_call 41; (with_reducible refine (Pmxa.mix_Seed.calls kj33 t104 t102 a0_1 a0_0 t113 t114 _ A44.out).mono ?_); rintro e w132 ⟨rfl, hb⟩; have n0_ := Az (blk_below (g := gb101) (o := .cells #[.int .u64 a0_0, .int .u64 a0_1] 66 (0, 0)) of_lies hb); have n1_ := Az (below_step (low HB) hb); clear BK101; clear HB; have BK101 := n0_; have HB := n1_; clear n0_ n1_; (try clear hb); (try clear hb2); (try clear hk); (try clear hi); obtain ⟨hcz133_0, hcz133_1, hfz133_0, hfz133_1⟩ := cells2 BK101.out) | (go_at_call 41; (with_reducible refine (Pmxa.mix_Seed.calls kj33 t102 t104 a0_0 a0_1 t115 t116 _ A45.out).mono ?_); rintro e w134 ⟨rfl, hb⟩; have n0_ := Az (blk_below (g := gb101) (o := .cells #[.int .u64 a0_0, .int .u64 a0_1] 66 (0, 0)) of_lies hb); have n1_ := Az (below_step (low HB) hb); clear BK101; clear HB; have BK101 := n0_; have HB := n1_; clear n0_ n1_; (try clear hb); (try clear hb2); (try clear hk); (try clear hi); obtain ⟨hcz135_0, hcz135_1, hfz135_0, hfz135_1⟩ := cells2 BK101.out) | (go_at_call 41; (with_reducible refine (Pmxa.mix_Seed.calls kj33 t102 t104 a0_0 a1 t117 t118 _ A46.out).mono ?_); rintro e w136 ⟨rfl, hb⟩; have n0_ := Az (blk_below (g := gb101) (o := .cells #[.int .u64 a0_0, .int .u64 a0_1] 66 (0, 0)) of_lies hb); have n1_ := Az (below_step (low HB) hb); clear BK101; clear HB; have BK101 := n0_; have HB := n1_; clear n0_ n1_; (try clear hb); (try clear hb2); (try clear hk); (try clear hi); obtain ⟨hcz137_0, hcz137_1, hfz137_0, hfz137_1⟩ := cells2 BK101.out) | (go_at_call 33; (with_reducible refine (Pmxl.joustlaw27_lives.calls kj33  t121 _ A130.out).mono ?_); rintro e w138 ⟨rfl, hb⟩; have n0_ := Az (blk_below (g := gb101) (o := .cells #[.int .u64 a0_0, .int .u64 a0_1] 66 (0, 0)) of_lies hb); have n1_ := Az (below_step (low HB) hb); clear BK101; clear HB; have BK101 := n0_; have HB := n1_; clear n0_ n1_; (try clear hb); (try clear hb2); (try clear hk); (try clear hi))); try go_wp2_with (first | (go_at_call 41; (with_reducible refine (Pmxa.mix_Seed.calls kj33 t104 t102 a0_1 a0_0 t113 t114 _ A44.out).mono ?_); rintro e w132 ⟨rfl, hb⟩; have n0_ := Az (blk_below (g := gb101) (o := .cells #[.int .u64 a0_0, .int .u64 a0_1] 66 (0, 0)) of_lies hb); have n1_ := Az (below_step (low HB) hb); clear BK101; clear HB; have BK101 := n0_; have HB := n1_; clear n0_ n1_; (try clear hb); (try clear hb2); (try clear hk); (try clear hi); obtain ⟨hcz133_0, hcz133_1, hfz133_0, hfz133_1⟩ := cells2 BK101.out) | (go_at_call 41; (with_reducible refine (Pmxa.mix_Seed.calls kj33 t102 t104 a0_0 a0_1 t115 t116 _ A45.out).mono ?_); rintro e w134 ⟨rfl, hb⟩; have n0_ := Az (blk_below (g := gb101) (o := .cells #[.int .u64 a0_0, .int .u64 a0_1] 66 (0, 0)) of_lies hb); have n1_ := Az (below_step (low HB) hb); clear BK101; clear HB; have BK101 := n0_; have HB := n1_; clear n0_ n1_; (try clear hb); (try clear hb2); (try clear hk); (try clear hi); obtain ⟨hcz135_0, hcz135_1, hfz135_0, hfz135_1⟩ := cells2 BK101.out) | (go_at_call 41; (with_reducible refine (Pmxa.mix_Seed.calls kj33 t102 t104 a0_0 a1 t117 t118 _ A46.out).mono ?_); rintro e w136 ⟨rfl, hb⟩; have n0_ := Az (blk_below (g := gb101) (o := .cells #[.int .u64 a0_0, .int .u64 a0_1] 66 (0, 0)) of_lies hb); have n1_ := Az (below_step (low HB) hb); clear BK101; clear HB; have BK101 := n0_; have HB := n1_; clear n0_ n1_; (try clear hb); (try clear hb2); (try clear hk); (try clear hi); obtain ⟨hcz137_0, hcz137_1, hfz137_0, hfz137_1⟩ := cells2 BK101.out) | (go_at_call 33; (with_reducible refine (Pmxl.joustlaw27_lives.calls kj33  t121 _ A130.out).mono ?_); rintro e w138 ⟨rfl, hb⟩; have n0_ := Az (blk_below (g := gb101) (o := .cells #[.int .u64 a0_0, .int .u64 a0_1] 66 (0, 0)) of_lies hb); have n1_ := Az (below_step (low HB) hb); clear BK101; clear HB; have BK101 := n0_; have HB := n1_; clear n0_ n1_; (try clear hb); (try clear hb2); (try clear hk); (try clear hi))))
              go_ret
              exact ⟨by first | rfl | (simp [errW_none, errW_some] <;> rfl) | (simp [*, errW_none, errW_some] <;> rfl), low HB⟩
             ·
              rw [if_neg c129] at H
              have c129b0 : (t118 == 9) = false := beq_eq_false_iff_ne.mpr c129
              have c129b1 : (t118 != 9) = true := bne_iff_ne.mpr c129
              obtain rfl := Option.some.inj H
              have hcz139_0 : wc.cell? ⟨gb101, 0, none⟩ = some (.int .u64 a0_0) := (blk_cell BK101.out 0).trans rfl
              have hcz139_1 : wc.cell? ⟨gb101, 1, none⟩ = some (.int .u64 a0_1) := (blk_cell BK101.out 1).trans rfl
              have hfz139_0 := blk_frozen BK101.out 0
              have hfz139_1 := blk_frozen BK101.out 1
              go_wp2_with (first | (go_at_call 41; (with_reducible refine (Pmxa.mix_Seed.calls kj33 t104 t102 a0_1 a0_0 t113 t114 _ A44.out).mono ?_); rintro e w140 ⟨rfl, hb⟩; have n0_ := Az (blk_below (g := gb101) (o := .cells #[.int .u64 a0_0, .int .u64 a0_1] 66 (0, 0)) of_lies hb); have n1_ := Az (below_step (low HB) hb); clear BK101; clear HB; have BK101 := n0_; have HB := n1_; clear n0_ n1_; (try clear hb); (try clear hb2); (try clear hk); (try clear hi); obtain ⟨hcz141_0, hcz141_1, hfz141_0, hfz141_1⟩ := cells2 BK101.out) | (go_at_call 41; (with_reducible refine (Pmxa.mix_Seed.calls kj33 t102 t104 a0_0 a0_1 t115 t116 _ A45.out).mono ?_); rintro e w142 ⟨rfl, hb⟩; have n0_ := Az (blk_below (g := gb101) (o := .cells #[.int .u64 a0_0, .int .u64 a0_1] 66 (0, 0)) of_lies hb); have n1_ := Az (below_step (low HB) hb); clear BK101; clear HB; have BK101 := n0_; have HB := n1_; clear n0_ n1_; (try clear hb); (try clear hb2); (try clear hk); (try clear hi); obtain ⟨hcz143_0, hcz143_1, hfz143_0, hfz143_1⟩ := cells2 BK101.out) | (go_at_call 41; (with_reducible refine (Pmxa.mix_Seed.calls kj33 t102 t104 a0_0 a1 t117 t118 _ A46.out).mono ?_); rintro e w144 ⟨rfl, hb⟩; have n0_ := Az (blk_below (g := gb101) (o := .cells #[.int .u64 a0_0, .int .u64 a0_1] 66 (0, 0)) of_lies hb); have n1_ := Az (below_step (low HB) hb); clear BK101; clear HB; have BK101 := n0_; have HB := n1_; clear n0_ n1_; (try clear hb); (try clear hb2); (try clear hk); (try clear hi); obtain ⟨hcz145_0, hcz145_1, hfz145_0, hfz145_1⟩ := cells2 BK101.out))
              repeat (go_quiet (first | (go_at_call 41; (with_reducible refine (Pmxa.mix_Seed.calls kj33 t104 t102 a0_1 a0_0 t113 t114 _ A44.out).mono ?_); rintro e w140 ⟨rfl, hb⟩; have n0_ := Az (blk_below (g := gb101) (o := .cells #[.int .u64 a0_0, .int .u64 a0_1] 66 (0, 0)) of_lies hb); have n1_ := Az (below_step (low HB) hb); clear BK101; clear HB; have BK101 := n0_; have HB := n1_; clear n0_ n1_; (try clear hb); (try clear hb2); (try clear hk); (try clear hi); obtain ⟨hcz141_0, hcz141_1, hfz141_0, hfz141_1⟩ := cells2 BK101.out) | (go_at_call 41; (with_reducible refine (Pmxa.mix_Seed.calls kj33 t102 t104 a0_0 a0_1 t115 t116 _ A45.out).mono ?_); rintro e w142 ⟨rfl, hb⟩; have n0_ := Az (blk_below (g := gb101) (o := .cells #[.int .u64 a0_0, .int .u64 a0_1] 66 (0, 0)) of_lies hb); have n1_ := Az (below_step (low HB) hb); clear BK101; clear HB; have BK101 := n0_; have HB := n1_; clear n0_ n1_; (try clear hb); (try clear hb2); (try clear hk); (try clear hi); obtain ⟨hcz143_0, hcz143_1, hfz143_0, hfz143_1⟩ := cells2 BK101.out) | (go_at_call 41; (with_reducible refine (Pmxa.mix_Seed.calls kj33 t102 t104 a0_0 a1 t117 t118 _ A46.out).mono ?_); rintro e w144 ⟨rfl, hb⟩; have n0_ := Az (blk_below (g := gb101) (o := .cells #[.int .u64 a0_0, .int .u64 a0_1] 66 (0, 0)) of_lies hb); have n1_ := Az (below_step (low HB) hb); clear BK101; clear HB; have BK101 := n0_; have HB := n1_; clear n0_ n1_; (try clear hb); (try clear hb2); (try clear hk); (try clear hi); obtain ⟨hcz145_0, hcz145_1, hfz145_0, hfz145_1⟩ := cells2 BK101.out)); try go_wp2_with (first | (go_at_call 41; (with_reducible refine (Pmxa.mix_Seed.calls kj33 t104 t102 a0_1 a0_0 t113 t114 _ A44.out).mono ?_); rintro e w140 ⟨rfl, hb⟩; have n0_ := Az (blk_below (g := gb101) (o := .cells #[.int .u64 a0_0, .int .u64 a0_1] 66 (0, 0)) of_lies hb); have n1_ := Az (below_step (low HB) hb); clear BK101; clear HB; have BK101 := n0_; have HB := n1_; clear n0_ n1_; (try clear hb); (try clear hb2); (try clear hk); (try clear hi); obtain ⟨hcz141_0, hcz141_1, hfz141_0, hfz141_1⟩ := cells2 BK101.out) | (go_at_call 41; (with_reducible refine (Pmxa.mix_Seed.calls kj33 t102 t104 a0_0 a0_1 t115 t116 _ A45.out).mono ?_); rintro e w142 ⟨rfl, hb⟩; have n0_ := Az (blk_below (g := gb101) (o := .cells #[.int .u64 a0_0, .int .u64 a0_1] 66 (0, 0)) of_lies hb); have n1_ := Az (below_step (low HB) hb); clear BK101; clear HB; have BK101 := n0_; have HB := n1_; clear n0_ n1_; (try clear hb); (try clear hb2); (try clear hk); (try clear hi); obtain ⟨hcz143_0, hcz143_1, hfz143_0, hfz143_1⟩ := cells2 BK101.out) | (go_at_call 41; (with_reducible refine (Pmxa.mix_Seed.calls kj33 t102 t104 a0_0 a1 t117 t118 _ A46.out).mono ?_); rintro e w144 ⟨rfl, hb⟩; have n0_ := Az (blk_below (g := gb101) (o := .cells #[.int .u64 a0_0, .int .u64 a0_1] 66 (0, 0)) of_lies hb); have n1_ := Az (below_step (low HB) hb); clear BK101; clear HB; have BK101 := n0_; have HB := n1_; clear n0_ n1_; (try clear hb); (try clear hb2); (try clear hk); (try clear hi); obtain ⟨hcz145_0, hcz145_1, hfz145_0, hfz145_1⟩ := cells2 BK101.out)))
              go_ret
              exact ⟨by first | rfl | (simp [errW_none, errW_some] <;> rfl) | (simp [*, errW_none, errW_some] <;> rfl), low HB⟩
            ·
             rw [if_neg c128] at H
             have c128b0 : (t115 == t108) = false := beq_eq_false_iff_ne.mpr c128
             have c128b1 : (t115 != t108) = true := bne_iff_ne.mpr c128
             obtain rfl := Option.some.inj H
             have hcz146_0 : wc.cell? ⟨gb101, 0, none⟩ = some (.int .u64 a0_0) := (blk_cell BK101.out 0).trans rfl
             have hcz146_1 : wc.cell? ⟨gb101, 1, none⟩ = some (.int .u64 a0_1) := (blk_cell BK101.out 1).trans rfl
             have hfz146_0 := blk_frozen BK101.out 0
             have hfz146_1 := blk_frozen BK101.out 1
             go_wp2_with (first | (go_at_call 41; (with_reducible refine (Pmxa.mix_Seed.calls kj33 t104 t102 a0_1 a0_0 t113 t114 _ A44.out).mono ?_); rintro e w147 ⟨rfl, hb⟩; have n0_ := Az (blk_below (g := gb101) (o := .cells #[.int .u64 a0_0, .int .u64 a0_1] 66 (0, 0)) of_lies hb); have n1_ := Az (below_step (low HB) hb); clear BK101; clear HB; have BK101 := n0_; have HB := n1_; clear n0_ n1_; (try clear hb); (try clear hb2); (try clear hk); (try clear hi); obtain ⟨hcz148_0, hcz148_1, hfz148_0, hfz148_1⟩ := cells2 BK101.out) | (go_at_call 41; (with_reducible refine (Pmxa.mix_Seed.calls kj33 t102 t104 a0_0 a0_1 t115 t116 _ A45.out).mono ?_); rintro e w149 ⟨rfl, hb⟩; have n0_ := Az (blk_below (g := gb101) (o := .cells #[.int .u64 a0_0, .int .u64 a0_1] 66 (0, 0)) of_lies hb); have n1_ := Az (below_step (low HB) hb); clear BK101; clear HB; have BK101 := n0_; have HB := n1_; clear n0_ n1_; (try clear hb); (try clear hb2); (try clear hk); (try clear hi); obtain ⟨hcz150_0, hcz150_1, hfz150_0, hfz150_1⟩ := cells2 BK101.out) | (go_at_call 41; (with_reducible refine (Pmxa.mix_Seed.calls kj33 t102 t104 a0_0 a1 t117 t118 _ A46.out).mono ?_); rintro e w151 ⟨rfl, hb⟩; have n0_ := Az (blk_below (g := gb101) (o := .cells #[.int .u64 a0_0, .int .u64 a0_1] 66 (0, 0)) of_lies hb); have n1_ := Az (below_step (low HB) hb); clear BK101; clear HB; have BK101 := n0_; have HB := n1_; clear n0_ n1_; (try clear hb); (try clear hb2); (try clear hk); (try clear hi); obtain ⟨hcz152_0, hcz152_1, hfz152_0, hfz152_1⟩ := cells2 BK101.out))
             repeat (go_quiet (first | (go_at_call 41; (with_reducible refine (Pmxa.mix_Seed.calls kj33 t104 t102 a0_1 a0_0 t113 t114 _ A44.out).mono ?_); rintro e w147 ⟨rfl, hb⟩; have n0_ := Az (blk_below (g := gb101) (o := .cells #[.int .u64 a0_0, .int .u64 a0_1] 66 (0, 0)) of_lies hb); have n1_ := Az (below_step (low HB) hb); clear BK101; clear HB; have BK101 := n0_; have HB := n1_; clear n0_ n1_; (try clear hb); (try clear hb2); (try clear hk); (try clear hi); obtain ⟨hcz148_0, hcz148_1, hfz148_0, hfz148_1⟩ := cells2 BK101.out) | (go_at_call 41; (with_reducible refine (Pmxa.mix_Seed.calls kj33 t102 t104 a0_0 a0_1 t115 t116 _ A45.out).mono ?_); rintro e w149 ⟨rfl, hb⟩; have n0_ := Az (blk_below (g := gb101) (o := .cells #[.int .u64 a0_0, .int .u64 a0_1] 66 (0, 0)) of_lies hb); have n1_ := Az (below_step (low HB) hb); clear BK101; clear HB; have BK101 := n0_; have HB := n1_; clear n0_ n1_; (try clear hb); (try clear hb2); (try clear hk); (try clear hi); obtain ⟨hcz150_0, hcz150_1, hfz150_0, hfz150_1⟩ := cells2 BK101.out) | (go_at_call 41; (with_reducible refine (Pmxa.mix_Seed.calls kj33 t102 t104 a0_0 a1 t117 t118 _ A46.out).mono ?_); rintro e w151 ⟨rfl, hb⟩; have n0_ := Az (blk_below (g := gb101) (o := .cells #[.int .u64 a0_0, .int .u64 a0_1] 66 (0, 0)) of_lies hb); have n1_ := Az (below_step (low HB) hb); clear BK101; clear HB; have BK101 := n0_; have HB := n1_; clear n0_ n1_; (try clear hb); (try clear hb2); (try clear hk); (try clear hi); obtain ⟨hcz152_0, hcz152_1, hfz152_0, hfz152_1⟩ := cells2 BK101.out)); try go_wp2_with (first | (go_at_call 41; (with_reducible refine (Pmxa.mix_Seed.calls kj33 t104 t102 a0_1 a0_0 t113 t114 _ A44.out).mono ?_); rintro e w147 ⟨rfl, hb⟩; have n0_ := Az (blk_below (g := gb101) (o := .cells #[.int .u64 a0_0, .int .u64 a0_1] 66 (0, 0)) of_lies hb); have n1_ := Az (below_step (low HB) hb); clear BK101; clear HB; have BK101 := n0_; have HB := n1_; clear n0_ n1_; (try clear hb); (try clear hb2); (try clear hk); (try clear hi); obtain ⟨hcz148_0, hcz148_1, hfz148_0, hfz148_1⟩ := cells2 BK101.out) | (go_at_call 41; (with_reducible refine (Pmxa.mix_Seed.calls kj33 t102 t104 a0_0 a0_1 t115 t116 _ A45.out).mono ?_); rintro e w149 ⟨rfl, hb⟩; have n0_ := Az (blk_below (g := gb101) (o := .cells #[.int .u64 a0_0, .int .u64 a0_1] 66 (0, 0)) of_lies hb); have n1_ := Az (below_step (low HB) hb); clear BK101; clear HB; have BK101 := n0_; have HB := n1_; clear n0_ n1_; (try clear hb); (try clear hb2); (try clear hk); (try clear hi); obtain ⟨hcz150_0, hcz150_1, hfz150_0, hfz150_1⟩ := cells2 BK101.out) | (go_at_call 41; (with_reducible refine (Pmxa.mix_Seed.calls kj33 t102 t104 a0_0 a1 t117 t118 _ A46.out).mono ?_); rintro e w151 ⟨rfl, hb⟩; have n0_ := Az (blk_below (g := gb101) (o := .cells #[.int .u64 a0_0, .int .u64 a0_1] 66 (0, 0)) of_lies hb); have n1_ := Az (below_step (low HB) hb); clear BK101; clear HB; have BK101 := n0_; have HB := n1_; clear n0_ n1_; (try clear hb); (try clear hb2); (try clear hk); (try clear hi); obtain ⟨hcz152_0, hcz152_1, hfz152_0, hfz152_1⟩ := cells2 BK101.out)))
             go_ret
             exact ⟨by first | rfl | (simp [errW_none, errW_some] <;> rfl) | (simp [*, errW_none, errW_some] <;> rfl), low HB⟩
           ·
            rw [if_neg c127] at H
            have c127b0 : (t116 == 0) = false := beq_eq_false_iff_ne.mpr c127
            have c127b1 : (t116 != 0) = true := bne_iff_ne.mpr c127
            obtain rfl := Option.some.inj H
            have hcz153_0 : wc.cell? ⟨gb101, 0, none⟩ = some (.int .u64 a0_0) := (blk_cell BK101.out 0).trans rfl
            have hcz153_1 : wc.cell? ⟨gb101, 1, none⟩ = some (.int .u64 a0_1) := (blk_cell BK101.out 1).trans rfl
            have hfz153_0 := blk_frozen BK101.out 0
            have hfz153_1 := blk_frozen BK101.out 1
            go_wp2_with (first | (go_at_call 41; (with_reducible refine (Pmxa.mix_Seed.calls kj33 t104 t102 a0_1 a0_0 t113 t114 _ A44.out).mono ?_); rintro e w154 ⟨rfl, hb⟩; have n0_ := Az (blk_below (g := gb101) (o := .cells #[.int .u64 a0_0, .int .u64 a0_1] 66 (0, 0)) of_lies hb); have n1_ := Az (below_step (low HB) hb); clear BK101; clear HB; have BK101 := n0_; have HB := n1_; clear n0_ n1_; (try clear hb); (try clear hb2); (try clear hk); (try clear hi); obtain ⟨hcz155_0, hcz155_1, hfz155_0, hfz155_1⟩ := cells2 BK101.out) | (go_at_call 41; (with_reducible refine (Pmxa.mix_Seed.calls kj33 t102 t104 a0_0 a0_1 t115 t116 _ A45.out).mono ?_); rintro e w156 ⟨rfl, hb⟩; have n0_ := Az (blk_below (g := gb101) (o := .cells #[.int .u64 a0_0, .int .u64 a0_1] 66 (0, 0)) of_lies hb); have n1_ := Az (below_step (low HB) hb); clear BK101; clear HB; have BK101 := n0_; have HB := n1_; clear n0_ n1_; (try clear hb); (try clear hb2); (try clear hk); (try clear hi); obtain ⟨hcz157_0, hcz157_1, hfz157_0, hfz157_1⟩ := cells2 BK101.out) | (go_at_call 41; (with_reducible refine (Pmxa.mix_Seed.calls kj33 t102 t104 a0_0 a1 t117 t118 _ A46.out).mono ?_); rintro e w158 ⟨rfl, hb⟩; have n0_ := Az (blk_below (g := gb101) (o := .cells #[.int .u64 a0_0, .int .u64 a0_1] 66 (0, 0)) of_lies hb); have n1_ := Az (below_step (low HB) hb); clear BK101; clear HB; have BK101 := n0_; have HB := n1_; clear n0_ n1_; (try clear hb); (try clear hb2); (try clear hk); (try clear hi); obtain ⟨hcz159_0, hcz159_1, hfz159_0, hfz159_1⟩ := cells2 BK101.out))
            repeat (go_quiet (first | (go_at_call 41; (with_reducible refine (Pmxa.mix_Seed.calls kj33 t104 t102 a0_1 a0_0 t113 t114 _ A44.out).mono ?_); rintro e w154 ⟨rfl, hb⟩; have n0_ := Az (blk_below (g := gb101) (o := .cells #[.int .u64 a0_0, .int .u64 a0_1] 66 (0, 0)) of_lies hb); have n1_ := Az (below_step (low HB) hb); clear BK101; clear HB; have BK101 := n0_; have HB := n1_; clear n0_ n1_; (try clear hb); (try clear hb2); (try clear hk); (try clear hi); obtain ⟨hcz155_0, hcz155_1, hfz155_0, hfz155_1⟩ := cells2 BK101.out) | (go_at_call 41; (with_reducible refine (Pmxa.mix_Seed.calls kj33 t102 t104 a0_0 a0_1 t115 t116 _ A45.out).mono ?_); rintro e w156 ⟨rfl, hb⟩; have n0_ := Az (blk_below (g := gb101) (o := .cells #[.int .u64 a0_0, .int .u64 a0_1] 66 (0, 0)) of_lies hb); have n1_ := Az (below_step (low HB) hb); clear BK101; clear HB; have BK101 := n0_; have HB := n1_; clear n0_ n1_; (try clear hb); (try clear hb2); (try clear hk); (try clear hi); obtain ⟨hcz157_0, hcz157_1, hfz157_0, hfz157_1⟩ := cells2 BK101.out) | (go_at_call 41; (with_reducible refine (Pmxa.mix_Seed.calls kj33 t102 t104 a0_0 a1 t117 t118 _ A46.out).mono ?_); rintro e w158 ⟨rfl, hb⟩; have n0_ := Az (blk_below (g := gb101) (o := .cells #[.int .u64 a0_0, .int .u64 a0_1] 66 (0, 0)) of_lies hb); have n1_ := Az (below_step (low HB) hb); clear BK101; clear HB; have BK101 := n0_; have HB := n1_; clear n0_ n1_; (try clear hb); (try clear hb2); (try clear hk); (try clear hi); obtain ⟨hcz159_0, hcz159_1, hfz159_0, hfz159_1⟩ := cells2 BK101.out)); try go_wp2_with (first | (go_at_call 41; (with_reducible refine (Pmxa.mix_Seed.calls kj33 t104 t102 a0_1 a0_0 t113 t114 _ A44.out).mono ?_); rintro e w154 ⟨rfl, hb⟩; have n0_ := Az (blk_below (g := gb101) (o := .cells #[.int .u64 a0_0, .int .u64 a0_1] 66 (0, 0)) of_lies hb); have n1_ := Az (below_step (low HB) hb); clear BK101; clear HB; have BK101 := n0_; have HB := n1_; clear n0_ n1_; (try clear hb); (try clear hb2); (try clear hk); (try clear hi); obtain ⟨hcz155_0, hcz155_1, hfz155_0, hfz155_1⟩ := cells2 BK101.out) | (go_at_call 41; (with_reducible refine (Pmxa.mix_Seed.calls kj33 t102 t104 a0_0 a0_1 t115 t116 _ A45.out).mono ?_); rintro e w156 ⟨rfl, hb⟩; have n0_ := Az (blk_below (g := gb101) (o := .cells #[.int .u64 a0_0, .int .u64 a0_1] 66 (0, 0)) of_lies hb); have n1_ := Az (below_step (low HB) hb); clear BK101; clear HB; have BK101 := n0_; have HB := n1_; clear n0_ n1_; (try clear hb); (try clear hb2); (try clear hk); (try clear hi); obtain ⟨hcz157_0, hcz157_1, hfz157_0, hfz157_1⟩ := cells2 BK101.out) | (go_at_call 41; (with_reducible refine (Pmxa.mix_Seed.calls kj33 t102 t104 a0_0 a1 t117 t118 _ A46.out).mono ?_); rintro e w158 ⟨rfl, hb⟩; have n0_ := Az (blk_below (g := gb101) (o := .cells #[.int .u64 a0_0, .int .u64 a0_1] 66 (0, 0)) of_lies hb); have n1_ := Az (below_step (low HB) hb); clear BK101; clear HB; have BK101 := n0_; have HB := n1_; clear n0_ n1_; (try clear hb); (try clear hb2); (try clear hk); (try clear hi); obtain ⟨hcz159_0, hcz159_1, hfz159_0, hfz159_1⟩ := cells2 BK101.out)))
            go_ret
            exact ⟨by first | rfl | (simp [errW_none, errW_some] <;> rfl) | (simp [*, errW_none, errW_some] <;> rfl), low HB⟩
          ·
           rw [if_neg c126] at H
           have c126b0 : (t114 == 0) = false := beq_eq_false_iff_ne.mpr c126
           have c126b1 : (t114 != 0) = true := bne_iff_ne.mpr c126
           obtain rfl := Option.some.inj H
           have hcz160_0 : wc.cell? ⟨gb101, 0, none⟩ = some (.int .u64 a0_0) := (blk_cell BK101.out 0).trans rfl
           have hcz160_1 : wc.cell? ⟨gb101, 1, none⟩ = some (.int .u64 a0_1) := (blk_cell BK101.out 1).trans rfl
           have hfz160_0 := blk_frozen BK101.out 0
           have hfz160_1 := blk_frozen BK101.out 1
           go_wp2_with (first | (go_at_call 41; (with_reducible refine (Pmxa.mix_Seed.calls kj33 t104 t102 a0_1 a0_0 t113 t114 _ A44.out).mono ?_); rintro e w161 ⟨rfl, hb⟩; have n0_ := Az (blk_below (g := gb101) (o := .cells #[.int .u64 a0_0, .int .u64 a0_1] 66 (0, 0)) of_lies hb); have n1_ := Az (below_step (low HB) hb); clear BK101; clear HB; have BK101 := n0_; have HB := n1_; clear n0_ n1_; (try clear hb); (try clear hb2); (try clear hk); (try clear hi); obtain ⟨hcz162_0, hcz162_1, hfz162_0, hfz162_1⟩ := cells2 BK101.out) | (go_at_call 41; (with_reducible refine (Pmxa.mix_Seed.calls kj33 t102 t104 a0_0 a0_1 t115 t116 _ A45.out).mono ?_); rintro e w163 ⟨rfl, hb⟩; have n0_ := Az (blk_below (g := gb101) (o := .cells #[.int .u64 a0_0, .int .u64 a0_1] 66 (0, 0)) of_lies hb); have n1_ := Az (below_step (low HB) hb); clear BK101; clear HB; have BK101 := n0_; have HB := n1_; clear n0_ n1_; (try clear hb); (try clear hb2); (try clear hk); (try clear hi); obtain ⟨hcz164_0, hcz164_1, hfz164_0, hfz164_1⟩ := cells2 BK101.out) | (go_at_call 41; (with_reducible refine (Pmxa.mix_Seed.calls kj33 t102 t104 a0_0 a1 t117 t118 _ A46.out).mono ?_); rintro e w165 ⟨rfl, hb⟩; have n0_ := Az (blk_below (g := gb101) (o := .cells #[.int .u64 a0_0, .int .u64 a0_1] 66 (0, 0)) of_lies hb); have n1_ := Az (below_step (low HB) hb); clear BK101; clear HB; have BK101 := n0_; have HB := n1_; clear n0_ n1_; (try clear hb); (try clear hb2); (try clear hk); (try clear hi); obtain ⟨hcz166_0, hcz166_1, hfz166_0, hfz166_1⟩ := cells2 BK101.out))
           repeat (go_quiet (first | (go_at_call 41; (with_reducible refine (Pmxa.mix_Seed.calls kj33 t104 t102 a0_1 a0_0 t113 t114 _ A44.out).mono ?_); rintro e w161 ⟨rfl, hb⟩; have n0_ := Az (blk_below (g := gb101) (o := .cells #[.int .u64 a0_0, .int .u64 a0_1] 66 (0, 0)) of_lies hb); have n1_ := Az (below_step (low HB) hb); clear BK101; clear HB; have BK101 := n0_; have HB := n1_; clear n0_ n1_; (try clear hb); (try clear hb2); (try clear hk); (try clear hi); obtain ⟨hcz162_0, hcz162_1, hfz162_0, hfz162_1⟩ := cells2 BK101.out) | (go_at_call 41; (with_reducible refine (Pmxa.mix_Seed.calls kj33 t102 t104 a0_0 a0_1 t115 t116 _ A45.out).mono ?_); rintro e w163 ⟨rfl, hb⟩; have n0_ := Az (blk_below (g := gb101) (o := .cells #[.int .u64 a0_0, .int .u64 a0_1] 66 (0, 0)) of_lies hb); have n1_ := Az (below_step (low HB) hb); clear BK101; clear HB; have BK101 := n0_; have HB := n1_; clear n0_ n1_; (try clear hb); (try clear hb2); (try clear hk); (try clear hi); obtain ⟨hcz164_0, hcz164_1, hfz164_0, hfz164_1⟩ := cells2 BK101.out) | (go_at_call 41; (with_reducible refine (Pmxa.mix_Seed.calls kj33 t102 t104 a0_0 a1 t117 t118 _ A46.out).mono ?_); rintro e w165 ⟨rfl, hb⟩; have n0_ := Az (blk_below (g := gb101) (o := .cells #[.int .u64 a0_0, .int .u64 a0_1] 66 (0, 0)) of_lies hb); have n1_ := Az (below_step (low HB) hb); clear BK101; clear HB; have BK101 := n0_; have HB := n1_; clear n0_ n1_; (try clear hb); (try clear hb2); (try clear hk); (try clear hi); obtain ⟨hcz166_0, hcz166_1, hfz166_0, hfz166_1⟩ := cells2 BK101.out)); try go_wp2_with (first | (go_at_call 41; (with_reducible refine (Pmxa.mix_Seed.calls kj33 t104 t102 a0_1 a0_0 t113 t114 _ A44.out).mono ?_); rintro e w161 ⟨rfl, hb⟩; have n0_ := Az (blk_below (g := gb101) (o := .cells #[.int .u64 a0_0, .int .u64 a0_1] 66 (0, 0)) of_lies hb); have n1_ := Az (below_step (low HB) hb); clear BK101; clear HB; have BK101 := n0_; have HB := n1_; clear n0_ n1_; (try clear hb); (try clear hb2); (try clear hk); (try clear hi); obtain ⟨hcz162_0, hcz162_1, hfz162_0, hfz162_1⟩ := cells2 BK101.out) | (go_at_call 41; (with_reducible refine (Pmxa.mix_Seed.calls kj33 t102 t104 a0_0 a0_1 t115 t116 _ A45.out).mono ?_); rintro e w163 ⟨rfl, hb⟩; have n0_ := Az (blk_below (g := gb101) (o := .cells #[.int .u64 a0_0, .int .u64 a0_1] 66 (0, 0)) of_lies hb); have n1_ := Az (below_step (low HB) hb); clear BK101; clear HB; have BK101 := n0_; have HB := n1_; clear n0_ n1_; (try clear hb); (try clear hb2); (try clear hk); (try clear hi); obtain ⟨hcz164_0, hcz164_1, hfz164_0, hfz164_1⟩ := cells2 BK101.out) | (go_at_call 41; (with_reducible refine (Pmxa.mix_Seed.calls kj33 t102 t104 a0_0 a1 t117 t118 _ A46.out).mono ?_); rintro e w165 ⟨rfl, hb⟩; have n0_ := Az (blk_below (g := gb101) (o := .cells #[.int .u64 a0_0, .int .u64 a0_1] 66 (0, 0)) of_lies hb); have n1_ := Az (below_step (low HB) hb); clear BK101; clear HB; have BK101 := n0_; have HB := n1_; clear n0_ n1_; (try clear hb); (try clear hb2); (try clear hk); (try clear hi); obtain ⟨hcz166_0, hcz166_1, hfz166_0, hfz166_1⟩ := cells2 BK101.out)))
           go_ret
           exact ⟨by first | rfl | (simp [errW_none, errW_some] <;> rfl) | (simp [*, errW_none, errW_some] <;> rfl), low HB⟩
end Go.Proofs.Ytnceobnglofnmaa.Pmxs
end
