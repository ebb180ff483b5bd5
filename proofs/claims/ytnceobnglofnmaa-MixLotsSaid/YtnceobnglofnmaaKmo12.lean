/- Joined by a program of this session (pack.py) out of: Pmxox0 Pmxox1 -/
import Derived.ArgAppend
import Derived.Below
import Derived.BigQuiet
import Derived.Deep.AppendLies
import Derived.Deep.CutBlock
import Derived.Deep.DeepCutAuto
import Derived.Deep.Draws
import Derived.Deep.LoopGhost
import Derived.Deep.OwnRows
import Derived.Deep.QuietTactic
import Derived.Deep.RegionHeld3
import Derived.KernelRfl
import Derived.Laws.BitsLemmas
import Derived.Laws.BytesArg
import Derived.Laws.IdiomCopy
import Derived.Laws.MakeOwn
import Derived.Laws.OwnMore
import Derived.Laws.Rows
import Derived.Laws.Slices
import Derived.Lib.AppendStr
import Derived.Lib.ConvBytes
import Derived.Maps.AppendAt
import Derived.OrdersHeld
import Derived.OwnWalk
import Derived.RowKit
import Derived.RowKit3
import Derived.Tactics
import Derived.Test.YtnceobnglofnmaaProg
import Derived.WalkKit
import Derived.WideLaws
import Derived.Test.YtnceobnglofnmaaKmo1
import Derived.Test.YtnceobnglofnmaaKmo5
import Derived.Test.YtnceobnglofnmaaKmo11
section
namespace Go.Proofs.Ytnceobnglofnmaa.Pmxo
open Go.RowKit Go.Proofs.Ytnceobnglofnmaa.Base Go.Proofs.YtnceobnglofnmaaW.PrintWords Go.Proofs.YtnceobnglofnmaaW.PrintLast Go.Proofs.YtnceobnglofnmaaW.PrintMore
attribute [local go_sem] max2_int min2_int max_two min_two max_three min_three max_four min_four   -- for this text's walks alone
set_option linter.unusedVariables false
set_option linter.unusedSimpArgs false
def errW : Option Int → Value
  | none => .nilIface
  | some c => .iface 0 (.int .i64 c)
theorem errW_none : errW none = .nilIface := rfl
theorem errW_some (c : Int) : errW (some c) = .iface 0 (.int .i64 c) := rfl
theorem info3 : (Try.prog.info? 3).map (fun i => (i.zero, i.size, i.bytes)) = some (some (.int .i64 0), 1, 8) := by kernel_rfl
def rd_L2 (xs : List (List Int)) (i : Int) : (List Int) := xs.getD i.toNat ([] : List Int)
theorem at_L2 {w : World} {A : Option Addr} {n : Nat} {xs : List (List Int)} (h : Kd.C (Kd.slice 3 (Kd.int .i64)) w A n xs) (i : Int) (h0 : 0 ≤ i) (h1 : i < n) : ∃ ad A0 c0, A = some ad ∧ w.cell? (ad.add i.toNat) = some (.slice A0 (rd_L2 xs i).length c0) ∧ (rd_L2 xs i).length ≤ c0 ∧ (Kd.int .i64).C w A0 (rd_L2 xs i).length (rd_L2 xs i) := by
  obtain ⟨ad, c, e, _, hK, hc0⟩ := Kd.C_get h ([] : List Int) i h0 h1
  have hc : ∀ j u, c[j]? = some u → w.cell? (ad.add (i.toNat * 1 + j)) = some u := hc0
  obtain ⟨A0, c0, rfl, l0, g0⟩ := hK
  exact ⟨ad, A0, c0, e, by have hq := hc 0 _ rfl; rwa [Nat.mul_one, Nat.add_zero] at hq, l0, g0⟩
structure S24 where
  f0 : Int
  f1 : Int
def z24 : S24 := ⟨(0 : Int), (0 : Int)⟩
def k24 : Kd S24 := Kd.iso (Kd.pair (Kd.int .i64) (Kd.int .i64)) (fun x : S24 => (x.f0, x.f1))
theorem k24_open {w : World} {x : S24} {cs : List Value} (h : k24.K w x cs) : cs = [.int .i64 x.f0, .int .i64 x.f1] := by
  obtain ⟨_, _, rfl, rfl, rfl⟩ := h
  exact rfl
theorem k24_openM {w : World} {base : Nat} {ok : Nat → Prop} {x : S24} {cs : List Value} (h : k24.M w base ok x cs) : cs = [.int .i64 x.f0, .int .i64 x.f1] := by
  obtain ⟨_, _, rfl, rfl, rfl⟩ := h
  exact rfl
theorem k24_mk (w : World) (x : S24)  : k24.K w x [.int .i64 x.f0, .int .i64 x.f1] := ⟨[.int .i64 x.f0], [.int .i64 x.f1], rfl, rfl, rfl⟩
theorem k24_mkM (w : World) (base : Nat) (ok : Nat → Prop) (x : S24)  : k24.M w base ok x [.int .i64 x.f0, .int .i64 x.f1] := ⟨[.int .i64 x.f0], [.int .i64 x.f1], rfl, rfl, rfl⟩
def rd_T24 (xs : List S24) (i : Int) : S24 := xs.getD i.toNat z24
theorem at_T24 {w : World} {A : Option Addr} {n : Nat} {xs : List S24} (h : Kd.C k24 w A n xs) (i : Int) (h0 : 0 ≤ i) (h1 : i < n) : ∃ ad , A = some ad ∧ w.cell? (ad.add (i.toNat * 2)) = some (.int .i64 (rd_T24 xs i).f0) ∧ w.cell? ⟨(ad.add (i.toNat * 2)).block, (ad.add (i.toNat * 2)).off + 1, none⟩ = some (.int .i64 (rd_T24 xs i).f1) := by
  obtain ⟨ad, c, e, _, hK, hc0⟩ := Kd.C_get h z24 i h0 h1
  have hc : ∀ j u, c[j]? = some u → w.cell? (ad.add (i.toNat * 2 + j)) = some u := hc0
  obtain rfl := k24_open hK
  exact ⟨ad, e, hc 0 _ rfl, by rw [← add_field _ _ 1 (by omega)]; exact hc 1 _ rfl⟩
end Go.Proofs.Ytnceobnglofnmaa.Pmxo
end
section
namespace Go.Proofs.Ytnceobnglofnmaa.Pmxo
open Go.RowKit Go.Proofs.Ytnceobnglofnmaa.Base Go.Proofs.YtnceobnglofnmaaW.PrintWords Go.Proofs.YtnceobnglofnmaaW.PrintLast Go.Proofs.YtnceobnglofnmaaW.PrintMore
attribute [local go_sem] max2_int min2_int max_two min_two max_three min_three max_four min_four   -- for this text's walks alone
set_option linter.unusedVariables false
set_option linter.unusedSimpArgs false
mutual
def joustlaw27_MixLots.j0 : Nat → List Int → Int → Bool → Int → Int → Option (Bool)
 | 0, _, _, _, _, _ => none
 | k + 1, x0, x1, x45, x102000, x102001 => if x45 = true then ((Pmxl.joustlaw27_lives.f k).bind fun t102 => (some t102)) else (if ([] : List Int).length + x0.length < 17592186044416 then ((some (([] : List Int) ++ x0 : List Int)).bind fun y103 => ((Pmxb.mix_Lots.f k y103).bind fun bt106 => ((Pmxa.joustref27_Lots.f k x0).bind fun bt110 => ((Pmxb.mix_Of.f k y103).bind fun bt114 => ((Pmxa.joustref27_Of.f k x0).bind fun bt118 => ((Pmxa.joustref27_Ints.f k bt106.1 bt110.1).bind fun t122 => (if t122 = true then (if bt106.2 = bt110.2 then ((Pmxa.joustref27_Ints.f k bt114.1 bt118.1).bind fun t123 => (if t123 = true then (if bt114.2 = bt118.2 then ((Pmxa.joustref27_Ints.f k y103 x0).bind fun t124 => (joustlaw27_MixLots.j1 k x1 (!t124) x102000 x102001)) else (joustlaw27_MixLots.j1 k x1 true x102000 x102001)) else (joustlaw27_MixLots.j1 k x1 true x102000 x102001))) else (joustlaw27_MixLots.j1 k x1 true x102000 x102001)) else (joustlaw27_MixLots.j1 k x1 true x102000 x102001)))))))) else (none))
def joustlaw27_MixLots.j1 : Nat → Int → Bool → Int → Int → Option (Bool)
 | 0, _, _, _, _ => none
 | k + 1, x1, x95, x102000, x102001 => if x95 = true then (some false) else ((Pmxb.mix_Script.f k x1 x102000 x102001).bind fun bt125 => ((Pmxa.joustref27_Script.f k x1 x102000 x102001).bind fun bt129 => ((Pmxa.joustref27_Ints.f k bt125.1 bt129.1).bind fun t133 => (if t133 = true then (if bt125.2 = bt129.2 then ((Pmxl.joustlaw27_lives.f k).bind fun t134 => (some t134)) else (some false)) else (some false)))))
end
def joustlaw27_MixLots.f (k : Nat) (l0 : List Int) (a1 : Int) (a2_0 : Int) (a2_1 : Int) : Option (Bool) := if (l0.length : Int) > 60 then (if (l0.length : Int) ≤ 1000 then (joustlaw27_MixLots.j0 k l0 a1 true a2_0 a2_1) else (if a2_0 > 60 then (if a2_0 ≤ 1000 then (joustlaw27_MixLots.j0 k l0 a1 true a2_0 a2_1) else (if a2_1 > 60 then (joustlaw27_MixLots.j0 k l0 a1 (decide (a2_1 ≤ 1000)) a2_0 a2_1) else (joustlaw27_MixLots.j0 k l0 a1 false a2_0 a2_1))) else (if a2_1 > 60 then (joustlaw27_MixLots.j0 k l0 a1 (decide (a2_1 ≤ 1000)) a2_0 a2_1) else (joustlaw27_MixLots.j0 k l0 a1 false a2_0 a2_1)))) else (if a2_0 > 60 then (if a2_0 ≤ 1000 then (joustlaw27_MixLots.j0 k l0 a1 true a2_0 a2_1) else (if a2_1 > 60 then (joustlaw27_MixLots.j0 k l0 a1 (decide (a2_1 ≤ 1000)) a2_0 a2_1) else (joustlaw27_MixLots.j0 k l0 a1 false a2_0 a2_1))) else (if a2_1 > 60 then (joustlaw27_MixLots.j0 k l0 a1 (decide (a2_1 ≤ 1000)) a2_0 a2_1) else (joustlaw27_MixLots.j0 k l0 a1 false a2_0 a2_1)))
theorem joustlaw27_MixLots.mono_l : ∀ k, (∀ y0 y1 y2 y3 y4, LeO (joustlaw27_MixLots.j0 k y0 y1 y2 y3 y4) (joustlaw27_MixLots.j0 (k + 1) y0 y1 y2 y3 y4)) ∧ (∀ y0 y1 y2 y3, LeO (joustlaw27_MixLots.j1 k y0 y1 y2 y3) (joustlaw27_MixLots.j1 (k + 1) y0 y1 y2 y3))
 | 0 => ⟨fun _ _ _ _ _ r h => by simp [joustlaw27_MixLots.j0] at h, fun _ _ _ _ r h => by simp [joustlaw27_MixLots.j1] at h⟩
 | k + 1 => by
  obtain ⟨ih0, ih1⟩ := joustlaw27_MixLots.mono_l k
  refine ⟨?_, ?_⟩
  ·
   intro y0 y1 y2 y3 y4
   unfold joustlaw27_MixLots.j0
   repeat' first
   | (with_reducible exact ih0 _ _ _ _ _)
   | (with_reducible exact ih1 _ _ _ _)
   | (with_reducible exact Pmxa.joustref27_Ints.mono _ _ _)
   | (with_reducible exact Pmxa.joustref27_Lots.mono _ _)
   | (with_reducible exact Pmxa.joustref27_Of.mono _ _)
   | (with_reducible exact Pmxa.joustref27_Script.mono _ _ _ _)
   | (with_reducible exact Pmxb.mix_Lots.mono _ _)
   | (with_reducible exact Pmxb.mix_Of.mono _ _)
   | (with_reducible exact Pmxb.mix_Script.mono _ _ _ _)
   | (with_reducible exact Pmxl.joustlaw27_lives.mono _)
   | (with_reducible exact LeO.refl _)
   | (with_reducible exact LeO.none _)
   | (with_reducible refine LeO.ite ?_ ?_)
   | (with_reducible refine LeO.bind ?_ (fun _ => ?_))
   | exact ih0 _ _ _ _ _
   | exact ih1 _ _ _ _
   | exact Pmxa.joustref27_Ints.mono _ _ _
   | exact Pmxa.joustref27_Lots.mono _ _
   | exact Pmxa.joustref27_Of.mono _ _
   | exact Pmxa.joustref27_Script.mono _ _ _ _
   | exact Pmxb.mix_Lots.mono _ _
   | exact Pmxb.mix_Of.mono _ _
   | exact Pmxb.mix_Script.mono _ _ _ _
   | exact Pmxl.joustlaw27_lives.mono _
   | exact LeO.none _
   | refine LeO.ite ?_ ?_
   | refine LeO.bind ?_ (fun _ => ?_)
  ·
   intro y0 y1 y2 y3
   unfold joustlaw27_MixLots.j1
   repeat' first
   | (with_reducible exact ih0 _ _ _ _ _)
   | (with_reducible exact ih1 _ _ _ _)
   | (with_reducible exact Pmxa.joustref27_Ints.mono _ _ _)
   | (with_reducible exact Pmxa.joustref27_Lots.mono _ _)
   | (with_reducible exact Pmxa.joustref27_Of.mono _ _)
   | (with_reducible exact Pmxa.joustref27_Script.mono _ _ _ _)
   | (with_reducible exact Pmxb.mix_Lots.mono _ _)
   | (with_reducible exact Pmxb.mix_Of.mono _ _)
   | (with_reducible exact Pmxb.mix_Script.mono _ _ _ _)
   | (with_reducible exact Pmxl.joustlaw27_lives.mono _)
   | (with_reducible exact LeO.refl _)
   | (with_reducible exact LeO.none _)
   | (with_reducible refine LeO.ite ?_ ?_)
   | (with_reducible refine LeO.bind ?_ (fun _ => ?_))
   | exact ih0 _ _ _ _ _
   | exact ih1 _ _ _ _
   | exact Pmxa.joustref27_Ints.mono _ _ _
   | exact Pmxa.joustref27_Lots.mono _ _
   | exact Pmxa.joustref27_Of.mono _ _
   | exact Pmxa.joustref27_Script.mono _ _ _ _
   | exact Pmxb.mix_Lots.mono _ _
   | exact Pmxb.mix_Of.mono _ _
   | exact Pmxb.mix_Script.mono _ _ _ _
   | exact Pmxl.joustlaw27_lives.mono _
   | exact LeO.none _
   | refine LeO.ite ?_ ?_
   | refine LeO.bind ?_ (fun _ => ?_)
theorem joustlaw27_MixLots.mono : ∀ a0 a1 a2 a3 k, LeO (joustlaw27_MixLots.f k a0 a1 a2 a3) (joustlaw27_MixLots.f (k + 1) a0 a1 a2 a3) := by
 intro a0 a1 a2 a3 k
 obtain ⟨ih0, ih1⟩ := joustlaw27_MixLots.mono_l k
 unfold joustlaw27_MixLots.f
 repeat' first
   | (with_reducible exact ih0 _ _ _ _ _)
   | (with_reducible exact ih1 _ _ _ _)
   | (with_reducible exact Pmxa.joustref27_Ints.mono _ _ _)
   | (with_reducible exact Pmxa.joustref27_Lots.mono _ _)
   | (with_reducible exact Pmxa.joustref27_Of.mono _ _)
   | (with_reducible exact Pmxa.joustref27_Script.mono _ _ _ _)
   | (with_reducible exact Pmxb.mix_Lots.mono _ _)
   | (with_reducible exact Pmxb.mix_Of.mono _ _)
   | (with_reducible exact Pmxb.mix_Script.mono _ _ _ _)
   | (with_reducible exact Pmxl.joustlaw27_lives.mono _)
   | (with_reducible exact LeO.refl _)
   | (with_reducible exact LeO.none _)
   | (with_reducible refine LeO.ite ?_ ?_)
   | (with_reducible refine LeO.bind ?_ (fun _ => ?_))
   | exact ih0 _ _ _ _ _
   | exact ih1 _ _ _ _
   | exact Pmxa.joustref27_Ints.mono _ _ _
   | exact Pmxa.joustref27_Lots.mono _ _
   | exact Pmxa.joustref27_Of.mono _ _
   | exact Pmxa.joustref27_Script.mono _ _ _ _
   | exact Pmxb.mix_Lots.mono _ _
   | exact Pmxb.mix_Of.mono _ _
   | exact Pmxb.mix_Script.mono _ _ _ _
   | exact Pmxl.joustlaw27_lives.mono _
   | exact LeO.none _
   | refine LeO.ite ?_ ?_
   | refine LeO.bind ?_ (fun _ => ?_)
set_option maxHeartbeats 8000000 in
set_option maxRecDepth 100000 in
theorem joustlaw27_MixLots.calls (k : Nat) (A0 : Option Addr) (c0 : Nat) (l0 : List Int) (a1 : Int) (a2_0 : Int) (a2_1 : Int) (r : Bool) (w : World) (hr0 : Kd.C (Kd.int .i64) w A0 l0.length l0) (hc0 : l0.length ≤ c0) (h : joustlaw27_MixLots.f k l0 a1 a2_0 a2_1 = some r) :
  Calls Try.prog 12 #[.slice A0 l0.length c0, .int .u64 a1, .agg #[.int .i64 a2_0, .int .i64 a2_1]] w fun e w' => e = .returned (.bool r) ∧ Below w.heap.size w w' := by
 have hu24 := Try.underlying24
 have HR0 := Az hr0
 have HC0 := Az hc0
 clear hr0 hc0
 have HB := Az (Below.refl w.heap.size w)
 have H : (if (l0.length : Int) > 60 then (if (l0.length : Int) ≤ 1000 then (joustlaw27_MixLots.j0 k l0 a1 true a2_0 a2_1) else (if a2_0 > 60 then (if a2_0 ≤ 1000 then (joustlaw27_MixLots.j0 k l0 a1 true a2_0 a2_1) else (if a2_1 > 60 then (joustlaw27_MixLots.j0 k l0 a1 (decide (a2_1 ≤ 1000)) a2_0 a2_1) else (joustlaw27_MixLots.j0 k l0 a1 false a2_0 a2_1))) else (if a2_1 > 60 then (joustlaw27_MixLots.j0 k l0 a1 (decide (a2_1 ≤ 1000)) a2_0 a2_1) else (joustlaw27_MixLots.j0 k l0 a1 false a2_0 a2_1)))) else (if a2_0 > 60 then (if a2_0 ≤ 1000 then (joustlaw27_MixLots.j0 k l0 a1 true a2_0 a2_1) else (if a2_1 > 60 then (joustlaw27_MixLots.j0 k l0 a1 (decide (a2_1 ≤ 1000)) a2_0 a2_1) else (joustlaw27_MixLots.j0 k l0 a1 false a2_0 a2_1))) else (if a2_1 > 60 then (joustlaw27_MixLots.j0 k l0 a1 (decide (a2_1 ≤ 1000)) a2_0 a2_1) else (joustlaw27_MixLots.j0 k l0 a1 false a2_0 a2_1)))) = some r := h
 clear h
 have HC4 := Az H
 clear H
 go_enter Try.func12, Try.ntmps12
 go_upto_region 1 with (first | ((with_reducible refine gate_dst (N := 5) rfl ?_); (try (refine gate_guard (by rfl) ?_; dsimp only)); refine box_event ?hg (N := 5) ?hd (cs := #[.int .i64 a2_0, .int .i64 a2_1]) (t := 24) ?hr ?_; (case hd => rfl); (case hg => rfl); (case hr => first | (go_simp; done) | (go_simp; rfl)); intro gb101 hg w5 hbox hb; have n0_ := Az (below_step (low HB) hb); have n1_ := Az (hbox); have n2_ := Az ((by rw [hg]; exact (below_size (low HB)) : w.heap.size ≤ gb101)); have n3_ := Az ((by rw [hg]; exact (below_size (low HB)) : w.heap.size ≤ gb101)); clear HB; have HB := n0_; have BK101 := n1_; have GW101 := n2_; have GE101 := n3_; clear n0_ n1_ n2_ n3_; clear hb hbox hg))
 (try simp only [Act.put, List.setIfInBounds_toArray, List.set_cons_zero, List.set_cons_succ])
 go_cut [45] (fun v45 wc => ∃ (kq : Nat) (x45_3 : Bool), v45 = .bool x45_3 ∧ Aside0 (joustlaw27_MixLots.j0 kq l0 a1 x45_3 a2_0 a2_1 = some r) ∧ Aside0 (kq ≤ k) ∧ Aside0 (wc.heap[gb101]? = some (.cells #[.int .i64 a2_0, .int .i64 a2_1] 24 (0, 0))) ∧ Aside0 (Below w.heap.size w wc))
 case first =>
  have H := HC4.out
  clear HC4
  by_cases c6 : (l0.length : Int) > 60
  ·
   rw [if_pos c6] at H
   have c6b0 : decide (60 < (l0.length : Int)) = true := decide_eq_true c6
   have c6b1 : decide (60 < l0.length) = true := decide_eq_true (by omega)
   clear c6
   (first | rw [c6b0] | (simp only [i64_w, i32_w]; rw [c6b0]) | skip)
   by_cases c7 : (l0.length : Int) ≤ 1000
   ·
    rw [if_pos c7] at H
    have c7b0 : decide ((l0.length : Int) ≤ 1000) = true := decide_eq_true c7
    have c7b1 : decide (l0.length ≤ 1000) = true := decide_eq_true (by omega)
    clear c7
    have H' := Az H
    clear H
    go_wp2
    go_meet
    case rel => exact ⟨_, (true), (by first | rfl | (simp; done) | (simp [*]; done)), H', ⟨by first | omega | exact Nat.le_refl _⟩, ⟨of_lies⟩, ⟨low HB⟩⟩
   ·
    rw [if_neg c7] at H
    have c7b0 : decide ((l0.length : Int) ≤ 1000) = false := decide_eq_false c7
    have c7b1 : decide (l0.length ≤ 1000) = false := decide_eq_false (by omega)
    clear c7
    by_cases c8 : a2_0 > 60
    ·
     rw [if_pos c8] at H
     have c8b0 : decide (60 < a2_0) = true := decide_eq_true c8
     clear c8
     by_cases c9 : a2_0 ≤ 1000
     ·
      rw [if_pos c9] at H
      have c9b0 : decide (a2_0 ≤ 1000) = true := decide_eq_true c9
      clear c9
      have H' := Az H
      clear H
      have hcz10_0 : w5.cell? ⟨gb101, 0, none⟩ = some (.int .i64 a2_0) := (blk_cell BK101.out 0).trans rfl
      have hcz10_1 : w5.cell? ⟨gb101, 1, none⟩ = some (.int .i64 a2_1) := (blk_cell BK101.out 1).trans rfl
      have hfz10_0 := blk_frozen BK101.out 0
      have hfz10_1 := blk_frozen BK101.out 1
      go_wp2
      go_meet
      case rel => exact ⟨_, (true), (by first | rfl | (simp; done) | (simp [*]; done)), H', ⟨by first | omega | exact Nat.le_refl _⟩, ⟨of_lies⟩, ⟨low HB⟩⟩
     ·
      rw [if_neg c9] at H
      have c9b0 : decide (a2_0 ≤ 1000) = false := decide_eq_false c9
      clear c9
      by_cases c11 : a2_1 > 60
      ·
       rw [if_pos c11] at H
       have c11b0 : decide (60 < a2_1) = true := decide_eq_true c11
       clear c11
       have H' := Az H
       clear H
       have hcz12_0 : w5.cell? ⟨gb101, 0, none⟩ = some (.int .i64 a2_0) := (blk_cell BK101.out 0).trans rfl
       have hcz12_1 : w5.cell? ⟨gb101, 1, none⟩ = some (.int .i64 a2_1) := (blk_cell BK101.out 1).trans rfl
       have hfz12_0 := blk_frozen BK101.out 0
       have hfz12_1 := blk_frozen BK101.out 1
       go_wp2
       go_meet
       case rel => exact ⟨_, (decide (a2_1 ≤ 1000)), (by first | rfl | (simp; done) | (simp [*]; done)), H', ⟨by first | omega | exact Nat.le_refl _⟩, ⟨of_lies⟩, ⟨low HB⟩⟩
      ·
       rw [if_neg c11] at H
       have c11b0 : decide (60 < a2_1) = false := decide_eq_false c11
       clear c11
       have H' := Az H
       clear H
       have hcz13_0 : w5.cell? ⟨gb101, 0, none⟩ = some (.int .i64 a2_0) := (blk_cell BK101.out 0).trans rfl
       have hcz13_1 : w5.cell? ⟨gb101, 1, none⟩ = some (.int .i64 a2_1) := (blk_cell BK101.out 1).trans rfl
       have hfz13_0 := blk_frozen BK101.out 0
       have hfz13_1 := blk_frozen BK101.out 1
       go_wp2
       go_meet
       case rel => exact ⟨_, (false), (by first | rfl | (simp; done) | (simp [*]; done)), H', ⟨by first | omega | exact Nat.le_refl _⟩, ⟨of_lies⟩, ⟨low HB⟩⟩
    ·
     rw [if_neg c8] at H
     have c8b0 : decide (60 < a2_0) = false := decide_eq_false c8
     clear c8
     by_cases c14 : a2_1 > 60
     ·
      rw [if_pos c14] at H
      have c14b0 : decide (60 < a2_1) = true := decide_eq_true c14
      clear c14
      have H' := Az H
      clear H
      have hcz15_0 : w5.cell? ⟨gb101, 0, none⟩ = some (.int .i64 a2_0) := (blk_cell BK101.out 0).trans rfl
      have hcz15_1 : w5.cell? ⟨gb101, 1, none⟩ = some (.int .i64 a2_1) := (blk_cell BK101.out 1).trans rfl
      have hfz15_0 := blk_frozen BK101.out 0
      have hfz15_1 := blk_frozen BK101.out 1
      go_wp2
      go_meet
      case rel => exact ⟨_, (decide (a2_1 ≤ 1000)), (by first | rfl | (simp; done) | (simp [*]; done)), H', ⟨by first | omega | exact Nat.le_refl _⟩, ⟨of_lies⟩, ⟨low HB⟩⟩
     ·
      rw [if_neg c14] at H
      have c14b0 : decide (60 < a2_1) = false := decide_eq_false c14
      clear c14
      have H' := Az H
      clear H
      have hcz16_0 : w5.cell? ⟨gb101, 0, none⟩ = some (.int .i64 a2_0) := (blk_cell BK101.out 0).trans rfl
      have hcz16_1 : w5.cell? ⟨gb101, 1, none⟩ = some (.int .i64 a2_1) := (blk_cell BK101.out 1).trans rfl
      have hfz16_0 := blk_frozen BK101.out 0
      have hfz16_1 := blk_frozen BK101.out 1
      go_wp2
      go_meet
      case rel => exact ⟨_, (false), (by first | rfl | (simp; done) | (simp [*]; done)), H', ⟨by first | omega | exact Nat.le_refl _⟩, ⟨of_lies⟩, ⟨low HB⟩⟩
  ·
   rw [if_neg c6] at H
   have c6b0 : decide (60 < (l0.length : Int)) = false := decide_eq_false c6
   have c6b1 : decide (60 < l0.length) = false := decide_eq_false (by omega)
   clear c6
   (first | rw [c6b0] | (simp only [i64_w, i32_w]; rw [c6b0]) | skip)
   by_cases c17 : a2_0 > 60
   ·
    rw [if_pos c17] at H
    have c17b0 : decide (60 < a2_0) = true := decide_eq_true c17
    clear c17
    by_cases c18 : a2_0 ≤ 1000
    ·
     rw [if_pos c18] at H
     have c18b0 : decide (a2_0 ≤ 1000) = true := decide_eq_true c18
     clear c18
     have H' := Az H
     clear H
     have hcz19_0 : w5.cell? ⟨gb101, 0, none⟩ = some (.int .i64 a2_0) := (blk_cell BK101.out 0).trans rfl
     have hcz19_1 : w5.cell? ⟨gb101, 1, none⟩ = some (.int .i64 a2_1) := (blk_cell BK101.out 1).trans rfl
     have hfz19_0 := blk_frozen BK101.out 0
     have hfz19_1 := blk_frozen BK101.out 1
     go_wp2
     go_meet
     case rel => exact ⟨_, (true), (by first | rfl | (simp; done) | (simp [*]; done)), H', ⟨by first | omega | exact Nat.le_refl _⟩, ⟨of_lies⟩, ⟨low HB⟩⟩
    ·
     rw [if_neg c18] at H
     have c18b0 : decide (a2_0 ≤ 1000) = false := decide_eq_false c18
     clear c18
     by_cases c20 : a2_1 > 60
     ·
      rw [if_pos c20] at H
      have c20b0 : decide (60 < a2_1) = true := decide_eq_true c20
      clear c20
      have H' := Az H
      clear H
      have hcz21_0 : w5.cell? ⟨gb101, 0, none⟩ = some (.int .i64 a2_0) := (blk_cell BK101.out 0).trans rfl
      have hcz21_1 : w5.cell? ⟨gb101, 1, none⟩ = some (.int .i64 a2_1) := (blk_cell BK101.out 1).trans rfl
      have hfz21_0 := blk_frozen BK101.out 0
      have hfz21_1 := blk_frozen BK101.out 1
      go_wp2
      go_meet
      case rel => exact ⟨_, (decide (a2_1 ≤ 1000)), (by first | rfl | (simp; done) | (simp [*]; done)), H', ⟨by first | omega | exact Nat.le_refl _⟩, ⟨of_lies⟩, ⟨low HB⟩⟩
     ·
      rw [if_neg c20] at H
      have c20b0 : decide (60 < a2_1) = false := decide_eq_false c20
      clear c20
      have H' := Az H
      clear H
      have hcz22_0 : w5.cell? ⟨gb101, 0, none⟩ = some (.int .i64 a2_0) := (blk_cell BK101.out 0).trans rfl
      have hcz22_1 : w5.cell? ⟨gb101, 1, none⟩ = some (.int .i64 a2_1) := (blk_cell BK101.out 1).trans rfl
      have hfz22_0 := blk_frozen BK101.out 0
      have hfz22_1 := blk_frozen BK101.out 1
      go_wp2
      go_meet
      case rel => exact ⟨_, (false), (by first | rfl | (simp; done) | (simp [*]; done)), H', ⟨by first | omega | exact Nat.le_refl _⟩, ⟨of_lies⟩, ⟨low HB⟩⟩
   ·
    rw [if_neg c17] at H
    have c17b0 : decide (60 < a2_0) = false := decide_eq_false c17
    clear c17
    by_cases c23 : a2_1 > 60
    ·
     rw [if_pos c23] at H
     have c23b0 : decide (60 < a2_1) = true := decide_eq_true c23
     clear c23
     have H' := Az H
     clear H
     have hcz24_0 : w5.cell? ⟨gb101, 0, none⟩ = some (.int .i64 a2_0) := (blk_cell BK101.out 0).trans rfl
     have hcz24_1 : w5.cell? ⟨gb101, 1, none⟩ = some (.int .i64 a2_1) := (blk_cell BK101.out 1).trans rfl
     have hfz24_0 := blk_frozen BK101.out 0
     have hfz24_1 := blk_frozen BK101.out 1
     go_wp2
     go_meet
     case rel => exact ⟨_, (decide (a2_1 ≤ 1000)), (by first | rfl | (simp; done) | (simp [*]; done)), H', ⟨by first | omega | exact Nat.le_refl _⟩, ⟨of_lies⟩, ⟨low HB⟩⟩
    ·
     rw [if_neg c23] at H
     have c23b0 : decide (60 < a2_1) = false := decide_eq_false c23
     clear c23
     have H' := Az H
     clear H
     have hcz25_0 : w5.cell? ⟨gb101, 0, none⟩ = some (.int .i64 a2_0) := (blk_cell BK101.out 0).trans rfl
     have hcz25_1 : w5.cell? ⟨gb101, 1, none⟩ = some (.int .i64 a2_1) := (blk_cell BK101.out 1).trans rfl
     have hfz25_0 := blk_frozen BK101.out 0
     have hfz25_1 := blk_frozen BK101.out 1
     go_wp2
     go_meet
     case rel => exact ⟨_, (false), (by first | rfl | (simp; done) | (simp [*]; done)), H', ⟨by first | omega | exact Nat.le_refl _⟩, ⟨of_lies⟩, ⟨low HB⟩⟩
 case rest =>
  clear HC4
  try clear c1
  try clear c2
  try clear p2
  try clear c6
  try clear c6b0
  try clear c6b1
  try clear c7
  try clear c7b0
  try clear c7b1
  try clear c8
  try clear c8b0
  try clear c9
  try clear c9b0
  try clear c11
  try clear c11b0
  try clear c12
  try clear c14
  try clear c14b0
  try clear c17
  try clear c17b0
  try clear c18
  try clear c18b0
  try clear c20
  try clear c20b0
  try clear c23
  try clear c23b0
  try clear hcz10_0
  try clear hcz10_1
  try clear hcz12_0
  try clear hcz12_1
  try clear hcz13_0
  try clear hcz13_1
  try clear hcz15_0
  try clear hcz15_1
  try clear hcz16_0
  try clear hcz16_1
  try clear hcz19_0
  try clear hcz19_1
  try clear hcz21_0
  try clear hcz21_1
  try clear hcz22_0
  try clear hcz22_1
  try clear hcz24_0
  try clear hcz24_1
  try clear hcz25_0
  try clear hcz25_1
  try clear hfz10_0
  try clear hfz10_1
  try clear hfz12_0
  try clear hfz12_1
  try clear hfz13_0
  try clear hfz13_1
  try clear hfz15_0
  try clear hfz15_1
  try clear hfz16_0
  try clear hfz16_1
  try clear hfz19_0
  try clear hfz19_1
  try clear hfz21_0
  try clear hfz21_1
  try clear hfz22_0
  try clear hfz22_1
  try clear hfz24_0
  try clear hfz24_1
  try clear hfz25_0
  try clear hfz25_1
  obtain ⟨kq, x45_3, rfl, HA, HJ3, BK101, HB⟩ := hcut
  cases kq with
  | zero => exact absurd HA.out (by simp [joustlaw27_MixLots.j0])
  | succ kj3 =>
   have H := HA.out
   clear HA
   simp only [joustlaw27_MixLots.j0] at H
   by_cases c26 : x45_3 = true
   ·
    subst c26
    have H1 : ((Pmxl.joustlaw27_lives.f kj3).bind fun t102 => (some t102)) = some r := by rw [if_pos rfl] at H; exact H
    clear H
    have H := H1
    clear H1
    replace H := Option.bind_eq_some_iff.mp H
    obtain ⟨t102, A270, H⟩ := H
    replace H : (some t102) = some r := H
    have A27 := Az A270
    clear A270
    obtain rfl := Option.some.inj H
    go_wp2_with (first | ((with_reducible refine gate_callee (f := 33) rfl ?_); refine goesL_ (some 46) rfl rfl Try.func33 (by kernel_rfl) rfl #[] rfl (by (try simp only [List.map_toArray, List.map_cons, List.map_nil]); first | done | rfl | (simp only [List.length_drop, List.length_take]; rfl)) ?_; (with_reducible refine (Pmxl.joustlaw27_lives.calls kj3  t102 _ A27.out).mono ?_); rintro e w28 ⟨rfl, hb⟩; refine ⟨_, rfl, ?_⟩; have n0_ := Az (blk_below (g := gb101) (o := .cells #[.int .i64 a2_0, .int .i64 a2_1] 24 (0, 0)) of_lies hb); have n1_ := Az (below_step (low HB) hb); clear BK101; clear HB; have BK101 := n0_; have HB := n1_; clear n0_ n1_; (try clear hb); (try clear hb2); (try clear hk); (try clear hi)))
    go_ret
    exact ⟨by first | rfl | (simp [errW_none, errW_some] <;> rfl) | (simp [*, errW_none, errW_some] <;> rfl), low HB⟩
   ·
    replace c26 := Bool.eq_false_iff.mpr c26
    subst c26
    have H1 : (if ([] : List Int).length + l0.length < 17592186044416 then ((some (([] : List Int) ++ l0 : List Int)).bind fun y103 => ((Pmxb.mix_Lots.f kj3 y103).bind fun bt106 => ((Pmxa.joustref27_Lots.f kj3 l0).bind fun bt110 => ((Pmxb.mix_Of.f kj3 y103).bind fun bt114 => ((Pmxa.joustref27_Of.f kj3 l0).bind fun bt118 => ((Pmxa.joustref27_Ints.f kj3 bt106.1 bt110.1).bind fun t122 => (if t122 = true then (if bt106.2 = bt110.2 then ((Pmxa.joustref27_Ints.f kj3 bt114.1 bt118.1).bind fun t123 => (if t123 = true then (if bt114.2 = bt118.2 then ((Pmxa.joustref27_Ints.f kj3 y103 l0).bind fun t124 => (joustlaw27_MixLots.j1 kj3 a1 (!t124) a2_0 a2_1)) else (joustlaw27_MixLots.j1 kj3 a1 true a2_0 a2_1)) else (joustlaw27_MixLots.j1 kj3 a1 true a2_0 a2_1))) else (joustlaw27_MixLots.j1 kj3 a1 true a2_0 a2_1)) else (joustlaw27_MixLots.j1 kj3 a1 true a2_0 a2_1)))))))) else (none)) = some r := by rw [if_neg (show ¬ (false = true) by decide)] at H; exact H
    clear H
    have H := H1
    clear H1
    by_cases c29 : ([] : List Int).length + l0.length < 17592186044416
    ·
     rw [if_pos c29] at H
     have LMc29 := Az c29
     clear c29
     obtain ⟨y103, hy103⟩ : ∃ y_ : List Int, y_ = (([] : List Int) ++ l0) := ⟨_, rfl⟩
     replace H : ((Pmxb.mix_Lots.f kj3 y103).bind fun bt106 => ((Pmxa.joustref27_Lots.f kj3 l0).bind fun bt110 => ((Pmxb.mix_Of.f kj3 y103).bind fun bt114 => ((Pmxa.joustref27_Of.f kj3 l0).bind fun bt118 => ((Pmxa.joustref27_Ints.f kj3 bt106.1 bt110.1).bind fun t122 => (if t122 = true then (if bt106.2 = bt110.2 then ((Pmxa.joustref27_Ints.f kj3 bt114.1 bt118.1).bind fun t123 => (if t123 = true then (if bt114.2 = bt118.2 then ((Pmxa.joustref27_Ints.f kj3 y103 l0).bind fun t124 => (joustlaw27_MixLots.j1 kj3 a1 (!t124) a2_0 a2_1)) else (joustlaw27_MixLots.j1 kj3 a1 true a2_0 a2_1)) else (joustlaw27_MixLots.j1 kj3 a1 true a2_0 a2_1))) else (joustlaw27_MixLots.j1 kj3 a1 true a2_0 a2_1)) else (joustlaw27_MixLots.j1 kj3 a1 true a2_0 a2_1))))))) = some r := by first | (rw [hy103]; with_reducible exact H) | (have H2_ := (Option.bind_some _ _).symm.trans H; rw [hy103]; with_reducible exact H2_) | (have H2_ := (Option.bind_some _ _).symm.trans H; with_reducible exact H2_) | with_reducible exact H | (rw [hy103]; exact H) | exact H
     have Ny103 := Az hy103
     clear hy103
     replace H := Option.bind_eq_some_iff.mp H
     obtain ⟨⟨t106, t107⟩, A300, H⟩ := H
     replace H : ((Pmxa.joustref27_Lots.f kj3 l0).bind fun bt110 => ((Pmxb.mix_Of.f kj3 y103).bind fun bt114 => ((Pmxa.joustref27_Of.f kj3 l0).bind fun bt118 => ((Pmxa.joustref27_Ints.f kj3 t106 bt110.1).bind fun t122 => (if t122 = true then (if t107 = bt110.2 then ((Pmxa.joustref27_Ints.f kj3 bt114.1 bt118.1).bind fun t123 => (if t123 = true then (if bt114.2 = bt118.2 then ((Pmxa.joustref27_Ints.f kj3 y103 l0).bind fun t124 => (joustlaw27_MixLots.j1 kj3 a1 (!t124) a2_0 a2_1)) else (joustlaw27_MixLots.j1 kj3 a1 true a2_0 a2_1)) else (joustlaw27_MixLots.j1 kj3 a1 true a2_0 a2_1))) else (joustlaw27_MixLots.j1 kj3 a1 true a2_0 a2_1)) else (joustlaw27_MixLots.j1 kj3 a1 true a2_0 a2_1)))))) = some r := H
     have A30 := Az A300
     clear A300
     replace H := Option.bind_eq_some_iff.mp H
     obtain ⟨⟨t110, t111⟩, A310, H⟩ := H
     replace H : ((Pmxb.mix_Of.f kj3 y103).bind fun bt114 => ((Pmxa.joustref27_Of.f kj3 l0).bind fun bt118 => ((Pmxa.joustref27_Ints.f kj3 t106 t110).bind fun t122 => (if t122 = true then (if t107 = t111 then ((Pmxa.joustref27_Ints.f kj3 bt114.1 bt118.1).bind fun t123 => (if t123 = true then (if bt114.2 = bt118.2 then ((Pmxa.joustref27_Ints.f kj3 y103 l0).bind fun t124 => (joustlaw27_MixLots.j1 kj3 a1 (!t124) a2_0 a2_1)) else (joustlaw27_MixLots.j1 kj3 a1 true a2_0 a2_1)) else (joustlaw27_MixLots.j1 kj3 a1 true a2_0 a2_1))) else (joustlaw27_MixLots.j1 kj3 a1 true a2_0 a2_1)) else (joustlaw27_MixLots.j1 kj3 a1 true a2_0 a2_1))))) = some r := H
     have A31 := Az A310
     clear A310
     replace H := Option.bind_eq_some_iff.mp H
     obtain ⟨⟨t114, t115⟩, A320, H⟩ := H
     replace H : ((Pmxa.joustref27_Of.f kj3 l0).bind fun bt118 => ((Pmxa.joustref27_Ints.f kj3 t106 t110).bind fun t122 => (if t122 = true then (if t107 = t111 then ((Pmxa.joustref27_Ints.f kj3 t114 bt118.1).bind fun t123 => (if t123 = true then (if t115 = bt118.2 then ((Pmxa.joustref27_Ints.f kj3 y103 l0).bind fun t124 => (joustlaw27_MixLots.j1 kj3 a1 (!t124) a2_0 a2_1)) else (joustlaw27_MixLots.j1 kj3 a1 true a2_0 a2_1)) else (joustlaw27_MixLots.j1 kj3 a1 true a2_0 a2_1))) else (joustlaw27_MixLots.j1 kj3 a1 true a2_0 a2_1)) else (joustlaw27_MixLots.j1 kj3 a1 true a2_0 a2_1)))) = some r := H
     have A32 := Az A320
     clear A320
     replace H := Option.bind_eq_some_iff.mp H
     obtain ⟨⟨t118, t119⟩, A330, H⟩ := H
     replace H : ((Pmxa.joustref27_Ints.f kj3 t106 t110).bind fun t122 => (if t122 = true then (if t107 = t111 then ((Pmxa.joustref27_Ints.f kj3 t114 t118).bind fun t123 => (if t123 = true then (if t115 = t119 then ((Pmxa.joustref27_Ints.f kj3 y103 l0).bind fun t124 => (joustlaw27_MixLots.j1 kj3 a1 (!t124) a2_0 a2_1)) else (joustlaw27_MixLots.j1 kj3 a1 true a2_0 a2_1)) else (joustlaw27_MixLots.j1 kj3 a1 true a2_0 a2_1))) else (joustlaw27_MixLots.j1 kj3 a1 true a2_0 a2_1)) else (joustlaw27_MixLots.j1 kj3 a1 true a2_0 a2_1))) = some r := H
     have A33 := Az A330
     clear A330
     have HC34 := Az H
     clear H
     go_upto_region 9 with (first | ((with_reducible refine gate_builtin (b := .append) (xs := #[.tmp 47, .tmp 48]) rfl ?_); (try (refine gate_guard (by rfl) ?_; dsimp only)); at_builtin; refine Kd.R_append_rows (Kd.int .i64) (w0 := w) w.heap.size rfl (.tmp 47) (.tmp 48) 53 3 (.int .i64 0) 8 rfl Try.underlying53 info3 rfl (by decide) (by omega) (.slice none 0 0) ([] : List Int) l0 _ _ _ (fun _ => True) (fun _ => False) rfl rfl ?aO ?aR (fun _ _ h => h) (fun _ h => h.elim) ?aF ?aB ?aS ?aL ?_; (case aR => repeat (first | exact (Kd.C_below HR0.out HB.out) | (with_reducible refine Kd.C_alloc ?_ _) | (with_reducible refine Kd.C_drewN ?_ _) | (with_reducible refine Kd.C_drew ?_))); (case aB => exact (low HB)); (case aF => exact (fun _ _ => trivial)); (case aO => exact ((Kd.R_nil _ _ _ _ (fun _ => True)))); (case aS => exact (below_size (low HB))); (case aL => have := LMc29.out; omega); intro v104 w35 ho hb hg hat; rw [← Ny103.out] at ho; have n0_ := Az (blk_grown (g := gb101) (o := .cells #[.int .i64 a2_0, .int .i64 a2_1] 24 (0, 0)) of_lies hg (by simp [Value.ownBlock])); have n1_ := Az (hb); have n2_ := Az (ho); clear BK101; clear HB; have BK101 := n0_; have HB := n1_; have HO105 := n2_; clear n0_ n1_ n2_; clear ho hb hg hat; obtain ⟨Ao36, co36, eo36⟩ := Kd.R_slice HO105.out; subst eo36) | ((with_reducible refine gate_callee (f := 34) rfl ?_); refine goesL_ (some 52) rfl rfl Try.func34 (by kernel_rfl) rfl #[.slice Ao36 y103.length co36] rfl (by (try simp only [List.map_toArray, List.map_cons, List.map_nil]); first | done | rfl | (simp only [List.length_drop, List.length_take]; rfl)) ?_; (with_reducible refine (Pmxb.mix_Lots.calls kj3 _ _ y103 t106 t107 _ ?side1 ?side2 A30.out).mono ?_); (case side1 => repeat (first | exact (Kd.R_reads' HO105.out).2.2 | (with_reducible refine Kd.C_alloc ?_ _) | (with_reducible refine Kd.C_drewN ?_ _) | (with_reducible refine Kd.C_drew ?_))); (case side2 => exact (Kd.R_reads' HO105.out).2.1); rintro e w37 ⟨v108, rfl, ho0, hb⟩; refine ⟨_, rfl, ?_⟩; have n0_ := Az (Kd.R_elder' (by (with_reducible repeat (first | apply Kd.R_alloc | apply Kd.R_drewN | apply Kd.R_drew)); exact HO105.out) (Kd.R_base ho0) hb); have n1_ := Az (Kd.R_lower (Kd.R_new' ho0 (Kd.R_lt (by (with_reducible repeat (first | apply Kd.R_alloc | apply Kd.R_drewN | apply Kd.R_drew)); exact HO105.out))) (below_size (low HB))); have n2_ := Az (blk_below (g := gb101) (o := .cells #[.int .i64 a2_0, .int .i64 a2_1] 24 (0, 0)) of_lies hb); have n3_ := Az (below_step (low HB) hb); clear HO105; clear BK101; clear HB; have HO105 := n0_; have HO109 := n1_; have BK101 := n2_; have HB := n3_; clear n0_ n1_ n2_ n3_; (try clear hb); (try clear hb2); (try clear hk); (try clear hi); (try clear ho0)) | ((with_reducible refine gate_callee (f := 47) rfl ?_); refine goesL_ (some 57) rfl rfl Try.func47 (by kernel_rfl) rfl #[.slice A0 l0.length c0] rfl (by (try simp only [List.map_toArray, List.map_cons, List.map_nil]); first | done | rfl | (simp only [List.length_drop, List.length_take]; rfl)) ?_; (with_reducible refine (Pmxa.joustref27_Lots.calls kj3 _ _ l0 t110 t111 _ ?side1 ?side2 A31.out).mono ?_); (case side1 => repeat (first | exact (Kd.C_below HR0.out HB.out) | (with_reducible refine Kd.C_alloc ?_ _) | (with_reducible refine Kd.C_drewN ?_ _) | (with_reducible refine Kd.C_drew ?_))); (case side2 => exact HC0.out); rintro e w38 ⟨v112, rfl, ho0, hb⟩; refine ⟨_, rfl, ?_⟩; have n0_ := Az (Kd.R_elder' (by (with_reducible repeat (first | apply Kd.R_alloc | apply Kd.R_drewN | apply Kd.R_drew)); exact HO105.out) (Kd.R_base ho0) hb); have n1_ := Az (Kd.R_elder' (by (with_reducible repeat (first | apply Kd.R_alloc | apply Kd.R_drewN | apply Kd.R_drew)); exact HO109.out) (Kd.R_base ho0) hb); have n2_ := Az (Kd.R_lower (Kd.R_new' (Kd.R_new' ho0 (Kd.R_lt (by (with_reducible repeat (first | apply Kd.R_alloc | apply Kd.R_drewN | apply Kd.R_drew)); exact HO105.out))) (Kd.R_lt (by (with_reducible repeat (first | apply Kd.R_alloc | apply Kd.R_drewN | apply Kd.R_drew)); exact HO109.out))) (below_size (low HB))); have n3_ := Az (blk_below (g := gb101) (o := .cells #[.int .i64 a2_0, .int .i64 a2_1] 24 (0, 0)) of_lies hb); have n4_ := Az (below_step (low HB) hb); clear HO105; clear HO109; clear BK101; clear HB; have HO105 := n0_; have HO109 := n1_; have HO113 := n2_; have BK101 := n3_; have HB := n4_; clear n0_ n1_ n2_ n3_ n4_; (try clear hb); (try clear hb2); (try clear hk); (try clear hi); (try clear ho0)) | ((with_reducible refine gate_callee (f := 35) rfl ?_); refine goesL_ (some 62) rfl rfl Try.func35 (by kernel_rfl) rfl #[.slice Ao36 y103.length co36] rfl (by (try simp only [List.map_toArray, List.map_cons, List.map_nil]); first | done | rfl | (simp only [List.length_drop, List.length_take]; rfl)) ?_; (with_reducible refine (Pmxb.mix_Of.calls kj3 _ _ y103 t114 t115 _ ?side1 ?side2 A32.out).mono ?_); (case side1 => repeat (first | exact (Kd.R_reads' HO105.out).2.2 | (with_reducible refine Kd.C_alloc ?_ _) | (with_reducible refine Kd.C_drewN ?_ _) | (with_reducible refine Kd.C_drew ?_))); (case side2 => exact (Kd.R_reads' HO105.out).2.1); rintro e w39 ⟨v116, rfl, ho0, hb⟩; refine ⟨_, rfl, ?_⟩; have n0_ := Az (Kd.R_elder' (by (with_reducible repeat (first | apply Kd.R_alloc | apply Kd.R_drewN | apply Kd.R_drew)); exact HO105.out) (Kd.R_base ho0) hb); have n1_ := Az (Kd.R_elder' (by (with_reducible repeat (first | apply Kd.R_alloc | apply Kd.R_drewN | apply Kd.R_drew)); exact HO109.out) (Kd.R_base ho0) hb); have n2_ := Az (Kd.R_elder' (by (with_reducible repeat (first | apply Kd.R_alloc | apply Kd.R_drewN | apply Kd.R_drew)); exact HO113.out) (Kd.R_base ho0) hb); have n3_ := Az (Kd.R_lower (Kd.R_new' (Kd.R_new' (Kd.R_new' ho0 (Kd.R_lt (by (with_reducible repeat (first | apply Kd.R_alloc | apply Kd.R_drewN | apply Kd.R_drew)); exact HO105.out))) (Kd.R_lt (by (with_reducible repeat (first | apply Kd.R_alloc | apply Kd.R_drewN | apply Kd.R_drew)); exact HO109.out))) (Kd.R_lt (by (with_reducible repeat (first | apply Kd.R_alloc | apply Kd.R_drewN | apply Kd.R_drew)); exact HO113.out))) (below_size (low HB))); have n4_ := Az (blk_below (g := gb101) (o := .cells #[.int .i64 a2_0, .int .i64 a2_1] 24 (0, 0)) of_lies hb); have n5_ := Az (below_step (low HB) hb); clear HO105; clear HO109; clear HO113; clear BK101; clear HB; have HO105 := n0_; have HO109 := n1_; have HO113 := n2_; have HO117 := n3_; have BK101 := n4_; have HB := n5_; clear n0_ n1_ n2_ n3_ n4_ n5_; (try clear hb); (try clear hb2); (try clear hk); (try clear hi); (try clear ho0)) | ((with_reducible refine gate_callee (f := 48) rfl ?_); refine goesL_ (some 67) rfl rfl Try.func48 (by kernel_rfl) rfl #[.slice A0 l0.length c0] rfl (by (try simp only [List.map_toArray, List.map_cons, List.map_nil]); first | done | rfl | (simp only [List.length_drop, List.length_take]; rfl)) ?_; (with_reducible refine (Pmxa.joustref27_Of.calls kj3 _ _ l0 t118 t119 _ ?side1 ?side2 A33.out).mono ?_); (case side1 => repeat (first | exact (Kd.C_below HR0.out HB.out) | (with_reducible refine Kd.C_alloc ?_ _) | (with_reducible refine Kd.C_drewN ?_ _) | (with_reducible refine Kd.C_drew ?_))); (case side2 => exact HC0.out); rintro e w40 ⟨v120, rfl, ho0, hb⟩; refine ⟨_, rfl, ?_⟩; have n0_ := Az (Kd.R_elder' (by (with_reducible repeat (first | apply Kd.R_alloc | apply Kd.R_drewN | apply Kd.R_drew)); exact HO105.out) (Kd.R_base ho0) hb); have n1_ := Az (Kd.R_elder' (by (with_reducible repeat (first | apply Kd.R_alloc | apply Kd.R_drewN | apply Kd.R_drew)); exact HO109.out) (Kd.R_base ho0) hb); have n2_ := Az (Kd.R_elder' (by (with_reducible repeat (first | apply Kd.R_alloc | apply Kd.R_drewN | apply Kd.R_drew)); exact HO113.out) (Kd.R_base ho0) hb); have n3_ := Az (Kd.R_elder' (by (with_reducible repeat (first | apply Kd.R_alloc | apply Kd.R_drewN | apply Kd.R_drew)); exact HO117.out) (Kd.R_base ho0) hb); have n4_ := Az (Kd.R_lower (Kd.R_new' (Kd.R_new' (Kd.R_new' (Kd.R_new' ho0 (Kd.R_lt (by (with_reducible repeat (first | apply Kd.R_alloc | apply Kd.R_drewN | apply Kd.R_drew)); exact HO105.out))) (Kd.R_lt (by (with_reducible repeat (first | apply Kd.R_alloc | apply Kd.R_drewN | apply Kd.R_drew)); exact HO109.out))) (Kd.R_lt (by (with_reducible repeat (first | apply Kd.R_alloc | apply Kd.R_drewN | apply Kd.R_drew)); exact HO113.out))) (Kd.R_lt (by (with_reducible repeat (first | apply Kd.R_alloc | apply Kd.R_drewN | apply Kd.R_drew)); exact HO117.out))) (below_size (low HB))); have n5_ := Az (blk_below (g := gb101) (o := .cells #[.int .i64 a2_0, .int .i64 a2_1] 24 (0, 0)) of_lies hb); have n6_ := Az (below_step (low HB) hb); clear HO105; clear HO109; clear HO113; clear HO117; clear BK101; clear HB; have HO105 := n0_; have HO109 := n1_; have HO113 := n2_; have HO117 := n3_; have HO121 := n4_; have BK101 := n5_; have HB := n6_; clear n0_ n1_ n2_ n3_ n4_ n5_ n6_; (try clear hb); (try clear hb2); (try clear hk); (try clear hi); (try clear ho0)))
     (try simp only [Act.put, List.setIfInBounds_toArray, List.set_cons_zero, List.set_cons_succ])
     go_cut [95] (fun v95 wc => ∃ (kq : Nat) (x95_33 : Bool), v95 = .bool x95_33 ∧ Aside0 (joustlaw27_MixLots.j1 kq a1 x95_33 a2_0 a2_1 = some r) ∧ Aside0 (kq ≤ kj3) ∧ Aside0 (wc.heap[gb101]? = some (.cells #[.int .i64 a2_0, .int .i64 a2_1] 24 (0, 0))) ∧ Aside0 (Below w.heap.size w wc))
     case first =>
      have H := HC34.out
      clear HC34
      replace H := Option.bind_eq_some_iff.mp H
      obtain ⟨t122, A410, H⟩ := H
      replace H : (if t122 = true then (if t107 = t111 then ((Pmxa.joustref27_Ints.f kj3 t114 t118).bind fun t123 => (if t123 = true then (if t115 = t119 then ((Pmxa.joustref27_Ints.f kj3 y103 l0).bind fun t124 => (joustlaw27_MixLots.j1 kj3 a1 (!t124) a2_0 a2_1)) else (joustlaw27_MixLots.j1 kj3 a1 true a2_0 a2_1)) else (joustlaw27_MixLots.j1 kj3 a1 true a2_0 a2_1))) else (joustlaw27_MixLots.j1 kj3 a1 true a2_0 a2_1)) else (joustlaw27_MixLots.j1 kj3 a1 true a2_0 a2_1)) = some r := H
      have A41 := Az A410
      clear A410
      by_cases c42 : t122 = true
      ·
       subst c42
       have H1 : (if t107 = t111 then ((Pmxa.joustref27_Ints.f kj3 t114 t118).bind fun t123 => (if t123 = true then (if t115 = t119 then ((Pmxa.joustref27_Ints.f kj3 y103 l0).bind fun t124 => (joustlaw27_MixLots.j1 kj3 a1 (!t124) a2_0 a2_1)) else (joustlaw27_MixLots.j1 kj3 a1 true a2_0 a2_1)) else (joustlaw27_MixLots.j1 kj3 a1 true a2_0 a2_1))) else (joustlaw27_MixLots.j1 kj3 a1 true a2_0 a2_1)) = some r := by rw [if_pos rfl] at H; exact H
       clear H
       have H := H1
       clear H1
       by_cases c43 : t107 = t111
       ·
        rw [if_pos c43] at H
        have c43b0 : (t107 == t111) = true := beq_iff_eq.mpr c43
        have c43b1 : (t107 != t111) = false := bne_eq_false_iff_eq.mpr c43
        clear c43
        (first | rw [c43b0] | (simp only [i64_w, i32_w]; rw [c43b0]) | skip)
        replace H := Option.bind_eq_some_iff.mp H
        obtain ⟨t123, A440, H⟩ := H
        replace H : (if t123 = true then (if t115 = t119 then ((Pmxa.joustref27_Ints.f kj3 y103 l0).bind fun t124 => (joustlaw27_MixLots.j1 kj3 a1 (!t124) a2_0 a2_1)) else (joustlaw27_MixLots.j1 kj3 a1 true a2_0 a2_1)) else (joustlaw27_MixLots.j1 kj3 a1 true a2_0 a2_1)) = some r := H
        have A44 := Az A440
        clear A440
        by_cases c45 : t123 = true
        ·
         subst c45
         have H1 : (if t115 = t119 then ((Pmxa.joustref27_Ints.f kj3 y103 l0).bind fun t124 => (joustlaw27_MixLots.j1 kj3 a1 (!t124) a2_0 a2_1)) else (joustlaw27_MixLots.j1 kj3 a1 true a2_0 a2_1)) = some r := by rw [if_pos rfl] at H; exact H
         clear H
         have H := H1
         clear H1
         by_cases c46 : t115 = t119
         ·
          rw [if_pos c46] at H
          have c46b0 : (t115 == t119) = true := beq_iff_eq.mpr c46
          have c46b1 : (t115 != t119) = false := bne_eq_false_iff_eq.mpr c46
          clear c46
          replace H := Option.bind_eq_some_iff.mp H
          obtain ⟨t124, A470, H⟩ := H
          replace H : (joustlaw27_MixLots.j1 kj3 a1 (!t124) a2_0 a2_1) = some r := H
          have A47 := Az A470
          clear A470
          have H' := Az H
          clear H
          obtain ⟨Ao48, co48, eo48⟩ := Kd.R_slice HO109.out
          subst eo48
          obtain ⟨Ao49, co49, eo49⟩ := Kd.R_slice HO113.out
          subst eo49
          go_wp2_with (first | ((with_reducible refine gate_callee (f := 36) rfl ?_); refine goesL_ (some 72) rfl rfl Try.func36 (by kernel_rfl) rfl #[.slice Ao48 t106.length co48, .slice Ao49 t110.length co49] rfl (by (try simp only [List.map_toArray, List.map_cons, List.map_nil]); first | done | rfl | (simp only [List.length_drop, List.length_take]; rfl)) ?_; (with_reducible refine (Pmxa.joustref27_Ints.calls kj3 _ _ t106 _ _ t110 true _ ?side1 ?side2 ?side3 ?side4 A41.out).mono ?_); (case side1 => repeat (first | exact (Kd.R_reads' HO109.out).2.2 | (with_reducible refine Kd.C_alloc ?_ _) | (with_reducible refine Kd.C_drewN ?_ _) | (with_reducible refine Kd.C_drew ?_))); (case side2 => exact (Kd.R_reads' HO109.out).2.1); (case side3 => repeat (first | exact (Kd.R_reads' HO113.out).2.2 | (with_reducible refine Kd.C_alloc ?_ _) | (with_reducible refine Kd.C_drewN ?_ _) | (with_reducible refine Kd.C_drew ?_))); (case side4 => exact (Kd.R_reads' HO113.out).2.1); rintro e w' ⟨rfl, ⟨nd, rfl⟩⟩; refine ⟨_, rfl, ?_⟩; obtain ⟨Ao50, co50, eo50⟩ := Kd.R_slice HO117.out; subst eo50; obtain ⟨Ao51, co51, eo51⟩ := Kd.R_slice HO121.out; subst eo51) | (go_at_call 36; (with_reducible refine (Pmxa.joustref27_Ints.calls kj3 _ _ t114 _ _ t118 true _ ?side1 ?side2 ?side3 ?side4 A44.out).mono ?_); (case side1 => repeat (first | exact (Kd.R_reads' HO117.out).2.2 | (with_reducible refine Kd.C_alloc ?_ _) | (with_reducible refine Kd.C_drewN ?_ _) | (with_reducible refine Kd.C_drew ?_))); (case side2 => exact (Kd.R_reads' HO117.out).2.1); (case side3 => repeat (first | exact (Kd.R_reads' HO121.out).2.2 | (with_reducible refine Kd.C_alloc ?_ _) | (with_reducible refine Kd.C_drewN ?_ _) | (with_reducible refine Kd.C_drew ?_))); (case side4 => exact (Kd.R_reads' HO121.out).2.1); rintro e w' ⟨rfl, ⟨nd, rfl⟩⟩) | (go_at_call 36; (with_reducible refine (Pmxa.joustref27_Ints.calls kj3 _ _ y103 _ _ l0 t124 _ ?side1 ?side2 ?side3 ?side4 A47.out).mono ?_); (case side1 => repeat (first | exact (Kd.R_reads' HO105.out).2.2 | (with_reducible refine Kd.C_alloc ?_ _) | (with_reducible refine Kd.C_drewN ?_ _) | (with_reducible refine Kd.C_drew ?_))); (case side2 => exact (Kd.R_reads' HO105.out).2.1); (case side3 => repeat (first | exact (Kd.C_below HR0.out (low HB)) | (with_reducible refine Kd.C_alloc ?_ _) | (with_reducible refine Kd.C_drewN ?_ _) | (with_reducible refine Kd.C_drew ?_))); (case side4 => exact HC0.out); rintro e w' ⟨rfl, ⟨nd, rfl⟩⟩))
          go_meet
          case rel => exact ⟨_, (!t124), (by first | rfl | (simp; done) | (simp [*]; done)), H', ⟨by have := HJ3.out; first | omega | exact Nat.le_refl _⟩, ⟨of_lies⟩, ⟨low HB⟩⟩
         ·
          rw [if_neg c46] at H
          have c46b0 : (t115 == t119) = false := beq_eq_false_iff_ne.mpr c46
          have c46b1 : (t115 != t119) = true := bne_iff_ne.mpr c46
          have H' := Az H
          clear H
          obtain ⟨Ao52, co52, eo52⟩ := Kd.R_slice HO109.out
          subst eo52
          obtain ⟨Ao53, co53, eo53⟩ := Kd.R_slice HO113.out
          subst eo53
          go_wp2_with (first | ((with_reducible refine gate_callee (f := 36) rfl ?_); refine goesL_ (some 72) rfl rfl Try.func36 (by kernel_rfl) rfl #[.slice Ao52 t106.length co52, .slice Ao53 t110.length co53] rfl (by (try simp only [List.map_toArray, List.map_cons, List.map_nil]); first | done | rfl | (simp only [List.length_drop, List.length_take]; rfl)) ?_; (with_reducible refine (Pmxa.joustref27_Ints.calls kj3 _ _ t106 _ _ t110 true _ ?side1 ?side2 ?side3 ?side4 A41.out).mono ?_); (case side1 => repeat (first | exact (Kd.R_reads' HO109.out).2.2 | (with_reducible refine Kd.C_alloc ?_ _) | (with_reducible refine Kd.C_drewN ?_ _) | (with_reducible refine Kd.C_drew ?_))); (case side2 => exact (Kd.R_reads' HO109.out).2.1); (case side3 => repeat (first | exact (Kd.R_reads' HO113.out).2.2 | (with_reducible refine Kd.C_alloc ?_ _) | (with_reducible refine Kd.C_drewN ?_ _) | (with_reducible refine Kd.C_drew ?_))); (case side4 => exact (Kd.R_reads' HO113.out).2.1); rintro e w' ⟨rfl, ⟨nd, rfl⟩⟩; refine ⟨_, rfl, ?_⟩; obtain ⟨Ao54, co54, eo54⟩ := Kd.R_slice HO117.out; subst eo54; obtain ⟨Ao55, co55, eo55⟩ := Kd.R_slice HO121.out; subst eo55) | (go_at_call 36; (with_reducible refine (Pmxa.joustref27_Ints.calls kj3 _ _ t114 _ _ t118 true _ ?side1 ?side2 ?side3 ?side4 A44.out).mono ?_); (case side1 => repeat (first | exact (Kd.R_reads' HO117.out).2.2 | (with_reducible refine Kd.C_alloc ?_ _) | (with_reducible refine Kd.C_drewN ?_ _) | (with_reducible refine Kd.C_drew ?_))); (case side2 => exact (Kd.R_reads' HO117.out).2.1); (case side3 => repeat (first | exact (Kd.R_reads' HO121.out).2.2 | (with_reducible refine Kd.C_alloc ?_ _) | (with_reducible refine Kd.C_drewN ?_ _) | (with_reducible refine Kd.C_drew ?_))); (case side4 => exact (Kd.R_reads' HO121.out).2.1); rintro e w' ⟨rfl, ⟨nd, rfl⟩⟩))
          go_meet
          case rel => exact ⟨_, (true), (by first | rfl | (simp; done) | (simp [*]; done)), H', ⟨by have := HJ3.out; first | omega | exact Nat.le_refl _⟩, ⟨of_lies⟩, ⟨low HB⟩⟩
        ·
         replace c45 := Bool.eq_false_iff.mpr c45
         subst c45
         have H1 : (joustlaw27_MixLots.j1 kj3 a1 true a2_0 a2_1) = some r := by rw [if_neg (show ¬ (false = true) by decide)] at H; exact H
         clear H
         have H := H1
         clear H1
         have H' := Az H
         clear H
         obtain ⟨Ao56, co56, eo56⟩ := Kd.R_slice HO109.out
         subst eo56
         obtain ⟨Ao57, co57, eo57⟩ := Kd.R_slice HO113.out
         subst eo57
         go_wp2_with (first | ((with_reducible refine gate_callee (f := 36) rfl ?_); refine goesL_ (some 72) rfl rfl Try.func36 (by kernel_rfl) rfl #[.slice Ao56 t106.length co56, .slice Ao57 t110.length co57] rfl (by (try simp only [List.map_toArray, List.map_cons, List.map_nil]); first | done | rfl | (simp only [List.length_drop, List.length_take]; rfl)) ?_; (with_reducible refine (Pmxa.joustref27_Ints.calls kj3 _ _ t106 _ _ t110 true _ ?side1 ?side2 ?side3 ?side4 A41.out).mono ?_); (case side1 => repeat (first | exact (Kd.R_reads' HO109.out).2.2 | (with_reducible refine Kd.C_alloc ?_ _) | (with_reducible refine Kd.C_drewN ?_ _) | (with_reducible refine Kd.C_drew ?_))); (case side2 => exact (Kd.R_reads' HO109.out).2.1); (case side3 => repeat (first | exact (Kd.R_reads' HO113.out).2.2 | (with_reducible refine Kd.C_alloc ?_ _) | (with_reducible refine Kd.C_drewN ?_ _) | (with_reducible refine Kd.C_drew ?_))); (case side4 => exact (Kd.R_reads' HO113.out).2.1); rintro e w' ⟨rfl, ⟨nd, rfl⟩⟩; refine ⟨_, rfl, ?_⟩; obtain ⟨Ao58, co58, eo58⟩ := Kd.R_slice HO117.out; subst eo58; obtain ⟨Ao59, co59, eo59⟩ := Kd.R_slice HO121.out; subst eo59) | (go_at_call 36; (with_reducible refine (Pmxa.joustref27_Ints.calls kj3 _ _ t114 _ _ t118 false _ ?side1 ?side2 ?side3 ?side4 A44.out).mono ?_); (case side1 => repeat (first | exact (Kd.R_reads' HO117.out).2.2 | (with_reducible refine Kd.C_alloc ?_ _) | (with_reducible refine Kd.C_drewN ?_ _) | (with_reducible refine Kd.C_drew ?_))); (case side2 => exact (Kd.R_reads' HO117.out).2.1); (case side3 => repeat (first | exact (Kd.R_reads' HO121.out).2.2 | (with_reducible refine Kd.C_alloc ?_ _) | (with_reducible refine Kd.C_drewN ?_ _) | (with_reducible refine Kd.C_drew ?_))); (case side4 => exact (Kd.R_reads' HO121.out).2.1); rintro e w' ⟨rfl, ⟨nd, rfl⟩⟩))
         go_meet
         case rel => exact ⟨_, (true), (by first | rfl | (simp; done) | (simp [*]; done)), H', ⟨by have := HJ3.out; first | omega | exact Nat.le_refl _⟩, ⟨of_lies⟩, ⟨low HB⟩⟩
       ·
        rw [if_neg c43] at H
        have c43b0 : (t107 == t111) = false := beq_eq_false_iff_ne.mpr c43
        have c43b1 : (t107 != t111) = true := bne_iff_ne.mpr c43
        (first | rw [c43b0] | (simp only [i64_w, i32_w]; rw [c43b0]) | skip)
        have H' := Az H
        clear H
        obtain ⟨Ao60, co60, eo60⟩ := Kd.R_slice HO109.out
        subst eo60
        obtain ⟨Ao61, co61, eo61⟩ := Kd.R_slice HO113.out
        subst eo61
        go_wp2_with (first | ((with_reducible refine gate_callee (f := 36) rfl ?_); refine goesL_ (some 72) rfl rfl Try.func36 (by kernel_rfl) rfl #[.slice Ao60 t106.length co60, .slice Ao61 t110.length co61] rfl (by (try simp only [List.map_toArray, List.map_cons, List.map_nil]); first | done | rfl | (simp only [List.length_drop, List.length_take]; rfl)) ?_; (with_reducible refine (Pmxa.joustref27_Ints.calls kj3 _ _ t106 _ _ t110 true _ ?side1 ?side2 ?side3 ?side4 A41.out).mono ?_); (case side1 => repeat (first | exact (Kd.R_reads' HO109.out).2.2 | (with_reducible refine Kd.C_alloc ?_ _) | (with_reducible refine Kd.C_drewN ?_ _) | (with_reducible refine Kd.C_drew ?_))); (case side2 => exact (Kd.R_reads' HO109.out).2.1); (case side3 => repeat (first | exact (Kd.R_reads' HO113.out).2.2 | (with_reducible refine Kd.C_alloc ?_ _) | (with_reducible refine Kd.C_drewN ?_ _) | (with_reducible refine Kd.C_drew ?_))); (case side4 => exact (Kd.R_reads' HO113.out).2.1); rintro e w' ⟨rfl, ⟨nd, rfl⟩⟩; refine ⟨_, rfl, ?_⟩))
        go_meet
        case rel => exact ⟨_, (true), (by first | rfl | (simp; done) | (simp [*]; done)), H', ⟨by have := HJ3.out; first | omega | exact Nat.le_refl _⟩, ⟨of_lies⟩, ⟨low HB⟩⟩
      ·
       replace c42 := Bool.eq_false_iff.mpr c42
       subst c42
       have H1 : (joustlaw27_MixLots.j1 kj3 a1 true a2_0 a2_1) = some r := by rw [if_neg (show ¬ (false = true) by decide)] at H; exact H
       clear H
       have H := H1
       clear H1
       have H' := Az H
       clear H
       obtain ⟨Ao62, co62, eo62⟩ := Kd.R_slice HO109.out
       subst eo62
       obtain ⟨Ao63, co63, eo63⟩ := Kd.R_slice HO113.out
       subst eo63
       go_wp2_with (first | ((with_reducible refine gate_callee (f := 36) rfl ?_); refine goesL_ (some 72) rfl rfl Try.func36 (by kernel_rfl) rfl #[.slice Ao62 t106.length co62, .slice Ao63 t110.length co63] rfl (by (try simp only [List.map_toArray, List.map_cons, List.map_nil]); first | done | rfl | (simp only [List.length_drop, List.length_take]; rfl)) ?_; (with_reducible refine (Pmxa.joustref27_Ints.calls kj3 _ _ t106 _ _ t110 false _ ?side1 ?side2 ?side3 ?side4 A41.out).mono ?_); (case side1 => repeat (first | exact (Kd.R_reads' HO109.out).2.2 | (with_reducible refine Kd.C_alloc ?_ _) | (with_reducible refine Kd.C_drewN ?_ _) | (with_reducible refine Kd.C_drew ?_))); (case side2 => exact (Kd.R_reads' HO109.out).2.1); (case side3 => repeat (first | exact (Kd.R_reads' HO113.out).2.2 | (with_reducible refine Kd.C_alloc ?_ _) | (with_reducible refine Kd.C_drewN ?_ _) | (with_reducible refine Kd.C_drew ?_))); (case side4 => exact (Kd.R_reads' HO113.out).2.1); rintro e w' ⟨rfl, ⟨nd, rfl⟩⟩; refine ⟨_, rfl, ?_⟩))
       go_meet
       case rel => exact ⟨_, (true), (by first | rfl | (simp; done) | (simp [*]; done)), H', ⟨by have := HJ3.out; first | omega | exact Nat.le_refl _⟩, ⟨of_lies⟩, ⟨low HB⟩⟩
     case rest =>
      clear HC34
      try clear c1
      try clear c2
      try clear p2
      try clear c3
      try clear c4
      try clear c6
      try clear c6b0
      try clear c6b1
      try clear c7
      try clear c7b0
      try clear c7b1
      try clear c8
      try clear c8b0
      try clear c9
      try clear c9b0
      try clear c11
      try clear c11b0
      try clear c12
      try clear c14
      try clear c14b0
      try clear c17
      try clear c17b0
      try clear c18
      try clear c18b0
      try clear c20
      try clear c20b0
      try clear c23
      try clear c23b0
      try clear c26
      try clear c29
      try clear c33
      try clear c34
      try clear c35
      try clear c36
      try clear c42
      try clear c43
      try clear c43b0
      try clear c43b1
      try clear c45
      try clear c46
      try clear c46b0
      try clear c46b1
      try clear c47
      try clear c48
      try clear hcz10_0
      try clear hcz10_1
      try clear hcz12_0
      try clear hcz12_1
      try clear hcz13_0
      try clear hcz13_1
      try clear hcz15_0
      try clear hcz15_1
      try clear hcz16_0
      try clear hcz16_1
      try clear hcz19_0
      try clear hcz19_1
      try clear hcz21_0
      try clear hcz21_1
      try clear hcz22_0
      try clear hcz22_1
      try clear hcz24_0
      try clear hcz24_1
      try clear hcz25_0
      try clear hcz25_1
      try clear hfz10_0
      try clear hfz10_1
      try clear hfz12_0
      try clear hfz12_1
      try clear hfz13_0
      try clear hfz13_1
      try clear hfz15_0
      try clear hfz15_1
      try clear hfz16_0
      try clear hfz16_1
      try clear hfz19_0
      try clear hfz19_1
      try clear hfz21_0
      try clear hfz21_1
      try clear hfz22_0
      try clear hfz22_1
      try clear hfz24_0
      try clear hfz24_1
      try clear hfz25_0
      try clear hfz25_1
      try clear p2
      obtain ⟨kq, x95_33, rfl, HA, HJ33, BK101, HB⟩ := hcut
      cases kq with
      | zero => exact absurd HA.out (by simp [joustlaw27_MixLots.j1])
      | succ kj33 =>
       have H := HA.out
       clear HA
       simp only [joustlaw27_MixLots.j1] at H
       by_cases c64 : x95_33 = true
       ·
        subst c64
        have H1 : (some false) = some r := by rw [if_pos rfl] at H; exact H
        clear H
        have H := H1
        clear H1
        obtain rfl := Option.some.inj H
        go_wp2
        go_ret
        exact ⟨by first | rfl | (simp [errW_none, errW_some] <;> rfl) | (simp [*, errW_none, errW_some] <;> rfl), low HB⟩
       ·
        replace c64 := Bool.eq_false_iff.mpr c64
        subst c64
        have H1 : ((Pmxb.mix_Script.f kj33 a1 a2_0 a2_1).bind fun bt125 => ((Pmxa.joustref27_Script.f kj33 a1 a2_0 a2_1).bind fun bt129 => ((Pmxa.joustref27_Ints.f kj33 bt125.1 bt129.1).bind fun t133 => (if t133 = true then (if bt125.2 = bt129.2 then ((Pmxl.joustlaw27_lives.f kj33).bind fun t134 => (some t134)) else (some false)) else (some false))))) = some r := by rw [if_neg (show ¬ (false = true) by decide)] at H; exact H
        clear H
        have H := H1
        clear H1
        replace H := Option.bind_eq_some_iff.mp H
        obtain ⟨⟨t125, t128⟩, A650, H⟩ := H
        replace H : ((Pmxa.joustref27_Script.f kj33 a1 a2_0 a2_1).bind fun bt129 => ((Pmxa.joustref27_Ints.f kj33 t125 bt129.1).bind fun t133 => (if t133 = true then (if t128 = bt129.2 then ((Pmxl.joustlaw27_lives.f kj33).bind fun t134 => (some t134)) else (some false)) else (some false)))) = some r := H
        have A65 := Az A650
        clear A650
        replace H := Option.bind_eq_some_iff.mp H
        obtain ⟨⟨t129, t132⟩, A660, H⟩ := H
        replace H : ((Pmxa.joustref27_Ints.f kj33 t125 t129).bind fun t133 => (if t133 = true then (if t128 = t132 then ((Pmxl.joustlaw27_lives.f kj33).bind fun t134 => (some t134)) else (some false)) else (some false))) = some r := H
        have A66 := Az A660
        clear A660
        replace H := Option.bind_eq_some_iff.mp H
        obtain ⟨t133, A670, H⟩ := H
        replace H : (if t133 = true then (if t128 = t132 then ((Pmxl.joustlaw27_lives.f kj33).bind fun t134 => (some t134)) else (some false)) else (some false)) = some r := H
        have A67 := Az A670
        clear A670
        by_cases c68 : t133 = true
        ·
         subst c68
         have H1 : (if t128 = t132 then ((Pmxl.joustlaw27_lives.f kj33).bind fun t134 => (some t134)) else (some false)) = some r := by rw [if_pos rfl] at H; exact H
         clear H
         have H := H1
         clear H1
         by_cases c69 : t128 = t132
         ·
          rw [if_pos c69] at H
          have c69b0 : (t128 == t132) = true := beq_iff_eq.mpr c69
          have c69b1 : (t128 != t132) = false := bne_eq_false_iff_eq.mpr c69
          clear c69
          replace H := Option.bind_eq_some_iff.mp H
          obtain ⟨t134, A700, H⟩ := H
          replace H : (some t134) = some r := H
          have A70 := Az A700
          clear A700
          obtain rfl := Option.some.inj H
          have hcz71_0 : wc.cell? ⟨gb101, 0, none⟩ = some (.int .i64 a2_0) := (blk_cell BK101.out 0).trans rfl
          have hcz71_1 : wc.cell? ⟨gb101, 1, none⟩ = some (.int .i64 a2_1) := (blk_cell BK101.out 1).trans rfl
          have hfz71_0 := blk_frozen BK101.out 0
          have hfz71_1 := blk_frozen BK101.out 1
          go_wp2_with (first | ((with_reducible refine gate_callee (f := 49) rfl ?_); refine goesL_ (some 99) rfl rfl Try.func49 (by kernel_rfl) rfl #[.int .u64 a1, .agg #[.int .i64 a2_0, .int .i64 a2_1]] rfl (by (try simp only [List.map_toArray, List.map_cons, List.map_nil]); first | done | rfl | (simp only [List.length_drop, List.length_take]; rfl)) ?_; (with_reducible refine (Pmxb.mix_Script.calls kj33 a1 a2_0 a2_1 t125 t128 _ A65.out).mono ?_); rintro e w72 ⟨v126, rfl, ho0, hb⟩; refine ⟨_, rfl, ?_⟩; have n0_ := Az (Kd.R_lower ho0 (below_size (low HB))); have n1_ := Az (blk_below (g := gb101) (o := .cells #[.int .i64 a2_0, .int .i64 a2_1] 24 (0, 0)) of_lies hb); have n2_ := Az (below_step (low HB) hb); clear BK101; clear HB; have HO127 := n0_; have BK101 := n1_; have HB := n2_; clear n0_ n1_ n2_; (try clear hb); (try clear hb2); (try clear hk); (try clear hi); (try clear ho0); obtain ⟨hcz73_0, hcz73_1, hfz73_0, hfz73_1⟩ := cells2 BK101.out) | ((with_reducible refine gate_callee (f := 50) rfl ?_); refine goesL_ (some 105) rfl rfl Try.func50 (by kernel_rfl) rfl #[.int .u64 a1, .agg #[.int .i64 a2_0, .int .i64 a2_1]] rfl (by (try simp only [List.map_toArray, List.map_cons, List.map_nil]); first | done | rfl | (simp only [List.length_drop, List.length_take]; rfl)) ?_; (with_reducible refine (Pmxa.joustref27_Script.calls kj33 a1 a2_0 a2_1 t129 t132 _ A66.out).mono ?_); rintro e w74 ⟨v130, rfl, ho0, hb⟩; refine ⟨_, rfl, ?_⟩; have n0_ := Az (Kd.R_elder' (by (with_reducible repeat (first | apply Kd.R_alloc | apply Kd.R_drewN | apply Kd.R_drew)); exact HO127.out) (Kd.R_base ho0) hb); have n1_ := Az (Kd.R_lower (Kd.R_new' ho0 (Kd.R_lt (by (with_reducible repeat (first | apply Kd.R_alloc | apply Kd.R_drewN | apply Kd.R_drew)); exact HO127.out))) (below_size (low HB))); have n2_ := Az (blk_below (g := gb101) (o := .cells #[.int .i64 a2_0, .int .i64 a2_1] 24 (0, 0)) of_lies hb); have n3_ := Az (below_step (low HB) hb); clear HO127; clear BK101; clear HB; have HO127 := n0_; have HO131 := n1_; have BK101 := n2_; have HB := n3_; clear n0_ n1_ n2_ n3_; (try clear hb); (try clear hb2); (try clear hk); (try clear hi); (try clear ho0); obtain ⟨Ao75, co75, eo75⟩ := Kd.R_slice HO127.out; subst eo75; obtain ⟨Ao76, co76, eo76⟩ := Kd.R_slice HO131.out; subst eo76) | ((with_reducible refine gate_callee (f := 36) rfl ?_); refine goesL_ (some 110) rfl rfl Try.func36 (by kernel_rfl) rfl #[.slice Ao75 t125.length co75, .slice Ao76 t129.length co76] rfl (by (try simp only [List.map_toArray, List.map_cons, List.map_nil]); first | done | rfl | (simp only [List.length_drop, List.length_take]; rfl)) ?_; (with_reducible refine (Pmxa.joustref27_Ints.calls kj33 _ _ t125 _ _ t129 true _ ?side1 ?side2 ?side3 ?side4 A67.out).mono ?_); (case side1 => repeat (first | exact (Kd.R_reads' HO127.out).2.2 | (with_reducible refine Kd.C_alloc ?_ _) | (with_reducible refine Kd.C_drewN ?_ _) | (with_reducible refine Kd.C_drew ?_))); (case side2 => exact (Kd.R_reads' HO127.out).2.1); (case side3 => repeat (first | exact (Kd.R_reads' HO131.out).2.2 | (with_reducible refine Kd.C_alloc ?_ _) | (with_reducible refine Kd.C_drewN ?_ _) | (with_reducible refine Kd.C_drew ?_))); (case side4 => exact (Kd.R_reads' HO131.out).2.1); rintro e w' ⟨rfl, ⟨nd, rfl⟩⟩; refine ⟨_, rfl, ?_⟩) | (go_at_call 33; (with_reducible refine (Pmxl.joustlaw27_lives.calls kj33  t134 _ A70.out).mono ?_); rintro e w77 ⟨rfl, hb⟩; have n0_ := Az (Kd.R_below (by (with_reducible repeat (first | apply Kd.R_alloc | apply Kd.R_drewN | apply Kd.R_drew)); exact HO127.out) hb); have n1_ := Az (Kd.R_below (by (with_reducible repeat (first | apply Kd.R_alloc | apply Kd.R_drewN | apply Kd.R_drew)); exact HO131.out) hb); have n2_ := Az (blk_below (g := gb101) (o := .cells #[.int .i64 a2_0, .int .i64 a2_1] 24 (0, 0)) of_lies hb); have n3_ := Az (below_step (low HB) hb); clear HO127; clear HO131; clear BK101; clear HB; have HO127 := n0_; have HO131 := n1_; have BK101 := n2_; have HB := n3_; clear n0_ n1_ n2_ n3_; (try clear hb); (try clear hb2); (try clear hk); (try clear hi)))
          go_ret
          exact ⟨by first | rfl | (simp [errW_none, errW_some] <;> rfl) | (simp [*, errW_none, errW_some] <;> rfl), low HB⟩
         ·
          rw [if_neg c69] at H
          have c69b0 : (t128 == t132) = false := beq_eq_false_iff_ne.mpr c69
          have c69b1 : (t128 != t132) = true := bne_iff_ne.mpr c69
          obtain rfl := Option.some.inj H
          have hcz78_0 : wc.cell? ⟨gb101, 0, none⟩ = some (.int .i64 a2_0) := (blk_cell BK101.out 0).trans rfl
          have hcz78_1 : wc.cell? ⟨gb101, 1, none⟩ = some (.int .i64 a2_1) := (blk_cell BK101.out 1).trans rfl
          have hfz78_0 := blk_frozen BK101.out 0
          have hfz78_1 := blk_frozen BK101.out 1
          go_wp2_with (first | ((with_reducible refine gate_callee (f := 49) rfl ?_); refine goesL_ (some 99) rfl rfl Try.func49 (by kernel_rfl) rfl #[.int .u64 a1, .agg #[.int .i64 a2_0, .int .i64 a2_1]] rfl (by (try simp only [List.map_toArray, List.map_cons, List.map_nil]); first | done | rfl | (simp only [List.length_drop, List.length_take]; rfl)) ?_; (with_reducible refine (Pmxb.mix_Script.calls kj33 a1 a2_0 a2_1 t125 t128 _ A65.out).mono ?_); rintro e w79 ⟨v126, rfl, ho0, hb⟩; refine ⟨_, rfl, ?_⟩; have n0_ := Az (Kd.R_lower ho0 (below_size (low HB))); have n1_ := Az (blk_below (g := gb101) (o := .cells #[.int .i64 a2_0, .int .i64 a2_1] 24 (0, 0)) of_lies hb); have n2_ := Az (below_step (low HB) hb); clear BK101; clear HB; have HO127 := n0_; have BK101 := n1_; have HB := n2_; clear n0_ n1_ n2_; (try clear hb); (try clear hb2); (try clear hk); (try clear hi); (try clear ho0); obtain ⟨hcz80_0, hcz80_1, hfz80_0, hfz80_1⟩ := cells2 BK101.out) | ((with_reducible refine gate_callee (f := 50) rfl ?_); refine goesL_ (some 105) rfl rfl Try.func50 (by kernel_rfl) rfl #[.int .u64 a1, .agg #[.int .i64 a2_0, .int .i64 a2_1]] rfl (by (try simp only [List.map_toArray, List.map_cons, List.map_nil]); first | done | rfl | (simp only [List.length_drop, List.length_take]; rfl)) ?_; (with_reducible refine (Pmxa.joustref27_Script.calls kj33 a1 a2_0 a2_1 t129 t132 _ A66.out).mono ?_); rintro e w81 ⟨v130, rfl, ho0, hb⟩; refine ⟨_, rfl, ?_⟩; have n0_ := Az (Kd.R_elder' (by (with_reducible repeat (first | apply Kd.R_alloc | apply Kd.R_drewN | apply Kd.R_drew)); exact HO127.out) (Kd.R_base ho0) hb); have n1_ := Az (Kd.R_lower (Kd.R_new' ho0 (Kd.R_lt (by (with_reducible repeat (first | apply Kd.R_alloc | apply Kd.R_drewN | apply Kd.R_drew)); exact HO127.out))) (below_size (low HB))); have n2_ := Az (blk_below (g := gb101) (o := .cells #[.int .i64 a2_0, .int .i64 a2_1] 24 (0, 0)) of_lies hb); have n3_ := Az (below_step (low HB) hb); clear HO127; clear BK101; clear HB; have HO127 := n0_; have HO131 := n1_; have BK101 := n2_; have HB := n3_; clear n0_ n1_ n2_ n3_; (try clear hb); (try clear hb2); (try clear hk); (try clear hi); (try clear ho0); obtain ⟨Ao82, co82, eo82⟩ := Kd.R_slice HO127.out; subst eo82; obtain ⟨Ao83, co83, eo83⟩ := Kd.R_slice HO131.out; subst eo83) | ((with_reducible refine gate_callee (f := 36) rfl ?_); refine goesL_ (some 110) rfl rfl Try.func36 (by kernel_rfl) rfl #[.slice Ao82 t125.length co82, .slice Ao83 t129.length co83] rfl (by (try simp only [List.map_toArray, List.map_cons, List.map_nil]); first | done | rfl | (simp only [List.length_drop, List.length_take]; rfl)) ?_; (with_reducible refine (Pmxa.joustref27_Ints.calls kj33 _ _ t125 _ _ t129 true _ ?side1 ?side2 ?side3 ?side4 A67.out).mono ?_); (case side1 => repeat (first | exact (Kd.R_reads' HO127.out).2.2 | (with_reducible refine Kd.C_alloc ?_ _) | (with_reducible refine Kd.C_drewN ?_ _) | (with_reducible refine Kd.C_drew ?_))); (case side2 => exact (Kd.R_reads' HO127.out).2.1); (case side3 => repeat (first | exact (Kd.R_reads' HO131.out).2.2 | (with_reducible refine Kd.C_alloc ?_ _) | (with_reducible refine Kd.C_drewN ?_ _) | (with_reducible refine Kd.C_drew ?_))); (case side4 => exact (Kd.R_reads' HO131.out).2.1); rintro e w' ⟨rfl, ⟨nd, rfl⟩⟩; refine ⟨_, rfl, ?_⟩))
          go_ret
          exact ⟨by first | rfl | (simp [errW_none, errW_some] <;> rfl) | (simp [*, errW_none, errW_some] <;> rfl), low HB⟩
        ·
         replace c68 := Bool.eq_false_iff.mpr c68
         subst c68
         have H1 : (some false) = some r := by rw [if_neg (show ¬ (false = true) by decide)] at H; exact H
         clear H
         have H := H1
         clear H1
         obtain rfl := Option.some.inj H
         have hcz84_0 : wc.cell? ⟨gb101, 0, none⟩ = some (.int .i64 a2_0) := (blk_cell BK101.out 0).trans rfl
         have hcz84_1 : wc.cell? ⟨gb101, 1, none⟩ = some (.int .i64 a2_1) := (blk_cell BK101.out 1).trans rfl
         have hfz84_0 := blk_frozen BK101.out 0
         have hfz84_1 := blk_frozen BK101.out 1
         go_wp2_with (first | ((with_reducible refine gate_callee (f := 49) rfl ?_); refine goesL_ (some 99) rfl rfl Try.func49 (by kernel_rfl) rfl #[.int .u64 a1, .agg #[.int .i64 a2_0, .int .i64 a2_1]] rfl (by (try simp only [List.map_toArray, List.map_cons, List.map_nil]); first | done | rfl | (simp only [List.length_drop, List.length_take]; rfl)) ?_; (with_reducible refine (Pmxb.mix_Script.calls kj33 a1 a2_0 a2_1 t125 t128 _ A65.out).mono ?_); rintro e w85 ⟨v126, rfl, ho0, hb⟩; refine ⟨_, rfl, ?_⟩; have n0_ := Az (Kd.R_lower ho0 (below_size (low HB))); have n1_ := Az (blk_below (g := gb101) (o := .cells #[.int .i64 a2_0, .int .i64 a2_1] 24 (0, 0)) of_lies hb); have n2_ := Az (below_step (low HB) hb); clear BK101; clear HB; have HO127 := n0_; have BK101 := n1_; have HB := n2_; clear n0_ n1_ n2_; (try clear hb); (try clear hb2); (try clear hk); (try clear hi); (try clear ho0); obtain ⟨hcz86_0, hcz86_1, hfz86_0, hfz86_1⟩ := cells2 BK101.out) | ((with_reducible refine gate_callee (f := 50) rfl ?_); refine goesL_ (some 105) rfl rfl Try.func50 (by kernel_rfl) rfl #[.int .u64 a1, .agg #[.int .i64 a2_0, .int .i64 a2_1]] rfl (by (try simp only [List.map_toArray, List.map_cons, List.map_nil]); first | done | rfl | (simp only [List.length_drop, List.length_take]; rfl)) ?_; (with_reducible refine (Pmxa.joustref27_Script.calls kj33 a1 a2_0 a2_1 t129 t132 _ A66.out).mono ?_); rintro e w87 ⟨v130, rfl, ho0, hb⟩; refine ⟨_, rfl, ?_⟩; have n0_ := Az (Kd.R_elder' (by (with_reducible repeat (first | apply Kd.R_alloc | apply Kd.R_drewN | apply Kd.R_drew)); exact HO127.out) (Kd.R_base ho0) hb); have n1_ := Az (Kd.R_lower (Kd.R_new' ho0 (Kd.R_lt (by (with_reducible repeat (first | apply Kd.R_alloc | apply Kd.R_drewN | apply Kd.R_drew)); exact HO127.out))) (below_size (low HB))); have n2_ := Az (blk_below (g := gb101) (o := .cells #[.int .i64 a2_0, .int .i64 a2_1] 24 (0, 0)) of_lies hb); have n3_ := Az (below_step (low HB) hb); clear HO127; clear BK101; clear HB; have HO127 := n0_; have HO131 := n1_; have BK101 := n2_; have HB := n3_; clear n0_ n1_ n2_ n3_; (try clear hb); (try clear hb2); (try clear hk); (try clear hi); (try clear ho0); obtain ⟨Ao88, co88, eo88⟩ := Kd.R_slice HO127.out; subst eo88; obtain ⟨Ao89, co89, eo89⟩ := Kd.R_slice HO131.out; subst eo89) | ((with_reducible refine gate_callee (f := 36) rfl ?_); refine goesL_ (some 110) rfl rfl Try.func36 (by kernel_rfl) rfl #[.slice Ao88 t125.length co88, .slice Ao89 t129.length co89] rfl (by (try simp only [List.map_toArray, List.map_cons, List.map_nil]); first | done | rfl | (simp only [List.length_drop, List.length_take]; rfl)) ?_; (with_reducible refine (Pmxa.joustref27_Ints.calls kj33 _ _ t125 _ _ t129 false _ ?side1 ?side2 ?side3 ?side4 A67.out).mono ?_); (case side1 => repeat (first | exact (Kd.R_reads' HO127.out).2.2 | (with_reducible refine Kd.C_alloc ?_ _) | (with_reducible refine Kd.C_drewN ?_ _) | (with_reducible refine Kd.C_drew ?_))); (case side2 => exact (Kd.R_reads' HO127.out).2.1); (case side3 => repeat (first | exact (Kd.R_reads' HO131.out).2.2 | (with_reducible refine Kd.C_alloc ?_ _) | (with_reducible refine Kd.C_drewN ?_ _) | (with_reducible refine Kd.C_drew ?_))); (case side4 => exact (Kd.R_reads' HO131.out).2.1); rintro e w' ⟨rfl, ⟨nd, rfl⟩⟩; refine ⟨_, rfl, ?_⟩))
         go_ret
         exact ⟨by first | rfl | (simp [errW_none, errW_some] <;> rfl) | (simp [*, errW_none, errW_some] <;> rfl), low HB⟩
    ·
     rw [if_neg c29] at H
     exact absurd H (by simp)
end Go.Proofs.Ytnceobnglofnmaa.Pmxo
end
