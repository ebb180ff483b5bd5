/- Joined by a program of this session (pack.py) out of: Podxx0 Podxx1 Podxx3 -/
import Derived.ArgAppend
import Derived.Below
import Derived.BigQuiet
import Derived.Deep.AppendLies
import Derived.Deep.CutBlock
import Derived.Deep.DeepCutAuto
import Derived.Deep.Draws
import Derived.Deep.LoopGhost
import Derived.Deep.OwnRows
import Derived.Deep.QuietTactic
import Derived.Deep.RegionHeld3
import Derived.KernelRfl
import Derived.Laws.BitsLemmas
import Derived.Laws.BytesArg
import Derived.Laws.IdiomCopy
import Derived.Laws.MakeOwn
import Derived.Laws.OwnMore
import Derived.Laws.Rows
import Derived.Laws.Slices
import Derived.Lib.AppendStr
import Derived.Lib.ConvBytes
import Derived.Maps.AppendAt
import Derived.OrdersHeld
import Derived.OwnWalk
import Derived.RowKit
import Derived.RowKit3
import Derived.Tactics
import Derived.Test.YtcdcpnhlmgmnkaaDoorProg
import Derived.WalkKit
import Derived.WideLaws
import Derived.Test.YtcdcpnhlmgmnkaaDoorKot1
import Derived.Test.YtcdcpnhlmgmnkaaDoorKot13
section
namespace Go.Proofs.YtcdcpnhlmgmnkaaDoor.Podx
open Go.RowKit Go.Proofs.YtcdcpnhlmgmnkaaDoor.Base Go.Proofs.YtcdcpnhlmgmnkaaDoorW.PrintWords Go.Proofs.YtcdcpnhlmgmnkaaDoorW.PrintLast Go.Proofs.YtcdcpnhlmgmnkaaDoorW.PrintMore
attribute [local go_sem] max2_int min2_int max_two min_two max_three min_three max_four min_four   -- for this text's walks alone
set_option linter.unusedVariables false
set_option linter.unusedSimpArgs false
def errW : Option Int → Value
 | none => .nilIface
 | some c => .iface 0 (.int .i64 c)
theorem errW_none : errW none = .nilIface := rfl
theorem errW_some (c : Int) : errW (some c) = .iface 0 (.int .i64 c) := rfl
structure S47 where
 f0 : Int
 f1 : Int
def z47 : S47 := ⟨(0 : Int), (0 : Int)⟩
def k47 : Kd S47 := Kd.iso (Kd.pair (Kd.int .u64) (Kd.int .u64)) (fun x : S47 => (x.f0, x.f1))
theorem k47_open {w : World} {x : S47} {cs : List Value} (h : k47.K w x cs) : cs = [.int .u64 x.f0, .int .u64 x.f1] := by
 obtain ⟨_, _, rfl, rfl, rfl⟩ := h
 exact rfl
theorem k47_openM {w : World} {base : Nat} {ok : Nat → Prop} {x : S47} {cs : List Value} (h : k47.M w base ok x cs) : cs = [.int .u64 x.f0, .int .u64 x.f1] := by
 obtain ⟨_, _, rfl, rfl, rfl⟩ := h
 exact rfl
theorem k47_mk (w : World) (x : S47)  : k47.K w x [.int .u64 x.f0, .int .u64 x.f1] := ⟨[.int .u64 x.f0], [.int .u64 x.f1], rfl, rfl, rfl⟩
theorem k47_mkM (w : World) (base : Nat) (ok : Nat → Prop) (x : S47)  : k47.M w base ok x [.int .u64 x.f0, .int .u64 x.f1] := ⟨[.int .u64 x.f0], [.int .u64 x.f1], rfl, rfl, rfl⟩
def rd_T47 (xs : List S47) (i : Int) : S47 := xs.getD i.toNat z47
theorem at_T47 {w : World} {A : Option Addr} {n : Nat} {xs : List S47} (h : Kd.C k47 w A n xs) (i : Int) (h0 : 0 ≤ i) (h1 : i < n) : ∃ ad , A = some ad ∧ w.cell? (ad.add (i.toNat * 2)) = some (.int .u64 (rd_T47 xs i).f0) ∧ w.cell? ⟨(ad.add (i.toNat * 2)).block, (ad.add (i.toNat * 2)).off + 1, none⟩ = some (.int .u64 (rd_T47 xs i).f1) := by
 obtain ⟨ad, c, e, _, hK, hc0⟩ := Kd.C_get h z47 i h0 h1
 have hc : ∀ j u, c[j]? = some u → w.cell? (ad.add (i.toNat * 2 + j)) = some u := hc0
 obtain rfl := k47_open hK
 exact ⟨ad, e, hc 0 _ rfl, by rw [← add_field _ _ 1 (by omega)]; exact hc 1 _ rfl⟩
end Go.Proofs.YtcdcpnhlmgmnkaaDoor.Podx
end
section
namespace Go.Proofs.YtcdcpnhlmgmnkaaDoor.Podx
open Go.RowKit Go.Proofs.YtcdcpnhlmgmnkaaDoor.Base Go.Proofs.YtcdcpnhlmgmnkaaDoorW.PrintWords Go.Proofs.YtcdcpnhlmgmnkaaDoorW.PrintLast Go.Proofs.YtcdcpnhlmgmnkaaDoorW.PrintMore
attribute [local go_sem] max2_int min2_int max_two min_two max_three min_three max_four min_four   -- for this text's walks alone
set_option linter.unusedVariables false
set_option linter.unusedSimpArgs false
theorem eqA47 (d : Nat) (w : World) (x0 y0 : Int) (x1 y1 : Int) :
  (Op.equalIn (d + 2) 47 (.agg #[.int .u64 x0, .int .u64 x1]) (.agg #[.int .u64 y0, .int .u64 y1])).run Tryd.prog w = .ok (x0 == y0 && (x1 == y1)) w := by
 refine eqA_of Tryd.underlying47 (by kernel_rfl) ?_
 refine eqf_cons (by rfl) (by go_simp; rfl) (by go_simp; rfl) (by go_simp) ?_
 exact eqf_last (by rfl) (by go_simp; rfl) (by go_simp; rfl) (by go_simp)
end Go.Proofs.YtcdcpnhlmgmnkaaDoor.Podx
end
section
namespace Go.Proofs.YtcdcpnhlmgmnkaaDoor.Podx
open Go.RowKit Go.Proofs.YtcdcpnhlmgmnkaaDoor.Base Go.Proofs.YtcdcpnhlmgmnkaaDoorW.PrintWords Go.Proofs.YtcdcpnhlmgmnkaaDoorW.PrintLast Go.Proofs.YtcdcpnhlmgmnkaaDoorW.PrintMore
attribute [local go_sem] max2_int min2_int max_two min_two max_three min_three max_four min_four   -- for this text's walks alone
set_option linter.unusedVariables false
set_option linter.unusedSimpArgs false
attribute [local go_sem high] eqA47
mutual
def joustlaw32_OddsTells.j0 : Nat → Int → Int → Bool → Int → Int → Int → Int → Option (Bool)
 | 0, _, _, _, _, _, _, _ => none
 | k + 1, x4, x5, x56, x102000, x102001, x103000, x103001 => if x56 = true then (some false) else ((Podd.odds_Not.f k x102000 x102001).bind fun bt115 => ((Podr.joustref32_Not.f k x102000 x102001).bind fun bt118 => (if (!(bt115.1 == bt118.1) || (!(bt115.2.1 == bt118.2.1))) = true then (joustlaw32_OddsTells.j1 k x4 x5 true x102000 x102001 x103000 x103001) else (joustlaw32_OddsTells.j1 k x4 x5 (bt115.2.2 != bt118.2.2) x102000 x102001 x103000 x103001))))
def joustlaw32_OddsTells.j1 : Nat → Int → Int → Bool → Int → Int → Int → Int → Option (Bool)
 | 0, _, _, _, _, _, _, _ => none
 | k + 1, x4, x5, x74, x102000, x102001, x103000, x103001 => if x74 = true then (some false) else ((Pods2.odds_Sum.f x102000 x102001 x103000 x103001).bind fun bt121 => ((Podr.joustref32_Sum.f k x102000 x102001 x103000 x103001).bind fun bt124 => (if (!(bt121.1 == bt124.1) || (!(bt121.2.1 == bt124.2.1))) = true then (joustlaw32_OddsTells.j2 k x4 x5 true x102000 x102001 x103000 x103001) else (joustlaw32_OddsTells.j2 k x4 x5 (bt121.2.2 != bt124.2.2) x102000 x102001 x103000 x103001))))
def joustlaw32_OddsTells.j2 : Nat → Int → Int → Bool → Int → Int → Int → Int → Option (Bool)
 | 0, _, _, _, _, _, _, _ => none
 | k + 1, x4, x5, x94, x102000, x102001, x103000, x103001 => if x94 = true then (some false) else ((Podd.odds_Compare.f k x102000 x102001 x103000 x103001).bind fun bt127 => ((Podr.joustref32_Compare.f k x102000 x102001 x103000 x103001).bind fun bt129 => ((Podd.odds_Choose.f k x4 x5).bind fun bt131 => ((Podr.joustref32_Choose.f k x4 x5).bind fun bt133 => (if bt127.1 = bt129.1 then (if bt127.2 = bt129.2 then (if bt131.1 = bt133.1 then (if bt131.2 = bt133.2 then ((Podd.lives.f).bind fun t135 => (some t135)) else (some false)) else (some false)) else (some false)) else (some false))))))
end
def joustlaw32_OddsTells.f (k : Nat) (a0_0 : Int) (a0_1 : Int) (a1_0 : Int) (a1_1 : Int) (a2 : Int) (a3 : Int) (a4 : Int) (a5 : Int) : Option (Bool) := (Podd.odds_Make.f k a2 a3).bind fun bt103 => ((Podr.joustref32_Make.f k a2 a3).bind fun bt107 => (if (!(bt103.1 == bt107.1) || (!(bt103.2.1 == bt107.2.1))) = true then (joustlaw32_OddsTells.j0 k a4 a5 true a0_0 a0_1 a1_0 a1_1) else (if bt103.2.2 = bt107.2.2 then ((Podd.odds_May.f k a0_0 a0_1).bind fun t111 => ((Podr.joustref32_May.f k a0_0 a0_1).bind fun t112 => (if (t111 != t112) = true then (joustlaw32_OddsTells.j0 k a4 a5 true a0_0 a0_1 a1_0 a1_1) else ((Podd.odds_Text.f k a0_0 a0_1).bind fun t113 => ((Podr.joustref32_Text.f k a0_0 a0_1).bind fun t114 => (joustlaw32_OddsTells.j0 k a4 a5 (t113.toList != t114.toList) a0_0 a0_1 a1_0 a1_1)))))) else (joustlaw32_OddsTells.j0 k a4 a5 true a0_0 a0_1 a1_0 a1_1))))
theorem joustlaw32_OddsTells.mono_l : ∀ k, (∀ y0 y1 y2 y3 y4 y5 y6, LeO (joustlaw32_OddsTells.j0 k y0 y1 y2 y3 y4 y5 y6) (joustlaw32_OddsTells.j0 (k + 1) y0 y1 y2 y3 y4 y5 y6)) ∧ (∀ y0 y1 y2 y3 y4 y5 y6, LeO (joustlaw32_OddsTells.j1 k y0 y1 y2 y3 y4 y5 y6) (joustlaw32_OddsTells.j1 (k + 1) y0 y1 y2 y3 y4 y5 y6)) ∧ (∀ y0 y1 y2 y3 y4 y5 y6, LeO (joustlaw32_OddsTells.j2 k y0 y1 y2 y3 y4 y5 y6) (joustlaw32_OddsTells.j2 (k + 1) y0 y1 y2 y3 y4 y5 y6))
 | 0 => ⟨fun _ _ _ _ _ _ _ r h => by simp [joustlaw32_OddsTells.j0] at h, fun _ _ _ _ _ _ _ r h => by simp [joustlaw32_OddsTells.j1] at h, fun _ _ _ _ _ _ _ r h => by simp [joustlaw32_OddsTells.j2] at h⟩
 | k + 1 => by
  obtain ⟨ih0, ih1, ih2⟩ := joustlaw32_OddsTells.mono_l k
  refine ⟨?_, ?_, ?_⟩
  ·
   intro y0 y1 y2 y3 y4 y5 y6
   unfold joustlaw32_OddsTells.j0
   repeat' first
   | (with_reducible exact ih0 _ _ _ _ _ _ _)
   | (with_reducible exact ih1 _ _ _ _ _ _ _)
   | (with_reducible exact ih2 _ _ _ _ _ _ _)
   | (with_reducible exact Podd.odds_Choose.mono _ _ _)
   | (with_reducible exact Podd.odds_Compare.mono _ _ _ _ _)
   | (with_reducible exact Podd.odds_Make.mono _ _ _)
   | (with_reducible exact Podd.odds_May.mono _ _ _)
   | (with_reducible exact Podd.odds_Not.mono _ _ _)
   | (with_reducible exact Podd.odds_Text.mono _ _ _)
   | (with_reducible exact Podr.joustref32_Choose.mono _ _ _)
   | (with_reducible exact Podr.joustref32_Compare.mono _ _ _ _ _)
   | (with_reducible exact Podr.joustref32_Make.mono _ _ _)
   | (with_reducible exact Podr.joustref32_May.mono _ _ _)
   | (with_reducible exact Podr.joustref32_Not.mono _ _ _)
   | (with_reducible exact Podr.joustref32_Sum.mono _ _ _ _ _)
   | (with_reducible exact Podr.joustref32_Text.mono _ _ _)
   | (with_reducible exact LeO.refl _)
   | (with_reducible exact LeO.none _)
   | (with_reducible refine LeO.ite ?_ ?_)
   | (with_reducible refine LeO.bind ?_ (fun _ => ?_))
   | exact ih0 _ _ _ _ _ _ _
   | exact ih1 _ _ _ _ _ _ _
   | exact ih2 _ _ _ _ _ _ _
   | exact Podd.odds_Choose.mono _ _ _
   | exact Podd.odds_Compare.mono _ _ _ _ _
   | exact Podd.odds_Make.mono _ _ _
   | exact Podd.odds_May.mono _ _ _
   | exact Podd.odds_Not.mono _ _ _
   | exact Podd.odds_Text.mono _ _ _
   | exact Podr.joustref32_Choose.mono _ _ _
   | exact Podr.joustref32_Compare.mono _ _ _ _ _
   | exact Podr.joustref32_Make.mono _ _ _
   | exact Podr.joustref32_May.mono _ _ _
   | exact Podr.joustref32_Not.mono _ _ _
   | exact Podr.joustref32_Sum.mono _ _ _ _ _
   | exact Podr.joustref32_Text.mono _ _ _
   | exact LeO.none _
   | refine LeO.ite ?_ ?_
   | refine LeO.bind ?_ (fun _ => ?_)
  ·
   intro y0 y1 y2 y3 y4 y5 y6
   unfold joustlaw32_OddsTells.j1
   repeat' first
   | (with_reducible exact ih0 _ _ _ _ _ _ _)
   | (with_reducible exact ih1 _ _ _ _ _ _ _)
   | (with_reducible exact ih2 _ _ _ _ _ _ _)
   | (with_reducible exact Podd.odds_Choose.mono _ _ _)
   | (with_reducible exact Podd.odds_Compare.mono _ _ _ _ _)
   | (with_reducible exact Podd.odds_Make.mono _ _ _)
   | (with_reducible exact Podd.odds_May.mono _ _ _)
   | (with_reducible exact Podd.odds_Not.mono _ _ _)
   | (with_reducible exact Podd.odds_Text.mono _ _ _)
   | (with_reducible exact Podr.joustref32_Choose.mono _ _ _)
   | (with_reducible exact Podr.joustref32_Compare.mono _ _ _ _ _)
   | (with_reducible exact Podr.joustref32_Make.mono _ _ _)
   | (with_reducible exact Podr.joustref32_May.mono _ _ _)
   | (with_reducible exact Podr.joustref32_Not.mono _ _ _)
   | (with_reducible exact Podr.joustref32_Sum.mono _ _ _ _ _)
   | (with_reducible exact Podr.joustref32_Text.mono _ _ _)
   | (with_reducible exact LeO.refl _)
   | (with_reducible exact LeO.none _)
   | (with_reducible refine LeO.ite ?_ ?_)
   | (with_reducible refine LeO.bind ?_ (fun _ => ?_))
   | exact ih0 _ _ _ _ _ _ _
   | exact ih1 _ _ _ _ _ _ _
   | exact ih2 _ _ _ _ _ _ _
   | exact Podd.odds_Choose.mono _ _ _
   | exact Podd.odds_Compare.mono _ _ _ _ _
   | exact Podd.odds_Make.mono _ _ _
   | exact Podd.odds_May.mono _ _ _
   | exact Podd.odds_Not.mono _ _ _
   | exact Podd.odds_Text.mono _ _ _
   | exact Podr.joustref32_Choose.mono _ _ _
   | exact Podr.joustref32_Compare.mono _ _ _ _ _
   | exact Podr.joustref32_Make.mono _ _ _
   | exact Podr.joustref32_May.mono _ _ _
   | exact Podr.joustref32_Not.mono _ _ _
   | exact Podr.joustref32_Sum.mono _ _ _ _ _
   | exact Podr.joustref32_Text.mono _ _ _
   | exact LeO.none _
   | refine LeO.ite ?_ ?_
   | refine LeO.bind ?_ (fun _ => ?_)
  ·
   intro y0 y1 y2 y3 y4 y5 y6
   unfold joustlaw32_OddsTells.j2
   repeat' first
   | (with_reducible exact ih0 _ _ _ _ _ _ _)
   | (with_reducible exact ih1 _ _ _ _ _ _ _)
   | (with_reducible exact ih2 _ _ _ _ _ _ _)
   | (with_reducible exact Podd.odds_Choose.mono _ _ _)
   | (with_reducible exact Podd.odds_Compare.mono _ _ _ _ _)
   | (with_reducible exact Podd.odds_Make.mono _ _ _)
   | (with_reducible exact Podd.odds_May.mono _ _ _)
   | (with_reducible exact Podd.odds_Not.mono _ _ _)
   | (with_reducible exact Podd.odds_Text.mono _ _ _)
   | (with_reducible exact Podr.joustref32_Choose.mono _ _ _)
   | (with_reducible exact Podr.joustref32_Compare.mono _ _ _ _ _)
   | (with_reducible exact Podr.joustref32_Make.mono _ _ _)
   | (with_reducible exact Podr.joustref32_May.mono _ _ _)
   | (with_reducible exact Podr.joustref32_Not.mono _ _ _)
   | (with_reducible exact Podr.joustref32_Sum.mono _ _ _ _ _)
   | (with_reducible exact Podr.joustref32_Text.mono _ _ _)
   | (with_reducible exact LeO.refl _)
   | (with_reducible exact LeO.none _)
   | (with_reducible refine LeO.ite ?_ ?_)
   | (with_reducible refine LeO.bind ?_ (fun _ => ?_))
   | exact ih0 _ _ _ _ _ _ _
   | exact ih1 _ _ _ _ _ _ _
   | exact ih2 _ _ _ _ _ _ _
   | exact Podd.odds_Choose.mono _ _ _
   | exact Podd.odds_Compare.mono _ _ _ _ _
   | exact Podd.odds_Make.mono _ _ _
   | exact Podd.odds_May.mono _ _ _
   | exact Podd.odds_Not.mono _ _ _
   | exact Podd.odds_Text.mono _ _ _
   | exact Podr.joustref32_Choose.mono _ _ _
   | exact Podr.joustref32_Compare.mono _ _ _ _ _
   | exact Podr.joustref32_Make.mono _ _ _
   | exact Podr.joustref32_May.mono _ _ _
   | exact Podr.joustref32_Not.mono _ _ _
   | exact Podr.joustref32_Sum.mono _ _ _ _ _
   | exact Podr.joustref32_Text.mono _ _ _
   | exact LeO.none _
   | refine LeO.ite ?_ ?_
   | refine LeO.bind ?_ (fun _ => ?_)
theorem joustlaw32_OddsTells.mono : ∀ a0 a1 a2 a3 a4 a5 a6 a7 k, LeO (joustlaw32_OddsTells.f k a0 a1 a2 a3 a4 a5 a6 a7) (joustlaw32_OddsTells.f (k + 1) a0 a1 a2 a3 a4 a5 a6 a7) := by
 intro a0 a1 a2 a3 a4 a5 a6 a7 k
 obtain ⟨ih0, ih1, ih2⟩ := joustlaw32_OddsTells.mono_l k
 unfold joustlaw32_OddsTells.f
 repeat' first
   | (with_reducible exact ih0 _ _ _ _ _ _ _)
   | (with_reducible exact ih1 _ _ _ _ _ _ _)
   | (with_reducible exact ih2 _ _ _ _ _ _ _)
   | (with_reducible exact Podd.odds_Choose.mono _ _ _)
   | (with_reducible exact Podd.odds_Compare.mono _ _ _ _ _)
   | (with_reducible exact Podd.odds_Make.mono _ _ _)
   | (with_reducible exact Podd.odds_May.mono _ _ _)
   | (with_reducible exact Podd.odds_Not.mono _ _ _)
   | (with_reducible exact Podd.odds_Text.mono _ _ _)
   | (with_reducible exact Podr.joustref32_Choose.mono _ _ _)
   | (with_reducible exact Podr.joustref32_Compare.mono _ _ _ _ _)
   | (with_reducible exact Podr.joustref32_Make.mono _ _ _)
   | (with_reducible exact Podr.joustref32_May.mono _ _ _)
   | (with_reducible exact Podr.joustref32_Not.mono _ _ _)
   | (with_reducible exact Podr.joustref32_Sum.mono _ _ _ _ _)
   | (with_reducible exact Podr.joustref32_Text.mono _ _ _)
   | (with_reducible exact LeO.refl _)
   | (with_reducible exact LeO.none _)
   | (with_reducible refine LeO.ite ?_ ?_)
   | (with_reducible refine LeO.bind ?_ (fun _ => ?_))
   | exact ih0 _ _ _ _ _ _ _
   | exact ih1 _ _ _ _ _ _ _
   | exact ih2 _ _ _ _ _ _ _
   | exact Podd.odds_Choose.mono _ _ _
   | exact Podd.odds_Compare.mono _ _ _ _ _
   | exact Podd.odds_Make.mono _ _ _
   | exact Podd.odds_May.mono _ _ _
   | exact Podd.odds_Not.mono _ _ _
   | exact Podd.odds_Text.mono _ _ _
   | exact Podr.joustref32_Choose.mono _ _ _
   | exact Podr.joustref32_Compare.mono _ _ _ _ _
   | exact Podr.joustref32_Make.mono _ _ _
   | exact Podr.joustref32_May.mono _ _ _
   | exact Podr.joustref32_Not.mono _ _ _
   | exact Podr.joustref32_Sum.mono _ _ _ _ _
   | exact Podr.joustref32_Text.mono _ _ _
   | exact LeO.none _
   | refine LeO.ite ?_ ?_
   | refine LeO.bind ?_ (fun _ => ?_)
def joustlaw32_OddsTells.T3 : Bool × List (List Nat × List Nat) := (true, [([], []), ([], []), ([0, 1], [0, 1]), ([2], [2]), ([3], [3]), ([3], [3]), ([4, 5, 3], [3, 4, 5]), ([3, 6], [3, 6]), ([7, 3], [7]), ([8], [8]), ([9, 8, 8], [8, 9]), ([8], [8]), ([11, 10, 8], [8, 11]), ([10, 12, 8], [8, 10, 12]), ([8, 13], [8, 13]), ([14, 12], [14]), ([15], [15]), ([16, 15, 15], [15, 16]), ([15], [15]), ([18, 17, 15], [15, 18]), ([17, 19, 15], [15, 17, 19]), ([15, 20], [15, 20])])
def joustlaw32_OddsTells.B3 : List Nat := [0, 0, 3, 7, 15, 15, 63, 127, 255, 511, 1023, 511, 4095, 8191, 16383, 32767, 65535, 131071, 65535, 524287, 1048575, 2097151]
theorem joustlaw32_OddsTells.tab3 : rtab .any (opsOf Tryd.f11 3) = joustlaw32_OddsTells.T3 := by kernel_rfl
theorem joustlaw32_OddsTells.bits3 : waitsOk joustlaw32_OddsTells.T3.2 joustlaw32_OddsTells.B3 = true := by kernel_rfl
set_option maxHeartbeats 8000000 in
set_option maxRecDepth 100000 in
theorem joustlaw32_OddsTells.calls (k : Nat) (a0_0 : Int) (a0_1 : Int) (a1_0 : Int) (a1_1 : Int) (a2 : Int) (a3 : Int) (a4 : Int) (a5 : Int) (r : Bool) (w : World) (hg_ : GoodW w) (h : joustlaw32_OddsTells.f k a0_0 a0_1 a1_0 a1_1 a2 a3 a4 a5 = some r) :
  Calls Tryd.prog 11 #[.agg #[.int .u64 a0_0, .int .u64 a0_1], .agg #[.int .u64 a1_0, .int .u64 a1_1], .int .u64 a2, .int .u64 a3, .int .i64 a4, .int .i64 a5] w fun e w' => e = .returned (.bool r) ∧ Below w.heap.size w w' := by
 have hu47 := Tryd.underlying47
 have HGW := Aside0.mk hg_
 clear hg_
 have HB := Aside0.mk (Below.refl w.heap.size w)
 have H : ((Podd.odds_Make.f k a2 a3).bind fun bt103 => ((Podr.joustref32_Make.f k a2 a3).bind fun bt107 => (if (!(bt103.1 == bt107.1) || (!(bt103.2.1 == bt107.2.1))) = true then (joustlaw32_OddsTells.j0 k a4 a5 true a0_0 a0_1 a1_0 a1_1) else (if bt103.2.2 = bt107.2.2 then ((Podd.odds_May.f k a0_0 a0_1).bind fun t111 => ((Podr.joustref32_May.f k a0_0 a0_1).bind fun t112 => (if (t111 != t112) = true then (joustlaw32_OddsTells.j0 k a4 a5 true a0_0 a0_1 a1_0 a1_1) else ((Podd.odds_Text.f k a0_0 a0_1).bind fun t113 => ((Podr.joustref32_Text.f k a0_0 a0_1).bind fun t114 => (joustlaw32_OddsTells.j0 k a4 a5 (t113.toList != t114.toList) a0_0 a0_1 a1_0 a1_1)))))) else (joustlaw32_OddsTells.j0 k a4 a5 true a0_0 a0_1 a1_0 a1_1))))) = some r := h
 clear h
 replace H := Option.bind_eq_some_iff.mp H
 obtain ⟨⟨t103, t104, t105⟩, A70, H⟩ := H
 replace H : ((Podr.joustref32_Make.f k a2 a3).bind fun bt107 => (if (!(t103 == bt107.1) || (!(t104 == bt107.2.1))) = true then (joustlaw32_OddsTells.j0 k a4 a5 true a0_0 a0_1 a1_0 a1_1) else (if t105 = bt107.2.2 then ((Podd.odds_May.f k a0_0 a0_1).bind fun t111 => ((Podr.joustref32_May.f k a0_0 a0_1).bind fun t112 => (if (t111 != t112) = true then (joustlaw32_OddsTells.j0 k a4 a5 true a0_0 a0_1 a1_0 a1_1) else ((Podd.odds_Text.f k a0_0 a0_1).bind fun t113 => ((Podr.joustref32_Text.f k a0_0 a0_1).bind fun t114 => (joustlaw32_OddsTells.j0 k a4 a5 (t113.toList != t114.toList) a0_0 a0_1 a1_0 a1_1)))))) else (joustlaw32_OddsTells.j0 k a4 a5 true a0_0 a0_1 a1_0 a1_1)))) = some r := H
 have A7 := Aside0.mk A70
 clear A70
 replace H := Option.bind_eq_some_iff.mp H
 obtain ⟨⟨t107, t108, t109⟩, A80, H⟩ := H
 replace H : (if (!(t103 == t107) || (!(t104 == t108))) = true then (joustlaw32_OddsTells.j0 k a4 a5 true a0_0 a0_1 a1_0 a1_1) else (if t105 = t109 then ((Podd.odds_May.f k a0_0 a0_1).bind fun t111 => ((Podr.joustref32_May.f k a0_0 a0_1).bind fun t112 => (if (t111 != t112) = true then (joustlaw32_OddsTells.j0 k a4 a5 true a0_0 a0_1 a1_0 a1_1) else ((Podd.odds_Text.f k a0_0 a0_1).bind fun t113 => ((Podr.joustref32_Text.f k a0_0 a0_1).bind fun t114 => (joustlaw32_OddsTells.j0 k a4 a5 (t113.toList != t114.toList) a0_0 a0_1 a1_0 a1_1)))))) else (joustlaw32_OddsTells.j0 k a4 a5 true a0_0 a0_1 a1_0 a1_1))) = some r := H
 have A8 := Aside0.mk A80
 clear A80
 have HC9 := Aside0.mk H
 clear H
 go_enter Tryd.func11, Tryd.ntmps11
 go_upto_region 3 with (first | ((with_reducible refine gate_dst (N := 6) rfl ?_); refine box_event ?hg (N := 6) ?hd (cs := #[.int .u64 a0_0, .int .u64 a0_1]) (t := 47) ?hr ?_; (case hd => rfl); (case hg => rfl); (case hr => first | (go_simp; done) | (go_simp; rfl)); intro gb101 hg w10 hbox hb; have n0_ := Aside0.mk (below_step (low HB) hb); have n1_ := Aside0.mk (hbox); have n2_ := Aside0.mk ((by rw [hg]; exact (below_size (low HB)) : w.heap.size ≤ gb101)); have n3_ := Aside0.mk ((by rw [hg]; exact (below_size (low HB)) : w.heap.size ≤ gb101)); clear HB; have HB := n0_; have BK101 := n1_; have GW101 := n2_; have GE101 := n3_; clear n0_ n1_ n2_ n3_; clear hb hbox hg) | ((with_reducible refine gate_dst (N := 7) rfl ?_); refine box_event ?hg (N := 7) ?hd (cs := #[.int .u64 a1_0, .int .u64 a1_1]) (t := 47) ?hr ?_; (case hd => rfl); (case hg => rfl); (case hr => first | (go_simp; done) | (go_simp; rfl)); intro gb102 hg w11 hbox hb; have n0_ := Aside0.mk (blk_below (g := gb101) (o := .cells #[.int .u64 a0_0, .int .u64 a0_1] 47 (0, 0)) of_lies hb); have n1_ := Aside0.mk (below_step (low HB) hb); have n2_ := Aside0.mk (hbox); have n3_ := Aside0.mk ((by rw [hg]; exact (below_size (low HB)) : w.heap.size ≤ gb102)); have n4_ := Aside0.mk ((by rw [hg]; exact (below_size (low HB)) : w.heap.size ≤ gb102)); have n5_ := Aside0.mk ((by rw [hg]; exact Nat.ne_of_lt (blk_lt (g := gb101) (o := .cells #[.int .u64 a0_0, .int .u64 a0_1] 47 (0, 0)) of_lies) : gb101 ≠ gb102)); have n6_ := Aside0.mk ((by rw [hg]; exact Nat.ne_of_gt (blk_lt (g := gb101) (o := .cells #[.int .u64 a0_0, .int .u64 a0_1] 47 (0, 0)) of_lies) : gb102 ≠ gb101)); clear BK101; clear HB; have BK101 := n0_; have HB := n1_; have BK102 := n2_; have GW102 := n3_; have GE102 := n4_; have NB101_102 := n5_; have NB102_101 := n6_; clear n0_ n1_ n2_ n3_ n4_ n5_ n6_; clear hb hbox hg) | ((with_reducible refine gate_callee (f := 39) rfl ?_); refine goesL_ (some 26) rfl rfl Tryd.func39 (by kernel_rfl) rfl #[.int .u64 a2, .int .u64 a3] rfl (by (try simp only [List.map_toArray, List.map_cons, List.map_nil]); first | done | rfl | (simp only [List.length_drop, List.length_take]; rfl)) ?_; (with_reducible refine (Podd.odds_Make.calls k a2 a3 t103 t104 t105 _ A7.out).mono ?_); rintro e w12 ⟨rfl, hb⟩; refine ⟨_, rfl, ?_⟩; have n0_ := Aside0.mk (blk_below (g := gb101) (o := .cells #[.int .u64 a0_0, .int .u64 a0_1] 47 (0, 0)) of_lies hb); have n1_ := Aside0.mk (blk_below (g := gb102) (o := .cells #[.int .u64 a1_0, .int .u64 a1_1] 47 (0, 0)) of_lies hb); have n2_ := Aside0.mk (below_step (low HB) hb); clear BK101; clear BK102; clear HB; have BK101 := n0_; have BK102 := n1_; have HB := n2_; clear n0_ n1_ n2_; (try clear hb); (try clear hb2); (try clear hk); (try clear hi)) | ((with_reducible refine gate_dst (N := 13) rfl ?_); refine box_event ?hg (N := 13) ?hd (cs := #[.int .u64 0, .int .u64 0]) (t := 47) ?hr ?_; (case hd => rfl); (case hg => rfl); (case hr => first | (go_simp; done) | (go_simp; rfl)); intro gb106 hg w13 hbox hb; have n0_ := Aside0.mk (blk_below (g := gb101) (o := .cells #[.int .u64 a0_0, .int .u64 a0_1] 47 (0, 0)) of_lies hb); have n1_ := Aside0.mk (blk_below (g := gb102) (o := .cells #[.int .u64 a1_0, .int .u64 a1_1] 47 (0, 0)) of_lies hb); have n2_ := Aside0.mk (below_step (low HB) hb); have n3_ := Aside0.mk (hbox); have n4_ := Aside0.mk ((by rw [hg]; exact (below_size (low HB)) : w.heap.size ≤ gb106)); have n5_ := Aside0.mk ((by rw [hg]; exact (below_size (low HB)) : w.heap.size ≤ gb106)); have n6_ := Aside0.mk ((by rw [hg]; exact Nat.ne_of_lt (blk_lt (g := gb101) (o := .cells #[.int .u64 a0_0, .int .u64 a0_1] 47 (0, 0)) of_lies) : gb101 ≠ gb106)); have n7_ := Aside0.mk ((by rw [hg]; exact Nat.ne_of_gt (blk_lt (g := gb101) (o := .cells #[.int .u64 a0_0, .int .u64 a0_1] 47 (0, 0)) of_lies) : gb106 ≠ gb101)); have n8_ := Aside0.mk ((by rw [hg]; exact Nat.ne_of_lt (blk_lt (g := gb102) (o := .cells #[.int .u64 a1_0, .int .u64 a1_1] 47 (0, 0)) of_lies) : gb102 ≠ gb106)); have n9_ := Aside0.mk ((by rw [hg]; exact Nat.ne_of_gt (blk_lt (g := gb102) (o := .cells #[.int .u64 a1_0, .int .u64 a1_1] 47 (0, 0)) of_lies) : gb106 ≠ gb102)); clear BK101; clear BK102; clear HB; have BK101 := n0_; have BK102 := n1_; have HB := n2_; have BK106 := n3_; have GW106 := n4_; have GE106 := n5_; have NB101_106 := n6_; have NB106_101 := n7_; have NB102_106 := n8_; have NB106_102 := n9_; clear n0_ n1_ n2_ n3_ n4_ n5_ n6_ n7_ n8_ n9_; clear hb hbox hg; have hnb14 := NB106_101.out; have hnc14 := NB101_106.out; have hnb15 := NB106_102.out; have hnc15 := NB102_106.out; obtain ⟨hcz16_0, hcz16_1, hfz16_0, hfz16_1⟩ := cells2 BK106.out) | ((with_reducible refine gate_callee (f := 40) rfl ?_); refine goesL_ (some 32) rfl rfl Tryd.func40 (by kernel_rfl) rfl #[.int .u64 a2, .int .u64 a3] rfl (by (try simp only [List.map_toArray, List.map_cons, List.map_nil]); first | done | rfl | (simp only [List.length_drop, List.length_take]; rfl)) ?_; (with_reducible refine (Podr.joustref32_Make.calls k a2 a3 t107 t108 t109 _ A8.out).mono ?_); rintro e w17 ⟨rfl, hb⟩; refine ⟨_, rfl, ?_⟩; have n0_ := Aside0.mk (blk_below (g := gb101) (o := .cells #[.int .u64 a0_0, .int .u64 a0_1] 47 (0, 0)) of_lies hb); have n1_ := Aside0.mk (blk_below (g := gb102) (o := .cells #[.int .u64 a1_0, .int .u64 a1_1] 47 (0, 0)) of_lies hb); have n2_ := Aside0.mk (blk_below (g := gb106) (o := .cells #[.int .u64 t103, .int .u64 t104] 47 (0, 0)) of_lies hb); have n3_ := Aside0.mk (below_step (low HB) hb); clear BK101; clear BK102; clear BK106; clear HB; have BK101 := n0_; have BK102 := n1_; have BK106 := n2_; have HB := n3_; clear n0_ n1_ n2_ n3_; (try clear hb); (try clear hb2); (try clear hk); (try clear hi)) | ((with_reducible refine gate_dst (N := 15) rfl ?_); refine box_event ?hg (N := 15) ?hd (cs := #[.int .u64 0, .int .u64 0]) (t := 47) ?hr ?_; (case hd => rfl); (case hg => rfl); (case hr => first | (go_simp; done) | (go_simp; rfl)); intro gb110 hg w18 hbox hb; have n0_ := Aside0.mk (blk_below (g := gb101) (o := .cells #[.int .u64 a0_0, .int .u64 a0_1] 47 (0, 0)) of_lies hb); have n1_ := Aside0.mk (blk_below (g := gb102) (o := .cells #[.int .u64 a1_0, .int .u64 a1_1] 47 (0, 0)) of_lies hb); have n2_ := Aside0.mk (blk_below (g := gb106) (o := .cells #[.int .u64 t103, .int .u64 t104] 47 (0, 0)) of_lies hb); have n3_ := Aside0.mk (below_step (low HB) hb); have n4_ := Aside0.mk (hbox); have n5_ := Aside0.mk ((by rw [hg]; exact (below_size (low HB)) : w.heap.size ≤ gb110)); have n6_ := Aside0.mk ((by rw [hg]; exact (below_size (low HB)) : w.heap.size ≤ gb110)); have n7_ := Aside0.mk ((by rw [hg]; exact Nat.ne_of_lt (blk_lt (g := gb101) (o := .cells #[.int .u64 a0_0, .int .u64 a0_1] 47 (0, 0)) of_lies) : gb101 ≠ gb110)); have n8_ := Aside0.mk ((by rw [hg]; exact Nat.ne_of_gt (blk_lt (g := gb101) (o := .cells #[.int .u64 a0_0, .int .u64 a0_1] 47 (0, 0)) of_lies) : gb110 ≠ gb101)); have n9_ := Aside0.mk ((by rw [hg]; exact Nat.ne_of_lt (blk_lt (g := gb102) (o := .cells #[.int .u64 a1_0, .int .u64 a1_1] 47 (0, 0)) of_lies) : gb102 ≠ gb110)); have n10_ := Aside0.mk ((by rw [hg]; exact Nat.ne_of_gt (blk_lt (g := gb102) (o := .cells #[.int .u64 a1_0, .int .u64 a1_1] 47 (0, 0)) of_lies) : gb110 ≠ gb102)); have n11_ := Aside0.mk ((by rw [hg]; exact Nat.ne_of_lt (blk_lt (g := gb106) (o := .cells #[.int .u64 t103, .int .u64 t104] 47 (0, 0)) of_lies) : gb106 ≠ gb110)); have n12_ := Aside0.mk ((by rw [hg]; exact Nat.ne_of_gt (blk_lt (g := gb106) (o := .cells #[.int .u64 t103, .int .u64 t104] 47 (0, 0)) of_lies) : gb110 ≠ gb106)); clear BK101; clear BK102; clear BK106; clear HB; have BK101 := n0_; have BK102 := n1_; have BK106 := n2_; have HB := n3_; have BK110 := n4_; have GW110 := n5_; have GE110 := n6_; have NB101_110 := n7_; have NB110_101 := n8_; have NB102_110 := n9_; have NB110_102 := n10_; have NB106_110 := n11_; have NB110_106 := n12_; clear n0_ n1_ n2_ n3_ n4_ n5_ n6_ n7_ n8_ n9_ n10_ n11_ n12_; clear hb hbox hg; have hnb19 := NB110_101.out; have hnc19 := NB101_110.out; have hnb20 := NB110_102.out; have hnc20 := NB102_110.out; have hnb21 := NB110_106.out; have hnc21 := NB106_110.out; obtain ⟨hcz22_0, hcz22_1, hfz22_0, hfz22_1⟩ := cells2 BK110.out))
 (try simp only [Act.put, List.setIfInBounds_toArray, List.set_cons_zero, List.set_cons_succ])
 go_cut [56] (fun v56 wc => ∃ (kq : Nat) (x56_8 : Bool), v56 = .bool x56_8 ∧ Aside0 (joustlaw32_OddsTells.j0 kq a4 a5 x56_8 a0_0 a0_1 a1_0 a1_1 = some r) ∧ Aside0 (kq ≤ k) ∧ Aside0 (wc.heap[gb101]? = some (.cells #[.int .u64 a0_0, .int .u64 a0_1] 47 (0, 0))) ∧ Aside0 (wc.heap[gb102]? = some (.cells #[.int .u64 a1_0, .int .u64 a1_1] 47 (0, 0))) ∧ Aside0 (wc.heap[gb106]? = some (.cells #[.int .u64 t103, .int .u64 t104] 47 (0, 0))) ∧ Aside0 (wc.heap[gb110]? = some (.cells #[.int .u64 t107, .int .u64 t108] 47 (0, 0))) ∧ Aside0 (Below w.heap.size w wc))
 case first =>
  have H := HC9.out
  clear HC9
  by_cases c23 : (!(t103 == t107) || (!(t104 == t108))) = true
  ·
   rw [if_pos c23] at H
   have c23b0 : (!(t103 == t107) || (!(t104 == t108))) = true := c23
   clear c23
   (first | rw [c23b0] | (simp only [i64_w, i32_w]; rw [c23b0]) | skip)
   have H' := Aside0.mk H
   clear H
   try go_wp2
   have n0_ : Aside0 (((w18.setCell ⟨gb110, 0, none⟩ (.int .u64 t107)).setCell ⟨gb110, 1, none⟩ (.int .u64 t108)).heap[gb101]? = some (.cells #[.int .u64 a0_0, .int .u64 a0_1] 47 (0, 0))) := ⟨of_lies⟩
   have n1_ : Aside0 (((w18.setCell ⟨gb110, 0, none⟩ (.int .u64 t107)).setCell ⟨gb110, 1, none⟩ (.int .u64 t108)).heap[gb102]? = some (.cells #[.int .u64 a1_0, .int .u64 a1_1] 47 (0, 0))) := ⟨of_lies⟩
   have n2_ : Aside0 (((w18.setCell ⟨gb110, 0, none⟩ (.int .u64 t107)).setCell ⟨gb110, 1, none⟩ (.int .u64 t108)).heap[gb106]? = some (.cells #[.int .u64 t103, .int .u64 t104] 47 (0, 0))) := ⟨of_lies⟩
   have n3_ : Aside0 (((w18.setCell ⟨gb110, 0, none⟩ (.int .u64 t107)).setCell ⟨gb110, 1, none⟩ (.int .u64 t108)).heap[gb110]? = some (.cells #[.int .u64 t107, .int .u64 t108] 47 (0, 0))) := ⟨of_lies⟩
   have n4_ : Aside0 (Below w.heap.size w ((w18.setCell ⟨gb110, 0, none⟩ (.int .u64 t107)).setCell ⟨gb110, 1, none⟩ (.int .u64 t108))) := ⟨low HB⟩
   (try clear BK101)
   (try clear BK102)
   (try clear BK106)
   (try clear BK110)
   (try clear HB)
   generalize ((w18.setCell ⟨gb110, 0, none⟩ (.int .u64 t107)).setCell ⟨gb110, 1, none⟩ (.int .u64 t108)) = w24 at n0_ n1_ n2_ n3_ n4_ ⊢
   have BK101 := n0_
   have BK102 := n1_
   have BK106 := n2_
   have BK110 := n3_
   have HB := n4_
   clear n0_ n1_ n2_ n3_ n4_
   have n0_ := Aside0.mk (blk_drew BK101.out)
   have n1_ := Aside0.mk (blk_drew BK102.out)
   have n2_ := Aside0.mk (blk_drew BK106.out)
   have n3_ := Aside0.mk (blk_drew BK110.out)
   have n4_ := Aside0.mk (below_drew1 HB.out)
   clear BK101
   clear BK102
   clear BK106
   clear BK110
   clear HB
   have BK101 := n0_
   have BK102 := n1_
   have BK106 := n2_
   have BK110 := n3_
   have HB := n4_
   clear n0_ n1_ n2_ n3_ n4_
   refine start_ (n := 22) (S := fun w' => w'.cell? ⟨gb106, 0, none⟩ = some (.int .u64 t103) ∧ w'.cell? ⟨gb106, 1, none⟩ = some (.int .u64 t104) ∧ w'.cell? ⟨gb110, 0, none⟩ = some (.int .u64 t107) ∧ w'.cell? ⟨gb110, 1, none⟩ = some (.int .u64 t108)) (ds := []) #[false, false, false, false, false, false, false, false, false, false, false, false, false, false, false, false, false, false, false, false, false, false] (by kernel_rfl) rfl rfl ⟨(blk_cell BK106.out 0).trans rfl, (blk_cell BK106.out 1).trans rfl, (blk_cell BK110.out 0).trans rfl, (blk_cell BK110.out 1).trans rfl⟩ (fun hHeld => ?_); refine with_tabW joustlaw32_OddsTells.tab3 joustlaw32_OddsTells.bits3 (fun HT_ HW_ => ?_)
   generalize w24.drew = w25 at BK101 BK102 BK106 BK110 HB hHeld ⊢
   refine take_ (i := 0) (N := some 35) (v := ?_) (a' := ?_) #[true, false, false, false, false, false, false, false, false, false, false, false, false, false, false, false, false, false, false, false, false, false] rfl rfl (take_ofW HT_.out HW_.out (by kernel_rfl)) (fun _ _ _ h => h) (Or.inl ⟨by rfl, ?_⟩) hHeld ?_ ?_
   rotate_left
   ·
    rintro w' ⟨s0, s1, s2, s3⟩
    go_simp
    with_reducible rfl
   rotate_left
   ·
    simp only [Act.put, List.setIfInBounds_toArray, List.set_cons_zero, List.set_cons_succ, i64_w, i32_w]
    rfl
   refine take_ (i := 1) (N := some 36) (v := ?_) (a' := ?_) #[true, true, false, false, false, false, false, false, false, false, false, false, false, false, false, false, false, false, false, false, false, false] rfl rfl (take_ofW HT_.out HW_.out (by kernel_rfl)) (fun _ _ _ h => h) (Or.inl ⟨by rfl, ?_⟩) hHeld ?_ ?_
   rotate_left
   ·
    rintro w' ⟨s0, s1, s2, s3⟩
    go_simp
    with_reducible rfl
   rotate_left
   ·
    simp only [Act.put, List.setIfInBounds_toArray, List.set_cons_zero, List.set_cons_succ, i64_w, i32_w]
    rfl
   refine pure_ (i := 2) (N := some 37) (v := ?_) (a' := ?_) #[true, true, true, false, false, false, false, false, false, false, false, false, false, false, false, false, false, false, false, false, false, false] rfl rfl (any_of HT_.out (by kernel_rfl)) (fun _ _ _ h => h) (Or.inl ⟨by rfl, ?_⟩) ?_ ?_
   rotate_left
   ·
    intro w'
    go_simp
    with_reducible rfl
   rotate_left
   ·
    simp only [Act.put, List.setIfInBounds_toArray, List.set_cons_zero, List.set_cons_succ, i64_w, i32_w]
    rfl
   refine pure_ (i := 3) (N := some 38) (v := ?_) (a' := ?_) #[true, true, true, true, false, false, false, false, false, false, false, false, false, false, false, false, false, false, false, false, false, false] rfl rfl (any_of HT_.out (by kernel_rfl)) (fun _ _ _ h => h) (Or.inl ⟨by rfl, ?_⟩) ?_ ?_
   rotate_left
   ·
    intro w'
    go_simp
    with_reducible rfl
   rotate_left
   ·
    simp only [Act.put, List.setIfInBounds_toArray, List.set_cons_zero, List.set_cons_succ, i64_w, i32_w]
    rfl
   refine pure_ (i := 4) (N := some 39) (v := undef) (a' := ?_) #[true, true, true, true, true, false, false, false, false, false, false, false, false, false, false, false, false, false, false, false, false, false] rfl rfl (any_of HT_.out (by kernel_rfl)) (fun _ _ _ h => h) (Or.inr ⟨by rfl, rfl⟩) ?_ ?_
   rotate_left
   ·
    simp only [Act.put, List.setIfInBounds_toArray, List.set_cons_zero, List.set_cons_succ, i64_w, i32_w]
    rfl
   refine pure_ (i := 5) (N := some 40) (v := undef) (a' := ?_) #[true, true, true, true, true, true, false, false, false, false, false, false, false, false, false, false, false, false, false, false, false, false] rfl rfl (any_of HT_.out (by kernel_rfl)) (fun _ _ _ h => h) (Or.inr ⟨by rfl, rfl⟩) ?_ ?_
   rotate_left
   ·
    simp only [Act.put, List.setIfInBounds_toArray, List.set_cons_zero, List.set_cons_succ, i64_w, i32_w]
    rfl
   refine pure_ (i := 6) (N := some 41) (v := undef) (a' := ?_) #[true, true, true, true, true, true, true, false, false, false, false, false, false, false, false, false, false, false, false, false, false, false] rfl rfl (any_of HT_.out (by kernel_rfl)) (fun _ _ _ h => h) (Or.inr ⟨by rfl, rfl⟩) ?_ ?_
   rotate_left
   ·
    simp only [Act.put, List.setIfInBounds_toArray, List.set_cons_zero, List.set_cons_succ, i64_w, i32_w]
    rfl
   refine pure_ (i := 7) (N := some 42) (v := ?_) (a' := ?_) #[true, true, true, true, true, true, true, true, false, false, false, false, false, false, false, false, false, false, false, false, false, false] rfl rfl (any_of HT_.out (by kernel_rfl)) (fun _ _ _ h => h) (Or.inl ⟨by rfl, ?_⟩) ?_ ?_
   rotate_left
   ·
    intro w'
    go_simp
    with_reducible rfl
   rotate_left
   ·
    simp only [Act.put, List.setIfInBounds_toArray, List.set_cons_zero, List.set_cons_succ, i64_w, i32_w]
    rfl
   refine pure_ (i := 8) (N := some 43) (v := ?_) (a' := ?_) #[true, true, true, true, true, true, true, true, true, false, false, false, false, false, false, false, false, false, false, false, false, false] rfl rfl (any_of HT_.out (by kernel_rfl)) (fun _ _ _ h => h) (Or.inl ⟨by rfl, ?_⟩) ?_ ?_
   rotate_left
   ·
    intro w'
    go_simp
    with_reducible rfl
   rotate_left
   ·
    simp only [Act.put, List.setIfInBounds_toArray, List.set_cons_zero, List.set_cons_succ, i64_w, i32_w]
    rfl
   refine pure_ (i := 9) (N := some 44) (v := undef) (a' := ?_) #[true, true, true, true, true, true, true, true, true, true, false, false, false, false, false, false, false, false, false, false, false, false] rfl rfl (any_of HT_.out (by kernel_rfl)) (fun _ _ _ h => h) (Or.inr ⟨by rfl, rfl⟩) ?_ ?_
   rotate_left
   ·
    simp only [Act.put, List.setIfInBounds_toArray, List.set_cons_zero, List.set_cons_succ, i64_w, i32_w]
    rfl
   refine pure_ (i := 10) (N := some 45) (v := undef) (a' := ?_) #[true, true, true, true, true, true, true, true, true, true, true, false, false, false, false, false, false, false, false, false, false, false] rfl rfl (any_of HT_.out (by kernel_rfl)) (fun _ _ _ h => h) (Or.inr ⟨by rfl, rfl⟩) ?_ ?_
   rotate_left
   ·
    simp only [Act.put, List.setIfInBounds_toArray, List.set_cons_zero, List.set_cons_succ, i64_w, i32_w]
    rfl
   refine pure_ (i := 11) (N := some 46) (v := undef) (a' := ?_) #[true, true, true, true, true, true, true, true, true, true, true, true, false, false, false, false, false, false, false, false, false, false] rfl rfl (any_of HT_.out (by kernel_rfl)) (fun _ _ _ h => h) (Or.inr ⟨by rfl, rfl⟩) ?_ ?_
   rotate_left
   ·
    simp only [Act.put, List.setIfInBounds_toArray, List.set_cons_zero, List.set_cons_succ, i64_w, i32_w]
    rfl
   refine pure_ (i := 12) (N := some 47) (v := undef) (a' := ?_) #[true, true, true, true, true, true, true, true, true, true, true, true, true, false, false, false, false, false, false, false, false, false] rfl rfl (any_of HT_.out (by kernel_rfl)) (fun _ _ _ h => h) (Or.inr ⟨by rfl, rfl⟩) ?_ ?_
   rotate_left
   ·
    simp only [Act.put, List.setIfInBounds_toArray, List.set_cons_zero, List.set_cons_succ, i64_w, i32_w]
    rfl
   refine pure_ (i := 13) (N := some 48) (v := undef) (a' := ?_) #[true, true, true, true, true, true, true, true, true, true, true, true, true, true, false, false, false, false, false, false, false, false] rfl rfl (any_of HT_.out (by kernel_rfl)) (fun _ _ _ h => h) (Or.inr ⟨by rfl, rfl⟩) ?_ ?_
   rotate_left
   ·
    simp only [Act.put, List.setIfInBounds_toArray, List.set_cons_zero, List.set_cons_succ, i64_w, i32_w]
    rfl
   refine pure_ (i := 14) (N := some 49) (v := ?_) (a' := ?_) #[true, true, true, true, true, true, true, true, true, true, true, true, true, true, true, false, false, false, false, false, false, false] rfl rfl (any_of HT_.out (by kernel_rfl)) (fun _ _ _ h => h) (Or.inl ⟨by rfl, ?_⟩) ?_ ?_
   rotate_left
   ·
    intro w'
    go_simp
    with_reducible rfl
   rotate_left
   ·
    simp only [Act.put, List.setIfInBounds_toArray, List.set_cons_zero, List.set_cons_succ, i64_w, i32_w]
    rfl
   refine pure_ (i := 15) (N := some 50) (v := ?_) (a' := ?_) #[true, true, true, true, true, true, true, true, true, true, true, true, true, true, true, true, false, false, false, false, false, false] rfl rfl (any_of HT_.out (by kernel_rfl)) (fun _ _ _ h => h) (Or.inl ⟨by rfl, ?_⟩) ?_ ?_
   rotate_left
   ·
    intro w'
    go_simp
    with_reducible rfl
   rotate_left
   ·
    simp only [Act.put, List.setIfInBounds_toArray, List.set_cons_zero, List.set_cons_succ, i64_w, i32_w]
    rfl
   refine pure_ (i := 16) (N := some 51) (v := undef) (a' := ?_) #[true, true, true, true, true, true, true, true, true, true, true, true, true, true, true, true, true, false, false, false, false, false] rfl rfl (any_of HT_.out (by kernel_rfl)) (fun _ _ _ h => h) (Or.inr ⟨by rfl, rfl⟩) ?_ ?_
   rotate_left
   ·
    simp only [Act.put, List.setIfInBounds_toArray, List.set_cons_zero, List.set_cons_succ, i64_w, i32_w]
    rfl
   refine pure_ (i := 17) (N := some 52) (v := undef) (a' := ?_) #[true, true, true, true, true, true, true, true, true, true, true, true, true, true, true, true, true, true, false, false, false, false] rfl rfl (any_of HT_.out (by kernel_rfl)) (fun _ _ _ h => h) (Or.inr ⟨by rfl, rfl⟩) ?_ ?_
   rotate_left
   ·
    simp only [Act.put, List.setIfInBounds_toArray, List.set_cons_zero, List.set_cons_succ, i64_w, i32_w]
    rfl
   refine pure_ (i := 18) (N := some 53) (v := undef) (a' := ?_) #[true, true, true, true, true, true, true, true, true, true, true, true, true, true, true, true, true, true, true, false, false, false] rfl rfl (any_of HT_.out (by kernel_rfl)) (fun _ _ _ h => h) (Or.inr ⟨by rfl, rfl⟩) ?_ ?_
   rotate_left
   ·
    simp only [Act.put, List.setIfInBounds_toArray, List.set_cons_zero, List.set_cons_succ, i64_w, i32_w]
    rfl
   refine pure_ (i := 19) (N := some 54) (v := undef) (a' := ?_) #[true, true, true, true, true, true, true, true, true, true, true, true, true, true, true, true, true, true, true, true, false, false] rfl rfl (any_of HT_.out (by kernel_rfl)) (fun _ _ _ h => h) (Or.inr ⟨by rfl, rfl⟩) ?_ ?_
   rotate_left
   ·
    simp only [Act.put, List.setIfInBounds_toArray, List.set_cons_zero, List.set_cons_succ, i64_w, i32_w]
    rfl
   refine pure_ (i := 20) (N := some 55) (v := undef) (a' := ?_) #[true, true, true, true, true, true, true, true, true, true, true, true, true, true, true, true, true, true, true, true, true, false] rfl rfl (any_of HT_.out (by kernel_rfl)) (fun _ _ _ h => h) (Or.inr ⟨by rfl, rfl⟩) ?_ ?_
   rotate_left
   ·
    simp only [Act.put, List.setIfInBounds_toArray, List.set_cons_zero, List.set_cons_succ, i64_w, i32_w]
    rfl
   refine pure_ (i := 21) (N := some 56) (v := ?_) (a' := ?_) #[true, true, true, true, true, true, true, true, true, true, true, true, true, true, true, true, true, true, true, true, true, true] rfl rfl (any_of HT_.out (by kernel_rfl)) (fun _ _ _ h => h) (Or.inl ⟨by rfl, ?_⟩) ?_ ?_
   rotate_left
   ·
    intro w'
    go_simp
    with_reducible rfl
   rotate_left
   ·
    simp only [Act.put, List.setIfInBounds_toArray, List.set_cons_zero, List.set_cons_succ, i64_w, i32_w]
    rfl
   refine done_ (done_of HT_.out (by kernel_rfl)) ?_
   try go_wp2
   go_meet
   case rel => exact ⟨_, (true), (by first | rfl | (simp; done) | (simp [*]; done)), H', ⟨by first | omega | exact Nat.le_refl _⟩, ⟨of_lies⟩, ⟨of_lies⟩, ⟨of_lies⟩, ⟨of_lies⟩, ⟨low HB⟩⟩
  ·
   rw [if_neg c23] at H
   have c23b0 : (!(t103 == t107) || (!(t104 == t108))) = false := by simpa using c23
   clear c23
   (first | rw [c23b0] | (simp only [i64_w, i32_w]; rw [c23b0]) | skip)
   by_cases c26 : t105 = t109
   ·
    rw [if_pos c26] at H
    have c26b0 : (t105 == t109) = true := beq_iff_eq.mpr c26
    have c26b1 : (t105 != t109) = false := bne_eq_false_iff_eq.mpr c26
    clear c26
    replace H := Option.bind_eq_some_iff.mp H
    obtain ⟨t111, A270, H⟩ := H
    replace H : ((Podr.joustref32_May.f k a0_0 a0_1).bind fun t112 => (if (t111 != t112) = true then (joustlaw32_OddsTells.j0 k a4 a5 true a0_0 a0_1 a1_0 a1_1) else ((Podd.odds_Text.f k a0_0 a0_1).bind fun t113 => ((Podr.joustref32_Text.f k a0_0 a0_1).bind fun t114 => (joustlaw32_OddsTells.j0 k a4 a5 (t113.toList != t114.toList) a0_0 a0_1 a1_0 a1_1))))) = some r := H
    have A27 := Aside0.mk A270
    clear A270
    replace H := Option.bind_eq_some_iff.mp H
    obtain ⟨t112, A280, H⟩ := H
    replace H : (if (t111 != t112) = true then (joustlaw32_OddsTells.j0 k a4 a5 true a0_0 a0_1 a1_0 a1_1) else ((Podd.odds_Text.f k a0_0 a0_1).bind fun t113 => ((Podr.joustref32_Text.f k a0_0 a0_1).bind fun t114 => (joustlaw32_OddsTells.j0 k a4 a5 (t113.toList != t114.toList) a0_0 a0_1 a1_0 a1_1)))) = some r := H
    have A28 := Aside0.mk A280
    clear A280
    by_cases c29 : (t111 != t112) = true
    ·
     rw [if_pos c29] at H
     have c29b0 : (t111 != t112) = true := c29
     (try (have c29b1 : decide (t111 = t112) = false := by simpa using c29))
     (try (have c29b2 : (t111 == t112) = false := by simpa using c29))
     (try (have c29b3 : ¬ (t111 = t112) := by simpa using c29))
     clear c29
     have H' := Aside0.mk H
     clear H
     try go_wp2
     have n0_ : Aside0 (((w18.setCell ⟨gb110, 0, none⟩ (.int .u64 t107)).setCell ⟨gb110, 1, none⟩ (.int .u64 t108)).heap[gb101]? = some (.cells #[.int .u64 a0_0, .int .u64 a0_1] 47 (0, 0))) := ⟨of_lies⟩
     have n1_ : Aside0 (((w18.setCell ⟨gb110, 0, none⟩ (.int .u64 t107)).setCell ⟨gb110, 1, none⟩ (.int .u64 t108)).heap[gb102]? = some (.cells #[.int .u64 a1_0, .int .u64 a1_1] 47 (0, 0))) := ⟨of_lies⟩
     have n2_ : Aside0 (((w18.setCell ⟨gb110, 0, none⟩ (.int .u64 t107)).setCell ⟨gb110, 1, none⟩ (.int .u64 t108)).heap[gb106]? = some (.cells #[.int .u64 t103, .int .u64 t104] 47 (0, 0))) := ⟨of_lies⟩
     have n3_ : Aside0 (((w18.setCell ⟨gb110, 0, none⟩ (.int .u64 t107)).setCell ⟨gb110, 1, none⟩ (.int .u64 t108)).heap[gb110]? = some (.cells #[.int .u64 t107, .int .u64 t108] 47 (0, 0))) := ⟨of_lies⟩
     have n4_ : Aside0 (Below w.heap.size w ((w18.setCell ⟨gb110, 0, none⟩ (.int .u64 t107)).setCell ⟨gb110, 1, none⟩ (.int .u64 t108))) := ⟨low HB⟩
     (try clear BK101)
     (try clear BK102)
     (try clear BK106)
     (try clear BK110)
     (try clear HB)
     generalize ((w18.setCell ⟨gb110, 0, none⟩ (.int .u64 t107)).setCell ⟨gb110, 1, none⟩ (.int .u64 t108)) = w30 at n0_ n1_ n2_ n3_ n4_ ⊢
     have BK101 := n0_
     have BK102 := n1_
     have BK106 := n2_
     have BK110 := n3_
     have HB := n4_
     clear n0_ n1_ n2_ n3_ n4_
     have n0_ := Aside0.mk (blk_drew BK101.out)
     have n1_ := Aside0.mk (blk_drew BK102.out)
     have n2_ := Aside0.mk (blk_drew BK106.out)
     have n3_ := Aside0.mk (blk_drew BK110.out)
     have n4_ := Aside0.mk (below_drew1 HB.out)
     clear BK101
     clear BK102
     clear BK106
     clear BK110
     clear HB
     have BK101 := n0_
     have BK102 := n1_
     have BK106 := n2_
     have BK110 := n3_
     have HB := n4_
     clear n0_ n1_ n2_ n3_ n4_
     refine start_ (n := 22) (S := fun w' => w'.cell? ⟨gb106, 0, none⟩ = some (.int .u64 t103) ∧ w'.cell? ⟨gb106, 1, none⟩ = some (.int .u64 t104) ∧ w'.cell? ⟨gb110, 0, none⟩ = some (.int .u64 t107) ∧ w'.cell? ⟨gb110, 1, none⟩ = some (.int .u64 t108) ∧ w'.cell? ⟨gb101, 0, none⟩ = some (.int .u64 a0_0) ∧ w'.cell? ⟨gb101, 1, none⟩ = some (.int .u64 a0_1)) (ds := []) #[false, false, false, false, false, false, false, false, false, false, false, false, false, false, false, false, false, false, false, false, false, false] (by kernel_rfl) rfl rfl ⟨(blk_cell BK106.out 0).trans rfl, (blk_cell BK106.out 1).trans rfl, (blk_cell BK110.out 0).trans rfl, (blk_cell BK110.out 1).trans rfl, (blk_cell BK101.out 0).trans rfl, (blk_cell BK101.out 1).trans rfl⟩ (fun hHeld => ?_); refine with_tabW joustlaw32_OddsTells.tab3 joustlaw32_OddsTells.bits3 (fun HT_ HW_ => ?_)
     generalize w30.drew = w31 at BK101 BK102 BK106 BK110 HB hHeld ⊢
     refine take_ (i := 0) (N := some 35) (v := ?_) (a' := ?_) #[true, false, false, false, false, false, false, false, false, false, false, false, false, false, false, false, false, false, false, false, false, false] rfl rfl (take_ofW HT_.out HW_.out (by kernel_rfl)) (fun _ _ _ h => h) (Or.inl ⟨by rfl, ?_⟩) hHeld ?_ ?_
     rotate_left
     ·
      rintro w' ⟨s0, s1, s2, s3, s4, s5⟩
      go_simp
      with_reducible rfl
     rotate_left
     ·
      simp only [Act.put, List.setIfInBounds_toArray, List.set_cons_zero, List.set_cons_succ, i64_w, i32_w]
      rfl
     refine take_ (i := 1) (N := some 36) (v := ?_) (a' := ?_) #[true, true, false, false, false, false, false, false, false, false, false, false, false, false, false, false, false, false, false, false, false, false] rfl rfl (take_ofW HT_.out HW_.out (by kernel_rfl)) (fun _ _ _ h => h) (Or.inl ⟨by rfl, ?_⟩) hHeld ?_ ?_
     rotate_left
     ·
      rintro w' ⟨s0, s1, s2, s3, s4, s5⟩
      go_simp
      with_reducible rfl
     rotate_left
     ·
      simp only [Act.put, List.setIfInBounds_toArray, List.set_cons_zero, List.set_cons_succ, i64_w, i32_w]
      rfl
     refine pure_ (i := 2) (N := some 37) (v := ?_) (a' := ?_) #[true, true, true, false, false, false, false, false, false, false, false, false, false, false, false, false, false, false, false, false, false, false] rfl rfl (any_of HT_.out (by kernel_rfl)) (fun _ _ _ h => h) (Or.inl ⟨by rfl, ?_⟩) ?_ ?_
     rotate_left
     ·
      intro w'
      go_simp
      with_reducible rfl
     rotate_left
     ·
      simp only [Act.put, List.setIfInBounds_toArray, List.set_cons_zero, List.set_cons_succ, i64_w, i32_w]
      rfl
     refine pure_ (i := 3) (N := some 38) (v := ?_) (a' := ?_) #[true, true, true, true, false, false, false, false, false, false, false, false, false, false, false, false, false, false, false, false, false, false] rfl rfl (any_of HT_.out (by kernel_rfl)) (fun _ _ _ h => h) (Or.inl ⟨by rfl, ?_⟩) ?_ ?_
     rotate_left
     ·
      intro w'
      go_simp
      with_reducible rfl
     rotate_left
     ·
      simp only [Act.put, List.setIfInBounds_toArray, List.set_cons_zero, List.set_cons_succ, i64_w, i32_w]
      rfl
     refine pure_ (i := 4) (N := some 39) (v := ?_) (a' := ?_) #[true, true, true, true, true, false, false, false, false, false, false, false, false, false, false, false, false, false, false, false, false, false] rfl rfl (any_of HT_.out (by kernel_rfl)) (fun _ _ _ h => h) (Or.inl ⟨by rfl, ?_⟩) ?_ ?_
     rotate_left
     ·
      intro w'
      go_simp
      with_reducible rfl
     rotate_left
     ·
      simp only [Act.put, List.setIfInBounds_toArray, List.set_cons_zero, List.set_cons_succ, i64_w, i32_w]
      rfl
     refine pure_ (i := 5) (N := some 40) (v := ?_) (a' := ?_) #[true, true, true, true, true, true, false, false, false, false, false, false, false, false, false, false, false, false, false, false, false, false] rfl rfl (any_of HT_.out (by kernel_rfl)) (fun _ _ _ h => h) (Or.inl ⟨by rfl, ?_⟩) ?_ ?_
     rotate_left
     ·
      intro w'
      go_simp
      with_reducible rfl
     rotate_left
     ·
      simp only [Act.put, List.setIfInBounds_toArray, List.set_cons_zero, List.set_cons_succ, i64_w, i32_w]
      rfl
     refine pure_ (i := 6) (N := some 41) (v := ?_) (a' := ?_) #[true, true, true, true, true, true, true, false, false, false, false, false, false, false, false, false, false, false, false, false, false, false] rfl rfl (any_of HT_.out (by kernel_rfl)) (fun _ _ _ h => h) (Or.inl ⟨by rfl, ?_⟩) ?_ ?_
     rotate_left
     ·
      intro w'
      go_simp
      with_reducible rfl
     rotate_left
     ·
      simp only [Act.put, List.setIfInBounds_toArray, List.set_cons_zero, List.set_cons_succ, i64_w, i32_w]
      rfl
     refine pure_ (i := 7) (N := some 42) (v := ?_) (a' := ?_) #[true, true, true, true, true, true, true, true, false, false, false, false, false, false, false, false, false, false, false, false, false, false] rfl rfl (any_of HT_.out (by kernel_rfl)) (fun _ _ _ h => h) (Or.inl ⟨by rfl, ?_⟩) ?_ ?_
     rotate_left
     ·
      intro w'
      go_simp
      with_reducible rfl
     rotate_left
     ·
      simp only [Act.put, List.setIfInBounds_toArray, List.set_cons_zero, List.set_cons_succ, i64_w, i32_w]
      rfl
     refine pure_ (i := 8) (N := some 43) (v := ?_) (a' := ?_) #[true, true, true, true, true, true, true, true, true, false, false, false, false, false, false, false, false, false, false, false, false, false] rfl rfl (any_of HT_.out (by kernel_rfl)) (fun _ _ _ h => h) (Or.inl ⟨by rfl, ?_⟩) ?_ ?_
     rotate_left
     ·
      intro w'
      go_simp
      with_reducible rfl
     rotate_left
     ·
      simp only [Act.put, List.setIfInBounds_toArray, List.set_cons_zero, List.set_cons_succ, i64_w, i32_w]
      rfl
     refine take_ (i := 9) (N := some 44) (v := ?_) (a' := ?_) #[true, true, true, true, true, true, true, true, true, true, false, false, false, false, false, false, false, false, false, false, false, false] rfl rfl (take_ofW HT_.out HW_.out (by kernel_rfl)) (fun _ _ _ h => h) (Or.inl ⟨by rfl, ?_⟩) hHeld ?_ ?_
     rotate_left
     ·
      rintro w' ⟨s0, s1, s2, s3, s4, s5⟩
      go_simp
      with_reducible rfl
     rotate_left
     ·
      simp only [Act.put, List.setIfInBounds_toArray, List.set_cons_zero, List.set_cons_succ, i64_w, i32_w]
      rfl
     refine take_ (i := 11) (N := some 46) (v := ?_) (a' := ?_) #[true, true, true, true, true, true, true, true, true, true, false, true, false, false, false, false, false, false, false, false, false, false] rfl rfl (take_ofW HT_.out HW_.out (by kernel_rfl)) (fun _ _ _ h => h) (Or.inl ⟨by rfl, ?_⟩) hHeld ?_ ?_
     rotate_left
     ·
      rintro w' ⟨s0, s1, s2, s3, s4, s5⟩
      go_simp
      with_reducible rfl
     rotate_left
     ·
      simp only [Act.put, List.setIfInBounds_toArray, List.set_cons_zero, List.set_cons_succ, i64_w, i32_w]
      rfl
     refine one_ (i := 10) (N := some 45) #[true, true, true, true, true, true, true, true, true, true, true, true, false, false, false, false, false, false, false, false, false, false] rfl rfl (one_of HT_.out (by kernel_rfl)) (by decide) (fun K hK => ?_)
     refine goes_ Tryd.func38 (by kernel_rfl) rfl #[.agg #[.int .u64 a0_0, .int .u64 a0_1]] (by rfl) rfl rfl (by (try simp only [List.map_toArray, List.map_cons, List.map_nil]); first | done | rfl | (simp only [List.length_drop, List.length_take]; rfl)) ?_
     with_reducible refine (Podd.odds_May.calls k a0_0 a0_1 t111 _ A27.out).mono ?_
     rintro e w32 ⟨rfl, hb⟩
     refine ⟨_, rfl, ?_⟩
     have n0_ := Aside0.mk (blk_below (g := gb101) (o := .cells #[.int .u64 a0_0, .int .u64 a0_1] 47 (0, 0)) of_lies hb)
     have n1_ := Aside0.mk (blk_below (g := gb102) (o := .cells #[.int .u64 a1_0, .int .u64 a1_1] 47 (0, 0)) of_lies hb)
     have n2_ := Aside0.mk (blk_below (g := gb106) (o := .cells #[.int .u64 t103, .int .u64 t104] 47 (0, 0)) of_lies hb)
     have n3_ := Aside0.mk (blk_below (g := gb110) (o := .cells #[.int .u64 t107, .int .u64 t108] 47 (0, 0)) of_lies hb)
     have n4_ := Aside0.mk (below_step (low HB) hb)
     clear BK101
     clear BK102
     clear BK106
     clear BK110
     clear HB
     have BK101 := n0_
     have BK102 := n1_
     have BK106 := n2_
     have BK110 := n3_
     have HB := n4_
     clear n0_ n1_ n2_ n3_ n4_
     (try clear hb)
     (try clear hb2)
     (try clear hk)
     (try clear hi)
     refine hK.out _ _ ⟨(blk_cell BK106.out 0).trans rfl, (blk_cell BK106.out 1).trans rfl, (blk_cell BK110.out 0).trans rfl, (blk_cell BK110.out 1).trans rfl, (blk_cell BK101.out 0).trans rfl, (blk_cell BK101.out 1).trans rfl⟩ (fun hHeld => ?_)
     clear hK K
     refine norm_ (a' := ?_) ?_ ?_
     rotate_left
     ·
      show Act.put _ (some 45) _ = _
      simp only [Act.put, List.setIfInBounds_toArray, List.set_cons_zero, List.set_cons_succ, i64_w, i32_w]
      rfl
     refine one_ (i := 12) (N := some 47) #[true, true, true, true, true, true, true, true, true, true, true, true, true, false, false, false, false, false, false, false, false, false] rfl rfl (one_of HT_.out (by kernel_rfl)) (by decide) (fun K hK => ?_)
     refine goes_ Tryd.func41 (by kernel_rfl) rfl #[.agg #[.int .u64 a0_0, .int .u64 a0_1]] (by rfl) rfl rfl (by (try simp only [List.map_toArray, List.map_cons, List.map_nil]); first | done | rfl | (simp only [List.length_drop, List.length_take]; rfl)) ?_
     with_reducible refine (Podr.joustref32_May.calls k a0_0 a0_1 t112 _ A28.out).mono ?_
     rintro e w33 ⟨rfl, hb⟩
     refine ⟨_, rfl, ?_⟩
     have n0_ := Aside0.mk (blk_below (g := gb101) (o := .cells #[.int .u64 a0_0, .int .u64 a0_1] 47 (0, 0)) of_lies hb)
     have n1_ := Aside0.mk (blk_below (g := gb102) (o := .cells #[.int .u64 a1_0, .int .u64 a1_1] 47 (0, 0)) of_lies hb)
     have n2_ := Aside0.mk (blk_below (g := gb106) (o := .cells #[.int .u64 t103, .int .u64 t104] 47 (0, 0)) of_lies hb)
     have n3_ := Aside0.mk (blk_below (g := gb110) (o := .cells #[.int .u64 t107, .int .u64 t108] 47 (0, 0)) of_lies hb)
     have n4_ := Aside0.mk (below_step (low HB) hb)
     clear BK101
     clear BK102
     clear BK106
     clear BK110
     clear HB
     have BK101 := n0_
     have BK102 := n1_
     have BK106 := n2_
     have BK110 := n3_
     have HB := n4_
     clear n0_ n1_ n2_ n3_ n4_
     (try clear hb)
     (try clear hb2)
     (try clear hk)
     (try clear hi)
     refine hK.out _ _ ⟨(blk_cell BK106.out 0).trans rfl, (blk_cell BK106.out 1).trans rfl, (blk_cell BK110.out 0).trans rfl, (blk_cell BK110.out 1).trans rfl, (blk_cell BK101.out 0).trans rfl, (blk_cell BK101.out 1).trans rfl⟩ (fun hHeld => ?_)
     clear hK K
     refine norm_ (a' := ?_) ?_ ?_
     rotate_left
     ·
      show Act.put _ (some 47) _ = _
      simp only [Act.put, List.setIfInBounds_toArray, List.set_cons_zero, List.set_cons_succ, i64_w, i32_w]
      rfl
     refine pure_ (i := 13) (N := some 48) (v := ?_) (a' := ?_) #[true, true, true, true, true, true, true, true, true, true, true, true, true, true, false, false, false, false, false, false, false, false] rfl rfl (any_of HT_.out (by kernel_rfl)) (fun _ _ _ h => h) (Or.inl ⟨by rfl, ?_⟩) ?_ ?_
     rotate_left
     ·
      intro w'
      go_simp
      with_reducible rfl
     rotate_left
     ·
      simp only [Act.put, List.setIfInBounds_toArray, List.set_cons_zero, List.set_cons_succ, i64_w, i32_w]
      rfl
     refine pure_ (i := 14) (N := some 49) (v := ?_) (a' := ?_) #[true, true, true, true, true, true, true, true, true, true, true, true, true, true, true, false, false, false, false, false, false, false] rfl rfl (any_of HT_.out (by kernel_rfl)) (fun _ _ _ h => h) (Or.inl ⟨by rfl, ?_⟩) ?_ ?_
     rotate_left
     ·
      intro w'
      go_simp
      with_reducible rfl
     rotate_left
     ·
      simp only [Act.put, List.setIfInBounds_toArray, List.set_cons_zero, List.set_cons_succ, i64_w, i32_w]
      rfl
     refine pure_ (i := 15) (N := some 50) (v := ?_) (a' := ?_) #[true, true, true, true, true, true, true, true, true, true, true, true, true, true, true, true, false, false, false, false, false, false] rfl rfl (any_of HT_.out (by kernel_rfl)) (fun _ _ _ h => h) (Or.inl ⟨by rfl, ?_⟩) ?_ ?_
     rotate_left
     ·
      intro w'
      go_simp
      with_reducible rfl
     rotate_left
     ·
      simp only [Act.put, List.setIfInBounds_toArray, List.set_cons_zero, List.set_cons_succ, i64_w, i32_w]
      rfl
     refine pure_ (i := 16) (N := some 51) (v := undef) (a' := ?_) #[true, true, true, true, true, true, true, true, true, true, true, true, true, true, true, true, true, false, false, false, false, false] rfl rfl (any_of HT_.out (by kernel_rfl)) (fun _ _ _ h => h) (Or.inr ⟨by rfl, rfl⟩) ?_ ?_
     rotate_left
     ·
      simp only [Act.put, List.setIfInBounds_toArray, List.set_cons_zero, List.set_cons_succ, i64_w, i32_w]
      rfl
     refine pure_ (i := 17) (N := some 52) (v := undef) (a' := ?_) #[true, true, true, true, true, true, true, true, true, true, true, true, true, true, true, true, true, true, false, false, false, false] rfl rfl (any_of HT_.out (by kernel_rfl)) (fun _ _ _ h => h) (Or.inr ⟨by rfl, rfl⟩) ?_ ?_
     rotate_left
     ·
      simp only [Act.put, List.setIfInBounds_toArray, List.set_cons_zero, List.set_cons_succ, i64_w, i32_w]
      rfl
     refine pure_ (i := 18) (N := some 53) (v := undef) (a' := ?_) #[true, true, true, true, true, true, true, true, true, true, true, true, true, true, true, true, true, true, true, false, false, false] rfl rfl (any_of HT_.out (by kernel_rfl)) (fun _ _ _ h => h) (Or.inr ⟨by rfl, rfl⟩) ?_ ?_
     rotate_left
     ·
      simp only [Act.put, List.setIfInBounds_toArray, List.set_cons_zero, List.set_cons_succ, i64_w, i32_w]
      rfl
     refine pure_ (i := 19) (N := some 54) (v := undef) (a' := ?_) #[true, true, true, true, true, true, true, true, true, true, true, true, true, true, true, true, true, true, true, true, false, false] rfl rfl (any_of HT_.out (by kernel_rfl)) (fun _ _ _ h => h) (Or.inr ⟨by rfl, rfl⟩) ?_ ?_
     rotate_left
     ·
      simp only [Act.put, List.setIfInBounds_toArray, List.set_cons_zero, List.set_cons_succ, i64_w, i32_w]
      rfl
     refine pure_ (i := 20) (N := some 55) (v := undef) (a' := ?_) #[true, true, true, true, true, true, true, true, true, true, true, true, true, true, true, true, true, true, true, true, true, false] rfl rfl (any_of HT_.out (by kernel_rfl)) (fun _ _ _ h => h) (Or.inr ⟨by rfl, rfl⟩) ?_ ?_
     rotate_left
     ·
      simp only [Act.put, List.setIfInBounds_toArray, List.set_cons_zero, List.set_cons_succ, i64_w, i32_w]
      rfl
     refine pure_ (i := 21) (N := some 56) (v := ?_) (a' := ?_) #[true, true, true, true, true, true, true, true, true, true, true, true, true, true, true, true, true, true, true, true, true, true] rfl rfl (any_of HT_.out (by kernel_rfl)) (fun _ _ _ h => h) (Or.inl ⟨by rfl, ?_⟩) ?_ ?_
     rotate_left
     ·
      intro w'
      go_simp
      with_reducible rfl
     rotate_left
     ·
      simp only [Act.put, List.setIfInBounds_toArray, List.set_cons_zero, List.set_cons_succ, i64_w, i32_w]
      rfl
     refine done_ (done_of HT_.out (by kernel_rfl)) ?_
     try go_wp2
     go_meet
     case rel => exact ⟨_, (true), (by first | rfl | (simp; done) | (simp [*]; done)), H', ⟨by first | omega | exact Nat.le_refl _⟩, ⟨of_lies⟩, ⟨of_lies⟩, ⟨of_lies⟩, ⟨of_lies⟩, ⟨low HB⟩⟩
    ·
     rw [if_neg c29] at H
     have c29b0 : (t111 != t112) = false := by simpa using c29
     (try (have c29b1 : decide (t111 = t112) = true := by simpa using c29))
     (try (have c29b2 : (t111 == t112) = true := by simpa using c29))
     clear c29
     replace H := Option.bind_eq_some_iff.mp H
     obtain ⟨t113, A340, H⟩ := H
     replace H : ((Podr.joustref32_Text.f k a0_0 a0_1).bind fun t114 => (joustlaw32_OddsTells.j0 k a4 a5 (t113.toList != t114.toList) a0_0 a0_1 a1_0 a1_1)) = some r := H
     have A34 := Aside0.mk A340
     clear A340
     replace H := Option.bind_eq_some_iff.mp H
     obtain ⟨t114, A350, H⟩ := H
     replace H : (joustlaw32_OddsTells.j0 k a4 a5 (t113.toList != t114.toList) a0_0 a0_1 a1_0 a1_1) = some r := H
     have A35 := Aside0.mk A350
     clear A350
     have H' := Aside0.mk H
     clear H
     try go_wp2
     have n0_ : Aside0 (((w18.setCell ⟨gb110, 0, none⟩ (.int .u64 t107)).setCell ⟨gb110, 1, none⟩ (.int .u64 t108)).heap[gb101]? = some (.cells #[.int .u64 a0_0, .int .u64 a0_1] 47 (0, 0))) := ⟨of_lies⟩
     have n1_ : Aside0 (((w18.setCell ⟨gb110, 0, none⟩ (.int .u64 t107)).setCell ⟨gb110, 1, none⟩ (.int .u64 t108)).heap[gb102]? = some (.cells #[.int .u64 a1_0, .int .u64 a1_1] 47 (0, 0))) := ⟨of_lies⟩
     have n2_ : Aside0 (((w18.setCell ⟨gb110, 0, none⟩ (.int .u64 t107)).setCell ⟨gb110, 1, none⟩ (.int .u64 t108)).heap[gb106]? = some (.cells #[.int .u64 t103, .int .u64 t104] 47 (0, 0))) := ⟨of_lies⟩
     have n3_ : Aside0 (((w18.setCell ⟨gb110, 0, none⟩ (.int .u64 t107)).setCell ⟨gb110, 1, none⟩ (.int .u64 t108)).heap[gb110]? = some (.cells #[.int .u64 t107, .int .u64 t108] 47 (0, 0))) := ⟨of_lies⟩
     have n4_ : Aside0 (Below w.heap.size w ((w18.setCell ⟨gb110, 0, none⟩ (.int .u64 t107)).setCell ⟨gb110, 1, none⟩ (.int .u64 t108))) := ⟨low HB⟩
     (try clear BK101)
     (try clear BK102)
     (try clear BK106)
     (try clear BK110)
     (try clear HB)
     generalize ((w18.setCell ⟨gb110, 0, none⟩ (.int .u64 t107)).setCell ⟨gb110, 1, none⟩ (.int .u64 t108)) = w36 at n0_ n1_ n2_ n3_ n4_ ⊢
     have BK101 := n0_
     have BK102 := n1_
     have BK106 := n2_
     have BK110 := n3_
     have HB := n4_
     clear n0_ n1_ n2_ n3_ n4_
     have n0_ := Aside0.mk (blk_drew BK101.out)
     have n1_ := Aside0.mk (blk_drew BK102.out)
     have n2_ := Aside0.mk (blk_drew BK106.out)
     have n3_ := Aside0.mk (blk_drew BK110.out)
     have n4_ := Aside0.mk (below_drew1 HB.out)
     clear BK101
     clear BK102
     clear BK106
     clear BK110
     clear HB
     have BK101 := n0_
     have BK102 := n1_
     have BK106 := n2_
     have BK110 := n3_
     have HB := n4_
     clear n0_ n1_ n2_ n3_ n4_
     refine start_ (n := 22) (S := fun w' => w'.cell? ⟨gb106, 0, none⟩ = some (.int .u64 t103) ∧ w'.cell? ⟨gb106, 1, none⟩ = some (.int .u64 t104) ∧ w'.cell? ⟨gb110, 0, none⟩ = some (.int .u64 t107) ∧ w'.cell? ⟨gb110, 1, none⟩ = some (.int .u64 t108) ∧ w'.cell? ⟨gb101, 0, none⟩ = some (.int .u64 a0_0) ∧ w'.cell? ⟨gb101, 1, none⟩ = some (.int .u64 a0_1)) (ds := []) #[false, false, false, false, false, false, false, false, false, false, false, false, false, false, false, false, false, false, false, false, false, false] (by kernel_rfl) rfl rfl ⟨(blk_cell BK106.out 0).trans rfl, (blk_cell BK106.out 1).trans rfl, (blk_cell BK110.out 0).trans rfl, (blk_cell BK110.out 1).trans rfl, (blk_cell BK101.out 0).trans rfl, (blk_cell BK101.out 1).trans rfl⟩ (fun hHeld => ?_); refine with_tabW joustlaw32_OddsTells.tab3 joustlaw32_OddsTells.bits3 (fun HT_ HW_ => ?_)
     generalize w36.drew = w37 at BK101 BK102 BK106 BK110 HB hHeld ⊢
     refine take_ (i := 0) (N := some 35) (v := ?_) (a' := ?_) #[true, false, false, false, false, false, false, false, false, false, false, false, false, false, false, false, false, false, false, false, false, false] rfl rfl (take_ofW HT_.out HW_.out (by kernel_rfl)) (fun _ _ _ h => h) (Or.inl ⟨by rfl, ?_⟩) hHeld ?_ ?_
     rotate_left
     ·
      rintro w' ⟨s0, s1, s2, s3, s4, s5⟩
      go_simp
      with_reducible rfl
     rotate_left
     ·
      simp only [Act.put, List.setIfInBounds_toArray, List.set_cons_zero, List.set_cons_succ, i64_w, i32_w]
      rfl
     refine take_ (i := 1) (N := some 36) (v := ?_) (a' := ?_) #[true, true, false, false, false, false, false, false, false, false, false, false, false, false, false, false, false, false, false, false, false, false] rfl rfl (take_ofW HT_.out HW_.out (by kernel_rfl)) (fun _ _ _ h => h) (Or.inl ⟨by rfl, ?_⟩) hHeld ?_ ?_
     rotate_left
     ·
      rintro w' ⟨s0, s1, s2, s3, s4, s5⟩
      go_simp
      with_reducible rfl
     rotate_left
     ·
      simp only [Act.put, List.setIfInBounds_toArray, List.set_cons_zero, List.set_cons_succ, i64_w, i32_w]
      rfl
     refine pure_ (i := 2) (N := some 37) (v := ?_) (a' := ?_) #[true, true, true, false, false, false, false, false, false, false, false, false, false, false, false, false, false, false, false, false, false, false] rfl rfl (any_of HT_.out (by kernel_rfl)) (fun _ _ _ h => h) (Or.inl ⟨by rfl, ?_⟩) ?_ ?_
     rotate_left
     ·
      intro w'
      go_simp
      with_reducible rfl
     rotate_left
     ·
      simp only [Act.put, List.setIfInBounds_toArray, List.set_cons_zero, List.set_cons_succ, i64_w, i32_w]
      rfl
     refine pure_ (i := 3) (N := some 38) (v := ?_) (a' := ?_) #[true, true, true, true, false, false, false, false, false, false, false, false, false, false, false, false, false, false, false, false, false, false] rfl rfl (any_of HT_.out (by kernel_rfl)) (fun _ _ _ h => h) (Or.inl ⟨by rfl, ?_⟩) ?_ ?_
     rotate_left
     ·
      intro w'
      go_simp
      with_reducible rfl
     rotate_left
     ·
      simp only [Act.put, List.setIfInBounds_toArray, List.set_cons_zero, List.set_cons_succ, i64_w, i32_w]
      rfl
     refine pure_ (i := 4) (N := some 39) (v := ?_) (a' := ?_) #[true, true, true, true, true, false, false, false, false, false, false, false, false, false, false, false, false, false, false, false, false, false] rfl rfl (any_of HT_.out (by kernel_rfl)) (fun _ _ _ h => h) (Or.inl ⟨by rfl, ?_⟩) ?_ ?_
     rotate_left
     ·
      intro w'
      go_simp
      with_reducible rfl
     rotate_left
     ·
      simp only [Act.put, List.setIfInBounds_toArray, List.set_cons_zero, List.set_cons_succ, i64_w, i32_w]
      rfl
     refine pure_ (i := 5) (N := some 40) (v := ?_) (a' := ?_) #[true, true, true, true, true, true, false, false, false, false, false, false, false, false, false, false, false, false, false, false, false, false] rfl rfl (any_of HT_.out (by kernel_rfl)) (fun _ _ _ h => h) (Or.inl ⟨by rfl, ?_⟩) ?_ ?_
     rotate_left
     ·
      intro w'
      go_simp
      with_reducible rfl
     rotate_left
     ·
      simp only [Act.put, List.setIfInBounds_toArray, List.set_cons_zero, List.set_cons_succ, i64_w, i32_w]
      rfl
     refine pure_ (i := 6) (N := some 41) (v := ?_) (a' := ?_) #[true, true, true, true, true, true, true, false, false, false, false, false, false, false, false, false, false, false, false, false, false, false] rfl rfl (any_of HT_.out (by kernel_rfl)) (fun _ _ _ h => h) (Or.inl ⟨by rfl, ?_⟩) ?_ ?_
     rotate_left
     ·
      intro w'
      go_simp
      with_reducible rfl
     rotate_left
     ·
      simp only [Act.put, List.setIfInBounds_toArray, List.set_cons_zero, List.set_cons_succ, i64_w, i32_w]
      rfl
     refine pure_ (i := 7) (N := some 42) (v := ?_) (a' := ?_) #[true, true, true, true, true, true, true, true, false, false, false, false, false, false, false, false, false, false, false, false, false, false] rfl rfl (any_of HT_.out (by kernel_rfl)) (fun _ _ _ h => h) (Or.inl ⟨by rfl, ?_⟩) ?_ ?_
     rotate_left
     ·
      intro w'
      go_simp
      with_reducible rfl
     rotate_left
     ·
      simp only [Act.put, List.setIfInBounds_toArray, List.set_cons_zero, List.set_cons_succ, i64_w, i32_w]
      rfl
     refine pure_ (i := 8) (N := some 43) (v := ?_) (a' := ?_) #[true, true, true, true, true, true, true, true, true, false, false, false, false, false, false, false, false, false, false, false, false, false] rfl rfl (any_of HT_.out (by kernel_rfl)) (fun _ _ _ h => h) (Or.inl ⟨by rfl, ?_⟩) ?_ ?_
     rotate_left
     ·
      intro w'
      go_simp
      with_reducible rfl
     rotate_left
     ·
      simp only [Act.put, List.setIfInBounds_toArray, List.set_cons_zero, List.set_cons_succ, i64_w, i32_w]
      rfl
     refine take_ (i := 9) (N := some 44) (v := ?_) (a' := ?_) #[true, true, true, true, true, true, true, true, true, true, false, false, false, false, false, false, false, false, false, false, false, false] rfl rfl (take_ofW HT_.out HW_.out (by kernel_rfl)) (fun _ _ _ h => h) (Or.inl ⟨by rfl, ?_⟩) hHeld ?_ ?_
     rotate_left
     ·
      rintro w' ⟨s0, s1, s2, s3, s4, s5⟩
      go_simp
      with_reducible rfl
     rotate_left
     ·
      simp only [Act.put, List.setIfInBounds_toArray, List.set_cons_zero, List.set_cons_succ, i64_w, i32_w]
      rfl
     refine take_ (i := 11) (N := some 46) (v := ?_) (a' := ?_) #[true, true, true, true, true, true, true, true, true, true, false, true, false, false, false, false, false, false, false, false, false, false] rfl rfl (take_ofW HT_.out HW_.out (by kernel_rfl)) (fun _ _ _ h => h) (Or.inl ⟨by rfl, ?_⟩) hHeld ?_ ?_
     rotate_left
     ·
      rintro w' ⟨s0, s1, s2, s3, s4, s5⟩
      go_simp
      with_reducible rfl
     rotate_left
     ·
      simp only [Act.put, List.setIfInBounds_toArray, List.set_cons_zero, List.set_cons_succ, i64_w, i32_w]
      rfl
     refine one_ (i := 10) (N := some 45) #[true, true, true, true, true, true, true, true, true, true, true, true, false, false, false, false, false, false, false, false, false, false] rfl rfl (one_of HT_.out (by kernel_rfl)) (by decide) (fun K hK => ?_)
     refine goes_ Tryd.func38 (by kernel_rfl) rfl #[.agg #[.int .u64 a0_0, .int .u64 a0_1]] (by rfl) rfl rfl (by (try simp only [List.map_toArray, List.map_cons, List.map_nil]); first | done | rfl | (simp only [List.length_drop, List.length_take]; rfl)) ?_
     with_reducible refine (Podd.odds_May.calls k a0_0 a0_1 t111 _ A27.out).mono ?_
     rintro e w38 ⟨rfl, hb⟩
     refine ⟨_, rfl, ?_⟩
     have n0_ := Aside0.mk (blk_below (g := gb101) (o := .cells #[.int .u64 a0_0, .int .u64 a0_1] 47 (0, 0)) of_lies hb)
     have n1_ := Aside0.mk (blk_below (g := gb102) (o := .cells #[.int .u64 a1_0, .int .u64 a1_1] 47 (0, 0)) of_lies hb)
     have n2_ := Aside0.mk (blk_below (g := gb106) (o := .cells #[.int .u64 t103, .int .u64 t104] 47 (0, 0)) of_lies hb)
     have n3_ := Aside0.mk (blk_below (g := gb110) (o := .cells #[.int .u64 t107, .int .u64 t108] 47 (0, 0)) of_lies hb)
     have n4_ := Aside0.mk (below_step (low HB) hb)
     clear BK101
     clear BK102
     clear BK106
     clear BK110
     clear HB
     have BK101 := n0_
     have BK102 := n1_
     have BK106 := n2_
     have BK110 := n3_
     have HB := n4_
     clear n0_ n1_ n2_ n3_ n4_
     (try clear hb)
     (try clear hb2)
     (try clear hk)
     (try clear hi)
     refine hK.out _ _ ⟨(blk_cell BK106.out 0).trans rfl, (blk_cell BK106.out 1).trans rfl, (blk_cell BK110.out 0).trans rfl, (blk_cell BK110.out 1).trans rfl, (blk_cell BK101.out 0).trans rfl, (blk_cell BK101.out 1).trans rfl⟩ (fun hHeld => ?_)
     clear hK K
     refine norm_ (a' := ?_) ?_ ?_
     rotate_left
     ·
      show Act.put _ (some 45) _ = _
      simp only [Act.put, List.setIfInBounds_toArray, List.set_cons_zero, List.set_cons_succ, i64_w, i32_w]
      rfl
     refine one_ (i := 12) (N := some 47) #[true, true, true, true, true, true, true, true, true, true, true, true, true, false, false, false, false, false, false, false, false, false] rfl rfl (one_of HT_.out (by kernel_rfl)) (by decide) (fun K hK => ?_)
     refine goes_ Tryd.func41 (by kernel_rfl) rfl #[.agg #[.int .u64 a0_0, .int .u64 a0_1]] (by rfl) rfl rfl (by (try simp only [List.map_toArray, List.map_cons, List.map_nil]); first | done | rfl | (simp only [List.length_drop, List.length_take]; rfl)) ?_
     with_reducible refine (Podr.joustref32_May.calls k a0_0 a0_1 t112 _ A28.out).mono ?_
     rintro e w39 ⟨rfl, hb⟩
     refine ⟨_, rfl, ?_⟩
     have n0_ := Aside0.mk (blk_below (g := gb101) (o := .cells #[.int .u64 a0_0, .int .u64 a0_1] 47 (0, 0)) of_lies hb)
     have n1_ := Aside0.mk (blk_below (g := gb102) (o := .cells #[.int .u64 a1_0, .int .u64 a1_1] 47 (0, 0)) of_lies hb)
     have n2_ := Aside0.mk (blk_below (g := gb106) (o := .cells #[.int .u64 t103, .int .u64 t104] 47 (0, 0)) of_lies hb)
     have n3_ := Aside0.mk (blk_below (g := gb110) (o := .cells #[.int .u64 t107, .int .u64 t108] 47 (0, 0)) of_lies hb)
     have n4_ := Aside0.mk (below_step (low HB) hb)
     clear BK101
     clear BK102
     clear BK106
     clear BK110
     clear HB
     have BK101 := n0_
     have BK102 := n1_
     have BK106 := n2_
     have BK110 := n3_
     have HB := n4_
     clear n0_ n1_ n2_ n3_ n4_
     (try clear hb)
     (try clear hb2)
     (try clear hk)
     (try clear hi)
     refine hK.out _ _ ⟨(blk_cell BK106.out 0).trans rfl, (blk_cell BK106.out 1).trans rfl, (blk_cell BK110.out 0).trans rfl, (blk_cell BK110.out 1).trans rfl, (blk_cell BK101.out 0).trans rfl, (blk_cell BK101.out 1).trans rfl⟩ (fun hHeld => ?_)
     clear hK K
     refine norm_ (a' := ?_) ?_ ?_
     rotate_left
     ·
      show Act.put _ (some 47) _ = _
      simp only [Act.put, List.setIfInBounds_toArray, List.set_cons_zero, List.set_cons_succ, i64_w, i32_w]
      rfl
     refine pure_ (i := 13) (N := some 48) (v := ?_) (a' := ?_) #[true, true, true, true, true, true, true, true, true, true, true, true, true, true, false, false, false, false, false, false, false, false] rfl rfl (any_of HT_.out (by kernel_rfl)) (fun _ _ _ h => h) (Or.inl ⟨by rfl, ?_⟩) ?_ ?_
     rotate_left
     ·
      intro w'
      go_simp
      with_reducible rfl
     rotate_left
     ·
      simp only [Act.put, List.setIfInBounds_toArray, List.set_cons_zero, List.set_cons_succ, i64_w, i32_w]
      rfl
     refine pure_ (i := 14) (N := some 49) (v := ?_) (a' := ?_) #[true, true, true, true, true, true, true, true, true, true, true, true, true, true, true, false, false, false, false, false, false, false] rfl rfl (any_of HT_.out (by kernel_rfl)) (fun _ _ _ h => h) (Or.inl ⟨by rfl, ?_⟩) ?_ ?_
     rotate_left
     ·
      intro w'
      go_simp
      with_reducible rfl
     rotate_left
     ·
      simp only [Act.put, List.setIfInBounds_toArray, List.set_cons_zero, List.set_cons_succ, i64_w, i32_w]
      rfl
     refine pure_ (i := 15) (N := some 50) (v := ?_) (a' := ?_) #[true, true, true, true, true, true, true, true, true, true, true, true, true, true, true, true, false, false, false, false, false, false] rfl rfl (any_of HT_.out (by kernel_rfl)) (fun _ _ _ h => h) (Or.inl ⟨by rfl, ?_⟩) ?_ ?_
     rotate_left
     ·
      intro w'
      go_simp
      with_reducible rfl
     rotate_left
     ·
      simp only [Act.put, List.setIfInBounds_toArray, List.set_cons_zero, List.set_cons_succ, i64_w, i32_w]
      rfl
     refine take_ (i := 16) (N := some 51) (v := ?_) (a' := ?_) #[true, true, true, true, true, true, true, true, true, true, true, true, true, true, true, true, true, false, false, false, false, false] rfl rfl (take_ofW HT_.out HW_.out (by kernel_rfl)) (fun _ _ _ h => h) (Or.inl ⟨by rfl, ?_⟩) hHeld ?_ ?_
     rotate_left
     ·
      rintro w' ⟨s0, s1, s2, s3, s4, s5⟩
      go_simp
      with_reducible rfl
     rotate_left
     ·
      simp only [Act.put, List.setIfInBounds_toArray, List.set_cons_zero, List.set_cons_succ, i64_w, i32_w]
      rfl
     refine take_ (i := 18) (N := some 53) (v := ?_) (a' := ?_) #[true, true, true, true, true, true, true, true, true, true, true, true, true, true, true, true, true, false, true, false, false, false] rfl rfl (take_ofW HT_.out HW_.out (by kernel_rfl)) (fun _ _ _ h => h) (Or.inl ⟨by rfl, ?_⟩) hHeld ?_ ?_
     rotate_left
     ·
      rintro w' ⟨s0, s1, s2, s3, s4, s5⟩
      go_simp
      with_reducible rfl
     rotate_left
     ·
      simp only [Act.put, List.setIfInBounds_toArray, List.set_cons_zero, List.set_cons_succ, i64_w, i32_w]
      rfl
     refine one_ (i := 17) (N := some 52) #[true, true, true, true, true, true, true, true, true, true, true, true, true, true, true, true, true, true, true, false, false, false] rfl rfl (one_of HT_.out (by kernel_rfl)) (by decide) (fun K hK => ?_)
     refine goes_ Tryd.func42 (by kernel_rfl) rfl #[.agg #[.int .u64 a0_0, .int .u64 a0_1]] (by rfl) rfl rfl (by (try simp only [List.map_toArray, List.map_cons, List.map_nil]); first | done | rfl | (simp only [List.length_drop, List.length_take]; rfl)) ?_
     with_reducible refine (Podd.odds_Text.calls k a0_0 a0_1 t113 _ ?side1 A34.out).mono ?_
     (case side1 => repeat (first | exact (GoodW.below HGW.out (low HB)) | (with_reducible refine GoodW.alloc ?_ _) | (with_reducible refine GoodW.drewN ?_ _) | (with_reducible refine GoodW.drew ?_)))
     rintro e w40 ⟨rfl, hb⟩
     refine ⟨_, rfl, ?_⟩
     have n0_ := Aside0.mk (blk_below (g := gb101) (o := .cells #[.int .u64 a0_0, .int .u64 a0_1] 47 (0, 0)) of_lies hb)
     have n1_ := Aside0.mk (blk_below (g := gb102) (o := .cells #[.int .u64 a1_0, .int .u64 a1_1] 47 (0, 0)) of_lies hb)
     have n2_ := Aside0.mk (blk_below (g := gb106) (o := .cells #[.int .u64 t103, .int .u64 t104] 47 (0, 0)) of_lies hb)
     have n3_ := Aside0.mk (blk_below (g := gb110) (o := .cells #[.int .u64 t107, .int .u64 t108] 47 (0, 0)) of_lies hb)
     have n4_ := Aside0.mk (below_step (low HB) hb)
     clear BK101
     clear BK102
     clear BK106
     clear BK110
     clear HB
     have BK101 := n0_
     have BK102 := n1_
     have BK106 := n2_
     have BK110 := n3_
     have HB := n4_
     clear n0_ n1_ n2_ n3_ n4_
     (try clear hb)
     (try clear hb2)
     (try clear hk)
     (try clear hi)
     refine hK.out _ _ ⟨(blk_cell BK106.out 0).trans rfl, (blk_cell BK106.out 1).trans rfl, (blk_cell BK110.out 0).trans rfl, (blk_cell BK110.out 1).trans rfl, (blk_cell BK101.out 0).trans rfl, (blk_cell BK101.out 1).trans rfl⟩ (fun hHeld => ?_)
     clear hK K
     refine norm_ (a' := ?_) ?_ ?_
     rotate_left
     ·
      show Act.put _ (some 52) _ = _
      simp only [Act.put, List.setIfInBounds_toArray, List.set_cons_zero, List.set_cons_succ, i64_w, i32_w]
      rfl
     refine one_ (i := 19) (N := some 54) #[true, true, true, true, true, true, true, true, true, true, true, true, true, true, true, true, true, true, true, true, false, false] rfl rfl (one_of HT_.out (by kernel_rfl)) (by decide) (fun K hK => ?_)
     refine goes_ Tryd.func43 (by kernel_rfl) rfl #[.agg #[.int .u64 a0_0, .int .u64 a0_1]] (by rfl) rfl rfl (by (try simp only [List.map_toArray, List.map_cons, List.map_nil]); first | done | rfl | (simp only [List.length_drop, List.length_take]; rfl)) ?_
     with_reducible refine (Podr.joustref32_Text.calls k a0_0 a0_1 t114 _ A35.out).mono ?_
     rintro e w41 ⟨rfl, hb⟩
     refine ⟨_, rfl, ?_⟩
     have n0_ := Aside0.mk (blk_below (g := gb101) (o := .cells #[.int .u64 a0_0, .int .u64 a0_1] 47 (0, 0)) of_lies hb)
     have n1_ := Aside0.mk (blk_below (g := gb102) (o := .cells #[.int .u64 a1_0, .int .u64 a1_1] 47 (0, 0)) of_lies hb)
     have n2_ := Aside0.mk (blk_below (g := gb106) (o := .cells #[.int .u64 t103, .int .u64 t104] 47 (0, 0)) of_lies hb)
     have n3_ := Aside0.mk (blk_below (g := gb110) (o := .cells #[.int .u64 t107, .int .u64 t108] 47 (0, 0)) of_lies hb)
     have n4_ := Aside0.mk (below_step (low HB) hb)
     clear BK101
     clear BK102
     clear BK106
     clear BK110
     clear HB
     have BK101 := n0_
     have BK102 := n1_
     have BK106 := n2_
     have BK110 := n3_
     have HB := n4_
     clear n0_ n1_ n2_ n3_ n4_
     (try clear hb)
     (try clear hb2)
     (try clear hk)
     (try clear hi)
     refine hK.out _ _ ⟨(blk_cell BK106.out 0).trans rfl, (blk_cell BK106.out 1).trans rfl, (blk_cell BK110.out 0).trans rfl, (blk_cell BK110.out 1).trans rfl, (blk_cell BK101.out 0).trans rfl, (blk_cell BK101.out 1).trans rfl⟩ (fun hHeld => ?_)
     clear hK K
     refine norm_ (a' := ?_) ?_ ?_
     rotate_left
     ·
      show Act.put _ (some 54) _ = _
      simp only [Act.put, List.setIfInBounds_toArray, List.set_cons_zero, List.set_cons_succ, i64_w, i32_w]
      rfl
     refine pure_ (i := 20) (N := some 55) (v := ?_) (a' := ?_) #[true, true, true, true, true, true, true, true, true, true, true, true, true, true, true, true, true, true, true, true, true, false] rfl rfl (any_of HT_.out (by kernel_rfl)) (fun _ _ _ h => h) (Or.inl ⟨by rfl, ?_⟩) ?_ ?_
     rotate_left
     ·
      intro w'
      go_simp
      with_reducible rfl
     rotate_left
     ·
      simp only [Act.put, List.setIfInBounds_toArray, List.set_cons_zero, List.set_cons_succ, i64_w, i32_w]
      rfl
     refine pure_ (i := 21) (N := some 56) (v := ?_) (a' := ?_) #[true, true, true, true, true, true, true, true, true, true, true, true, true, true, true, true, true, true, true, true, true, true] rfl rfl (any_of HT_.out (by kernel_rfl)) (fun _ _ _ h => h) (Or.inl ⟨by rfl, ?_⟩) ?_ ?_
     rotate_left
     ·
      intro w'
      go_simp
      with_reducible rfl
     rotate_left
     ·
      simp only [Act.put, List.setIfInBounds_toArray, List.set_cons_zero, List.set_cons_succ, i64_w, i32_w]
      rfl
     refine done_ (done_of HT_.out (by kernel_rfl)) ?_
     try go_wp2
     go_meet
     case rel => exact ⟨_, ((t113.toList != t114.toList)), (by first | rfl | (simp; done) | (simp [*]; done)), H', ⟨by first | omega | exact Nat.le_refl _⟩, ⟨of_lies⟩, ⟨of_lies⟩, ⟨of_lies⟩, ⟨of_lies⟩, ⟨low HB⟩⟩
   ·
    rw [if_neg c26] at H
    have c26b0 : (t105 == t109) = false := beq_eq_false_iff_ne.mpr c26
    have c26b1 : (t105 != t109) = true := bne_iff_ne.mpr c26
    have H' := Aside0.mk H
    clear H
    try go_wp2
    have n0_ : Aside0 (((w18.setCell ⟨gb110, 0, none⟩ (.int .u64 t107)).setCell ⟨gb110, 1, none⟩ (.int .u64 t108)).heap[gb101]? = some (.cells #[.int .u64 a0_0, .int .u64 a0_1] 47 (0, 0))) := ⟨of_lies⟩
    have n1_ : Aside0 (((w18.setCell ⟨gb110, 0, none⟩ (.int .u64 t107)).setCell ⟨gb110, 1, none⟩ (.int .u64 t108)).heap[gb102]? = some (.cells #[.int .u64 a1_0, .int .u64 a1_1] 47 (0, 0))) := ⟨of_lies⟩
    have n2_ : Aside0 (((w18.setCell ⟨gb110, 0, none⟩ (.int .u64 t107)).setCell ⟨gb110, 1, none⟩ (.int .u64 t108)).heap[gb106]? = some (.cells #[.int .u64 t103, .int .u64 t104] 47 (0, 0))) := ⟨of_lies⟩
    have n3_ : Aside0 (((w18.setCell ⟨gb110, 0, none⟩ (.int .u64 t107)).setCell ⟨gb110, 1, none⟩ (.int .u64 t108)).heap[gb110]? = some (.cells #[.int .u64 t107, .int .u64 t108] 47 (0, 0))) := ⟨of_lies⟩
    have n4_ : Aside0 (Below w.heap.size w ((w18.setCell ⟨gb110, 0, none⟩ (.int .u64 t107)).setCell ⟨gb110, 1, none⟩ (.int .u64 t108))) := ⟨low HB⟩
    (try clear BK101)
    (try clear BK102)
    (try clear BK106)
    (try clear BK110)
    (try clear HB)
    generalize ((w18.setCell ⟨gb110, 0, none⟩ (.int .u64 t107)).setCell ⟨gb110, 1, none⟩ (.int .u64 t108)) = w42 at n0_ n1_ n2_ n3_ n4_ ⊢
    have BK101 := n0_
    have BK102 := n1_
    have BK106 := n2_
    have BK110 := n3_
    have HB := n4_
    clear n0_ n1_ n2_ n3_ n4_
    have n0_ := Aside0.mk (blk_drew BK101.out)
    have n1_ := Aside0.mk (blk_drew BK102.out)
    have n2_ := Aside0.mk (blk_drew BK106.out)
    have n3_ := Aside0.mk (blk_drew BK110.out)
    have n4_ := Aside0.mk (below_drew1 HB.out)
    clear BK101
    clear BK102
    clear BK106
    clear BK110
    clear HB
    have BK101 := n0_
    have BK102 := n1_
    have BK106 := n2_
    have BK110 := n3_
    have HB := n4_
    clear n0_ n1_ n2_ n3_ n4_
    refine start_ (n := 22) (S := fun w' => w'.cell? ⟨gb106, 0, none⟩ = some (.int .u64 t103) ∧ w'.cell? ⟨gb106, 1, none⟩ = some (.int .u64 t104) ∧ w'.cell? ⟨gb110, 0, none⟩ = some (.int .u64 t107) ∧ w'.cell? ⟨gb110, 1, none⟩ = some (.int .u64 t108)) (ds := []) #[false, false, false, false, false, false, false, false, false, false, false, false, false, false, false, false, false, false, false, false, false, false] (by kernel_rfl) rfl rfl ⟨(blk_cell BK106.out 0).trans rfl, (blk_cell BK106.out 1).trans rfl, (blk_cell BK110.out 0).trans rfl, (blk_cell BK110.out 1).trans rfl⟩ (fun hHeld => ?_); refine with_tabW joustlaw32_OddsTells.tab3 joustlaw32_OddsTells.bits3 (fun HT_ HW_ => ?_)
    generalize w42.drew = w43 at BK101 BK102 BK106 BK110 HB hHeld ⊢
    refine take_ (i := 0) (N := some 35) (v := ?_) (a' := ?_) #[true, false, false, false, false, false, false, false, false, false, false, false, false, false, false, false, false, false, false, false, false, false] rfl rfl (take_ofW HT_.out HW_.out (by kernel_rfl)) (fun _ _ _ h => h) (Or.inl ⟨by rfl, ?_⟩) hHeld ?_ ?_
    rotate_left
    ·
     rintro w' ⟨s0, s1, s2, s3⟩
     go_simp
     with_reducible rfl
    rotate_left
    ·
     simp only [Act.put, List.setIfInBounds_toArray, List.set_cons_zero, List.set_cons_succ, i64_w, i32_w]
     rfl
    refine take_ (i := 1) (N := some 36) (v := ?_) (a' := ?_) #[true, true, false, false, false, false, false, false, false, false, false, false, false, false, false, false, false, false, false, false, false, false] rfl rfl (take_ofW HT_.out HW_.out (by kernel_rfl)) (fun _ _ _ h => h) (Or.inl ⟨by rfl, ?_⟩) hHeld ?_ ?_
    rotate_left
    ·
     rintro w' ⟨s0, s1, s2, s3⟩
     go_simp
     with_reducible rfl
    rotate_left
    ·
     simp only [Act.put, List.setIfInBounds_toArray, List.set_cons_zero, List.set_cons_succ, i64_w, i32_w]
     rfl
    refine pure_ (i := 2) (N := some 37) (v := ?_) (a' := ?_) #[true, true, true, false, false, false, false, false, false, false, false, false, false, false, false, false, false, false, false, false, false, false] rfl rfl (any_of HT_.out (by kernel_rfl)) (fun _ _ _ h => h) (Or.inl ⟨by rfl, ?_⟩) ?_ ?_
    rotate_left
    ·
     intro w'
     go_simp
     with_reducible rfl
    rotate_left
    ·
     simp only [Act.put, List.setIfInBounds_toArray, List.set_cons_zero, List.set_cons_succ, i64_w, i32_w]
     rfl
    refine pure_ (i := 3) (N := some 38) (v := ?_) (a' := ?_) #[true, true, true, true, false, false, false, false, false, false, false, false, false, false, false, false, false, false, false, false, false, false] rfl rfl (any_of HT_.out (by kernel_rfl)) (fun _ _ _ h => h) (Or.inl ⟨by rfl, ?_⟩) ?_ ?_
    rotate_left
    ·
     intro w'
     go_simp
     with_reducible rfl
    rotate_left
    ·
     simp only [Act.put, List.setIfInBounds_toArray, List.set_cons_zero, List.set_cons_succ, i64_w, i32_w]
     rfl
    refine pure_ (i := 4) (N := some 39) (v := ?_) (a' := ?_) #[true, true, true, true, true, false, false, false, false, false, false, false, false, false, false, false, false, false, false, false, false, false] rfl rfl (any_of HT_.out (by kernel_rfl)) (fun _ _ _ h => h) (Or.inl ⟨by rfl, ?_⟩) ?_ ?_
    rotate_left
    ·
     intro w'
     go_simp
     with_reducible rfl
    rotate_left
    ·
     simp only [Act.put, List.setIfInBounds_toArray, List.set_cons_zero, List.set_cons_succ, i64_w, i32_w]
     rfl
    refine pure_ (i := 5) (N := some 40) (v := ?_) (a' := ?_) #[true, true, true, true, true, true, false, false, false, false, false, false, false, false, false, false, false, false, false, false, false, false] rfl rfl (any_of HT_.out (by kernel_rfl)) (fun _ _ _ h => h) (Or.inl ⟨by rfl, ?_⟩) ?_ ?_
    rotate_left
    ·
     intro w'
     go_simp
     with_reducible rfl
    rotate_left
    ·
     simp only [Act.put, List.setIfInBounds_toArray, List.set_cons_zero, List.set_cons_succ, i64_w, i32_w]
     rfl
    refine pure_ (i := 6) (N := some 41) (v := ?_) (a' := ?_) #[true, true, true, true, true, true, true, false, false, false, false, false, false, false, false, false, false, false, false, false, false, false] rfl rfl (any_of HT_.out (by kernel_rfl)) (fun _ _ _ h => h) (Or.inl ⟨by rfl, ?_⟩) ?_ ?_
    rotate_left
    ·
     intro w'
     go_simp
     with_reducible rfl
    rotate_left
    ·
     simp only [Act.put, List.setIfInBounds_toArray, List.set_cons_zero, List.set_cons_succ, i64_w, i32_w]
     rfl
    refine pure_ (i := 7) (N := some 42) (v := ?_) (a' := ?_) #[true, true, true, true, true, true, true, true, false, false, false, false, false, false, false, false, false, false, false, false, false, false] rfl rfl (any_of HT_.out (by kernel_rfl)) (fun _ _ _ h => h) (Or.inl ⟨by rfl, ?_⟩) ?_ ?_
    rotate_left
    ·
     intro w'
     go_simp
     with_reducible rfl
    rotate_left
    ·
     simp only [Act.put, List.setIfInBounds_toArray, List.set_cons_zero, List.set_cons_succ, i64_w, i32_w]
     rfl
    refine pure_ (i := 8) (N := some 43) (v := ?_) (a' := ?_) #[true, true, true, true, true, true, true, true, true, false, false, false, false, false, false, false, false, false, false, false, false, false] rfl rfl (any_of HT_.out (by kernel_rfl)) (fun _ _ _ h => h) (Or.inl ⟨by rfl, ?_⟩) ?_ ?_
    rotate_left
    ·
     intro w'
     go_simp
     with_reducible rfl
    rotate_left
    ·
     simp only [Act.put, List.setIfInBounds_toArray, List.set_cons_zero, List.set_cons_succ, i64_w, i32_w]
     rfl
    refine pure_ (i := 9) (N := some 44) (v := undef) (a' := ?_) #[true, true, true, true, true, true, true, true, true, true, false, false, false, false, false, false, false, false, false, false, false, false] rfl rfl (any_of HT_.out (by kernel_rfl)) (fun _ _ _ h => h) (Or.inr ⟨by rfl, rfl⟩) ?_ ?_
    rotate_left
    ·
     simp only [Act.put, List.setIfInBounds_toArray, List.set_cons_zero, List.set_cons_succ, i64_w, i32_w]
     rfl
    refine pure_ (i := 10) (N := some 45) (v := undef) (a' := ?_) #[true, true, true, true, true, true, true, true, true, true, true, false, false, false, false, false, false, false, false, false, false, false] rfl rfl (any_of HT_.out (by kernel_rfl)) (fun _ _ _ h => h) (Or.inr ⟨by rfl, rfl⟩) ?_ ?_
    rotate_left
    ·
     simp only [Act.put, List.setIfInBounds_toArray, List.set_cons_zero, List.set_cons_succ, i64_w, i32_w]
     rfl
    refine pure_ (i := 11) (N := some 46) (v := undef) (a' := ?_) #[true, true, true, true, true, true, true, true, true, true, true, true, false, false, false, false, false, false, false, false, false, false] rfl rfl (any_of HT_.out (by kernel_rfl)) (fun _ _ _ h => h) (Or.inr ⟨by rfl, rfl⟩) ?_ ?_
    rotate_left
    ·
     simp only [Act.put, List.setIfInBounds_toArray, List.set_cons_zero, List.set_cons_succ, i64_w, i32_w]
     rfl
    refine pure_ (i := 12) (N := some 47) (v := undef) (a' := ?_) #[true, true, true, true, true, true, true, true, true, true, true, true, true, false, false, false, false, false, false, false, false, false] rfl rfl (any_of HT_.out (by kernel_rfl)) (fun _ _ _ h => h) (Or.inr ⟨by rfl, rfl⟩) ?_ ?_
    rotate_left
    ·
     simp only [Act.put, List.setIfInBounds_toArray, List.set_cons_zero, List.set_cons_succ, i64_w, i32_w]
     rfl
    refine pure_ (i := 13) (N := some 48) (v := undef) (a' := ?_) #[true, true, true, true, true, true, true, true, true, true, true, true, true, true, false, false, false, false, false, false, false, false] rfl rfl (any_of HT_.out (by kernel_rfl)) (fun _ _ _ h => h) (Or.inr ⟨by rfl, rfl⟩) ?_ ?_
    rotate_left
    ·
     simp only [Act.put, List.setIfInBounds_toArray, List.set_cons_zero, List.set_cons_succ, i64_w, i32_w]
     rfl
    refine pure_ (i := 14) (N := some 49) (v := ?_) (a' := ?_) #[true, true, true, true, true, true, true, true, true, true, true, true, true, true, true, false, false, false, false, false, false, false] rfl rfl (any_of HT_.out (by kernel_rfl)) (fun _ _ _ h => h) (Or.inl ⟨by rfl, ?_⟩) ?_ ?_
    rotate_left
    ·
     intro w'
     go_simp
     with_reducible rfl
    rotate_left
    ·
     simp only [Act.put, List.setIfInBounds_toArray, List.set_cons_zero, List.set_cons_succ, i64_w, i32_w]
     rfl
    refine pure_ (i := 15) (N := some 50) (v := ?_) (a' := ?_) #[true, true, true, true, true, true, true, true, true, true, true, true, true, true, true, true, false, false, false, false, false, false] rfl rfl (any_of HT_.out (by kernel_rfl)) (fun _ _ _ h => h) (Or.inl ⟨by rfl, ?_⟩) ?_ ?_
    rotate_left
    ·
     intro w'
     go_simp
     with_reducible rfl
    rotate_left
    ·
     simp only [Act.put, List.setIfInBounds_toArray, List.set_cons_zero, List.set_cons_succ, i64_w, i32_w]
     rfl
    refine pure_ (i := 16) (N := some 51) (v := undef) (a' := ?_) #[true, true, true, true, true, true, true, true, true, true, true, true, true, true, true, true, true, false, false, false, false, false] rfl rfl (any_of HT_.out (by kernel_rfl)) (fun _ _ _ h => h) (Or.inr ⟨by rfl, rfl⟩) ?_ ?_
    rotate_left
    ·
     simp only [Act.put, List.setIfInBounds_toArray, List.set_cons_zero, List.set_cons_succ, i64_w, i32_w]
     rfl
    refine pure_ (i := 17) (N := some 52) (v := undef) (a' := ?_) #[true, true, true, true, true, true, true, true, true, true, true, true, true, true, true, true, true, true, false, false, false, false] rfl rfl (any_of HT_.out (by kernel_rfl)) (fun _ _ _ h => h) (Or.inr ⟨by rfl, rfl⟩) ?_ ?_
    rotate_left
    ·
     simp only [Act.put, List.setIfInBounds_toArray, List.set_cons_zero, List.set_cons_succ, i64_w, i32_w]
     rfl
    refine pure_ (i := 18) (N := some 53) (v := undef) (a' := ?_) #[true, true, true, true, true, true, true, true, true, true, true, true, true, true, true, true, true, true, true, false, false, false] rfl rfl (any_of HT_.out (by kernel_rfl)) (fun _ _ _ h => h) (Or.inr ⟨by rfl, rfl⟩) ?_ ?_
    rotate_left
    ·
     simp only [Act.put, List.setIfInBounds_toArray, List.set_cons_zero, List.set_cons_succ, i64_w, i32_w]
     rfl
    refine pure_ (i := 19) (N := some 54) (v := undef) (a' := ?_) #[true, true, true, true, true, true, true, true, true, true, true, true, true, true, true, true, true, true, true, true, false, false] rfl rfl (any_of HT_.out (by kernel_rfl)) (fun _ _ _ h => h) (Or.inr ⟨by rfl, rfl⟩) ?_ ?_
    rotate_left
    ·
     simp only [Act.put, List.setIfInBounds_toArray, List.set_cons_zero, List.set_cons_succ, i64_w, i32_w]
     rfl
    refine pure_ (i := 20) (N := some 55) (v := undef) (a' := ?_) #[true, true, true, true, true, true, true, true, true, true, true, true, true, true, true, true, true, true, true, true, true, false] rfl rfl (any_of HT_.out (by kernel_rfl)) (fun _ _ _ h => h) (Or.inr ⟨by rfl, rfl⟩) ?_ ?_
    rotate_left
    ·
     simp only [Act.put, List.setIfInBounds_toArray, List.set_cons_zero, List.set_cons_succ, i64_w, i32_w]
     rfl
    refine pure_ (i := 21) (N := some 56) (v := ?_) (a' := ?_) #[true, true, true, true, true, true, true, true, true, true, true, true, true, true, true, true, true, true, true, true, true, true] rfl rfl (any_of HT_.out (by kernel_rfl)) (fun _ _ _ h => h) (Or.inl ⟨by rfl, ?_⟩) ?_ ?_
    rotate_left
    ·
     intro w'
     go_simp
     with_reducible rfl
    rotate_left
    ·
     simp only [Act.put, List.setIfInBounds_toArray, List.set_cons_zero, List.set_cons_succ, i64_w, i32_w]
     rfl
    refine done_ (done_of HT_.out (by kernel_rfl)) ?_
    try go_wp2
    go_meet
    case rel => exact ⟨_, (true), (by first | rfl | (simp; done) | (simp [*]; done)), H', ⟨by first | omega | exact Nat.le_refl _⟩, ⟨of_lies⟩, ⟨of_lies⟩, ⟨of_lies⟩, ⟨of_lies⟩, ⟨low HB⟩⟩
 case rest =>
  clear HC9
  try clear c2
  try clear p2
  try clear c3
  try clear c4
  try clear c26
  try clear c26b0
  try clear c26b1
  try clear c29
  try clear c29b0
  try clear c29b1
  try clear c29b2
  try clear c38
  try clear c41
  try clear c42
  try clear c43
  obtain ⟨kq, x56_8, rfl, HA, HJ8, BK101, BK102, BK106, BK110, HB⟩ := hcut
  cases kq with
  | zero => exact absurd HA.out (by simp [joustlaw32_OddsTells.j0])
  | succ kj8 =>
   have H := HA.out
   clear HA
   simp only [joustlaw32_OddsTells.j0] at H
   by_cases c44 : x56_8 = true
   ·
    subst c44
    have H1 : (some false) = some r := by rw [if_pos rfl] at H; exact H
    clear H
    have H := H1
    clear H1
    obtain rfl := Option.some.inj H
    go_wp2
    go_ret
    exact ⟨by first | rfl | (simp [errW_none, errW_some] <;> rfl) | (simp [*, errW_none, errW_some] <;> rfl), low HB⟩
   ·
    replace c44 := Bool.eq_false_iff.mpr c44
    subst c44
    have H1 : ((Podd.odds_Not.f kj8 a0_0 a0_1).bind fun bt115 => ((Podr.joustref32_Not.f kj8 a0_0 a0_1).bind fun bt118 => (if (!(bt115.1 == bt118.1) || (!(bt115.2.1 == bt118.2.1))) = true then (joustlaw32_OddsTells.j1 kj8 a4 a5 true a0_0 a0_1 a1_0 a1_1) else (joustlaw32_OddsTells.j1 kj8 a4 a5 (bt115.2.2 != bt118.2.2) a0_0 a0_1 a1_0 a1_1)))) = some r := by rw [if_neg (show ¬ (false = true) by decide)] at H; exact H
    clear H
    have H := H1
    clear H1
    replace H := Option.bind_eq_some_iff.mp H
    obtain ⟨⟨t115, t116, t117⟩, A450, H⟩ := H
    replace H : ((Podr.joustref32_Not.f kj8 a0_0 a0_1).bind fun bt118 => (if (!(t115 == bt118.1) || (!(t116 == bt118.2.1))) = true then (joustlaw32_OddsTells.j1 kj8 a4 a5 true a0_0 a0_1 a1_0 a1_1) else (joustlaw32_OddsTells.j1 kj8 a4 a5 (t117 != bt118.2.2) a0_0 a0_1 a1_0 a1_1))) = some r := H
    have A45 := Aside0.mk A450
    clear A450
    replace H := Option.bind_eq_some_iff.mp H
    obtain ⟨⟨t118, t119, t120⟩, A460, H⟩ := H
    replace H : (if (!(t115 == t118) || (!(t116 == t119))) = true then (joustlaw32_OddsTells.j1 kj8 a4 a5 true a0_0 a0_1 a1_0 a1_1) else (joustlaw32_OddsTells.j1 kj8 a4 a5 (t117 != t120) a0_0 a0_1 a1_0 a1_1)) = some r := H
    have A46 := Aside0.mk A460
    clear A460
    have HC47 := Aside0.mk H
    clear H
    have hnb48 := NB101_102.out
    have hnc48 := NB102_101.out
    have hnb49 := NB101_106.out
    have hnc49 := NB106_101.out
    have hnb50 := NB101_110.out
    have hnc50 := NB110_101.out
    have hcz51_0 : wc.cell? ⟨gb101, 0, none⟩ = some (.int .u64 a0_0) := (blk_cell BK101.out 0).trans rfl
    have hcz51_1 : wc.cell? ⟨gb101, 1, none⟩ = some (.int .u64 a0_1) := (blk_cell BK101.out 1).trans rfl
    have hfz51_0 := blk_frozen BK101.out 0
    have hfz51_1 := blk_frozen BK101.out 1
    go_upto_region 7 with (first | ((with_reducible refine gate_callee (f := 44) rfl ?_); refine goesL_ (some 59) rfl rfl Tryd.func44 (by kernel_rfl) rfl #[.agg #[.int .u64 a0_0, .int .u64 a0_1]] rfl (by (try simp only [List.map_toArray, List.map_cons, List.map_nil]); first | done | rfl | (simp only [List.length_drop, List.length_take]; rfl)) ?_; (with_reducible refine (Podd.odds_Not.calls kj8 a0_0 a0_1 t115 t116 t117 _ A45.out).mono ?_); rintro e w52 ⟨rfl, hb⟩; refine ⟨_, rfl, ?_⟩; have n0_ := Aside0.mk (blk_below (g := gb101) (o := .cells #[.int .u64 a0_0, .int .u64 a0_1] 47 (0, 0)) of_lies hb); have n1_ := Aside0.mk (blk_below (g := gb102) (o := .cells #[.int .u64 a1_0, .int .u64 a1_1] 47 (0, 0)) of_lies hb); have n2_ := Aside0.mk (blk_below (g := gb106) (o := .cells #[.int .u64 t103, .int .u64 t104] 47 (0, 0)) of_lies hb); have n3_ := Aside0.mk (blk_below (g := gb110) (o := .cells #[.int .u64 t107, .int .u64 t108] 47 (0, 0)) of_lies hb); have n4_ := Aside0.mk (below_step (low HB) hb); clear BK101; clear BK102; clear BK106; clear BK110; clear HB; have BK101 := n0_; have BK102 := n1_; have BK106 := n2_; have BK110 := n3_; have HB := n4_; clear n0_ n1_ n2_ n3_ n4_; (try clear hb); (try clear hb2); (try clear hk); (try clear hi); have hnb53 := NB106_102.out; have hnc53 := NB102_106.out; have hnb54 := NB106_110.out; have hnc54 := NB110_106.out; obtain ⟨hcz55_0, hcz55_1, hfz55_0, hfz55_1⟩ := cells2 BK106.out; obtain ⟨hcz56_0, hcz56_1, hfz56_0, hfz56_1⟩ := cells2 BK101.out) | ((with_reducible refine gate_callee (f := 45) rfl ?_); refine goesL_ (some 64) rfl rfl Tryd.func45 (by kernel_rfl) rfl #[.agg #[.int .u64 a0_0, .int .u64 a0_1]] rfl (by (try simp only [List.map_toArray, List.map_cons, List.map_nil]); first | done | rfl | (simp only [List.length_drop, List.length_take]; rfl)) ?_; (with_reducible refine (Podr.joustref32_Not.calls kj8 a0_0 a0_1 t118 t119 t120 _ A46.out).mono ?_); rintro e w57 ⟨rfl, hb⟩; refine ⟨_, rfl, ?_⟩; have n0_ := Aside0.mk (blk_below (g := gb101) (o := .cells #[.int .u64 a0_0, .int .u64 a0_1] 47 (0, 0)) of_lies hb); have n1_ := Aside0.mk (blk_below (g := gb102) (o := .cells #[.int .u64 a1_0, .int .u64 a1_1] 47 (0, 0)) of_lies hb); have n2_ := Aside0.mk (blk_below (g := gb106) (o := .cells #[.int .u64 t115, .int .u64 t116] 47 (0, 0)) of_lies hb); have n3_ := Aside0.mk (blk_below (g := gb110) (o := .cells #[.int .u64 t107, .int .u64 t108] 47 (0, 0)) of_lies hb); have n4_ := Aside0.mk (below_step (low HB) hb); clear BK101; clear BK102; clear BK106; clear BK110; clear HB; have BK101 := n0_; have BK102 := n1_; have BK106 := n2_; have BK110 := n3_; have HB := n4_; clear n0_ n1_ n2_ n3_ n4_; (try clear hb); (try clear hb2); (try clear hk); (try clear hi); have hnb58 := NB110_102.out; have hnc58 := NB102_110.out; obtain ⟨hcz59_0, hcz59_1, hfz59_0, hfz59_1⟩ := cells2 BK110.out))
    (try simp only [Act.put, List.setIfInBounds_toArray, List.set_cons_zero, List.set_cons_succ])
    go_cut [74] (fun v74 wc => ∃ (kq : Nat) (x74_46 : Bool), v74 = .bool x74_46 ∧ Aside0 (joustlaw32_OddsTells.j1 kq a4 a5 x74_46 a0_0 a0_1 a1_0 a1_1 = some r) ∧ Aside0 (kq ≤ kj8) ∧ Aside0 (wc.heap[gb101]? = some (.cells #[.int .u64 a0_0, .int .u64 a0_1] 47 (0, 0))) ∧ Aside0 (wc.heap[gb102]? = some (.cells #[.int .u64 a1_0, .int .u64 a1_1] 47 (0, 0))) ∧ Aside0 (wc.heap[gb106]? = some (.cells #[.int .u64 t115, .int .u64 t116] 47 (0, 0))) ∧ Aside0 (wc.heap[gb110]? = some (.cells #[.int .u64 t118, .int .u64 t119] 47 (0, 0))) ∧ Aside0 (Below w.heap.size w wc))
    case first =>
     have H := HC47.out
     clear HC47
     by_cases c60 : (!(t115 == t118) || (!(t116 == t119))) = true
     ·
      rw [if_pos c60] at H
      have c60b0 : (!(t115 == t118) || (!(t116 == t119))) = true := c60
      clear c60
      (first | rw [c60b0] | (simp only [i64_w, i32_w]; rw [c60b0]) | skip)
      have H' := Aside0.mk H
      clear H
      have hnb61 := NB106_101.out
      have hnc61 := NB101_106.out
      have hnb62 := NB106_102.out
      have hnc62 := NB102_106.out
      have hnb63 := NB106_110.out
      have hnc63 := NB110_106.out
      have hcz64_0 : w57.cell? ⟨gb106, 0, none⟩ = some (.int .u64 t115) := (blk_cell BK106.out 0).trans rfl
      have hcz64_1 : w57.cell? ⟨gb106, 1, none⟩ = some (.int .u64 t116) := (blk_cell BK106.out 1).trans rfl
      have hfz64_0 := blk_frozen BK106.out 0
      have hfz64_1 := blk_frozen BK106.out 1
      have hnb65 := NB110_101.out
      have hnc65 := NB101_110.out
      have hnb66 := NB110_102.out
      have hnc66 := NB102_110.out
      have hcz67_0 : w57.cell? ⟨gb110, 0, none⟩ = some (.int .u64 t107) := (blk_cell BK110.out 0).trans rfl
      have hcz67_1 : w57.cell? ⟨gb110, 1, none⟩ = some (.int .u64 t108) := (blk_cell BK110.out 1).trans rfl
      have hfz67_0 := blk_frozen BK110.out 0
      have hfz67_1 := blk_frozen BK110.out 1
      go_wp2
      go_meet
      case rel => exact ⟨_, (true), (by first | rfl | (simp; done) | (simp [*]; done)), H', ⟨by have := HJ8.out; first | omega | exact Nat.le_refl _⟩, ⟨of_lies⟩, ⟨of_lies⟩, ⟨of_lies⟩, ⟨of_lies⟩, ⟨low HB⟩⟩
     ·
      rw [if_neg c60] at H
      have c60b0 : (!(t115 == t118) || (!(t116 == t119))) = false := by simpa using c60
      clear c60
      (first | rw [c60b0] | (simp only [i64_w, i32_w]; rw [c60b0]) | skip)
      have H' := Aside0.mk H
      clear H
      have hnb68 := NB106_101.out
      have hnc68 := NB101_106.out
      have hnb69 := NB106_102.out
      have hnc69 := NB102_106.out
      have hnb70 := NB106_110.out
      have hnc70 := NB110_106.out
      have hcz71_0 : w57.cell? ⟨gb106, 0, none⟩ = some (.int .u64 t115) := (blk_cell BK106.out 0).trans rfl
      have hcz71_1 : w57.cell? ⟨gb106, 1, none⟩ = some (.int .u64 t116) := (blk_cell BK106.out 1).trans rfl
      have hfz71_0 := blk_frozen BK106.out 0
      have hfz71_1 := blk_frozen BK106.out 1
      have hnb72 := NB110_101.out
      have hnc72 := NB101_110.out
      have hnb73 := NB110_102.out
      have hnc73 := NB102_110.out
      have hcz74_0 : w57.cell? ⟨gb110, 0, none⟩ = some (.int .u64 t107) := (blk_cell BK110.out 0).trans rfl
      have hcz74_1 : w57.cell? ⟨gb110, 1, none⟩ = some (.int .u64 t108) := (blk_cell BK110.out 1).trans rfl
      have hfz74_0 := blk_frozen BK110.out 0
      have hfz74_1 := blk_frozen BK110.out 1
      go_wp2
      go_meet
      case rel => exact ⟨_, ((t117 != t120)), (by first | rfl | (simp; done) | (simp [*]; done)), H', ⟨by have := HJ8.out; first | omega | exact Nat.le_refl _⟩, ⟨of_lies⟩, ⟨of_lies⟩, ⟨of_lies⟩, ⟨of_lies⟩, ⟨low HB⟩⟩
    case rest =>
     clear HC47
     try clear c2
     try clear p2
     try clear c3
     try clear c4
     try clear c5
     try clear c6
     try clear c7
     try clear c26
     try clear c26b0
     try clear c26b1
     try clear c29
     try clear c29b0
     try clear c29b1
     try clear c29b2
     try clear c38
     try clear c41
     try clear c42
     try clear c43
     try clear c44
     try clear c45
     try clear c48
     try clear c49
     try clear c50
     try clear c53
     try clear c54
     try clear c58
     try clear c60
     try clear c60b0
     try clear c61
     try clear c62
     try clear c63
     try clear c65
     try clear c66
     try clear c68
     try clear c69
     try clear c70
     try clear c72
     try clear c73
     try clear hcz51_0
     try clear hcz51_1
     try clear hcz55_0
     try clear hcz55_1
     try clear hcz56_0
     try clear hcz56_1
     try clear hcz59_0
     try clear hcz59_1
     try clear hcz64_0
     try clear hcz64_1
     try clear hcz67_0
     try clear hcz67_1
     try clear hcz71_0
     try clear hcz71_1
     try clear hcz74_0
     try clear hcz74_1
     try clear hfz51_0
     try clear hfz51_1
     try clear hfz55_0
     try clear hfz55_1
     try clear hfz56_0
     try clear hfz56_1
     try clear hfz59_0
     try clear hfz59_1
     try clear hfz64_0
     try clear hfz64_1
     try clear hfz67_0
     try clear hfz67_1
     try clear hfz71_0
     try clear hfz71_1
     try clear hfz74_0
     try clear hfz74_1
     try clear p2
     obtain ⟨kq, x74_46, rfl, HA, HJ46, BK101, BK102, BK106, BK110, HB⟩ := hcut
     cases kq with
     | zero => exact absurd HA.out (by simp [joustlaw32_OddsTells.j1])
     | succ kj46 =>
      have H := HA.out
      clear HA
      simp only [joustlaw32_OddsTells.j1] at H
      by_cases c75 : x74_46 = true
      ·
       subst c75
       have H1 : (some false) = some r := by rw [if_pos rfl] at H; exact H
       clear H
       have H := H1
       clear H1
       obtain rfl := Option.some.inj H
       go_wp2
       go_ret
       exact ⟨by first | rfl | (simp [errW_none, errW_some] <;> rfl) | (simp [*, errW_none, errW_some] <;> rfl), low HB⟩
      ·
       replace c75 := Bool.eq_false_iff.mpr c75
       subst c75
       have H1 : ((Pods2.odds_Sum.f a0_0 a0_1 a1_0 a1_1).bind fun bt121 => ((Podr.joustref32_Sum.f kj46 a0_0 a0_1 a1_0 a1_1).bind fun bt124 => (if (!(bt121.1 == bt124.1) || (!(bt121.2.1 == bt124.2.1))) = true then (joustlaw32_OddsTells.j2 kj46 a4 a5 true a0_0 a0_1 a1_0 a1_1) else (joustlaw32_OddsTells.j2 kj46 a4 a5 (bt121.2.2 != bt124.2.2) a0_0 a0_1 a1_0 a1_1)))) = some r := by rw [if_neg (show ¬ (false = true) by decide)] at H; exact H
       clear H
       have H := H1
       clear H1
       replace H := Option.bind_eq_some_iff.mp H
       obtain ⟨⟨t121, t122, t123⟩, A760, H⟩ := H
       replace H : ((Podr.joustref32_Sum.f kj46 a0_0 a0_1 a1_0 a1_1).bind fun bt124 => (if (!(t121 == bt124.1) || (!(t122 == bt124.2.1))) = true then (joustlaw32_OddsTells.j2 kj46 a4 a5 true a0_0 a0_1 a1_0 a1_1) else (joustlaw32_OddsTells.j2 kj46 a4 a5 (t123 != bt124.2.2) a0_0 a0_1 a1_0 a1_1))) = some r := H
       have A76 := Aside0.mk A760
       clear A760
       replace H := Option.bind_eq_some_iff.mp H
       obtain ⟨⟨t124, t125, t126⟩, A770, H⟩ := H
       replace H : (if (!(t121 == t124) || (!(t122 == t125))) = true then (joustlaw32_OddsTells.j2 kj46 a4 a5 true a0_0 a0_1 a1_0 a1_1) else (joustlaw32_OddsTells.j2 kj46 a4 a5 (t123 != t126) a0_0 a0_1 a1_0 a1_1)) = some r := H
       have A77 := Aside0.mk A770
       clear A770
       have HC78 := Aside0.mk H
       clear H
       have hnb79 := NB101_102.out
       have hnc79 := NB102_101.out
       have hnb80 := NB101_106.out
       have hnc80 := NB106_101.out
       have hnb81 := NB101_110.out
       have hnc81 := NB110_101.out
       have hcz82_0 : wc.cell? ⟨gb101, 0, none⟩ = some (.int .u64 a0_0) := (blk_cell BK101.out 0).trans rfl
       have hcz82_1 : wc.cell? ⟨gb101, 1, none⟩ = some (.int .u64 a0_1) := (blk_cell BK101.out 1).trans rfl
       have hfz82_0 := blk_frozen BK101.out 0
       have hfz82_1 := blk_frozen BK101.out 1
       have hnb83 := NB102_106.out
       have hnc83 := NB106_102.out
       have hnb84 := NB102_110.out
       have hnc84 := NB110_102.out
       have hcz85_0 : wc.cell? ⟨gb102, 0, none⟩ = some (.int .u64 a1_0) := (blk_cell BK102.out 0).trans rfl
       have hcz85_1 : wc.cell? ⟨gb102, 1, none⟩ = some (.int .u64 a1_1) := (blk_cell BK102.out 1).trans rfl
       have hfz85_0 := blk_frozen BK102.out 0
       have hfz85_1 := blk_frozen BK102.out 1
       go_upto_region 11 with (first | ((with_reducible refine gate_callee (f := 36) rfl ?_); refine goesL_ (some 78) rfl rfl Tryd.func36 (by kernel_rfl) rfl #[.agg #[.int .u64 a0_0, .int .u64 a0_1], .agg #[.int .u64 a1_0, .int .u64 a1_1]] rfl (by (try simp only [List.map_toArray, List.map_cons, List.map_nil]); first | done | rfl | (simp only [List.length_drop, List.length_take]; rfl)) ?_; (with_reducible refine (Pods2.odds_Sum.calls a0_0 a0_1 a1_0 a1_1 t121 t122 t123 _ A76.out).mono ?_); rintro e w86 ⟨rfl, hb⟩; refine ⟨_, rfl, ?_⟩; have n0_ := Aside0.mk (blk_below (g := gb101) (o := .cells #[.int .u64 a0_0, .int .u64 a0_1] 47 (0, 0)) of_lies hb); have n1_ := Aside0.mk (blk_below (g := gb102) (o := .cells #[.int .u64 a1_0, .int .u64 a1_1] 47 (0, 0)) of_lies hb); have n2_ := Aside0.mk (blk_below (g := gb106) (o := .cells #[.int .u64 t115, .int .u64 t116] 47 (0, 0)) of_lies hb); have n3_ := Aside0.mk (blk_below (g := gb110) (o := .cells #[.int .u64 t118, .int .u64 t119] 47 (0, 0)) of_lies hb); have n4_ := Aside0.mk (below_step (low HB) hb); clear BK101; clear BK102; clear BK106; clear BK110; clear HB; have BK101 := n0_; have BK102 := n1_; have BK106 := n2_; have BK110 := n3_; have HB := n4_; clear n0_ n1_ n2_ n3_ n4_; (try clear hb); (try clear hb2); (try clear hk); (try clear hi); have hnb87 := NB106_110.out; have hnc87 := NB110_106.out; obtain ⟨hcz88_0, hcz88_1, hfz88_0, hfz88_1⟩ := cells2 BK106.out; obtain ⟨hcz89_0, hcz89_1, hfz89_0, hfz89_1⟩ := cells2 BK101.out; obtain ⟨hcz90_0, hcz90_1, hfz90_0, hfz90_1⟩ := cells2 BK102.out) | ((with_reducible refine gate_callee (f := 46) rfl ?_); refine goesL_ (some 84) rfl rfl Tryd.func46 (by kernel_rfl) rfl #[.agg #[.int .u64 a0_0, .int .u64 a0_1], .agg #[.int .u64 a1_0, .int .u64 a1_1]] rfl (by (try simp only [List.map_toArray, List.map_cons, List.map_nil]); first | done | rfl | (simp only [List.length_drop, List.length_take]; rfl)) ?_; (with_reducible refine (Podr.joustref32_Sum.calls kj46 a0_0 a0_1 a1_0 a1_1 t124 t125 t126 _ A77.out).mono ?_); rintro e w91 ⟨rfl, hb⟩; refine ⟨_, rfl, ?_⟩; have n0_ := Aside0.mk (blk_below (g := gb101) (o := .cells #[.int .u64 a0_0, .int .u64 a0_1] 47 (0, 0)) of_lies hb); have n1_ := Aside0.mk (blk_below (g := gb102) (o := .cells #[.int .u64 a1_0, .int .u64 a1_1] 47 (0, 0)) of_lies hb); have n2_ := Aside0.mk (blk_below (g := gb106) (o := .cells #[.int .u64 t121, .int .u64 t122] 47 (0, 0)) of_lies hb); have n3_ := Aside0.mk (blk_below (g := gb110) (o := .cells #[.int .u64 t118, .int .u64 t119] 47 (0, 0)) of_lies hb); have n4_ := Aside0.mk (below_step (low HB) hb); clear BK101; clear BK102; clear BK106; clear BK110; clear HB; have BK101 := n0_; have BK102 := n1_; have BK106 := n2_; have BK110 := n3_; have HB := n4_; clear n0_ n1_ n2_ n3_ n4_; (try clear hb); (try clear hb2); (try clear hk); (try clear hi); obtain ⟨hcz92_0, hcz92_1, hfz92_0, hfz92_1⟩ := cells2 BK110.out))
       (try simp only [Act.put, List.setIfInBounds_toArray, List.set_cons_zero, List.set_cons_succ])
       go_cut [94] (fun v94 wc => ∃ (kq : Nat) (x94_77 : Bool), v94 = .bool x94_77 ∧ Aside0 (joustlaw32_OddsTells.j2 kq a4 a5 x94_77 a0_0 a0_1 a1_0 a1_1 = some r) ∧ Aside0 (kq ≤ kj46) ∧ Aside0 (wc.heap[gb101]? = some (.cells #[.int .u64 a0_0, .int .u64 a0_1] 47 (0, 0))) ∧ Aside0 (wc.heap[gb102]? = some (.cells #[.int .u64 a1_0, .int .u64 a1_1] 47 (0, 0))) ∧ Aside0 (wc.heap[gb106]? = some (.cells #[.int .u64 t121, .int .u64 t122] 47 (0, 0))) ∧ Aside0 (wc.heap[gb110]? = some (.cells #[.int .u64 t124, .int .u64 t125] 47 (0, 0))) ∧ Aside0 (Below w.heap.size w wc))
       case first =>
        have H := HC78.out
        clear HC78
        by_cases c93 : (!(t121 == t124) || (!(t122 == t125))) = true
        ·
         rw [if_pos c93] at H
         have c93b0 : (!(t121 == t124) || (!(t122 == t125))) = true := c93
         clear c93
         (first | rw [c93b0] | (simp only [i64_w, i32_w]; rw [c93b0]) | skip)
         have H' := Aside0.mk H
         clear H
         have hnb94 := NB106_101.out
         have hnc94 := NB101_106.out
         have hnb95 := NB106_102.out
         have hnc95 := NB102_106.out
         have hnb96 := NB106_110.out
         have hnc96 := NB110_106.out
         have hcz97_0 : w91.cell? ⟨gb106, 0, none⟩ = some (.int .u64 t121) := (blk_cell BK106.out 0).trans rfl
         have hcz97_1 : w91.cell? ⟨gb106, 1, none⟩ = some (.int .u64 t122) := (blk_cell BK106.out 1).trans rfl
         have hfz97_0 := blk_frozen BK106.out 0
         have hfz97_1 := blk_frozen BK106.out 1
         have hnb98 := NB110_101.out
         have hnc98 := NB101_110.out
         have hnb99 := NB110_102.out
         have hnc99 := NB102_110.out
         have hcz100_0 : w91.cell? ⟨gb110, 0, none⟩ = some (.int .u64 t118) := (blk_cell BK110.out 0).trans rfl
         have hcz100_1 : w91.cell? ⟨gb110, 1, none⟩ = some (.int .u64 t119) := (blk_cell BK110.out 1).trans rfl
         have hfz100_0 := blk_frozen BK110.out 0
         have hfz100_1 := blk_frozen BK110.out 1
         go_wp2
         go_meet
         case rel => exact ⟨_, (true), (by first | rfl | (simp; done) | (simp [*]; done)), H', ⟨by have := HJ8.out; have := HJ46.out; first | omega | exact Nat.le_refl _⟩, ⟨of_lies⟩, ⟨of_lies⟩, ⟨of_lies⟩, ⟨of_lies⟩, ⟨low HB⟩⟩
        ·
         rw [if_neg c93] at H
         have c93b0 : (!(t121 == t124) || (!(t122 == t125))) = false := by simpa using c93
         clear c93
         (first | rw [c93b0] | (simp only [i64_w, i32_w]; rw [c93b0]) | skip)
         have H' := Aside0.mk H
         clear H
         have hnb101 := NB106_101.out
         have hnc101 := NB101_106.out
         have hnb102 := NB106_102.out
         have hnc102 := NB102_106.out
         have hnb103 := NB106_110.out
         have hnc103 := NB110_106.out
         have hcz104_0 : w91.cell? ⟨gb106, 0, none⟩ = some (.int .u64 t121) := (blk_cell BK106.out 0).trans rfl
         have hcz104_1 : w91.cell? ⟨gb106, 1, none⟩ = some (.int .u64 t122) := (blk_cell BK106.out 1).trans rfl
         have hfz104_0 := blk_frozen BK106.out 0
         have hfz104_1 := blk_frozen BK106.out 1
         have hnb105 := NB110_101.out
         have hnc105 := NB101_110.out
         have hnb106 := NB110_102.out
         have hnc106 := NB102_110.out
         have hcz107_0 : w91.cell? ⟨gb110, 0, none⟩ = some (.int .u64 t118) := (blk_cell BK110.out 0).trans rfl
         have hcz107_1 : w91.cell? ⟨gb110, 1, none⟩ = some (.int .u64 t119) := (blk_cell BK110.out 1).trans rfl
         have hfz107_0 := blk_frozen BK110.out 0
         have hfz107_1 := blk_frozen BK110.out 1
         go_wp2
         go_meet
         case rel => exact ⟨_, ((t123 != t126)), (by first | rfl | (simp; done) | (simp [*]; done)), H', ⟨by have := HJ8.out; have := HJ46.out; first | omega | exact Nat.le_refl _⟩, ⟨of_lies⟩, ⟨of_lies⟩, ⟨of_lies⟩, ⟨of_lies⟩, ⟨low HB⟩⟩
       case rest =>
        clear HC78
        try clear c1
        try clear c2
        try clear p2
        try clear c3
        try clear c4
        try clear c5
        try clear c6
        try clear c7
        try clear c8
        try clear c9
        try clear c10
        try clear c26
        try clear c26b0
        try clear c26b1
        try clear c29
        try clear c29b0
        try clear c29b1
        try clear c29b2
        try clear c36
        try clear c38
        try clear c41
        try clear c42
        try clear c43
        try clear c44
        try clear c45
        try clear c46
        try clear c48
        try clear c49
        try clear c50
        try clear c53
        try clear c54
        try clear c58
        try clear c60
        try clear c60b0
        try clear c61
        try clear c62
        try clear c63
        try clear c65
        try clear c66
        try clear c68
        try clear c69
        try clear c70
        try clear c72
        try clear c73
        try clear c75
        try clear c79
        try clear c80
        try clear c81
        try clear c83
        try clear c84
        try clear c87
        try clear c93
        try clear c93b0
        try clear c94
        try clear c95
        try clear c96
        try clear c98
        try clear c99
        try clear c101
        try clear c102
        try clear c103
        try clear c105
        try clear c106
        try clear hcz100_0
        try clear hcz100_1
        try clear hcz104_0
        try clear hcz104_1
        try clear hcz107_0
        try clear hcz107_1
        try clear hcz51_0
        try clear hcz51_1
        try clear hcz55_0
        try clear hcz55_1
        try clear hcz56_0
        try clear hcz56_1
        try clear hcz59_0
        try clear hcz59_1
        try clear hcz64_0
        try clear hcz64_1
        try clear hcz67_0
        try clear hcz67_1
        try clear hcz71_0
        try clear hcz71_1
        try clear hcz74_0
        try clear hcz74_1
        try clear hcz82_0
        try clear hcz82_1
        try clear hcz85_0
        try clear hcz85_1
        try clear hcz88_0
        try clear hcz88_1
        try clear hcz89_0
        try clear hcz89_1
        try clear hcz90_0
        try clear hcz90_1
        try clear hcz92_0
        try clear hcz92_1
        try clear hcz97_0
        try clear hcz97_1
        try clear hfz100_0
        try clear hfz100_1
        try clear hfz104_0
        try clear hfz104_1
        try clear hfz107_0
        try clear hfz107_1
        try clear hfz51_0
        try clear hfz51_1
        try clear hfz55_0
        try clear hfz55_1
        try clear hfz56_0
        try clear hfz56_1
        try clear hfz59_0
        try clear hfz59_1
        try clear hfz64_0
        try clear hfz64_1
        try clear hfz67_0
        try clear hfz67_1
        try clear hfz71_0
        try clear hfz71_1
        try clear hfz74_0
        try clear hfz74_1
        try clear hfz82_0
        try clear hfz82_1
        try clear hfz85_0
        try clear hfz85_1
        try clear hfz88_0
        try clear hfz88_1
        try clear hfz89_0
        try clear hfz89_1
        try clear hfz90_0
        try clear hfz90_1
        try clear hfz92_0
        try clear hfz92_1
        try clear hfz97_0
        try clear hfz97_1
        try clear p2
        obtain ⟨kq, x94_77, rfl, HA, HJ77, BK101, BK102, BK106, BK110, HB⟩ := hcut
        cases kq with
        | zero => exact absurd HA.out (by simp [joustlaw32_OddsTells.j2])
        | succ kj77 =>
         have H := HA.out
         clear HA
         simp only [joustlaw32_OddsTells.j2] at H
         by_cases c108 : x94_77 = true
         ·
          subst c108
          have H1 : (some false) = some r := by rw [if_pos rfl] at H; exact H
          clear H
          have H := H1
          clear H1
          obtain rfl := Option.some.inj H
          go_wp2
          go_ret
          exact ⟨by first | rfl | (simp [errW_none, errW_some] <;> rfl) | (simp [*, errW_none, errW_some] <;> rfl), low HB⟩
         ·
          replace c108 := Bool.eq_false_iff.mpr c108
          subst c108
          have H1 : ((Podd.odds_Compare.f kj77 a0_0 a0_1 a1_0 a1_1).bind fun bt127 => ((Podr.joustref32_Compare.f kj77 a0_0 a0_1 a1_0 a1_1).bind fun bt129 => ((Podd.odds_Choose.f kj77 a4 a5).bind fun bt131 => ((Podr.joustref32_Choose.f kj77 a4 a5).bind fun bt133 => (if bt127.1 = bt129.1 then (if bt127.2 = bt129.2 then (if bt131.1 = bt133.1 then (if bt131.2 = bt133.2 then ((Podd.lives.f).bind fun t135 => (some t135)) else (some false)) else (some false)) else (some false)) else (some false)))))) = some r := by rw [if_neg (show ¬ (false = true) by decide)] at H; exact H
          clear H
          have H := H1
          clear H1
          replace H := Option.bind_eq_some_iff.mp H
          obtain ⟨⟨t127, t128⟩, A1090, H⟩ := H
          replace H : ((Podr.joustref32_Compare.f kj77 a0_0 a0_1 a1_0 a1_1).bind fun bt129 => ((Podd.odds_Choose.f kj77 a4 a5).bind fun bt131 => ((Podr.joustref32_Choose.f kj77 a4 a5).bind fun bt133 => (if t127 = bt129.1 then (if t128 = bt129.2 then (if bt131.1 = bt133.1 then (if bt131.2 = bt133.2 then ((Podd.lives.f).bind fun t135 => (some t135)) else (some false)) else (some false)) else (some false)) else (some false))))) = some r := H
          have A109 := Aside0.mk A1090
          clear A1090
          replace H := Option.bind_eq_some_iff.mp H
          obtain ⟨⟨t129, t130⟩, A1100, H⟩ := H
          replace H : ((Podd.odds_Choose.f kj77 a4 a5).bind fun bt131 => ((Podr.joustref32_Choose.f kj77 a4 a5).bind fun bt133 => (if t127 = t129 then (if t128 = t130 then (if bt131.1 = bt133.1 then (if bt131.2 = bt133.2 then ((Podd.lives.f).bind fun t135 => (some t135)) else (some false)) else (some false)) else (some false)) else (some false)))) = some r := H
          have A110 := Aside0.mk A1100
          clear A1100
          replace H := Option.bind_eq_some_iff.mp H
          obtain ⟨⟨t131, t132⟩, A1110, H⟩ := H
          replace H : ((Podr.joustref32_Choose.f kj77 a4 a5).bind fun bt133 => (if t127 = t129 then (if t128 = t130 then (if t131 = bt133.1 then (if t132 = bt133.2 then ((Podd.lives.f).bind fun t135 => (some t135)) else (some false)) else (some false)) else (some false)) else (some false))) = some r := H
          have A111 := Aside0.mk A1110
          clear A1110
          replace H := Option.bind_eq_some_iff.mp H
          obtain ⟨⟨t133, t134⟩, A1120, H⟩ := H
          replace H : (if t127 = t129 then (if t128 = t130 then (if t131 = t133 then (if t132 = t134 then ((Podd.lives.f).bind fun t135 => (some t135)) else (some false)) else (some false)) else (some false)) else (some false)) = some r := H
          have A112 := Aside0.mk A1120
          clear A1120
          by_cases c113 : t127 = t129
          ·
           rw [if_pos c113] at H
           have c113b0 : (t127 == t129) = true := beq_iff_eq.mpr c113
           have c113b1 : (t127 != t129) = false := bne_eq_false_iff_eq.mpr c113
           clear c113
           by_cases c114 : t128 = t130
           ·
            rw [if_pos c114] at H
            have c114b0 : (t128 == t130) = true := beq_iff_eq.mpr c114
            have c114b1 : (t128 != t130) = false := bne_eq_false_iff_eq.mpr c114
            clear c114
            by_cases c115 : t131 = t133
            ·
             rw [if_pos c115] at H
             have c115b0 : (t131 == t133) = true := beq_iff_eq.mpr c115
             have c115b1 : (t131 != t133) = false := bne_eq_false_iff_eq.mpr c115
             clear c115
             by_cases c116 : t132 = t134
             ·
              rw [if_pos c116] at H
              have c116b0 : (t132 == t134) = true := beq_iff_eq.mpr c116
              have c116b1 : (t132 != t134) = false := bne_eq_false_iff_eq.mpr c116
              clear c116
              replace H := Option.bind_eq_some_iff.mp H
              obtain ⟨t135, A1170, H⟩ := H
              replace H : (some t135) = some r := H
              have A117 := Aside0.mk A1170
              clear A1170
              obtain rfl := Option.some.inj H
              have hnb118 := NB101_102.out
              have hnc118 := NB102_101.out
              have hnb119 := NB101_106.out
              have hnc119 := NB106_101.out
              have hnb120 := NB101_110.out
              have hnc120 := NB110_101.out
              have hcz121_0 : wc.cell? ⟨gb101, 0, none⟩ = some (.int .u64 a0_0) := (blk_cell BK101.out 0).trans rfl
              have hcz121_1 : wc.cell? ⟨gb101, 1, none⟩ = some (.int .u64 a0_1) := (blk_cell BK101.out 1).trans rfl
              have hfz121_0 := blk_frozen BK101.out 0
              have hfz121_1 := blk_frozen BK101.out 1
              have hnb122 := NB102_106.out
              have hnc122 := NB106_102.out
              have hnb123 := NB102_110.out
              have hnc123 := NB110_102.out
              have hcz124_0 : wc.cell? ⟨gb102, 0, none⟩ = some (.int .u64 a1_0) := (blk_cell BK102.out 0).trans rfl
              have hcz124_1 : wc.cell? ⟨gb102, 1, none⟩ = some (.int .u64 a1_1) := (blk_cell BK102.out 1).trans rfl
              have hfz124_0 := blk_frozen BK102.out 0
              have hfz124_1 := blk_frozen BK102.out 1
              go_wp2_with (first | ((with_reducible refine gate_callee (f := 37) rfl ?_); refine goesL_ (some 98) rfl rfl Tryd.func37 (by kernel_rfl) rfl #[.agg #[.int .u64 a0_0, .int .u64 a0_1], .agg #[.int .u64 a1_0, .int .u64 a1_1]] rfl (by (try simp only [List.map_toArray, List.map_cons, List.map_nil]); first | done | rfl | (simp only [List.length_drop, List.length_take]; rfl)) ?_; (with_reducible refine (Podd.odds_Compare.calls kj77 a0_0 a0_1 a1_0 a1_1 t127 t128 _ A109.out).mono ?_); rintro e w125 ⟨rfl, hb⟩; refine ⟨_, rfl, ?_⟩; have n0_ := Aside0.mk (blk_below (g := gb101) (o := .cells #[.int .u64 a0_0, .int .u64 a0_1] 47 (0, 0)) of_lies hb); have n1_ := Aside0.mk (blk_below (g := gb102) (o := .cells #[.int .u64 a1_0, .int .u64 a1_1] 47 (0, 0)) of_lies hb); have n2_ := Aside0.mk (blk_below (g := gb106) (o := .cells #[.int .u64 t121, .int .u64 t122] 47 (0, 0)) of_lies hb); have n3_ := Aside0.mk (blk_below (g := gb110) (o := .cells #[.int .u64 t124, .int .u64 t125] 47 (0, 0)) of_lies hb); have n4_ := Aside0.mk (below_step (low HB) hb); clear BK101; clear BK102; clear BK106; clear BK110; clear HB; have BK101 := n0_; have BK102 := n1_; have BK106 := n2_; have BK110 := n3_; have HB := n4_; clear n0_ n1_ n2_ n3_ n4_; (try clear hb); (try clear hb2); (try clear hk); (try clear hi); obtain ⟨hcz126_0, hcz126_1, hfz126_0, hfz126_1⟩ := cells2 BK101.out; obtain ⟨hcz127_0, hcz127_1, hfz127_0, hfz127_1⟩ := cells2 BK102.out) | ((with_reducible refine gate_callee (f := 47) rfl ?_); refine goesL_ (some 104) rfl rfl Tryd.func47 (by kernel_rfl) rfl #[.agg #[.int .u64 a0_0, .int .u64 a0_1], .agg #[.int .u64 a1_0, .int .u64 a1_1]] rfl (by (try simp only [List.map_toArray, List.map_cons, List.map_nil]); first | done | rfl | (simp only [List.length_drop, List.length_take]; rfl)) ?_; (with_reducible refine (Podr.joustref32_Compare.calls kj77 a0_0 a0_1 a1_0 a1_1 t129 t130 _ A110.out).mono ?_); rintro e w128 ⟨rfl, hb⟩; refine ⟨_, rfl, ?_⟩; have n0_ := Aside0.mk (blk_below (g := gb101) (o := .cells #[.int .u64 a0_0, .int .u64 a0_1] 47 (0, 0)) of_lies hb); have n1_ := Aside0.mk (blk_below (g := gb102) (o := .cells #[.int .u64 a1_0, .int .u64 a1_1] 47 (0, 0)) of_lies hb); have n2_ := Aside0.mk (blk_below (g := gb106) (o := .cells #[.int .u64 t121, .int .u64 t122] 47 (0, 0)) of_lies hb); have n3_ := Aside0.mk (blk_below (g := gb110) (o := .cells #[.int .u64 t124, .int .u64 t125] 47 (0, 0)) of_lies hb); have n4_ := Aside0.mk (below_step (low HB) hb); clear BK101; clear BK102; clear BK106; clear BK110; clear HB; have BK101 := n0_; have BK102 := n1_; have BK106 := n2_; have BK110 := n3_; have HB := n4_; clear n0_ n1_ n2_ n3_ n4_; (try clear hb); (try clear hb2); (try clear hk); (try clear hi)) | ((with_reducible refine gate_callee (f := 35) rfl ?_); refine goesL_ (some 110) rfl rfl Tryd.func35 (by kernel_rfl) rfl #[.int .i64 a4, .int .i64 a5] rfl (by (try simp only [List.map_toArray, List.map_cons, List.map_nil]); first | done | rfl | (simp only [List.length_drop, List.length_take]; rfl)) ?_; (with_reducible refine (Podd.odds_Choose.calls kj77 a4 a5 t131 t132 _ A111.out).mono ?_); rintro e w129 ⟨rfl, hb⟩; refine ⟨_, rfl, ?_⟩; have n0_ := Aside0.mk (blk_below (g := gb101) (o := .cells #[.int .u64 a0_0, .int .u64 a0_1] 47 (0, 0)) of_lies hb); have n1_ := Aside0.mk (blk_below (g := gb102) (o := .cells #[.int .u64 a1_0, .int .u64 a1_1] 47 (0, 0)) of_lies hb); have n2_ := Aside0.mk (blk_below (g := gb106) (o := .cells #[.int .u64 t121, .int .u64 t122] 47 (0, 0)) of_lies hb); have n3_ := Aside0.mk (blk_below (g := gb110) (o := .cells #[.int .u64 t124, .int .u64 t125] 47 (0, 0)) of_lies hb); have n4_ := Aside0.mk (below_step (low HB) hb); clear BK101; clear BK102; clear BK106; clear BK110; clear HB; have BK101 := n0_; have BK102 := n1_; have BK106 := n2_; have BK110 := n3_; have HB := n4_; clear n0_ n1_ n2_ n3_ n4_; (try clear hb); (try clear hb2); (try clear hk); (try clear hi)) | ((with_reducible refine gate_callee (f := 48) rfl ?_); refine goesL_ (some 116) rfl rfl Tryd.func48 (by kernel_rfl) rfl #[.int .i64 a4, .int .i64 a5] rfl (by (try simp only [List.map_toArray, List.map_cons, List.map_nil]); first | done | rfl | (simp only [List.length_drop, List.length_take]; rfl)) ?_; (with_reducible refine (Podr.joustref32_Choose.calls kj77 a4 a5 t133 t134 _ A112.out).mono ?_); rintro e w130 ⟨rfl, hb⟩; refine ⟨_, rfl, ?_⟩; have n0_ := Aside0.mk (blk_below (g := gb101) (o := .cells #[.int .u64 a0_0, .int .u64 a0_1] 47 (0, 0)) of_lies hb); have n1_ := Aside0.mk (blk_below (g := gb102) (o := .cells #[.int .u64 a1_0, .int .u64 a1_1] 47 (0, 0)) of_lies hb); have n2_ := Aside0.mk (blk_below (g := gb106) (o := .cells #[.int .u64 t121, .int .u64 t122] 47 (0, 0)) of_lies hb); have n3_ := Aside0.mk (blk_below (g := gb110) (o := .cells #[.int .u64 t124, .int .u64 t125] 47 (0, 0)) of_lies hb); have n4_ := Aside0.mk (below_step (low HB) hb); clear BK101; clear BK102; clear BK106; clear BK110; clear HB; have BK101 := n0_; have BK102 := n1_; have BK106 := n2_; have BK110 := n3_; have HB := n4_; clear n0_ n1_ n2_ n3_ n4_; (try clear hb); (try clear hb2); (try clear hk); (try clear hi)) | (go_at_call 34; (with_reducible refine (Podd.lives.calls  t135 _ ?side1 A117.out).mono ?_); (case side1 => repeat (first | exact (GoodW.below HGW.out (low HB)) | (with_reducible refine GoodW.alloc ?_ _) | (with_reducible refine GoodW.drewN ?_ _) | (with_reducible refine GoodW.drew ?_))); rintro e w131 ⟨rfl, hb⟩; have n0_ := Aside0.mk (blk_below (g := gb101) (o := .cells #[.int .u64 a0_0, .int .u64 a0_1] 47 (0, 0)) of_lies hb); have n1_ := Aside0.mk (blk_below (g := gb102) (o := .cells #[.int .u64 a1_0, .int .u64 a1_1] 47 (0, 0)) of_lies hb); have n2_ := Aside0.mk (blk_below (g := gb106) (o := .cells #[.int .u64 t121, .int .u64 t122] 47 (0, 0)) of_lies hb); have n3_ := Aside0.mk (blk_below (g := gb110) (o := .cells #[.int .u64 t124, .int .u64 t125] 47 (0, 0)) of_lies hb); have n4_ := Aside0.mk (below_step (low HB) hb); clear BK101; clear BK102; clear BK106; clear BK110; clear HB; have BK101 := n0_; have BK102 := n1_; have BK106 := n2_; have BK110 := n3_; have HB := n4_; clear n0_ n1_ n2_ n3_ n4_; (try clear hb); (try clear hb2); (try clear hk); (try clear hi)))
              go_ret
              exact ⟨by first | rfl | (simp [errW_none, errW_some] <;> rfl) | (simp [*, errW_none, errW_some] <;> rfl), low HB⟩
             ·
              rw [if_neg c116] at H
              have c116b0 : (t132 == t134) = false := beq_eq_false_iff_ne.mpr c116
              have c116b1 : (t132 != t134) = true := bne_iff_ne.mpr c116
              obtain rfl := Option.some.inj H
              have hnb132 := NB101_102.out
              have hnc132 := NB102_101.out
              have hnb133 := NB101_106.out
              have hnc133 := NB106_101.out
              have hnb134 := NB101_110.out
              have hnc134 := NB110_101.out
              have hcz135_0 : wc.cell? ⟨gb101, 0, none⟩ = some (.int .u64 a0_0) := (blk_cell BK101.out 0).trans rfl
              have hcz135_1 : wc.cell? ⟨gb101, 1, none⟩ = some (.int .u64 a0_1) := (blk_cell BK101.out 1).trans rfl
              have hfz135_0 := blk_frozen BK101.out 0
              have hfz135_1 := blk_frozen BK101.out 1
              have hnb136 := NB102_106.out
              have hnc136 := NB106_102.out
              have hnb137 := NB102_110.out
              have hnc137 := NB110_102.out
              have hcz138_0 : wc.cell? ⟨gb102, 0, none⟩ = some (.int .u64 a1_0) := (blk_cell BK102.out 0).trans rfl
              have hcz138_1 : wc.cell? ⟨gb102, 1, none⟩ = some (.int .u64 a1_1) := (blk_cell BK102.out 1).trans rfl
              have hfz138_0 := blk_frozen BK102.out 0
              have hfz138_1 := blk_frozen BK102.out 1
              go_wp2_with (first | ((with_reducible refine gate_callee (f := 37) rfl ?_); refine goesL_ (some 98) rfl rfl Tryd.func37 (by kernel_rfl) rfl #[.agg #[.int .u64 a0_0, .int .u64 a0_1], .agg #[.int .u64 a1_0, .int .u64 a1_1]] rfl (by (try simp only [List.map_toArray, List.map_cons, List.map_nil]); first | done | rfl | (simp only [List.length_drop, List.length_take]; rfl)) ?_; (with_reducible refine (Podd.odds_Compare.calls kj77 a0_0 a0_1 a1_0 a1_1 t127 t128 _ A109.out).mono ?_); rintro e w139 ⟨rfl, hb⟩; refine ⟨_, rfl, ?_⟩; have n0_ := Aside0.mk (blk_below (g := gb101) (o := .cells #[.int .u64 a0_0, .int .u64 a0_1] 47 (0, 0)) of_lies hb); have n1_ := Aside0.mk (blk_below (g := gb102) (o := .cells #[.int .u64 a1_0, .int .u64 a1_1] 47 (0, 0)) of_lies hb); have n2_ := Aside0.mk (blk_below (g := gb106) (o := .cells #[.int .u64 t121, .int .u64 t122] 47 (0, 0)) of_lies hb); have n3_ := Aside0.mk (blk_below (g := gb110) (o := .cells #[.int .u64 t124, .int .u64 t125] 47 (0, 0)) of_lies hb); have n4_ := Aside0.mk (below_step (low HB) hb); clear BK101; clear BK102; clear BK106; clear BK110; clear HB; have BK101 := n0_; have BK102 := n1_; have BK106 := n2_; have BK110 := n3_; have HB := n4_; clear n0_ n1_ n2_ n3_ n4_; (try clear hb); (try clear hb2); (try clear hk); (try clear hi); obtain ⟨hcz140_0, hcz140_1, hfz140_0, hfz140_1⟩ := cells2 BK101.out; obtain ⟨hcz141_0, hcz141_1, hfz141_0, hfz141_1⟩ := cells2 BK102.out) | ((with_reducible refine gate_callee (f := 47) rfl ?_); refine goesL_ (some 104) rfl rfl Tryd.func47 (by kernel_rfl) rfl #[.agg #[.int .u64 a0_0, .int .u64 a0_1], .agg #[.int .u64 a1_0, .int .u64 a1_1]] rfl (by (try simp only [List.map_toArray, List.map_cons, List.map_nil]); first | done | rfl | (simp only [List.length_drop, List.length_take]; rfl)) ?_; (with_reducible refine (Podr.joustref32_Compare.calls kj77 a0_0 a0_1 a1_0 a1_1 t129 t130 _ A110.out).mono ?_); rintro e w142 ⟨rfl, hb⟩; refine ⟨_, rfl, ?_⟩; have n0_ := Aside0.mk (blk_below (g := gb101) (o := .cells #[.int .u64 a0_0, .int .u64 a0_1] 47 (0, 0)) of_lies hb); have n1_ := Aside0.mk (blk_below (g := gb102) (o := .cells #[.int .u64 a1_0, .int .u64 a1_1] 47 (0, 0)) of_lies hb); have n2_ := Aside0.mk (blk_below (g := gb106) (o := .cells #[.int .u64 t121, .int .u64 t122] 47 (0, 0)) of_lies hb); have n3_ := Aside0.mk (blk_below (g := gb110) (o := .cells #[.int .u64 t124, .int .u64 t125] 47 (0, 0)) of_lies hb); have n4_ := Aside0.mk (below_step (low HB) hb); clear BK101; clear BK102; clear BK106; clear BK110; clear HB; have BK101 := n0_; have BK102 := n1_; have BK106 := n2_; have BK110 := n3_; have HB := n4_; clear n0_ n1_ n2_ n3_ n4_; (try clear hb); (try clear hb2); (try clear hk); (try clear hi)) | ((with_reducible refine gate_callee (f := 35) rfl ?_); refine goesL_ (some 110) rfl rfl Tryd.func35 (by kernel_rfl) rfl #[.int .i64 a4, .int .i64 a5] rfl (by (try simp only [List.map_toArray, List.map_cons, List.map_nil]); first | done | rfl | (simp only [List.length_drop, List.length_take]; rfl)) ?_; (with_reducible refine (Podd.odds_Choose.calls kj77 a4 a5 t131 t132 _ A111.out).mono ?_); rintro e w143 ⟨rfl, hb⟩; refine ⟨_, rfl, ?_⟩; have n0_ := Aside0.mk (blk_below (g := gb101) (o := .cells #[.int .u64 a0_0, .int .u64 a0_1] 47 (0, 0)) of_lies hb); have n1_ := Aside0.mk (blk_below (g := gb102) (o := .cells #[.int .u64 a1_0, .int .u64 a1_1] 47 (0, 0)) of_lies hb); have n2_ := Aside0.mk (blk_below (g := gb106) (o := .cells #[.int .u64 t121, .int .u64 t122] 47 (0, 0)) of_lies hb); have n3_ := Aside0.mk (blk_below (g := gb110) (o := .cells #[.int .u64 t124, .int .u64 t125] 47 (0, 0)) of_lies hb); have n4_ := Aside0.mk (below_step (low HB) hb); clear BK101; clear BK102; clear BK106; clear BK110; clear HB; have BK101 := n0_; have BK102 := n1_; have BK106 := n2_; have BK110 := n3_; have HB := n4_; clear n0_ n1_ n2_ n3_ n4_; (try clear hb); (try clear hb2); (try clear hk); (try clear hi)) | ((with_reducible refine gate_callee (f := 48) rfl ?_); refine goesL_ (some 116) rfl rfl Tryd.func48 (by kernel_rfl) rfl #[.int .i64 a4, .int .i64 a5] rfl (by (try simp only [List.map_toArray, List.map_cons, List.map_nil]); first | done | rfl | (simp only [List.length_drop, List.length_take]; rfl)) ?_; (with_reducible refine (Podr.joustref32_Choose.calls kj77 a4 a5 t133 t134 _ A112.out).mono ?_); rintro e w144 ⟨rfl, hb⟩; refine ⟨_, rfl, ?_⟩; have n0_ := Aside0.mk (blk_below (g := gb101) (o := .cells #[.int .u64 a0_0, .int .u64 a0_1] 47 (0, 0)) of_lies hb); have n1_ := Aside0.mk (blk_below (g := gb102) (o := .cells #[.int .u64 a1_0, .int .u64 a1_1] 47 (0, 0)) of_lies hb); have n2_ := Aside0.mk (blk_below (g := gb106) (o := .cells #[.int .u64 t121, .int .u64 t122] 47 (0, 0)) of_lies hb); have n3_ := Aside0.mk (blk_below (g := gb110) (o := .cells #[.int .u64 t124, .int .u64 t125] 47 (0, 0)) of_lies hb); have n4_ := Aside0.mk (below_step (low HB) hb); clear BK101; clear BK102; clear BK106; clear BK110; clear HB; have BK101 := n0_; have BK102 := n1_; have BK106 := n2_; have BK110 := n3_; have HB := n4_; clear n0_ n1_ n2_ n3_ n4_; (try clear hb); (try clear hb2); (try clear hk); (try clear hi)))
              go_ret
              exact ⟨by first | rfl | (simp [errW_none, errW_some] <;> rfl) | (simp [*, errW_none, errW_some] <;> rfl), low HB⟩
            ·
             rw [if_neg c115] at H
             have c115b0 : (t131 == t133) = false := beq_eq_false_iff_ne.mpr c115
             have c115b1 : (t131 != t133) = true := bne_iff_ne.mpr c115
             obtain rfl := Option.some.inj H
             have hnb145 := NB101_102.out
             have hnc145 := NB102_101.out
             have hnb146 := NB101_106.out
             have hnc146 := NB106_101.out
             have hnb147 := NB101_110.out
             have hnc147 := NB110_101.out
             have hcz148_0 : wc.cell? ⟨gb101, 0, none⟩ = some (.int .u64 a0_0) := (blk_cell BK101.out 0).trans rfl
             have hcz148_1 : wc.cell? ⟨gb101, 1, none⟩ = some (.int .u64 a0_1) := (blk_cell BK101.out 1).trans rfl
             have hfz148_0 := blk_frozen BK101.out 0
             have hfz148_1 := blk_frozen BK101.out 1
             have hnb149 := NB102_106.out
             have hnc149 := NB106_102.out
             have hnb150 := NB102_110.out
             have hnc150 := NB110_102.out
             have hcz151_0 : wc.cell? ⟨gb102, 0, none⟩ = some (.int .u64 a1_0) := (blk_cell BK102.out 0).trans rfl
             have hcz151_1 : wc.cell? ⟨gb102, 1, none⟩ = some (.int .u64 a1_1) := (blk_cell BK102.out 1).trans rfl
             have hfz151_0 := blk_frozen BK102.out 0
             have hfz151_1 := blk_frozen BK102.out 1
             go_wp2_with (first | ((with_reducible refine gate_callee (f := 37) rfl ?_); refine goesL_ (some 98) rfl rfl Tryd.func37 (by kernel_rfl) rfl #[.agg #[.int .u64 a0_0, .int .u64 a0_1], .agg #[.int .u64 a1_0, .int .u64 a1_1]] rfl (by (try simp only [List.map_toArray, List.map_cons, List.map_nil]); first | done | rfl | (simp only [List.length_drop, List.length_take]; rfl)) ?_; (with_reducible refine (Podd.odds_Compare.calls kj77 a0_0 a0_1 a1_0 a1_1 t127 t128 _ A109.out).mono ?_); rintro e w152 ⟨rfl, hb⟩; refine ⟨_, rfl, ?_⟩; have n0_ := Aside0.mk (blk_below (g := gb101) (o := .cells #[.int .u64 a0_0, .int .u64 a0_1] 47 (0, 0)) of_lies hb); have n1_ := Aside0.mk (blk_below (g := gb102) (o := .cells #[.int .u64 a1_0, .int .u64 a1_1] 47 (0, 0)) of_lies hb); have n2_ := Aside0.mk (blk_below (g := gb106) (o := .cells #[.int .u64 t121, .int .u64 t122] 47 (0, 0)) of_lies hb); have n3_ := Aside0.mk (blk_below (g := gb110) (o := .cells #[.int .u64 t124, .int .u64 t125] 47 (0, 0)) of_lies hb); have n4_ := Aside0.mk (below_step (low HB) hb); clear BK101; clear BK102; clear BK106; clear BK110; clear HB; have BK101 := n0_; have BK102 := n1_; have BK106 := n2_; have BK110 := n3_; have HB := n4_; clear n0_ n1_ n2_ n3_ n4_; (try clear hb); (try clear hb2); (try clear hk); (try clear hi); obtain ⟨hcz153_0, hcz153_1, hfz153_0, hfz153_1⟩ := cells2 BK101.out; obtain ⟨hcz154_0, hcz154_1, hfz154_0, hfz154_1⟩ := cells2 BK102.out) | ((with_reducible refine gate_callee (f := 47) rfl ?_); refine goesL_ (some 104) rfl rfl Tryd.func47 (by kernel_rfl) rfl #[.agg #[.int .u64 a0_0, .int .u64 a0_1], .agg #[.int .u64 a1_0, .int .u64 a1_1]] rfl (by (try simp only [List.map_toArray, List.map_cons, List.map_nil]); first | done | rfl | (simp only [List.length_drop, List.length_take]; rfl)) ?_; (with_reducible refine (Podr.joustref32_Compare.calls kj77 a0_0 a0_1 a1_0 a1_1 t129 t130 _ A110.out).mono ?_); rintro e w155 ⟨rfl, hb⟩; refine ⟨_, rfl, ?_⟩; have n0_ := Aside0.mk (blk_below (g := gb101) (o := .cells #[.int .u64 a0_0, .int .u64 a0_1] 47 (0, 0)) of_lies hb); have n1_ := Aside0.mk (blk_below (g := gb102) (o := .cells #[.int .u64 a1_0, .int .u64 a1_1] 47 (0, 0)) of_lies hb); have n2_ := Aside0.mk (blk_below (g := gb106) (o := .cells #[.int .u64 t121, .int .u64 t122] 47 (0, 0)) of_lies hb); have n3_ := Aside0.mk (blk_below (g := gb110) (o := .cells #[.int .u64 t124, .int .u64 t125] 47 (0, 0)) of_lies hb); have n4_ := Aside0.mk (below_step (low HB) hb); clear BK101; clear BK102; clear BK106; clear BK110; clear HB; have BK101 := n0_; have BK102 := n1_; have BK106 := n2_; have BK110 := n3_; have HB := n4_; clear n0_ n1_ n2_ n3_ n4_; (try clear hb); (try clear hb2); (try clear hk); (try clear hi)) | ((with_reducible refine gate_callee (f := 35) rfl ?_); refine goesL_ (some 110) rfl rfl Tryd.func35 (by kernel_rfl) rfl #[.int .i64 a4, .int .i64 a5] rfl (by (try simp only [List.map_toArray, List.map_cons, List.map_nil]); first | done | rfl | (simp only [List.length_drop, List.length_take]; rfl)) ?_; (with_reducible refine (Podd.odds_Choose.calls kj77 a4 a5 t131 t132 _ A111.out).mono ?_); rintro e w156 ⟨rfl, hb⟩; refine ⟨_, rfl, ?_⟩; have n0_ := Aside0.mk (blk_below (g := gb101) (o := .cells #[.int .u64 a0_0, .int .u64 a0_1] 47 (0, 0)) of_lies hb); have n1_ := Aside0.mk (blk_below (g := gb102) (o := .cells #[.int .u64 a1_0, .int .u64 a1_1] 47 (0, 0)) of_lies hb); have n2_ := Aside0.mk (blk_below (g := gb106) (o := .cells #[.int .u64 t121, .int .u64 t122] 47 (0, 0)) of_lies hb); have n3_ := Aside0.mk (blk_below (g := gb110) (o := .cells #[.int .u64 t124, .int .u64 t125] 47 (0, 0)) of_lies hb); have n4_ := Aside0.mk (below_step (low HB) hb); clear BK101; clear BK102; clear BK106; clear BK110; clear HB; have BK101 := n0_; have BK102 := n1_; have BK106 := n2_; have BK110 := n3_; have HB := n4_; clear n0_ n1_ n2_ n3_ n4_; (try clear hb); (try clear hb2); (try clear hk); (try clear hi)) | ((with_reducible refine gate_callee (f := 48) rfl ?_); refine goesL_ (some 116) rfl rfl Tryd.func48 (by kernel_rfl) rfl #[.int .i64 a4, .int .i64 a5] rfl (by (try simp only [List.map_toArray, List.map_cons, List.map_nil]); first | done | rfl | (simp only [List.length_drop, List.length_take]; rfl)) ?_; (with_reducible refine (Podr.joustref32_Choose.calls kj77 a4 a5 t133 t134 _ A112.out).mono ?_); rintro e w157 ⟨rfl, hb⟩; refine ⟨_, rfl, ?_⟩; have n0_ := Aside0.mk (blk_below (g := gb101) (o := .cells #[.int .u64 a0_0, .int .u64 a0_1] 47 (0, 0)) of_lies hb); have n1_ := Aside0.mk (blk_below (g := gb102) (o := .cells #[.int .u64 a1_0, .int .u64 a1_1] 47 (0, 0)) of_lies hb); have n2_ := Aside0.mk (blk_below (g := gb106) (o := .cells #[.int .u64 t121, .int .u64 t122] 47 (0, 0)) of_lies hb); have n3_ := Aside0.mk (blk_below (g := gb110) (o := .cells #[.int .u64 t124, .int .u64 t125] 47 (0, 0)) of_lies hb); have n4_ := Aside0.mk (below_step (low HB) hb); clear BK101; clear BK102; clear BK106; clear BK110; clear HB; have BK101 := n0_; have BK102 := n1_; have BK106 := n2_; have BK110 := n3_; have HB := n4_; clear n0_ n1_ n2_ n3_ n4_; (try clear hb); (try clear hb2); (try clear hk); (try clear hi)))
             go_ret
             exact ⟨by first | rfl | (simp [errW_none, errW_some] <;> rfl) | (simp [*, errW_none, errW_some] <;> rfl), low HB⟩
           ·
            rw [if_neg c114] at H
            have c114b0 : (t128 == t130) = false := beq_eq_false_iff_ne.mpr c114
            have c114b1 : (t128 != t130) = true := bne_iff_ne.mpr c114
            obtain rfl := Option.some.inj H
            have hnb158 := NB101_102.out
            have hnc158 := NB102_101.out
            have hnb159 := NB101_106.out
            have hnc159 := NB106_101.out
            have hnb160 := NB101_110.out
            have hnc160 := NB110_101.out
            have hcz161_0 : wc.cell? ⟨gb101, 0, none⟩ = some (.int .u64 a0_0) := (blk_cell BK101.out 0).trans rfl
            have hcz161_1 : wc.cell? ⟨gb101, 1, none⟩ = some (.int .u64 a0_1) := (blk_cell BK101.out 1).trans rfl
            have hfz161_0 := blk_frozen BK101.out 0
            have hfz161_1 := blk_frozen BK101.out 1
            have hnb162 := NB102_106.out
            have hnc162 := NB106_102.out
            have hnb163 := NB102_110.out
            have hnc163 := NB110_102.out
            have hcz164_0 : wc.cell? ⟨gb102, 0, none⟩ = some (.int .u64 a1_0) := (blk_cell BK102.out 0).trans rfl
            have hcz164_1 : wc.cell? ⟨gb102, 1, none⟩ = some (.int .u64 a1_1) := (blk_cell BK102.out 1).trans rfl
            have hfz164_0 := blk_frozen BK102.out 0
            have hfz164_1 := blk_frozen BK102.out 1
            go_wp2_with (first | ((with_reducible refine gate_callee (f := 37) rfl ?_); refine goesL_ (some 98) rfl rfl Tryd.func37 (by kernel_rfl) rfl #[.agg #[.int .u64 a0_0, .int .u64 a0_1], .agg #[.int .u64 a1_0, .int .u64 a1_1]] rfl (by (try simp only [List.map_toArray, List.map_cons, List.map_nil]); first | done | rfl | (simp only [List.length_drop, List.length_take]; rfl)) ?_; (with_reducible refine (Podd.odds_Compare.calls kj77 a0_0 a0_1 a1_0 a1_1 t127 t128 _ A109.out).mono ?_); rintro e w165 ⟨rfl, hb⟩; refine ⟨_, rfl, ?_⟩; have n0_ := Aside0.mk (blk_below (g := gb101) (o := .cells #[.int .u64 a0_0, .int .u64 a0_1] 47 (0, 0)) of_lies hb); have n1_ := Aside0.mk (blk_below (g := gb102) (o := .cells #[.int .u64 a1_0, .int .u64 a1_1] 47 (0, 0)) of_lies hb); have n2_ := Aside0.mk (blk_below (g := gb106) (o := .cells #[.int .u64 t121, .int .u64 t122] 47 (0, 0)) of_lies hb); have n3_ := Aside0.mk (blk_below (g := gb110) (o := .cells #[.int .u64 t124, .int .u64 t125] 47 (0, 0)) of_lies hb); have n4_ := Aside0.mk (below_step (low HB) hb); clear BK101; clear BK102; clear BK106; clear BK110; clear HB; have BK101 := n0_; have BK102 := n1_; have BK106 := n2_; have BK110 := n3_; have HB := n4_; clear n0_ n1_ n2_ n3_ n4_; (try clear hb); (try clear hb2); (try clear hk); (try clear hi); obtain ⟨hcz166_0, hcz166_1, hfz166_0, hfz166_1⟩ := cells2 BK101.out; obtain ⟨hcz167_0, hcz167_1, hfz167_0, hfz167_1⟩ := cells2 BK102.out) | ((with_reducible refine gate_callee (f := 47) rfl ?_); refine goesL_ (some 104) rfl rfl Tryd.func47 (by kernel_rfl) rfl #[.agg #[.int .u64 a0_0, .int .u64 a0_1], .agg #[.int .u64 a1_0, .int .u64 a1_1]] rfl (by (try simp only [List.map_toArray, List.map_cons, List.map_nil]); first | done | rfl | (simp only [List.length_drop, List.length_take]; rfl)) ?_; (with_reducible refine (Podr.joustref32_Compare.calls kj77 a0_0 a0_1 a1_0 a1_1 t129 t130 _ A110.out).mono ?_); rintro e w168 ⟨rfl, hb⟩; refine ⟨_, rfl, ?_⟩; have n0_ := Aside0.mk (blk_below (g := gb101) (o := .cells #[.int .u64 a0_0, .int .u64 a0_1] 47 (0, 0)) of_lies hb); have n1_ := Aside0.mk (blk_below (g := gb102) (o := .cells #[.int .u64 a1_0, .int .u64 a1_1] 47 (0, 0)) of_lies hb); have n2_ := Aside0.mk (blk_below (g := gb106) (o := .cells #[.int .u64 t121, .int .u64 t122] 47 (0, 0)) of_lies hb); have n3_ := Aside0.mk (blk_below (g := gb110) (o := .cells #[.int .u64 t124, .int .u64 t125] 47 (0, 0)) of_lies hb); have n4_ := Aside0.mk (below_step (low HB) hb); clear BK101; clear BK102; clear BK106; clear BK110; clear HB; have BK101 := n0_; have BK102 := n1_; have BK106 := n2_; have BK110 := n3_; have HB := n4_; clear n0_ n1_ n2_ n3_ n4_; (try clear hb); (try clear hb2); (try clear hk); (try clear hi)) | ((with_reducible refine gate_callee (f := 35) rfl ?_); refine goesL_ (some 110) rfl rfl Tryd.func35 (by kernel_rfl) rfl #[.int .i64 a4, .int .i64 a5] rfl (by (try simp only [List.map_toArray, List.map_cons, List.map_nil]); first | done | rfl | (simp only [List.length_drop, List.length_take]; rfl)) ?_; (with_reducible refine (Podd.odds_Choose.calls kj77 a4 a5 t131 t132 _ A111.out).mono ?_); rintro e w169 ⟨rfl, hb⟩; refine ⟨_, rfl, ?_⟩; have n0_ := Aside0.mk (blk_below (g := gb101) (o := .cells #[.int .u64 a0_0, .int .u64 a0_1] 47 (0, 0)) of_lies hb); have n1_ := Aside0.mk (blk_below (g := gb102) (o := .cells #[.int .u64 a1_0, .int .u64 a1_1] 47 (0, 0)) of_lies hb); have n2_ := Aside0.mk (blk_below (g := gb106) (o := .cells #[.int .u64 t121, .int .u64 t122] 47 (0, 0)) of_lies hb); have n3_ := Aside0.mk (blk_below (g := gb110) (o := .cells #[.int .u64 t124, .int .u64 t125] 47 (0, 0)) of_lies hb); have n4_ := Aside0.mk (below_step (low HB) hb); clear BK101; clear BK102; clear BK106; clear BK110; clear HB; have BK101 := n0_; have BK102 := n1_; have BK106 := n2_; have BK110 := n3_; have HB := n4_; clear n0_ n1_ n2_ n3_ n4_; (try clear hb); (try clear hb2); (try clear hk); (try clear hi)) | ((with_reducible refine gate_callee (f := 48) rfl ?_); refine goesL_ (some 116) rfl rfl Tryd.func48 (by kernel_rfl) rfl #[.int .i64 a4, .int .i64 a5] rfl (by (try simp only [List.map_toArray, List.map_cons, List.map_nil]); first | done | rfl | (simp only [List.length_drop, List.length_take]; rfl)) ?_; (with_reducible refine (Podr.joustref32_Choose.calls kj77 a4 a5 t133 t134 _ A112.out).mono ?_); rintro e w170 ⟨rfl, hb⟩; refine ⟨_, rfl, ?_⟩; have n0_ := Aside0.mk (blk_below (g := gb101) (o := .cells #[.int .u64 a0_0, .int .u64 a0_1] 47 (0, 0)) of_lies hb); have n1_ := Aside0.mk (blk_below (g := gb102) (o := .cells #[.int .u64 a1_0, .int .u64 a1_1] 47 (0, 0)) of_lies hb); have n2_ := Aside0.mk (blk_below (g := gb106) (o := .cells #[.int .u64 t121, .int .u64 t122] 47 (0, 0)) of_lies hb); have n3_ := Aside0.mk (blk_below (g := gb110) (o := .cells #[.int .u64 t124, .int .u64 t125] 47 (0, 0)) of_lies hb); have n4_ := Aside0.mk (below_step (low HB) hb); clear BK101; clear BK102; clear BK106; clear BK110; clear HB; have BK101 := n0_; have BK102 := n1_; have BK106 := n2_; have BK110 := n3_; have HB := n4_; clear n0_ n1_ n2_ n3_ n4_; (try clear hb); (try clear hb2); (try clear hk); (try clear hi)))
            go_ret
            exact ⟨by first | rfl | (simp [errW_none, errW_some] <;> rfl) | (simp [*, errW_none, errW_some] <;> rfl), low HB⟩
          ·
           rw [if_neg c113] at H
           have c113b0 : (t127 == t129) = false := beq_eq_false_iff_ne.mpr c113
           have c113b1 : (t127 != t129) = true := bne_iff_ne.mpr c113
           obtain rfl := Option.some.inj H
           have hnb171 := NB101_102.out
           have hnc171 := NB102_101.out
           have hnb172 := NB101_106.out
           have hnc172 := NB106_101.out
           have hnb173 := NB101_110.out
           have hnc173 := NB110_101.out
           have hcz174_0 : wc.cell? ⟨gb101, 0, none⟩ = some (.int .u64 a0_0) := (blk_cell BK101.out 0).trans rfl
           have hcz174_1 : wc.cell? ⟨gb101, 1, none⟩ = some (.int .u64 a0_1) := (blk_cell BK101.out 1).trans rfl
           have hfz174_0 := blk_frozen BK101.out 0
           have hfz174_1 := blk_frozen BK101.out 1
           have hnb175 := NB102_106.out
           have hnc175 := NB106_102.out
           have hnb176 := NB102_110.out
           have hnc176 := NB110_102.out
           have hcz177_0 : wc.cell? ⟨gb102, 0, none⟩ = some (.int .u64 a1_0) := (blk_cell BK102.out 0).trans rfl
           have hcz177_1 : wc.cell? ⟨gb102, 1, none⟩ = some (.int .u64 a1_1) := (blk_cell BK102.out 1).trans rfl
           have hfz177_0 := blk_frozen BK102.out 0
           have hfz177_1 := blk_frozen BK102.out 1
           go_wp2_with (first | ((with_reducible refine gate_callee (f := 37) rfl ?_); refine goesL_ (some 98) rfl rfl Tryd.func37 (by kernel_rfl) rfl #[.agg #[.int .u64 a0_0, .int .u64 a0_1], .agg #[.int .u64 a1_0, .int .u64 a1_1]] rfl (by (try simp only [List.map_toArray, List.map_cons, List.map_nil]); first | done | rfl | (simp only [List.length_drop, List.length_take]; rfl)) ?_; (with_reducible refine (Podd.odds_Compare.calls kj77 a0_0 a0_1 a1_0 a1_1 t127 t128 _ A109.out).mono ?_); rintro e w178 ⟨rfl, hb⟩; refine ⟨_, rfl, ?_⟩; have n0_ := Aside0.mk (blk_below (g := gb101) (o := .cells #[.int .u64 a0_0, .int .u64 a0_1] 47 (0, 0)) of_lies hb); have n1_ := Aside0.mk (blk_below (g := gb102) (o := .cells #[.int .u64 a1_0, .int .u64 a1_1] 47 (0, 0)) of_lies hb); have n2_ := Aside0.mk (blk_below (g := gb106) (o := .cells #[.int .u64 t121, .int .u64 t122] 47 (0, 0)) of_lies hb); have n3_ := Aside0.mk (blk_below (g := gb110) (o := .cells #[.int .u64 t124, .int .u64 t125] 47 (0, 0)) of_lies hb); have n4_ := Aside0.mk (below_step (low HB) hb); clear BK101; clear BK102; clear BK106; clear BK110; clear HB; have BK101 := n0_; have BK102 := n1_; have BK106 := n2_; have BK110 := n3_; have HB := n4_; clear n0_ n1_ n2_ n3_ n4_; (try clear hb); (try clear hb2); (try clear hk); (try clear hi); obtain ⟨hcz179_0, hcz179_1, hfz179_0, hfz179_1⟩ := cells2 BK101.out; obtain ⟨hcz180_0, hcz180_1, hfz180_0, hfz180_1⟩ := cells2 BK102.out) | ((with_reducible refine gate_callee (f := 47) rfl ?_); refine goesL_ (some 104) rfl rfl Tryd.func47 (by kernel_rfl) rfl #[.agg #[.int .u64 a0_0, .int .u64 a0_1], .agg #[.int .u64 a1_0, .int .u64 a1_1]] rfl (by (try simp only [List.map_toArray, List.map_cons, List.map_nil]); first | done | rfl | (simp only [List.length_drop, List.length_take]; rfl)) ?_; (with_reducible refine (Podr.joustref32_Compare.calls kj77 a0_0 a0_1 a1_0 a1_1 t129 t130 _ A110.out).mono ?_); rintro e w181 ⟨rfl, hb⟩; refine ⟨_, rfl, ?_⟩; have n0_ := Aside0.mk (blk_below (g := gb101) (o := .cells #[.int .u64 a0_0, .int .u64 a0_1] 47 (0, 0)) of_lies hb); have n1_ := Aside0.mk (blk_below (g := gb102) (o := .cells #[.int .u64 a1_0, .int .u64 a1_1] 47 (0, 0)) of_lies hb); have n2_ := Aside0.mk (blk_below (g := gb106) (o := .cells #[.int .u64 t121, .int .u64 t122] 47 (0, 0)) of_lies hb); have n3_ := Aside0.mk (blk_below (g := gb110) (o := .cells #[.int .u64 t124, .int .u64 t125] 47 (0, 0)) of_lies hb); have n4_ := Aside0.mk (below_step (low HB) hb); clear BK101; clear BK102; clear BK106; clear BK110; clear HB; have BK101 := n0_; have BK102 := n1_; have BK106 := n2_; have BK110 := n3_; have HB := n4_; clear n0_ n1_ n2_ n3_ n4_; (try clear hb); (try clear hb2); (try clear hk); (try clear hi)) | ((with_reducible refine gate_callee (f := 35) rfl ?_); refine goesL_ (some 110) rfl rfl Tryd.func35 (by kernel_rfl) rfl #[.int .i64 a4, .int .i64 a5] rfl (by (try simp only [List.map_toArray, List.map_cons, List.map_nil]); first | done | rfl | (simp only [List.length_drop, List.length_take]; rfl)) ?_; (with_reducible refine (Podd.odds_Choose.calls kj77 a4 a5 t131 t132 _ A111.out).mono ?_); rintro e w182 ⟨rfl, hb⟩; refine ⟨_, rfl, ?_⟩; have n0_ := Aside0.mk (blk_below (g := gb101) (o := .cells #[.int .u64 a0_0, .int .u64 a0_1] 47 (0, 0)) of_lies hb); have n1_ := Aside0.mk (blk_below (g := gb102) (o := .cells #[.int .u64 a1_0, .int .u64 a1_1] 47 (0, 0)) of_lies hb); have n2_ := Aside0.mk (blk_below (g := gb106) (o := .cells #[.int .u64 t121, .int .u64 t122] 47 (0, 0)) of_lies hb); have n3_ := Aside0.mk (blk_below (g := gb110) (o := .cells #[.int .u64 t124, .int .u64 t125] 47 (0, 0)) of_lies hb); have n4_ := Aside0.mk (below_step (low HB) hb); clear BK101; clear BK102; clear BK106; clear BK110; clear HB; have BK101 := n0_; have BK102 := n1_; have BK106 := n2_; have BK110 := n3_; have HB := n4_; clear n0_ n1_ n2_ n3_ n4_; (try clear hb); (try clear hb2); (try clear hk); (try clear hi)) | ((with_reducible refine gate_callee (f := 48) rfl ?_); refine goesL_ (some 116) rfl rfl Tryd.func48 (by kernel_rfl) rfl #[.int .i64 a4, .int .i64 a5] rfl (by (try simp only [List.map_toArray, List.map_cons, List.map_nil]); first | done | rfl | (simp only [List.length_drop, List.length_take]; rfl)) ?_; (with_reducible refine (Podr.joustref32_Choose.calls kj77 a4 a5 t133 t134 _ A112.out).mono ?_); rintro e w183 ⟨rfl, hb⟩; refine ⟨_, rfl, ?_⟩; have n0_ := Aside0.mk (blk_below (g := gb101) (o := .cells #[.int .u64 a0_0, .int .u64 a0_1] 47 (0, 0)) of_lies hb); have n1_ := Aside0.mk (blk_below (g := gb102) (o := .cells #[.int .u64 a1_0, .int .u64 a1_1] 47 (0, 0)) of_lies hb); have n2_ := Aside0.mk (blk_below (g := gb106) (o := .cells #[.int .u64 t121, .int .u64 t122] 47 (0, 0)) of_lies hb); have n3_ := Aside0.mk (blk_below (g := gb110) (o := .cells #[.int .u64 t124, .int .u64 t125] 47 (0, 0)) of_lies hb); have n4_ := Aside0.mk (below_step (low HB) hb); clear BK101; clear BK102; clear BK106; clear BK110; clear HB; have BK101 := n0_; have BK102 := n1_; have BK106 := n2_; have BK110 := n3_; have HB := n4_; clear n0_ n1_ n2_ n3_ n4_; (try clear hb); (try clear hb2); (try clear hk); (try clear hi)))
           go_ret
           exact ⟨by first | rfl | (simp [errW_none, errW_some] <;> rfl) | (simp [*, errW_none, errW_some] <;> rfl), low HB⟩
end Go.Proofs.YtcdcpnhlmgmnkaaDoor.Podx
end
