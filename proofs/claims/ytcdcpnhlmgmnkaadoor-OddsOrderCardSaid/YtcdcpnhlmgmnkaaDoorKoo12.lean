/- Joined by a program of this session (pack.py) out of: Podox0 Podox1 Podox3 -/
import Derived.ArgAppend
import Derived.Below
import Derived.BigQuiet
import Derived.Deep.AppendLies
import Derived.Deep.CutBlock
import Derived.Deep.DeepCutAuto
import Derived.Deep.Draws
import Derived.Deep.LoopGhost
import Derived.Deep.OwnRows
import Derived.Deep.QuietTactic
import Derived.Deep.RegionHeld3
import Derived.KernelRfl
import Derived.Laws.BitsLemmas
import Derived.Laws.BytesArg
import Derived.Laws.IdiomCopy
import Derived.Laws.MakeOwn
import Derived.Laws.OwnMore
import Derived.Laws.Rows
import Derived.Laws.Slices
import Derived.Lib.AppendStr
import Derived.Lib.ConvBytes
import Derived.Maps.AppendAt
import Derived.OrdersHeld
import Derived.OwnWalk
import Derived.RowKit
import Derived.RowKit3
import Derived.Tactics
import Derived.Test.YtcdcpnhlmgmnkaaDoorProg
import Derived.WalkKit
import Derived.WideLaws
import Derived.Test.YtcdcpnhlmgmnkaaDoorKoo1
import Derived.Test.YtcdcpnhlmgmnkaaDoorKoo11
section
-- made for this claim by a program of this session (mkpp.py)
namespace Go.Proofs.YtcdcpnhlmgmnkaaDoor.Podo
open Go.RowKit Go.Proofs.YtcdcpnhlmgmnkaaDoor.Base Go.Proofs.YtcdcpnhlmgmnkaaDoorW.PrintWords Go.Proofs.YtcdcpnhlmgmnkaaDoorW.PrintLast Go.Proofs.YtcdcpnhlmgmnkaaDoorW.PrintMore
attribute [local go_sem] max2_int min2_int max_two min_two max_three min_three max_four min_four   -- for this text's walks alone
set_option linter.unusedVariables false
set_option linter.unusedSimpArgs false



def errW : Option Int → Value
 | none => .nilIface
 | some c => .iface 0 (.int .i64 c)
theorem errW_none : errW none = .nilIface := rfl
theorem errW_some (c : Int) : errW (some c) = .iface 0 (.int .i64 c) := rfl

-- the values' own types
/-! #### struct type 47 -/
structure S47 where
 f0 : Int
 f1 : Int
def z47 : S47 := ⟨(0 : Int), (0 : Int)⟩
def k47 : Kd S47 := Kd.iso (Kd.pair (Kd.int .u64) (Kd.int .u64)) (fun x : S47 => (x.f0, x.f1))
theorem k47_open {w : World} {x : S47} {cs : List Value} (h : k47.K w x cs) : cs = [.int .u64 x.f0, .int .u64 x.f1] := by
 obtain ⟨_, _, rfl, rfl, rfl⟩ := h
 exact rfl
theorem k47_openM {w : World} {base : Nat} {ok : Nat → Prop} {x : S47} {cs : List Value} (h : k47.M w base ok x cs) : cs = [.int .u64 x.f0, .int .u64 x.f1] := by
 obtain ⟨_, _, rfl, rfl, rfl⟩ := h
 exact rfl
theorem k47_mk (w : World) (x : S47)  : k47.K w x [.int .u64 x.f0, .int .u64 x.f1] := ⟨[.int .u64 x.f0], [.int .u64 x.f1], rfl, rfl, rfl⟩
theorem k47_mkM (w : World) (base : Nat) (ok : Nat → Prop) (x : S47)  : k47.M w base ok x [.int .u64 x.f0, .int .u64 x.f1] := ⟨[.int .u64 x.f0], [.int .u64 x.f1], rfl, rfl, rfl⟩
def rd_T47 (xs : List S47) (i : Int) : S47 := xs.getD i.toNat z47
theorem at_T47 {w : World} {A : Option Addr} {n : Nat} {xs : List S47} (h : Kd.C k47 w A n xs) (i : Int) (h0 : 0 ≤ i) (h1 : i < n) : ∃ ad , A = some ad ∧ w.cell? (ad.add (i.toNat * 2)) = some (.int .u64 (rd_T47 xs i).f0) ∧ w.cell? ⟨(ad.add (i.toNat * 2)).block, (ad.add (i.toNat * 2)).off + 1, none⟩ = some (.int .u64 (rd_T47 xs i).f1) := by
 obtain ⟨ad, c, e, _, hK, hc0⟩ := Kd.C_get h z47 i h0 h1
 have hc : ∀ j u, c[j]? = some u → w.cell? (ad.add (i.toNat * 2 + j)) = some u := hc0
 obtain rfl := k47_open hK
 exact ⟨ad, e, hc 0 _ rfl, by rw [← add_field _ _ 1 (by omega)]; exact hc 1 _ rfl⟩

end Go.Proofs.YtcdcpnhlmgmnkaaDoor.Podo
end
section
-- made for this claim by a program of this session (mkpp.py)
namespace Go.Proofs.YtcdcpnhlmgmnkaaDoor.Podo
open Go.RowKit Go.Proofs.YtcdcpnhlmgmnkaaDoor.Base Go.Proofs.YtcdcpnhlmgmnkaaDoorW.PrintWords Go.Proofs.YtcdcpnhlmgmnkaaDoorW.PrintLast Go.Proofs.YtcdcpnhlmgmnkaaDoorW.PrintMore
attribute [local go_sem] max2_int min2_int max_two min_two max_three min_three max_four min_four   -- for this text's walks alone
set_option linter.unusedVariables false
set_option linter.unusedSimpArgs false

theorem eqA47 (d : Nat) (w : World) (x0 y0 : Int) (x1 y1 : Int) :
  (Op.equalIn (d + 2) 47 (.agg #[.int .u64 x0, .int .u64 x1]) (.agg #[.int .u64 y0, .int .u64 y1])).run Tryd.prog w = .ok (x0 == y0 && (x1 == y1)) w := by
 refine eqA_of Tryd.underlying47 (by kernel_rfl) ?_
 refine eqf_cons (by rfl) (by go_simp; rfl) (by go_simp; rfl) (by go_simp) ?_
 exact eqf_last (by rfl) (by go_simp; rfl) (by go_simp; rfl) (by go_simp)
end Go.Proofs.YtcdcpnhlmgmnkaaDoor.Podo
end
section
-- made for this claim by a program of this session (mkpp.py)
namespace Go.Proofs.YtcdcpnhlmgmnkaaDoor.Podo
open Go.RowKit Go.Proofs.YtcdcpnhlmgmnkaaDoor.Base Go.Proofs.YtcdcpnhlmgmnkaaDoorW.PrintWords Go.Proofs.YtcdcpnhlmgmnkaaDoorW.PrintLast Go.Proofs.YtcdcpnhlmgmnkaaDoorW.PrintMore
attribute [local go_sem] max2_int min2_int max_two min_two max_three min_three max_four min_four   -- for this text's walks alone
set_option linter.unusedVariables false
set_option linter.unusedSimpArgs false

attribute [local go_sem high] eqA47
/-! ### joustlaw32_OddsOrder: function 10 -/
mutual
def joustlaw32_OddsOrder.j0 : Nat → Int → Int → Bool → Int → Int → Int → Int → Int → Int → Option (Bool)
 | 0, _, _, _, _, _, _, _, _, _ => none
 | k + 1, x2, x8, x36, x102000, x102001, x103000, x103001, x107000, x107001 => if x36 = true then (some false) else (if x8 = 0 then ((Podd.odds_Compare.f k x107000 x107001 x102000 x102001).bind fun bt111 => ((Podd.odds_Compare.f k x107000 x107001 x103000 x103001).bind fun bt113 => (if bt111.2 = 0 then (if bt113.2 = 0 then (if bt111.1 < 0 then (some false) else (if bt113.1 < 0 then (some false) else ((Podd.odds_May.f k x107000 x107001).bind fun t115 => (if t115 = true then (joustlaw32_OddsOrder.j1 k x2 x102000 x102001) else (some false))))) else (some false)) else (some false)))) else (joustlaw32_OddsOrder.j1 k x2 x102000 x102001))
def joustlaw32_OddsOrder.j1 : Nat → Int → Int → Int → Option (Bool)
 | 0, _, _, _ => none
 | k + 1, x2, x102000, x102001 => (Podd.odds_May.f k x102000 x102001).bind fun t116 => (if t116 = true then (if x2 = 0 then (joustlaw32_OddsOrder.j2 k x2 true x102000 x102001) else (joustlaw32_OddsOrder.j2 k x2 (decide (x102001 > 4294967296)) x102000 x102001)) else (joustlaw32_OddsOrder.j2 k x2 true x102000 x102001))
def joustlaw32_OddsOrder.j2 : Nat → Int → Bool → Int → Int → Option (Bool)
 | 0, _, _, _, _ => none
 | k + 1, x2, x81, x102000, x102001 => if x81 = true then ((Podd.lives.f).bind fun t117 => (some t117)) else ((Podd.odds_Make.f k (IntKind.u64.wrap (x102000 * (IntKind.u64.wrap (x2)))) (IntKind.u64.wrap (x102001 * (IntKind.u64.wrap (x2))))).bind fun bt118 => (if bt118.2.2 = 0 then (if (bt118.1 == x102000 && (bt118.2.1 == x102001)) = true then ((Podd.lives.f).bind fun t122 => (some t122)) else (some false)) else (some false)))
end
def joustlaw32_OddsOrder.f (k : Nat) (a0_0 : Int) (a0_1 : Int) (a1_0 : Int) (a1_1 : Int) (a2 : Int) : Option (Bool) := (Pods2.odds_Sum.f a0_0 a0_1 a1_0 a1_1).bind fun bt103 => ((Pods2.odds_Sum.f a1_0 a1_1 a0_0 a0_1).bind fun bt107 => (if (!(bt103.1 == bt107.1) || (!(bt103.2.1 == bt107.2.1))) = true then (joustlaw32_OddsOrder.j0 k a2 bt103.2.2 true a0_0 a0_1 a1_0 a1_1 bt103.1 bt103.2.1) else (joustlaw32_OddsOrder.j0 k a2 bt103.2.2 (bt103.2.2 != bt107.2.2) a0_0 a0_1 a1_0 a1_1 bt103.1 bt103.2.1)))
theorem joustlaw32_OddsOrder.mono_l : ∀ k, (∀ y0 y1 y2 y3 y4 y5 y6 y7 y8, LeO (joustlaw32_OddsOrder.j0 k y0 y1 y2 y3 y4 y5 y6 y7 y8) (joustlaw32_OddsOrder.j0 (k + 1) y0 y1 y2 y3 y4 y5 y6 y7 y8)) ∧ (∀ y0 y1 y2, LeO (joustlaw32_OddsOrder.j1 k y0 y1 y2) (joustlaw32_OddsOrder.j1 (k + 1) y0 y1 y2)) ∧ (∀ y0 y1 y2 y3, LeO (joustlaw32_OddsOrder.j2 k y0 y1 y2 y3) (joustlaw32_OddsOrder.j2 (k + 1) y0 y1 y2 y3))
 | 0 => ⟨fun _ _ _ _ _ _ _ _ _ r h => by simp [joustlaw32_OddsOrder.j0] at h, fun _ _ _ r h => by simp [joustlaw32_OddsOrder.j1] at h, fun _ _ _ _ r h => by simp [joustlaw32_OddsOrder.j2] at h⟩
 | k + 1 => by
  obtain ⟨ih0, ih1, ih2⟩ := joustlaw32_OddsOrder.mono_l k
  refine ⟨?_, ?_, ?_⟩
  ·
   intro y0 y1 y2 y3 y4 y5 y6 y7 y8
   unfold joustlaw32_OddsOrder.j0
   repeat' first
   | (with_reducible exact ih0 _ _ _ _ _ _ _ _ _)
   | (with_reducible exact ih1 _ _ _)
   | (with_reducible exact ih2 _ _ _ _)
   | (with_reducible exact Podd.odds_Compare.mono _ _ _ _ _)
   | (with_reducible exact Podd.odds_Make.mono _ _ _)
   | (with_reducible exact Podd.odds_May.mono _ _ _)
   | (with_reducible exact LeO.refl _)
   | (with_reducible exact LeO.none _)
   | (with_reducible refine LeO.ite ?_ ?_)
   | (with_reducible refine LeO.bind ?_ (fun _ => ?_))
   | exact ih0 _ _ _ _ _ _ _ _ _
   | exact ih1 _ _ _
   | exact ih2 _ _ _ _
   | exact Podd.odds_Compare.mono _ _ _ _ _
   | exact Podd.odds_Make.mono _ _ _
   | exact Podd.odds_May.mono _ _ _
   | exact LeO.none _
   | refine LeO.ite ?_ ?_
   | refine LeO.bind ?_ (fun _ => ?_)
  ·
   intro y0 y1 y2
   unfold joustlaw32_OddsOrder.j1
   repeat' first
   | (with_reducible exact ih0 _ _ _ _ _ _ _ _ _)
   | (with_reducible exact ih1 _ _ _)
   | (with_reducible exact ih2 _ _ _ _)
   | (with_reducible exact Podd.odds_Compare.mono _ _ _ _ _)
   | (with_reducible exact Podd.odds_Make.mono _ _ _)
   | (with_reducible exact Podd.odds_May.mono _ _ _)
   | (with_reducible exact LeO.refl _)
   | (with_reducible exact LeO.none _)
   | (with_reducible refine LeO.ite ?_ ?_)
   | (with_reducible refine LeO.bind ?_ (fun _ => ?_))
   | exact ih0 _ _ _ _ _ _ _ _ _
   | exact ih1 _ _ _
   | exact ih2 _ _ _ _
   | exact Podd.odds_Compare.mono _ _ _ _ _
   | exact Podd.odds_Make.mono _ _ _
   | exact Podd.odds_May.mono _ _ _
   | exact LeO.none _
   | refine LeO.ite ?_ ?_
   | refine LeO.bind ?_ (fun _ => ?_)
  ·
   intro y0 y1 y2 y3
   unfold joustlaw32_OddsOrder.j2
   repeat' first
   | (with_reducible exact ih0 _ _ _ _ _ _ _ _ _)
   | (with_reducible exact ih1 _ _ _)
   | (with_reducible exact ih2 _ _ _ _)
   | (with_reducible exact Podd.odds_Compare.mono _ _ _ _ _)
   | (with_reducible exact Podd.odds_Make.mono _ _ _)
   | (with_reducible exact Podd.odds_May.mono _ _ _)
   | (with_reducible exact LeO.refl _)
   | (with_reducible exact LeO.none _)
   | (with_reducible refine LeO.ite ?_ ?_)
   | (with_reducible refine LeO.bind ?_ (fun _ => ?_))
   | exact ih0 _ _ _ _ _ _ _ _ _
   | exact ih1 _ _ _
   | exact ih2 _ _ _ _
   | exact Podd.odds_Compare.mono _ _ _ _ _
   | exact Podd.odds_Make.mono _ _ _
   | exact Podd.odds_May.mono _ _ _
   | exact LeO.none _
   | refine LeO.ite ?_ ?_
   | refine LeO.bind ?_ (fun _ => ?_)
theorem joustlaw32_OddsOrder.mono : ∀ a0 a1 a2 a3 a4 k, LeO (joustlaw32_OddsOrder.f k a0 a1 a2 a3 a4) (joustlaw32_OddsOrder.f (k + 1) a0 a1 a2 a3 a4) := by
 intro a0 a1 a2 a3 a4 k
 obtain ⟨ih0, ih1, ih2⟩ := joustlaw32_OddsOrder.mono_l k
 unfold joustlaw32_OddsOrder.f
 repeat' first
   | (with_reducible exact ih0 _ _ _ _ _ _ _ _ _)
   | (with_reducible exact ih1 _ _ _)
   | (with_reducible exact ih2 _ _ _ _)
   | (with_reducible exact Podd.odds_Compare.mono _ _ _ _ _)
   | (with_reducible exact Podd.odds_Make.mono _ _ _)
   | (with_reducible exact Podd.odds_May.mono _ _ _)
   | (with_reducible exact LeO.refl _)
   | (with_reducible exact LeO.none _)
   | (with_reducible refine LeO.ite ?_ ?_)
   | (with_reducible refine LeO.bind ?_ (fun _ => ?_))
   | exact ih0 _ _ _ _ _ _ _ _ _
   | exact ih1 _ _ _
   | exact ih2 _ _ _ _
   | exact Podd.odds_Compare.mono _ _ _ _ _
   | exact Podd.odds_Make.mono _ _ _
   | exact Podd.odds_May.mono _ _ _
   | exact LeO.none _
   | refine LeO.ite ?_ ?_
   | refine LeO.bind ?_ (fun _ => ?_)
set_option maxHeartbeats 8000000 in
set_option maxRecDepth 100000 in
theorem joustlaw32_OddsOrder.calls (k : Nat) (a0_0 : Int) (a0_1 : Int) (a1_0 : Int) (a1_1 : Int) (a2 : Int) (r : Bool) (w : World) (hg_ : GoodW w) (h : joustlaw32_OddsOrder.f k a0_0 a0_1 a1_0 a1_1 a2 = some r) :
  Calls Tryd.prog 10 #[.agg #[.int .u64 a0_0, .int .u64 a0_1], .agg #[.int .u64 a1_0, .int .u64 a1_1], .int .u32 a2] w fun e w' => e = .returned (.bool r) ∧ Below w.heap.size w w' := by
 have hu47 := Tryd.underlying47
 have HGW := Aside0.mk hg_
 clear hg_
 have HB := Aside0.mk (Below.refl w.heap.size w)
 have H : ((Pods2.odds_Sum.f a0_0 a0_1 a1_0 a1_1).bind fun bt103 => ((Pods2.odds_Sum.f a1_0 a1_1 a0_0 a0_1).bind fun bt107 => (if (!(bt103.1 == bt107.1) || (!(bt103.2.1 == bt107.2.1))) = true then (joustlaw32_OddsOrder.j0 k a2 bt103.2.2 true a0_0 a0_1 a1_0 a1_1 bt103.1 bt103.2.1) else (joustlaw32_OddsOrder.j0 k a2 bt103.2.2 (bt103.2.2 != bt107.2.2) a0_0 a0_1 a1_0 a1_1 bt103.1 bt103.2.1)))) = some r := h
 clear h
 replace H := Option.bind_eq_some_iff.mp H
 obtain ⟨⟨t103, t104, t105⟩, A40, H⟩ := H
 replace H : ((Pods2.odds_Sum.f a1_0 a1_1 a0_0 a0_1).bind fun bt107 => (if (!(t103 == bt107.1) || (!(t104 == bt107.2.1))) = true then (joustlaw32_OddsOrder.j0 k a2 t105 true a0_0 a0_1 a1_0 a1_1 t103 t104) else (joustlaw32_OddsOrder.j0 k a2 t105 (t105 != bt107.2.2) a0_0 a0_1 a1_0 a1_1 t103 t104))) = some r := H
 have A4 := Aside0.mk A40
 clear A40
 replace H := Option.bind_eq_some_iff.mp H
 obtain ⟨⟨t107, t108, t109⟩, A50, H⟩ := H
 replace H : (if (!(t103 == t107) || (!(t104 == t108))) = true then (joustlaw32_OddsOrder.j0 k a2 t105 true a0_0 a0_1 a1_0 a1_1 t103 t104) else (joustlaw32_OddsOrder.j0 k a2 t105 (t105 != t109) a0_0 a0_1 a1_0 a1_1 t103 t104)) = some r := H
 have A5 := Aside0.mk A50
 clear A50
 have HC6 := Aside0.mk H
 clear H
 go_enter Tryd.func10, Tryd.ntmps10
 go_upto_region 3 with (first | ((with_reducible refine gate_dst (N := 3) rfl ?_); refine box_event ?hg (N := 3) ?hd (cs := #[.int .u64 a0_0, .int .u64 a0_1]) (t := 47) ?hr ?_; (case hd => rfl); (case hg => rfl); (case hr => first | (go_simp; done) | (go_simp; rfl)); intro gb101 hg w7 hbox hb; have n0_ := Aside0.mk (below_step (low HB) hb); have n1_ := Aside0.mk (hbox); have n2_ := Aside0.mk ((by rw [hg]; exact (below_size (low HB)) : w.heap.size ≤ gb101)); have n3_ := Aside0.mk ((by rw [hg]; exact (below_size (low HB)) : w.heap.size ≤ gb101)); clear HB; have HB := n0_; have BK101 := n1_; have GW101 := n2_; have GE101 := n3_; clear n0_ n1_ n2_ n3_; clear hb hbox hg) | ((with_reducible refine gate_dst (N := 4) rfl ?_); refine box_event ?hg (N := 4) ?hd (cs := #[.int .u64 a1_0, .int .u64 a1_1]) (t := 47) ?hr ?_; (case hd => rfl); (case hg => rfl); (case hr => first | (go_simp; done) | (go_simp; rfl)); intro gb102 hg w8 hbox hb; have n0_ := Aside0.mk (blk_below (g := gb101) (o := .cells #[.int .u64 a0_0, .int .u64 a0_1] 47 (0, 0)) of_lies hb); have n1_ := Aside0.mk (below_step (low HB) hb); have n2_ := Aside0.mk (hbox); have n3_ := Aside0.mk ((by rw [hg]; exact (below_size (low HB)) : w.heap.size ≤ gb102)); have n4_ := Aside0.mk ((by rw [hg]; exact (below_size (low HB)) : w.heap.size ≤ gb102)); have n5_ := Aside0.mk ((by rw [hg]; exact Nat.ne_of_lt (blk_lt (g := gb101) (o := .cells #[.int .u64 a0_0, .int .u64 a0_1] 47 (0, 0)) of_lies) : gb101 ≠ gb102)); have n6_ := Aside0.mk ((by rw [hg]; exact Nat.ne_of_gt (blk_lt (g := gb101) (o := .cells #[.int .u64 a0_0, .int .u64 a0_1] 47 (0, 0)) of_lies) : gb102 ≠ gb101)); clear BK101; clear HB; have BK101 := n0_; have HB := n1_; have BK102 := n2_; have GW102 := n3_; have GE102 := n4_; have NB101_102 := n5_; have NB102_101 := n6_; clear n0_ n1_ n2_ n3_ n4_ n5_ n6_; clear hb hbox hg; have hnb9 := NB101_102.out; have hnc9 := NB102_101.out; obtain ⟨hcz10_0, hcz10_1, hfz10_0, hfz10_1⟩ := cells2 BK101.out; obtain ⟨hcz11_0, hcz11_1, hfz11_0, hfz11_1⟩ := cells2 BK102.out) | ((with_reducible refine gate_callee (f := 36) rfl ?_); refine goesL_ (some 20) rfl rfl Tryd.func36 (by kernel_rfl) rfl #[.agg #[.int .u64 a0_0, .int .u64 a0_1], .agg #[.int .u64 a1_0, .int .u64 a1_1]] rfl (by (try simp only [List.map_toArray, List.map_cons, List.map_nil]); first | done | rfl | (simp only [List.length_drop, List.length_take]; rfl)) ?_; (with_reducible refine (Pods2.odds_Sum.calls a0_0 a0_1 a1_0 a1_1 t103 t104 t105 _ A4.out).mono ?_); rintro e w12 ⟨rfl, hb⟩; refine ⟨_, rfl, ?_⟩; have n0_ := Aside0.mk (blk_below (g := gb101) (o := .cells #[.int .u64 a0_0, .int .u64 a0_1] 47 (0, 0)) of_lies hb); have n1_ := Aside0.mk (blk_below (g := gb102) (o := .cells #[.int .u64 a1_0, .int .u64 a1_1] 47 (0, 0)) of_lies hb); have n2_ := Aside0.mk (below_step (low HB) hb); clear BK101; clear BK102; clear HB; have BK101 := n0_; have BK102 := n1_; have HB := n2_; clear n0_ n1_ n2_; (try clear hb); (try clear hb2); (try clear hk); (try clear hi)) | ((with_reducible refine gate_dst (N := 7) rfl ?_); refine box_event ?hg (N := 7) ?hd (cs := #[.int .u64 0, .int .u64 0]) (t := 47) ?hr ?_; (case hd => rfl); (case hg => rfl); (case hr => first | (go_simp; done) | (go_simp; rfl)); intro gb106 hg w13 hbox hb; have n0_ := Aside0.mk (blk_below (g := gb101) (o := .cells #[.int .u64 a0_0, .int .u64 a0_1] 47 (0, 0)) of_lies hb); have n1_ := Aside0.mk (blk_below (g := gb102) (o := .cells #[.int .u64 a1_0, .int .u64 a1_1] 47 (0, 0)) of_lies hb); have n2_ := Aside0.mk (below_step (low HB) hb); have n3_ := Aside0.mk (hbox); have n4_ := Aside0.mk ((by rw [hg]; exact (below_size (low HB)) : w.heap.size ≤ gb106)); have n5_ := Aside0.mk ((by rw [hg]; exact (below_size (low HB)) : w.heap.size ≤ gb106)); have n6_ := Aside0.mk ((by rw [hg]; exact Nat.ne_of_lt (blk_lt (g := gb101) (o := .cells #[.int .u64 a0_0, .int .u64 a0_1] 47 (0, 0)) of_lies) : gb101 ≠ gb106)); have n7_ := Aside0.mk ((by rw [hg]; exact Nat.ne_of_gt (blk_lt (g := gb101) (o := .cells #[.int .u64 a0_0, .int .u64 a0_1] 47 (0, 0)) of_lies) : gb106 ≠ gb101)); have n8_ := Aside0.mk ((by rw [hg]; exact Nat.ne_of_lt (blk_lt (g := gb102) (o := .cells #[.int .u64 a1_0, .int .u64 a1_1] 47 (0, 0)) of_lies) : gb102 ≠ gb106)); have n9_ := Aside0.mk ((by rw [hg]; exact Nat.ne_of_gt (blk_lt (g := gb102) (o := .cells #[.int .u64 a1_0, .int .u64 a1_1] 47 (0, 0)) of_lies) : gb106 ≠ gb102)); clear BK101; clear BK102; clear HB; have BK101 := n0_; have BK102 := n1_; have HB := n2_; have BK106 := n3_; have GW106 := n4_; have GE106 := n5_; have NB101_106 := n6_; have NB106_101 := n7_; have NB102_106 := n8_; have NB106_102 := n9_; clear n0_ n1_ n2_ n3_ n4_ n5_ n6_ n7_ n8_ n9_; clear hb hbox hg; have hnb14 := NB106_101.out; have hnc14 := NB101_106.out; have hnb15 := NB106_102.out; have hnc15 := NB102_106.out; obtain ⟨hcz16_0, hcz16_1, hfz16_0, hfz16_1⟩ := cells2 BK106.out; obtain ⟨hcz17_0, hcz17_1, hfz17_0, hfz17_1⟩ := cells2 BK102.out; obtain ⟨hcz18_0, hcz18_1, hfz18_0, hfz18_1⟩ := cells2 BK101.out) | ((with_reducible refine gate_callee (f := 36) rfl ?_); refine goesL_ (some 26) rfl rfl Tryd.func36 (by kernel_rfl) rfl #[.agg #[.int .u64 a1_0, .int .u64 a1_1], .agg #[.int .u64 a0_0, .int .u64 a0_1]] rfl (by (try simp only [List.map_toArray, List.map_cons, List.map_nil]); first | done | rfl | (simp only [List.length_drop, List.length_take]; rfl)) ?_; (with_reducible refine (Pods2.odds_Sum.calls a1_0 a1_1 a0_0 a0_1 t107 t108 t109 _ A5.out).mono ?_); rintro e w19 ⟨rfl, hb⟩; refine ⟨_, rfl, ?_⟩; have n0_ := Aside0.mk (blk_below (g := gb101) (o := .cells #[.int .u64 a0_0, .int .u64 a0_1] 47 (0, 0)) of_lies hb); have n1_ := Aside0.mk (blk_below (g := gb102) (o := .cells #[.int .u64 a1_0, .int .u64 a1_1] 47 (0, 0)) of_lies hb); have n2_ := Aside0.mk (blk_below (g := gb106) (o := .cells #[.int .u64 t103, .int .u64 t104] 47 (0, 0)) of_lies hb); have n3_ := Aside0.mk (below_step (low HB) hb); clear BK101; clear BK102; clear BK106; clear HB; have BK101 := n0_; have BK102 := n1_; have BK106 := n2_; have HB := n3_; clear n0_ n1_ n2_ n3_; (try clear hb); (try clear hb2); (try clear hk); (try clear hi)) | ((with_reducible refine gate_dst (N := 9) rfl ?_); refine box_event ?hg (N := 9) ?hd (cs := #[.int .u64 0, .int .u64 0]) (t := 47) ?hr ?_; (case hd => rfl); (case hg => rfl); (case hr => first | (go_simp; done) | (go_simp; rfl)); intro gb110 hg w20 hbox hb; have n0_ := Aside0.mk (blk_below (g := gb101) (o := .cells #[.int .u64 a0_0, .int .u64 a0_1] 47 (0, 0)) of_lies hb); have n1_ := Aside0.mk (blk_below (g := gb102) (o := .cells #[.int .u64 a1_0, .int .u64 a1_1] 47 (0, 0)) of_lies hb); have n2_ := Aside0.mk (blk_below (g := gb106) (o := .cells #[.int .u64 t103, .int .u64 t104] 47 (0, 0)) of_lies hb); have n3_ := Aside0.mk (below_step (low HB) hb); have n4_ := Aside0.mk (hbox); have n5_ := Aside0.mk ((by rw [hg]; exact (below_size (low HB)) : w.heap.size ≤ gb110)); have n6_ := Aside0.mk ((by rw [hg]; exact (below_size (low HB)) : w.heap.size ≤ gb110)); have n7_ := Aside0.mk ((by rw [hg]; exact Nat.ne_of_lt (blk_lt (g := gb101) (o := .cells #[.int .u64 a0_0, .int .u64 a0_1] 47 (0, 0)) of_lies) : gb101 ≠ gb110)); have n8_ := Aside0.mk ((by rw [hg]; exact Nat.ne_of_gt (blk_lt (g := gb101) (o := .cells #[.int .u64 a0_0, .int .u64 a0_1] 47 (0, 0)) of_lies) : gb110 ≠ gb101)); have n9_ := Aside0.mk ((by rw [hg]; exact Nat.ne_of_lt (blk_lt (g := gb102) (o := .cells #[.int .u64 a1_0, .int .u64 a1_1] 47 (0, 0)) of_lies) : gb102 ≠ gb110)); have n10_ := Aside0.mk ((by rw [hg]; exact Nat.ne_of_gt (blk_lt (g := gb102) (o := .cells #[.int .u64 a1_0, .int .u64 a1_1] 47 (0, 0)) of_lies) : gb110 ≠ gb102)); have n11_ := Aside0.mk ((by rw [hg]; exact Nat.ne_of_lt (blk_lt (g := gb106) (o := .cells #[.int .u64 t103, .int .u64 t104] 47 (0, 0)) of_lies) : gb106 ≠ gb110)); have n12_ := Aside0.mk ((by rw [hg]; exact Nat.ne_of_gt (blk_lt (g := gb106) (o := .cells #[.int .u64 t103, .int .u64 t104] 47 (0, 0)) of_lies) : gb110 ≠ gb106)); clear BK101; clear BK102; clear BK106; clear HB; have BK101 := n0_; have BK102 := n1_; have BK106 := n2_; have HB := n3_; have BK110 := n4_; have GW110 := n5_; have GE110 := n6_; have NB101_110 := n7_; have NB110_101 := n8_; have NB102_110 := n9_; have NB110_102 := n10_; have NB106_110 := n11_; have NB110_106 := n12_; clear n0_ n1_ n2_ n3_ n4_ n5_ n6_ n7_ n8_ n9_ n10_ n11_ n12_; clear hb hbox hg; have hnb21 := NB110_101.out; have hnc21 := NB101_110.out; have hnb22 := NB110_102.out; have hnc22 := NB102_110.out; have hnb23 := NB110_106.out; have hnc23 := NB106_110.out; obtain ⟨hcz24_0, hcz24_1, hfz24_0, hfz24_1⟩ := cells2 BK110.out))
 (try simp only [Act.put, List.setIfInBounds_toArray, List.set_cons_zero, List.set_cons_succ])
 go_cut [36] (fun v36 wc => ∃ (kq : Nat) (x36_5 : Bool), v36 = .bool x36_5 ∧ Aside0 (joustlaw32_OddsOrder.j0 kq a2 t105 x36_5 a0_0 a0_1 a1_0 a1_1 t103 t104 = some r) ∧ Aside0 (kq ≤ k) ∧ Aside0 (wc.heap[gb101]? = some (.cells #[.int .u64 a0_0, .int .u64 a0_1] 47 (0, 0))) ∧ Aside0 (wc.heap[gb102]? = some (.cells #[.int .u64 a1_0, .int .u64 a1_1] 47 (0, 0))) ∧ Aside0 (wc.heap[gb106]? = some (.cells #[.int .u64 t103, .int .u64 t104] 47 (0, 0))) ∧ Aside0 (wc.heap[gb110]? = some (.cells #[.int .u64 t107, .int .u64 t108] 47 (0, 0))) ∧ Aside0 (Below w.heap.size w wc))
 case first =>
  have H := HC6.out
  clear HC6
  by_cases c25 : (!(t103 == t107) || (!(t104 == t108))) = true
  ·
   rw [if_pos c25] at H
   have c25b0 : (!(t103 == t107) || (!(t104 == t108))) = true := c25
   clear c25
   (first | rw [c25b0] | (simp only [i64_w, i32_w]; rw [c25b0]) | skip)
   have H' := Aside0.mk H
   clear H
   have hnb26 := NB106_101.out
   have hnc26 := NB101_106.out
   have hnb27 := NB106_102.out
   have hnc27 := NB102_106.out
   have hnb28 := NB106_110.out
   have hnc28 := NB110_106.out
   have hcz29_0 : w20.cell? ⟨gb106, 0, none⟩ = some (.int .u64 t103) := (blk_cell BK106.out 0).trans rfl
   have hcz29_1 : w20.cell? ⟨gb106, 1, none⟩ = some (.int .u64 t104) := (blk_cell BK106.out 1).trans rfl
   have hfz29_0 := blk_frozen BK106.out 0
   have hfz29_1 := blk_frozen BK106.out 1
   have hnb30 := NB110_101.out
   have hnc30 := NB101_110.out
   have hnb31 := NB110_102.out
   have hnc31 := NB102_110.out
   have hcz32_0 : w20.cell? ⟨gb110, 0, none⟩ = some (.int .u64 0) := (blk_cell BK110.out 0).trans rfl
   have hcz32_1 : w20.cell? ⟨gb110, 1, none⟩ = some (.int .u64 0) := (blk_cell BK110.out 1).trans rfl
   have hfz32_0 := blk_frozen BK110.out 0
   have hfz32_1 := blk_frozen BK110.out 1
   go_wp2
   go_meet
   case rel => exact ⟨_, (true), (by first | rfl | (simp; done) | (simp [*]; done)), H', ⟨by first | omega | exact Nat.le_refl _⟩, ⟨of_lies⟩, ⟨of_lies⟩, ⟨of_lies⟩, ⟨of_lies⟩, ⟨low HB⟩⟩
  ·
   rw [if_neg c25] at H
   have c25b0 : (!(t103 == t107) || (!(t104 == t108))) = false := by simpa using c25
   clear c25
   (first | rw [c25b0] | (simp only [i64_w, i32_w]; rw [c25b0]) | skip)
   have H' := Aside0.mk H
   clear H
   have hnb33 := NB106_101.out
   have hnc33 := NB101_106.out
   have hnb34 := NB106_102.out
   have hnc34 := NB102_106.out
   have hnb35 := NB106_110.out
   have hnc35 := NB110_106.out
   have hcz36_0 : w20.cell? ⟨gb106, 0, none⟩ = some (.int .u64 t103) := (blk_cell BK106.out 0).trans rfl
   have hcz36_1 : w20.cell? ⟨gb106, 1, none⟩ = some (.int .u64 t104) := (blk_cell BK106.out 1).trans rfl
   have hfz36_0 := blk_frozen BK106.out 0
   have hfz36_1 := blk_frozen BK106.out 1
   have hnb37 := NB110_101.out
   have hnc37 := NB101_110.out
   have hnb38 := NB110_102.out
   have hnc38 := NB102_110.out
   have hcz39_0 : w20.cell? ⟨gb110, 0, none⟩ = some (.int .u64 0) := (blk_cell BK110.out 0).trans rfl
   have hcz39_1 : w20.cell? ⟨gb110, 1, none⟩ = some (.int .u64 0) := (blk_cell BK110.out 1).trans rfl
   have hfz39_0 := blk_frozen BK110.out 0
   have hfz39_1 := blk_frozen BK110.out 1
   go_wp2
   go_meet
   case rel => exact ⟨_, ((t105 != t109)), (by first | rfl | (simp; done) | (simp [*]; done)), H', ⟨by first | omega | exact Nat.le_refl _⟩, ⟨of_lies⟩, ⟨of_lies⟩, ⟨of_lies⟩, ⟨of_lies⟩, ⟨low HB⟩⟩
 case rest =>
  clear HC6
  try clear c1
  try clear c2
  try clear p2
  try clear c3
  try clear c9
  try clear c10
  try clear c14
  try clear c15
  try clear c21
  try clear c22
  try clear c23
  try clear c25
  try clear c25b0
  try clear c26
  try clear c27
  try clear c28
  try clear c30
  try clear c31
  try clear c33
  try clear c34
  try clear c35
  try clear c36
  try clear c37
  try clear c38
  try clear hcz10_0
  try clear hcz10_1
  try clear hcz11_0
  try clear hcz11_1
  try clear hcz16_0
  try clear hcz16_1
  try clear hcz17_0
  try clear hcz17_1
  try clear hcz18_0
  try clear hcz18_1
  try clear hcz24_0
  try clear hcz24_1
  try clear hcz29_0
  try clear hcz29_1
  try clear hcz32_0
  try clear hcz32_1
  try clear hcz36_0
  try clear hcz36_1
  try clear hcz39_0
  try clear hcz39_1
  try clear hfz10_0
  try clear hfz10_1
  try clear hfz11_0
  try clear hfz11_1
  try clear hfz16_0
  try clear hfz16_1
  try clear hfz17_0
  try clear hfz17_1
  try clear hfz18_0
  try clear hfz18_1
  try clear hfz24_0
  try clear hfz24_1
  try clear hfz29_0
  try clear hfz29_1
  try clear hfz32_0
  try clear hfz32_1
  try clear hfz36_0
  try clear hfz36_1
  try clear hfz39_0
  try clear hfz39_1
  obtain ⟨kq, x36_5, rfl, HA, HJ5, BK101, BK102, BK106, BK110, HB⟩ := hcut
  cases kq with
  | zero => exact absurd HA.out (by simp [joustlaw32_OddsOrder.j0])
  | succ kj5 =>
   have H := HA.out
   clear HA
   simp only [joustlaw32_OddsOrder.j0] at H
   by_cases c40 : x36_5 = true
   ·
    subst c40
    have H1 : (some false) = some r := by rw [if_pos rfl] at H; exact H
    clear H
    have H := H1
    clear H1
    obtain rfl := Option.some.inj H
    go_wp2
    go_ret
    exact ⟨by first | rfl | (simp [errW_none, errW_some] <;> rfl) | (simp [*, errW_none, errW_some] <;> rfl), low HB⟩
   ·
    replace c40 := Bool.eq_false_iff.mpr c40
    subst c40
    have H1 : (if t105 = 0 then ((Podd.odds_Compare.f kj5 t103 t104 a0_0 a0_1).bind fun bt111 => ((Podd.odds_Compare.f kj5 t103 t104 a1_0 a1_1).bind fun bt113 => (if bt111.2 = 0 then (if bt113.2 = 0 then (if bt111.1 < 0 then (some false) else (if bt113.1 < 0 then (some false) else ((Podd.odds_May.f kj5 t103 t104).bind fun t115 => (if t115 = true then (joustlaw32_OddsOrder.j1 kj5 a2 a0_0 a0_1) else (some false))))) else (some false)) else (some false)))) else (joustlaw32_OddsOrder.j1 kj5 a2 a0_0 a0_1)) = some r := by rw [if_neg (show ¬ (false = true) by decide)] at H; exact H
    clear H
    have H := H1
    clear H1
    have HC41 := Aside0.mk H
    clear H
    go_upto_if 38 with (fail)
    go_cut [] (fun wc => ∃ (kq : Nat), Aside0 (joustlaw32_OddsOrder.j1 kq a2 a0_0 a0_1 = some r) ∧ Aside0 (kq ≤ kj5) ∧ Aside0 (wc.heap[gb101]? = some (.cells #[.int .u64 a0_0, .int .u64 a0_1] 47 (0, 0))) ∧ Aside0 (wc.heap[gb102]? = some (.cells #[.int .u64 a1_0, .int .u64 a1_1] 47 (0, 0))) ∧ Aside0 (wc.heap[gb106]? = some (.cells #[.int .u64 t103, .int .u64 t104] 47 (0, 0))) ∧ Aside0 (wc.heap[gb110]? = some (.cells #[.int .u64 t107, .int .u64 t108] 47 (0, 0))) ∧ Aside0 (Below w.heap.size w wc))
    case first =>
     have H := HC41.out
     clear HC41
     by_cases c42 : t105 = 0
     ·
      rw [if_pos c42] at H
      have c42b0 : (t105 == 0) = true := beq_iff_eq.mpr c42
      have c42b1 : (t105 != 0) = false := bne_eq_false_iff_eq.mpr c42
      clear c42
      (first | rw [c42b0] | (simp only [i64_w, i32_w]; rw [c42b0]) | skip)
      replace H := Option.bind_eq_some_iff.mp H
      obtain ⟨⟨t111, t112⟩, A430, H⟩ := H
      replace H : ((Podd.odds_Compare.f kj5 t103 t104 a1_0 a1_1).bind fun bt113 => (if t112 = 0 then (if bt113.2 = 0 then (if t111 < 0 then (some false) else (if bt113.1 < 0 then (some false) else ((Podd.odds_May.f kj5 t103 t104).bind fun t115 => (if t115 = true then (joustlaw32_OddsOrder.j1 kj5 a2 a0_0 a0_1) else (some false))))) else (some false)) else (some false))) = some r := H
      have A43 := Aside0.mk A430
      clear A430
      replace H := Option.bind_eq_some_iff.mp H
      obtain ⟨⟨t113, t114⟩, A440, H⟩ := H
      replace H : (if t112 = 0 then (if t114 = 0 then (if t111 < 0 then (some false) else (if t113 < 0 then (some false) else ((Podd.odds_May.f kj5 t103 t104).bind fun t115 => (if t115 = true then (joustlaw32_OddsOrder.j1 kj5 a2 a0_0 a0_1) else (some false))))) else (some false)) else (some false)) = some r := H
      have A44 := Aside0.mk A440
      clear A440
      by_cases c45 : t112 = 0
      ·
       rw [if_pos c45] at H
       have c45b0 : (t112 == 0) = true := beq_iff_eq.mpr c45
       have c45b1 : (t112 != 0) = false := bne_eq_false_iff_eq.mpr c45
       clear c45
       by_cases c46 : t114 = 0
       ·
        rw [if_pos c46] at H
        have c46b0 : (t114 == 0) = true := beq_iff_eq.mpr c46
        have c46b1 : (t114 != 0) = false := bne_eq_false_iff_eq.mpr c46
        clear c46
        by_cases c47 : t111 < 0
        ·
         rw [if_pos c47] at H
         have c47b0 : decide (t111 < 0) = true := decide_eq_true c47
         clear c47
         obtain rfl := Option.some.inj H
         have hnb48 := NB106_101.out
         have hnc48 := NB101_106.out
         have hnb49 := NB106_102.out
         have hnc49 := NB102_106.out
         have hnb50 := NB106_110.out
         have hnc50 := NB110_106.out
         have hcz51_0 : wc.cell? ⟨gb106, 0, none⟩ = some (.int .u64 t103) := (blk_cell BK106.out 0).trans rfl
         have hcz51_1 : wc.cell? ⟨gb106, 1, none⟩ = some (.int .u64 t104) := (blk_cell BK106.out 1).trans rfl
         have hfz51_0 := blk_frozen BK106.out 0
         have hfz51_1 := blk_frozen BK106.out 1
         have hnb52 := NB101_102.out
         have hnc52 := NB102_101.out
         have hnb53 := NB101_110.out
         have hnc53 := NB110_101.out
         have hcz54_0 : wc.cell? ⟨gb101, 0, none⟩ = some (.int .u64 a0_0) := (blk_cell BK101.out 0).trans rfl
         have hcz54_1 : wc.cell? ⟨gb101, 1, none⟩ = some (.int .u64 a0_1) := (blk_cell BK101.out 1).trans rfl
         have hfz54_0 := blk_frozen BK101.out 0
         have hfz54_1 := blk_frozen BK101.out 1
         go_wp2_with (first | ((with_reducible refine gate_callee (f := 37) rfl ?_); refine goesL_ (some 42) rfl rfl Tryd.func37 (by kernel_rfl) rfl #[.agg #[.int .u64 t103, .int .u64 t104], .agg #[.int .u64 a0_0, .int .u64 a0_1]] rfl (by (try simp only [List.map_toArray, List.map_cons, List.map_nil]); first | done | rfl | (simp only [List.length_drop, List.length_take]; rfl)) ?_; (with_reducible refine (Podd.odds_Compare.calls kj5 t103 t104 a0_0 a0_1 t111 t112 _ A43.out).mono ?_); rintro e w55 ⟨rfl, hb⟩; refine ⟨_, rfl, ?_⟩; have n0_ := Aside0.mk (blk_below (g := gb101) (o := .cells #[.int .u64 a0_0, .int .u64 a0_1] 47 (0, 0)) of_lies hb); have n1_ := Aside0.mk (blk_below (g := gb102) (o := .cells #[.int .u64 a1_0, .int .u64 a1_1] 47 (0, 0)) of_lies hb); have n2_ := Aside0.mk (blk_below (g := gb106) (o := .cells #[.int .u64 t103, .int .u64 t104] 47 (0, 0)) of_lies hb); have n3_ := Aside0.mk (blk_below (g := gb110) (o := .cells #[.int .u64 t107, .int .u64 t108] 47 (0, 0)) of_lies hb); have n4_ := Aside0.mk (below_step (low HB) hb); clear BK101; clear BK102; clear BK106; clear BK110; clear HB; have BK101 := n0_; have BK102 := n1_; have BK106 := n2_; have BK110 := n3_; have HB := n4_; clear n0_ n1_ n2_ n3_ n4_; (try clear hb); (try clear hb2); (try clear hk); (try clear hi); obtain ⟨hcz56_0, hcz56_1, hfz56_0, hfz56_1⟩ := cells2 BK106.out; have hnb57 := NB102_110.out; have hnc57 := NB110_102.out; obtain ⟨hcz58_0, hcz58_1, hfz58_0, hfz58_1⟩ := cells2 BK102.out) | ((with_reducible refine gate_callee (f := 37) rfl ?_); refine goesL_ (some 48) rfl rfl Tryd.func37 (by kernel_rfl) rfl #[.agg #[.int .u64 t103, .int .u64 t104], .agg #[.int .u64 a1_0, .int .u64 a1_1]] rfl (by (try simp only [List.map_toArray, List.map_cons, List.map_nil]); first | done | rfl | (simp only [List.length_drop, List.length_take]; rfl)) ?_; (with_reducible refine (Podd.odds_Compare.calls kj5 t103 t104 a1_0 a1_1 t113 t114 _ A44.out).mono ?_); rintro e w59 ⟨rfl, hb⟩; refine ⟨_, rfl, ?_⟩; have n0_ := Aside0.mk (blk_below (g := gb101) (o := .cells #[.int .u64 a0_0, .int .u64 a0_1] 47 (0, 0)) of_lies hb); have n1_ := Aside0.mk (blk_below (g := gb102) (o := .cells #[.int .u64 a1_0, .int .u64 a1_1] 47 (0, 0)) of_lies hb); have n2_ := Aside0.mk (blk_below (g := gb106) (o := .cells #[.int .u64 t103, .int .u64 t104] 47 (0, 0)) of_lies hb); have n3_ := Aside0.mk (blk_below (g := gb110) (o := .cells #[.int .u64 t107, .int .u64 t108] 47 (0, 0)) of_lies hb); have n4_ := Aside0.mk (below_step (low HB) hb); clear BK101; clear BK102; clear BK106; clear BK110; clear HB; have BK101 := n0_; have BK102 := n1_; have BK106 := n2_; have BK110 := n3_; have HB := n4_; clear n0_ n1_ n2_ n3_ n4_; (try clear hb); (try clear hb2); (try clear hk); (try clear hi)))
         go_ret
         exact ⟨by first | rfl | (simp [errW_none, errW_some] <;> rfl) | (simp [*, errW_none, errW_some] <;> rfl), low HB⟩
        ·
         rw [if_neg c47] at H
         have c47b0 : decide (t111 < 0) = false := decide_eq_false c47
         clear c47
         by_cases c60 : t113 < 0
         ·
          rw [if_pos c60] at H
          have c60b0 : decide (t113 < 0) = true := decide_eq_true c60
          clear c60
          obtain rfl := Option.some.inj H
          have hnb61 := NB106_101.out
          have hnc61 := NB101_106.out
          have hnb62 := NB106_102.out
          have hnc62 := NB102_106.out
          have hnb63 := NB106_110.out
          have hnc63 := NB110_106.out
          have hcz64_0 : wc.cell? ⟨gb106, 0, none⟩ = some (.int .u64 t103) := (blk_cell BK106.out 0).trans rfl
          have hcz64_1 : wc.cell? ⟨gb106, 1, none⟩ = some (.int .u64 t104) := (blk_cell BK106.out 1).trans rfl
          have hfz64_0 := blk_frozen BK106.out 0
          have hfz64_1 := blk_frozen BK106.out 1
          have hnb65 := NB101_102.out
          have hnc65 := NB102_101.out
          have hnb66 := NB101_110.out
          have hnc66 := NB110_101.out
          have hcz67_0 : wc.cell? ⟨gb101, 0, none⟩ = some (.int .u64 a0_0) := (blk_cell BK101.out 0).trans rfl
          have hcz67_1 : wc.cell? ⟨gb101, 1, none⟩ = some (.int .u64 a0_1) := (blk_cell BK101.out 1).trans rfl
          have hfz67_0 := blk_frozen BK101.out 0
          have hfz67_1 := blk_frozen BK101.out 1
          go_wp2_with (first | ((with_reducible refine gate_callee (f := 37) rfl ?_); refine goesL_ (some 42) rfl rfl Tryd.func37 (by kernel_rfl) rfl #[.agg #[.int .u64 t103, .int .u64 t104], .agg #[.int .u64 a0_0, .int .u64 a0_1]] rfl (by (try simp only [List.map_toArray, List.map_cons, List.map_nil]); first | done | rfl | (simp only [List.length_drop, List.length_take]; rfl)) ?_; (with_reducible refine (Podd.odds_Compare.calls kj5 t103 t104 a0_0 a0_1 t111 t112 _ A43.out).mono ?_); rintro e w68 ⟨rfl, hb⟩; refine ⟨_, rfl, ?_⟩; have n0_ := Aside0.mk (blk_below (g := gb101) (o := .cells #[.int .u64 a0_0, .int .u64 a0_1] 47 (0, 0)) of_lies hb); have n1_ := Aside0.mk (blk_below (g := gb102) (o := .cells #[.int .u64 a1_0, .int .u64 a1_1] 47 (0, 0)) of_lies hb); have n2_ := Aside0.mk (blk_below (g := gb106) (o := .cells #[.int .u64 t103, .int .u64 t104] 47 (0, 0)) of_lies hb); have n3_ := Aside0.mk (blk_below (g := gb110) (o := .cells #[.int .u64 t107, .int .u64 t108] 47 (0, 0)) of_lies hb); have n4_ := Aside0.mk (below_step (low HB) hb); clear BK101; clear BK102; clear BK106; clear BK110; clear HB; have BK101 := n0_; have BK102 := n1_; have BK106 := n2_; have BK110 := n3_; have HB := n4_; clear n0_ n1_ n2_ n3_ n4_; (try clear hb); (try clear hb2); (try clear hk); (try clear hi); obtain ⟨hcz69_0, hcz69_1, hfz69_0, hfz69_1⟩ := cells2 BK106.out; have hnb70 := NB102_110.out; have hnc70 := NB110_102.out; obtain ⟨hcz71_0, hcz71_1, hfz71_0, hfz71_1⟩ := cells2 BK102.out) | ((with_reducible refine gate_callee (f := 37) rfl ?_); refine goesL_ (some 48) rfl rfl Tryd.func37 (by kernel_rfl) rfl #[.agg #[.int .u64 t103, .int .u64 t104], .agg #[.int .u64 a1_0, .int .u64 a1_1]] rfl (by (try simp only [List.map_toArray, List.map_cons, List.map_nil]); first | done | rfl | (simp only [List.length_drop, List.length_take]; rfl)) ?_; (with_reducible refine (Podd.odds_Compare.calls kj5 t103 t104 a1_0 a1_1 t113 t114 _ A44.out).mono ?_); rintro e w72 ⟨rfl, hb⟩; refine ⟨_, rfl, ?_⟩; have n0_ := Aside0.mk (blk_below (g := gb101) (o := .cells #[.int .u64 a0_0, .int .u64 a0_1] 47 (0, 0)) of_lies hb); have n1_ := Aside0.mk (blk_below (g := gb102) (o := .cells #[.int .u64 a1_0, .int .u64 a1_1] 47 (0, 0)) of_lies hb); have n2_ := Aside0.mk (blk_below (g := gb106) (o := .cells #[.int .u64 t103, .int .u64 t104] 47 (0, 0)) of_lies hb); have n3_ := Aside0.mk (blk_below (g := gb110) (o := .cells #[.int .u64 t107, .int .u64 t108] 47 (0, 0)) of_lies hb); have n4_ := Aside0.mk (below_step (low HB) hb); clear BK101; clear BK102; clear BK106; clear BK110; clear HB; have BK101 := n0_; have BK102 := n1_; have BK106 := n2_; have BK110 := n3_; have HB := n4_; clear n0_ n1_ n2_ n3_ n4_; (try clear hb); (try clear hb2); (try clear hk); (try clear hi)))
          go_ret
          exact ⟨by first | rfl | (simp [errW_none, errW_some] <;> rfl) | (simp [*, errW_none, errW_some] <;> rfl), low HB⟩
         ·
          rw [if_neg c60] at H
          have c60b0 : decide (t113 < 0) = false := decide_eq_false c60
          clear c60
          replace H := Option.bind_eq_some_iff.mp H
          obtain ⟨t115, A730, H⟩ := H
          replace H : (if t115 = true then (joustlaw32_OddsOrder.j1 kj5 a2 a0_0 a0_1) else (some false)) = some r := H
          have A73 := Aside0.mk A730
          clear A730
          by_cases c74 : t115 = true
          ·
           subst c74
           have H1 : (joustlaw32_OddsOrder.j1 kj5 a2 a0_0 a0_1) = some r := by rw [if_pos rfl] at H; exact H
           clear H
           have H := H1
           clear H1
           have H' := Aside0.mk H
           clear H
           have hnb75 := NB106_101.out
           have hnc75 := NB101_106.out
           have hnb76 := NB106_102.out
           have hnc76 := NB102_106.out
           have hnb77 := NB106_110.out
           have hnc77 := NB110_106.out
           have hcz78_0 : wc.cell? ⟨gb106, 0, none⟩ = some (.int .u64 t103) := (blk_cell BK106.out 0).trans rfl
           have hcz78_1 : wc.cell? ⟨gb106, 1, none⟩ = some (.int .u64 t104) := (blk_cell BK106.out 1).trans rfl
           have hfz78_0 := blk_frozen BK106.out 0
           have hfz78_1 := blk_frozen BK106.out 1
           have hnb79 := NB101_102.out
           have hnc79 := NB102_101.out
           have hnb80 := NB101_110.out
           have hnc80 := NB110_101.out
           have hcz81_0 : wc.cell? ⟨gb101, 0, none⟩ = some (.int .u64 a0_0) := (blk_cell BK101.out 0).trans rfl
           have hcz81_1 : wc.cell? ⟨gb101, 1, none⟩ = some (.int .u64 a0_1) := (blk_cell BK101.out 1).trans rfl
           have hfz81_0 := blk_frozen BK101.out 0
           have hfz81_1 := blk_frozen BK101.out 1
           go_wp2_with (first | ((with_reducible refine gate_callee (f := 37) rfl ?_); refine goesL_ (some 42) rfl rfl Tryd.func37 (by kernel_rfl) rfl #[.agg #[.int .u64 t103, .int .u64 t104], .agg #[.int .u64 a0_0, .int .u64 a0_1]] rfl (by (try simp only [List.map_toArray, List.map_cons, List.map_nil]); first | done | rfl | (simp only [List.length_drop, List.length_take]; rfl)) ?_; (with_reducible refine (Podd.odds_Compare.calls kj5 t103 t104 a0_0 a0_1 t111 t112 _ A43.out).mono ?_); rintro e w82 ⟨rfl, hb⟩; refine ⟨_, rfl, ?_⟩; have n0_ := Aside0.mk (blk_below (g := gb101) (o := .cells #[.int .u64 a0_0, .int .u64 a0_1] 47 (0, 0)) of_lies hb); have n1_ := Aside0.mk (blk_below (g := gb102) (o := .cells #[.int .u64 a1_0, .int .u64 a1_1] 47 (0, 0)) of_lies hb); have n2_ := Aside0.mk (blk_below (g := gb106) (o := .cells #[.int .u64 t103, .int .u64 t104] 47 (0, 0)) of_lies hb); have n3_ := Aside0.mk (blk_below (g := gb110) (o := .cells #[.int .u64 t107, .int .u64 t108] 47 (0, 0)) of_lies hb); have n4_ := Aside0.mk (below_step (low HB) hb); clear BK101; clear BK102; clear BK106; clear BK110; clear HB; have BK101 := n0_; have BK102 := n1_; have BK106 := n2_; have BK110 := n3_; have HB := n4_; clear n0_ n1_ n2_ n3_ n4_; (try clear hb); (try clear hb2); (try clear hk); (try clear hi); obtain ⟨hcz83_0, hcz83_1, hfz83_0, hfz83_1⟩ := cells2 BK106.out; have hnb84 := NB102_110.out; have hnc84 := NB110_102.out; obtain ⟨hcz85_0, hcz85_1, hfz85_0, hfz85_1⟩ := cells2 BK102.out) | ((with_reducible refine gate_callee (f := 37) rfl ?_); refine goesL_ (some 48) rfl rfl Tryd.func37 (by kernel_rfl) rfl #[.agg #[.int .u64 t103, .int .u64 t104], .agg #[.int .u64 a1_0, .int .u64 a1_1]] rfl (by (try simp only [List.map_toArray, List.map_cons, List.map_nil]); first | done | rfl | (simp only [List.length_drop, List.length_take]; rfl)) ?_; (with_reducible refine (Podd.odds_Compare.calls kj5 t103 t104 a1_0 a1_1 t113 t114 _ A44.out).mono ?_); rintro e w86 ⟨rfl, hb⟩; refine ⟨_, rfl, ?_⟩; have n0_ := Aside0.mk (blk_below (g := gb101) (o := .cells #[.int .u64 a0_0, .int .u64 a0_1] 47 (0, 0)) of_lies hb); have n1_ := Aside0.mk (blk_below (g := gb102) (o := .cells #[.int .u64 a1_0, .int .u64 a1_1] 47 (0, 0)) of_lies hb); have n2_ := Aside0.mk (blk_below (g := gb106) (o := .cells #[.int .u64 t103, .int .u64 t104] 47 (0, 0)) of_lies hb); have n3_ := Aside0.mk (blk_below (g := gb110) (o := .cells #[.int .u64 t107, .int .u64 t108] 47 (0, 0)) of_lies hb); have n4_ := Aside0.mk (below_step (low HB) hb); clear BK101; clear BK102; clear BK106; clear BK110; clear HB; have BK101 := n0_; have BK102 := n1_; have BK106 := n2_; have BK110 := n3_; have HB := n4_; clear n0_ n1_ n2_ n3_ n4_; (try clear hb); (try clear hb2); (try clear hk); (try clear hi); obtain ⟨hcz87_0, hcz87_1, hfz87_0, hfz87_1⟩ := cells2 BK106.out) | (go_at_call 38; (with_reducible refine (Podd.odds_May.calls kj5 t103 t104 true _ A73.out).mono ?_); rintro e w88 ⟨rfl, hb⟩; have n0_ := Aside0.mk (blk_below (g := gb101) (o := .cells #[.int .u64 a0_0, .int .u64 a0_1] 47 (0, 0)) of_lies hb); have n1_ := Aside0.mk (blk_below (g := gb102) (o := .cells #[.int .u64 a1_0, .int .u64 a1_1] 47 (0, 0)) of_lies hb); have n2_ := Aside0.mk (blk_below (g := gb106) (o := .cells #[.int .u64 t103, .int .u64 t104] 47 (0, 0)) of_lies hb); have n3_ := Aside0.mk (blk_below (g := gb110) (o := .cells #[.int .u64 t107, .int .u64 t108] 47 (0, 0)) of_lies hb); have n4_ := Aside0.mk (below_step (low HB) hb); clear BK101; clear BK102; clear BK106; clear BK110; clear HB; have BK101 := n0_; have BK102 := n1_; have BK106 := n2_; have BK110 := n3_; have HB := n4_; clear n0_ n1_ n2_ n3_ n4_; (try clear hb); (try clear hb2); (try clear hk); (try clear hi)))
           go_meet
           case rel => exact ⟨_, H', ⟨by have := HJ5.out; first | omega | exact Nat.le_refl _⟩, ⟨of_lies⟩, ⟨of_lies⟩, ⟨of_lies⟩, ⟨of_lies⟩, ⟨low HB⟩⟩
          ·
           replace c74 := Bool.eq_false_iff.mpr c74
           subst c74
           have H1 : (some false) = some r := by rw [if_neg (show ¬ (false = true) by decide)] at H; exact H
           clear H
           have H := H1
           clear H1
           obtain rfl := Option.some.inj H
           have hnb89 := NB106_101.out
           have hnc89 := NB101_106.out
           have hnb90 := NB106_102.out
           have hnc90 := NB102_106.out
           have hnb91 := NB106_110.out
           have hnc91 := NB110_106.out
           have hcz92_0 : wc.cell? ⟨gb106, 0, none⟩ = some (.int .u64 t103) := (blk_cell BK106.out 0).trans rfl
           have hcz92_1 : wc.cell? ⟨gb106, 1, none⟩ = some (.int .u64 t104) := (blk_cell BK106.out 1).trans rfl
           have hfz92_0 := blk_frozen BK106.out 0
           have hfz92_1 := blk_frozen BK106.out 1
           have hnb93 := NB101_102.out
           have hnc93 := NB102_101.out
           have hnb94 := NB101_110.out
           have hnc94 := NB110_101.out
           have hcz95_0 : wc.cell? ⟨gb101, 0, none⟩ = some (.int .u64 a0_0) := (blk_cell BK101.out 0).trans rfl
           have hcz95_1 : wc.cell? ⟨gb101, 1, none⟩ = some (.int .u64 a0_1) := (blk_cell BK101.out 1).trans rfl
           have hfz95_0 := blk_frozen BK101.out 0
           have hfz95_1 := blk_frozen BK101.out 1
           go_wp2_with (first | ((with_reducible refine gate_callee (f := 37) rfl ?_); refine goesL_ (some 42) rfl rfl Tryd.func37 (by kernel_rfl) rfl #[.agg #[.int .u64 t103, .int .u64 t104], .agg #[.int .u64 a0_0, .int .u64 a0_1]] rfl (by (try simp only [List.map_toArray, List.map_cons, List.map_nil]); first | done | rfl | (simp only [List.length_drop, List.length_take]; rfl)) ?_; (with_reducible refine (Podd.odds_Compare.calls kj5 t103 t104 a0_0 a0_1 t111 t112 _ A43.out).mono ?_); rintro e w96 ⟨rfl, hb⟩; refine ⟨_, rfl, ?_⟩; have n0_ := Aside0.mk (blk_below (g := gb101) (o := .cells #[.int .u64 a0_0, .int .u64 a0_1] 47 (0, 0)) of_lies hb); have n1_ := Aside0.mk (blk_below (g := gb102) (o := .cells #[.int .u64 a1_0, .int .u64 a1_1] 47 (0, 0)) of_lies hb); have n2_ := Aside0.mk (blk_below (g := gb106) (o := .cells #[.int .u64 t103, .int .u64 t104] 47 (0, 0)) of_lies hb); have n3_ := Aside0.mk (blk_below (g := gb110) (o := .cells #[.int .u64 t107, .int .u64 t108] 47 (0, 0)) of_lies hb); have n4_ := Aside0.mk (below_step (low HB) hb); clear BK101; clear BK102; clear BK106; clear BK110; clear HB; have BK101 := n0_; have BK102 := n1_; have BK106 := n2_; have BK110 := n3_; have HB := n4_; clear n0_ n1_ n2_ n3_ n4_; (try clear hb); (try clear hb2); (try clear hk); (try clear hi); obtain ⟨hcz97_0, hcz97_1, hfz97_0, hfz97_1⟩ := cells2 BK106.out; have hnb98 := NB102_110.out; have hnc98 := NB110_102.out; obtain ⟨hcz99_0, hcz99_1, hfz99_0, hfz99_1⟩ := cells2 BK102.out) | ((with_reducible refine gate_callee (f := 37) rfl ?_); refine goesL_ (some 48) rfl rfl Tryd.func37 (by kernel_rfl) rfl #[.agg #[.int .u64 t103, .int .u64 t104], .agg #[.int .u64 a1_0, .int .u64 a1_1]] rfl (by (try simp only [List.map_toArray, List.map_cons, List.map_nil]); first | done | rfl | (simp only [List.length_drop, List.length_take]; rfl)) ?_; (with_reducible refine (Podd.odds_Compare.calls kj5 t103 t104 a1_0 a1_1 t113 t114 _ A44.out).mono ?_); rintro e w100 ⟨rfl, hb⟩; refine ⟨_, rfl, ?_⟩; have n0_ := Aside0.mk (blk_below (g := gb101) (o := .cells #[.int .u64 a0_0, .int .u64 a0_1] 47 (0, 0)) of_lies hb); have n1_ := Aside0.mk (blk_below (g := gb102) (o := .cells #[.int .u64 a1_0, .int .u64 a1_1] 47 (0, 0)) of_lies hb); have n2_ := Aside0.mk (blk_below (g := gb106) (o := .cells #[.int .u64 t103, .int .u64 t104] 47 (0, 0)) of_lies hb); have n3_ := Aside0.mk (blk_below (g := gb110) (o := .cells #[.int .u64 t107, .int .u64 t108] 47 (0, 0)) of_lies hb); have n4_ := Aside0.mk (below_step (low HB) hb); clear BK101; clear BK102; clear BK106; clear BK110; clear HB; have BK101 := n0_; have BK102 := n1_; have BK106 := n2_; have BK110 := n3_; have HB := n4_; clear n0_ n1_ n2_ n3_ n4_; (try clear hb); (try clear hb2); (try clear hk); (try clear hi); obtain ⟨hcz101_0, hcz101_1, hfz101_0, hfz101_1⟩ := cells2 BK106.out) | (go_at_call 38; (with_reducible refine (Podd.odds_May.calls kj5 t103 t104 false _ A73.out).mono ?_); rintro e w102 ⟨rfl, hb⟩; have n0_ := Aside0.mk (blk_below (g := gb101) (o := .cells #[.int .u64 a0_0, .int .u64 a0_1] 47 (0, 0)) of_lies hb); have n1_ := Aside0.mk (blk_below (g := gb102) (o := .cells #[.int .u64 a1_0, .int .u64 a1_1] 47 (0, 0)) of_lies hb); have n2_ := Aside0.mk (blk_below (g := gb106) (o := .cells #[.int .u64 t103, .int .u64 t104] 47 (0, 0)) of_lies hb); have n3_ := Aside0.mk (blk_below (g := gb110) (o := .cells #[.int .u64 t107, .int .u64 t108] 47 (0, 0)) of_lies hb); have n4_ := Aside0.mk (below_step (low HB) hb); clear BK101; clear BK102; clear BK106; clear BK110; clear HB; have BK101 := n0_; have BK102 := n1_; have BK106 := n2_; have BK110 := n3_; have HB := n4_; clear n0_ n1_ n2_ n3_ n4_; (try clear hb); (try clear hb2); (try clear hk); (try clear hi)))
           go_ret
           exact ⟨by first | rfl | (simp [errW_none, errW_some] <;> rfl) | (simp [*, errW_none, errW_some] <;> rfl), low HB⟩
       ·
        rw [if_neg c46] at H
        have c46b0 : (t114 == 0) = false := beq_eq_false_iff_ne.mpr c46
        have c46b1 : (t114 != 0) = true := bne_iff_ne.mpr c46
        obtain rfl := Option.some.inj H
        have hnb103 := NB106_101.out
        have hnc103 := NB101_106.out
        have hnb104 := NB106_102.out
        have hnc104 := NB102_106.out
        have hnb105 := NB106_110.out
        have hnc105 := NB110_106.out
        have hcz106_0 : wc.cell? ⟨gb106, 0, none⟩ = some (.int .u64 t103) := (blk_cell BK106.out 0).trans rfl
        have hcz106_1 : wc.cell? ⟨gb106, 1, none⟩ = some (.int .u64 t104) := (blk_cell BK106.out 1).trans rfl
        have hfz106_0 := blk_frozen BK106.out 0
        have hfz106_1 := blk_frozen BK106.out 1
        have hnb107 := NB101_102.out
        have hnc107 := NB102_101.out
        have hnb108 := NB101_110.out
        have hnc108 := NB110_101.out
        have hcz109_0 : wc.cell? ⟨gb101, 0, none⟩ = some (.int .u64 a0_0) := (blk_cell BK101.out 0).trans rfl
        have hcz109_1 : wc.cell? ⟨gb101, 1, none⟩ = some (.int .u64 a0_1) := (blk_cell BK101.out 1).trans rfl
        have hfz109_0 := blk_frozen BK101.out 0
        have hfz109_1 := blk_frozen BK101.out 1
        go_wp2_with (first | ((with_reducible refine gate_callee (f := 37) rfl ?_); refine goesL_ (some 42) rfl rfl Tryd.func37 (by kernel_rfl) rfl #[.agg #[.int .u64 t103, .int .u64 t104], .agg #[.int .u64 a0_0, .int .u64 a0_1]] rfl (by (try simp only [List.map_toArray, List.map_cons, List.map_nil]); first | done | rfl | (simp only [List.length_drop, List.length_take]; rfl)) ?_; (with_reducible refine (Podd.odds_Compare.calls kj5 t103 t104 a0_0 a0_1 t111 t112 _ A43.out).mono ?_); rintro e w110 ⟨rfl, hb⟩; refine ⟨_, rfl, ?_⟩; have n0_ := Aside0.mk (blk_below (g := gb101) (o := .cells #[.int .u64 a0_0, .int .u64 a0_1] 47 (0, 0)) of_lies hb); have n1_ := Aside0.mk (blk_below (g := gb102) (o := .cells #[.int .u64 a1_0, .int .u64 a1_1] 47 (0, 0)) of_lies hb); have n2_ := Aside0.mk (blk_below (g := gb106) (o := .cells #[.int .u64 t103, .int .u64 t104] 47 (0, 0)) of_lies hb); have n3_ := Aside0.mk (blk_below (g := gb110) (o := .cells #[.int .u64 t107, .int .u64 t108] 47 (0, 0)) of_lies hb); have n4_ := Aside0.mk (below_step (low HB) hb); clear BK101; clear BK102; clear BK106; clear BK110; clear HB; have BK101 := n0_; have BK102 := n1_; have BK106 := n2_; have BK110 := n3_; have HB := n4_; clear n0_ n1_ n2_ n3_ n4_; (try clear hb); (try clear hb2); (try clear hk); (try clear hi); obtain ⟨hcz111_0, hcz111_1, hfz111_0, hfz111_1⟩ := cells2 BK106.out; have hnb112 := NB102_110.out; have hnc112 := NB110_102.out; obtain ⟨hcz113_0, hcz113_1, hfz113_0, hfz113_1⟩ := cells2 BK102.out) | ((with_reducible refine gate_callee (f := 37) rfl ?_); refine goesL_ (some 48) rfl rfl Tryd.func37 (by kernel_rfl) rfl #[.agg #[.int .u64 t103, .int .u64 t104], .agg #[.int .u64 a1_0, .int .u64 a1_1]] rfl (by (try simp only [List.map_toArray, List.map_cons, List.map_nil]); first | done | rfl | (simp only [List.length_drop, List.length_take]; rfl)) ?_; (with_reducible refine (Podd.odds_Compare.calls kj5 t103 t104 a1_0 a1_1 t113 t114 _ A44.out).mono ?_); rintro e w114 ⟨rfl, hb⟩; refine ⟨_, rfl, ?_⟩; have n0_ := Aside0.mk (blk_below (g := gb101) (o := .cells #[.int .u64 a0_0, .int .u64 a0_1] 47 (0, 0)) of_lies hb); have n1_ := Aside0.mk (blk_below (g := gb102) (o := .cells #[.int .u64 a1_0, .int .u64 a1_1] 47 (0, 0)) of_lies hb); have n2_ := Aside0.mk (blk_below (g := gb106) (o := .cells #[.int .u64 t103, .int .u64 t104] 47 (0, 0)) of_lies hb); have n3_ := Aside0.mk (blk_below (g := gb110) (o := .cells #[.int .u64 t107, .int .u64 t108] 47 (0, 0)) of_lies hb); have n4_ := Aside0.mk (below_step (low HB) hb); clear BK101; clear BK102; clear BK106; clear BK110; clear HB; have BK101 := n0_; have BK102 := n1_; have BK106 := n2_; have BK110 := n3_; have HB := n4_; clear n0_ n1_ n2_ n3_ n4_; (try clear hb); (try clear hb2); (try clear hk); (try clear hi)))
        go_ret
        exact ⟨by first | rfl | (simp [errW_none, errW_some] <;> rfl) | (simp [*, errW_none, errW_some] <;> rfl), low HB⟩
      ·
       rw [if_neg c45] at H
       have c45b0 : (t112 == 0) = false := beq_eq_false_iff_ne.mpr c45
       have c45b1 : (t112 != 0) = true := bne_iff_ne.mpr c45
       obtain rfl := Option.some.inj H
       have hnb115 := NB106_101.out
       have hnc115 := NB101_106.out
       have hnb116 := NB106_102.out
       have hnc116 := NB102_106.out
       have hnb117 := NB106_110.out
       have hnc117 := NB110_106.out
       have hcz118_0 : wc.cell? ⟨gb106, 0, none⟩ = some (.int .u64 t103) := (blk_cell BK106.out 0).trans rfl
       have hcz118_1 : wc.cell? ⟨gb106, 1, none⟩ = some (.int .u64 t104) := (blk_cell BK106.out 1).trans rfl
       have hfz118_0 := blk_frozen BK106.out 0
       have hfz118_1 := blk_frozen BK106.out 1
       have hnb119 := NB101_102.out
       have hnc119 := NB102_101.out
       have hnb120 := NB101_110.out
       have hnc120 := NB110_101.out
       have hcz121_0 : wc.cell? ⟨gb101, 0, none⟩ = some (.int .u64 a0_0) := (blk_cell BK101.out 0).trans rfl
       have hcz121_1 : wc.cell? ⟨gb101, 1, none⟩ = some (.int .u64 a0_1) := (blk_cell BK101.out 1).trans rfl
       have hfz121_0 := blk_frozen BK101.out 0
       have hfz121_1 := blk_frozen BK101.out 1
       go_wp2_with (first | ((with_reducible refine gate_callee (f := 37) rfl ?_); refine goesL_ (some 42) rfl rfl Tryd.func37 (by kernel_rfl) rfl #[.agg #[.int .u64 t103, .int .u64 t104], .agg #[.int .u64 a0_0, .int .u64 a0_1]] rfl (by (try simp only [List.map_toArray, List.map_cons, List.map_nil]); first | done | rfl | (simp only [List.length_drop, List.length_take]; rfl)) ?_; (with_reducible refine (Podd.odds_Compare.calls kj5 t103 t104 a0_0 a0_1 t111 t112 _ A43.out).mono ?_); rintro e w122 ⟨rfl, hb⟩; refine ⟨_, rfl, ?_⟩; have n0_ := Aside0.mk (blk_below (g := gb101) (o := .cells #[.int .u64 a0_0, .int .u64 a0_1] 47 (0, 0)) of_lies hb); have n1_ := Aside0.mk (blk_below (g := gb102) (o := .cells #[.int .u64 a1_0, .int .u64 a1_1] 47 (0, 0)) of_lies hb); have n2_ := Aside0.mk (blk_below (g := gb106) (o := .cells #[.int .u64 t103, .int .u64 t104] 47 (0, 0)) of_lies hb); have n3_ := Aside0.mk (blk_below (g := gb110) (o := .cells #[.int .u64 t107, .int .u64 t108] 47 (0, 0)) of_lies hb); have n4_ := Aside0.mk (below_step (low HB) hb); clear BK101; clear BK102; clear BK106; clear BK110; clear HB; have BK101 := n0_; have BK102 := n1_; have BK106 := n2_; have BK110 := n3_; have HB := n4_; clear n0_ n1_ n2_ n3_ n4_; (try clear hb); (try clear hb2); (try clear hk); (try clear hi); obtain ⟨hcz123_0, hcz123_1, hfz123_0, hfz123_1⟩ := cells2 BK106.out; have hnb124 := NB102_110.out; have hnc124 := NB110_102.out; obtain ⟨hcz125_0, hcz125_1, hfz125_0, hfz125_1⟩ := cells2 BK102.out) | ((with_reducible refine gate_callee (f := 37) rfl ?_); refine goesL_ (some 48) rfl rfl Tryd.func37 (by kernel_rfl) rfl #[.agg #[.int .u64 t103, .int .u64 t104], .agg #[.int .u64 a1_0, .int .u64 a1_1]] rfl (by (try simp only [List.map_toArray, List.map_cons, List.map_nil]); first | done | rfl | (simp only [List.length_drop, List.length_take]; rfl)) ?_; (with_reducible refine (Podd.odds_Compare.calls kj5 t103 t104 a1_0 a1_1 t113 t114 _ A44.out).mono ?_); rintro e w126 ⟨rfl, hb⟩; refine ⟨_, rfl, ?_⟩; have n0_ := Aside0.mk (blk_below (g := gb101) (o := .cells #[.int .u64 a0_0, .int .u64 a0_1] 47 (0, 0)) of_lies hb); have n1_ := Aside0.mk (blk_below (g := gb102) (o := .cells #[.int .u64 a1_0, .int .u64 a1_1] 47 (0, 0)) of_lies hb); have n2_ := Aside0.mk (blk_below (g := gb106) (o := .cells #[.int .u64 t103, .int .u64 t104] 47 (0, 0)) of_lies hb); have n3_ := Aside0.mk (blk_below (g := gb110) (o := .cells #[.int .u64 t107, .int .u64 t108] 47 (0, 0)) of_lies hb); have n4_ := Aside0.mk (below_step (low HB) hb); clear BK101; clear BK102; clear BK106; clear BK110; clear HB; have BK101 := n0_; have BK102 := n1_; have BK106 := n2_; have BK110 := n3_; have HB := n4_; clear n0_ n1_ n2_ n3_ n4_; (try clear hb); (try clear hb2); (try clear hk); (try clear hi)))
       go_ret
       exact ⟨by first | rfl | (simp [errW_none, errW_some] <;> rfl) | (simp [*, errW_none, errW_some] <;> rfl), low HB⟩
     ·
      rw [if_neg c42] at H
      have c42b0 : (t105 == 0) = false := beq_eq_false_iff_ne.mpr c42
      have c42b1 : (t105 != 0) = true := bne_iff_ne.mpr c42
      (first | rw [c42b0] | (simp only [i64_w, i32_w]; rw [c42b0]) | skip)
      have H' := Aside0.mk H
      clear H
      go_wp2
      go_meet
      case rel => exact ⟨_, H', ⟨by have := HJ5.out; first | omega | exact Nat.le_refl _⟩, ⟨of_lies⟩, ⟨of_lies⟩, ⟨of_lies⟩, ⟨of_lies⟩, ⟨low HB⟩⟩
    case rest =>
     clear HC41
     try clear c1
     try clear c2
     try clear p2
     try clear c3
     try clear c4
     try clear c5
     try clear c6
     try clear c7
     try clear c8
     try clear c9
     try clear c10
     try clear c11
     try clear c12
     try clear c14
     try clear c15
     try clear c21
     try clear c22
     try clear c23
     try clear c25
     try clear c25b0
     try clear c26
     try clear c27
     try clear c28
     try clear c30
     try clear c31
     try clear c33
     try clear c34
     try clear c35
     try clear c36
     try clear c37
     try clear c38
     try clear c40
     try clear c42
     try clear c42b0
     try clear c42b1
     try clear c45
     try clear c45b0
     try clear c45b1
     try clear c46
     try clear c46b0
     try clear c46b1
     try clear c47
     try clear c47b0
     try clear c48
     try clear c49
     try clear c50
     try clear c52
     try clear c53
     try clear c57
     try clear c60
     try clear c60b0
     try clear c61
     try clear c62
     try clear c63
     try clear c65
     try clear c66
     try clear c70
     try clear c74
     try clear c75
     try clear c76
     try clear c77
     try clear c79
     try clear c80
     try clear c84
     try clear c89
     try clear c90
     try clear c91
     try clear c93
     try clear c94
     try clear c98
     try clear c103
     try clear c104
     try clear c105
     try clear c107
     try clear c108
     try clear c112
     try clear c115
     try clear c116
     try clear c117
     try clear c119
     try clear c120
     try clear c124
     try clear hcz101_0
     try clear hcz101_1
     try clear hcz106_0
     try clear hcz106_1
     try clear hcz109_0
     try clear hcz109_1
     try clear hcz10_0
     try clear hcz10_1
     try clear hcz111_0
     try clear hcz111_1
     try clear hcz113_0
     try clear hcz113_1
     try clear hcz118_0
     try clear hcz118_1
     try clear hcz11_0
     try clear hcz11_1
     try clear hcz121_0
     try clear hcz121_1
     try clear hcz123_0
     try clear hcz123_1
     try clear hcz125_0
     try clear hcz125_1
     try clear hcz16_0
     try clear hcz16_1
     try clear hcz17_0
     try clear hcz17_1
     try clear hcz18_0
     try clear hcz18_1
     try clear hcz24_0
     try clear hcz24_1
     try clear hcz29_0
     try clear hcz29_1
     try clear hcz32_0
     try clear hcz32_1
     try clear hcz36_0
     try clear hcz36_1
     try clear hcz39_0
     try clear hcz39_1
     try clear hcz51_0
     try clear hcz51_1
     try clear hcz54_0
     try clear hcz54_1
     try clear hcz56_0
     try clear hcz56_1
     try clear hcz58_0
     try clear hcz58_1
     try clear hcz64_0
     try clear hcz64_1
     try clear hcz67_0
     try clear hcz67_1
     try clear hcz69_0
     try clear hcz69_1
     try clear hcz71_0
     try clear hcz71_1
     try clear hcz78_0
     try clear hcz78_1
     try clear hcz81_0
     try clear hcz81_1
     try clear hcz83_0
     try clear hcz83_1
     try clear hcz85_0
     try clear hcz85_1
     try clear hcz87_0
     try clear hcz87_1
     try clear hcz92_0
     try clear hcz92_1
     try clear hcz95_0
     try clear hcz95_1
     try clear hcz97_0
     try clear hcz97_1
     try clear hcz99_0
     try clear hcz99_1
     try clear hfz101_0
     try clear hfz101_1
     try clear hfz106_0
     try clear hfz106_1
     try clear hfz109_0
     try clear hfz109_1
     try clear hfz10_0
     try clear hfz10_1
     try clear hfz111_0
     try clear hfz111_1
     try clear hfz113_0
     try clear hfz113_1
     try clear hfz118_0
     try clear hfz118_1
     try clear hfz11_0
     try clear hfz11_1
     try clear hfz121_0
     try clear hfz121_1
     try clear hfz123_0
     try clear hfz123_1
     try clear hfz125_0
     try clear hfz125_1
     try clear hfz16_0
     try clear hfz16_1
     try clear hfz17_0
     try clear hfz17_1
     try clear hfz18_0
     try clear hfz18_1
     try clear hfz24_0
     try clear hfz24_1
     try clear hfz29_0
     try clear hfz29_1
     try clear hfz32_0
     try clear hfz32_1
     try clear hfz36_0
     try clear hfz36_1
     try clear hfz39_0
     try clear hfz39_1
     try clear hfz51_0
     try clear hfz51_1
     try clear hfz54_0
     try clear hfz54_1
     try clear hfz56_0
     try clear hfz56_1
     try clear hfz58_0
     try clear hfz58_1
     try clear hfz64_0
     try clear hfz64_1
     try clear hfz67_0
     try clear hfz67_1
     try clear hfz69_0
     try clear hfz69_1
     try clear hfz71_0
     try clear hfz71_1
     try clear hfz78_0
     try clear hfz78_1
     try clear hfz81_0
     try clear hfz81_1
     try clear hfz83_0
     try clear hfz83_1
     try clear hfz85_0
     try clear hfz85_1
     try clear hfz87_0
     try clear hfz87_1
     try clear hfz92_0
     try clear hfz92_1
     try clear hfz95_0
     try clear hfz95_1
     try clear hfz97_0
     try clear hfz97_1
     try clear hfz99_0
     try clear hfz99_1
     try clear p2
     obtain ⟨kq, HA, HJ40, BK101, BK102, BK106, BK110, HB⟩ := hcut
     cases kq with
     | zero => exact absurd HA.out (by simp [joustlaw32_OddsOrder.j1])
     | succ kj40 =>
      have H := HA.out
      clear HA
      simp only [joustlaw32_OddsOrder.j1] at H
      have HC127 := Aside0.mk H
      clear H
      go_upto_region 10 with (fail)
      go_cut [81] (fun v81 wc => ∃ (kq : Nat) (x81_126 : Bool), v81 = .bool x81_126 ∧ Aside0 (joustlaw32_OddsOrder.j2 kq a2 x81_126 a0_0 a0_1 = some r) ∧ Aside0 (kq ≤ kj40) ∧ Aside0 (wc.heap[gb101]? = some (.cells #[.int .u64 a0_0, .int .u64 a0_1] 47 (0, 0))) ∧ Aside0 (wc.heap[gb102]? = some (.cells #[.int .u64 a1_0, .int .u64 a1_1] 47 (0, 0))) ∧ Aside0 (wc.heap[gb106]? = some (.cells #[.int .u64 t103, .int .u64 t104] 47 (0, 0))) ∧ Aside0 (wc.heap[gb110]? = some (.cells #[.int .u64 t107, .int .u64 t108] 47 (0, 0))) ∧ Aside0 (Below w.heap.size w wc))
      case first =>
       have H := HC127.out
       clear HC127
       replace H := Option.bind_eq_some_iff.mp H
       obtain ⟨t116, A1280, H⟩ := H
       replace H : (if t116 = true then (if a2 = 0 then (joustlaw32_OddsOrder.j2 kj40 a2 true a0_0 a0_1) else (joustlaw32_OddsOrder.j2 kj40 a2 (decide (a0_1 > 4294967296)) a0_0 a0_1)) else (joustlaw32_OddsOrder.j2 kj40 a2 true a0_0 a0_1)) = some r := H
       have A128 := Aside0.mk A1280
       clear A1280
       by_cases c129 : t116 = true
       ·
        subst c129
        have H1 : (if a2 = 0 then (joustlaw32_OddsOrder.j2 kj40 a2 true a0_0 a0_1) else (joustlaw32_OddsOrder.j2 kj40 a2 (decide (a0_1 > 4294967296)) a0_0 a0_1)) = some r := by rw [if_pos rfl] at H; exact H
        clear H
        have H := H1
        clear H1
        by_cases c130 : a2 = 0
        ·
         rw [if_pos c130] at H
         have c130b0 : (a2 == 0) = true := beq_iff_eq.mpr c130
         have c130b1 : (a2 != 0) = false := bne_eq_false_iff_eq.mpr c130
         clear c130
         (first | rw [c130b0] | (simp only [i64_w, i32_w]; rw [c130b0]) | skip)
         have H' := Aside0.mk H
         clear H
         have hnb131 := NB101_102.out
         have hnc131 := NB102_101.out
         have hnb132 := NB101_106.out
         have hnc132 := NB106_101.out
         have hnb133 := NB101_110.out
         have hnc133 := NB110_101.out
         have hcz134_0 : wc.cell? ⟨gb101, 0, none⟩ = some (.int .u64 a0_0) := (blk_cell BK101.out 0).trans rfl
         have hcz134_1 : wc.cell? ⟨gb101, 1, none⟩ = some (.int .u64 a0_1) := (blk_cell BK101.out 1).trans rfl
         have hfz134_0 := blk_frozen BK101.out 0
         have hfz134_1 := blk_frozen BK101.out 1
         go_wp2_with (first | ((with_reducible refine gate_callee (f := 38) rfl ?_); refine goesL_ (some 71) rfl rfl Tryd.func38 (by kernel_rfl) rfl #[.agg #[.int .u64 a0_0, .int .u64 a0_1]] rfl (by (try simp only [List.map_toArray, List.map_cons, List.map_nil]); first | done | rfl | (simp only [List.length_drop, List.length_take]; rfl)) ?_; (with_reducible refine (Podd.odds_May.calls kj40 a0_0 a0_1 true _ A128.out).mono ?_); rintro e w135 ⟨rfl, hb⟩; refine ⟨_, rfl, ?_⟩; have n0_ := Aside0.mk (blk_below (g := gb101) (o := .cells #[.int .u64 a0_0, .int .u64 a0_1] 47 (0, 0)) of_lies hb); have n1_ := Aside0.mk (blk_below (g := gb102) (o := .cells #[.int .u64 a1_0, .int .u64 a1_1] 47 (0, 0)) of_lies hb); have n2_ := Aside0.mk (blk_below (g := gb106) (o := .cells #[.int .u64 t103, .int .u64 t104] 47 (0, 0)) of_lies hb); have n3_ := Aside0.mk (blk_below (g := gb110) (o := .cells #[.int .u64 t107, .int .u64 t108] 47 (0, 0)) of_lies hb); have n4_ := Aside0.mk (below_step (low HB) hb); clear BK101; clear BK102; clear BK106; clear BK110; clear HB; have BK101 := n0_; have BK102 := n1_; have BK106 := n2_; have BK110 := n3_; have HB := n4_; clear n0_ n1_ n2_ n3_ n4_; (try clear hb); (try clear hb2); (try clear hk); (try clear hi)))
         go_meet
         case rel => exact ⟨_, (true), (by first | rfl | (simp; done) | (simp [*]; done)), H', ⟨by have := HJ5.out; have := HJ40.out; first | omega | exact Nat.le_refl _⟩, ⟨of_lies⟩, ⟨of_lies⟩, ⟨of_lies⟩, ⟨of_lies⟩, ⟨low HB⟩⟩
        ·
         rw [if_neg c130] at H
         have c130b0 : (a2 == 0) = false := beq_eq_false_iff_ne.mpr c130
         have c130b1 : (a2 != 0) = true := bne_iff_ne.mpr c130
         (first | rw [c130b0] | (simp only [i64_w, i32_w]; rw [c130b0]) | skip)
         have H' := Aside0.mk H
         clear H
         have hnb136 := NB101_102.out
         have hnc136 := NB102_101.out
         have hnb137 := NB101_106.out
         have hnc137 := NB106_101.out
         have hnb138 := NB101_110.out
         have hnc138 := NB110_101.out
         have hcz139_0 : wc.cell? ⟨gb101, 0, none⟩ = some (.int .u64 a0_0) := (blk_cell BK101.out 0).trans rfl
         have hcz139_1 : wc.cell? ⟨gb101, 1, none⟩ = some (.int .u64 a0_1) := (blk_cell BK101.out 1).trans rfl
         have hfz139_0 := blk_frozen BK101.out 0
         have hfz139_1 := blk_frozen BK101.out 1
         go_wp2_with (first | ((with_reducible refine gate_callee (f := 38) rfl ?_); refine goesL_ (some 71) rfl rfl Tryd.func38 (by kernel_rfl) rfl #[.agg #[.int .u64 a0_0, .int .u64 a0_1]] rfl (by (try simp only [List.map_toArray, List.map_cons, List.map_nil]); first | done | rfl | (simp only [List.length_drop, List.length_take]; rfl)) ?_; (with_reducible refine (Podd.odds_May.calls kj40 a0_0 a0_1 true _ A128.out).mono ?_); rintro e w140 ⟨rfl, hb⟩; refine ⟨_, rfl, ?_⟩; have n0_ := Aside0.mk (blk_below (g := gb101) (o := .cells #[.int .u64 a0_0, .int .u64 a0_1] 47 (0, 0)) of_lies hb); have n1_ := Aside0.mk (blk_below (g := gb102) (o := .cells #[.int .u64 a1_0, .int .u64 a1_1] 47 (0, 0)) of_lies hb); have n2_ := Aside0.mk (blk_below (g := gb106) (o := .cells #[.int .u64 t103, .int .u64 t104] 47 (0, 0)) of_lies hb); have n3_ := Aside0.mk (blk_below (g := gb110) (o := .cells #[.int .u64 t107, .int .u64 t108] 47 (0, 0)) of_lies hb); have n4_ := Aside0.mk (below_step (low HB) hb); clear BK101; clear BK102; clear BK106; clear BK110; clear HB; have BK101 := n0_; have BK102 := n1_; have BK106 := n2_; have BK110 := n3_; have HB := n4_; clear n0_ n1_ n2_ n3_ n4_; (try clear hb); (try clear hb2); (try clear hk); (try clear hi); obtain ⟨hcz141_0, hcz141_1, hfz141_0, hfz141_1⟩ := cells2 BK101.out))
         go_meet
         case rel => exact ⟨_, (decide (a0_1 > 4294967296)), (by first | rfl | (simp; done) | (simp [*]; done)), H', ⟨by have := HJ5.out; have := HJ40.out; first | omega | exact Nat.le_refl _⟩, ⟨of_lies⟩, ⟨of_lies⟩, ⟨of_lies⟩, ⟨of_lies⟩, ⟨low HB⟩⟩
       ·
        replace c129 := Bool.eq_false_iff.mpr c129
        subst c129
        have H1 : (joustlaw32_OddsOrder.j2 kj40 a2 true a0_0 a0_1) = some r := by rw [if_neg (show ¬ (false = true) by decide)] at H; exact H
        clear H
        have H := H1
        clear H1
        have H' := Aside0.mk H
        clear H
        have hnb142 := NB101_102.out
        have hnc142 := NB102_101.out
        have hnb143 := NB101_106.out
        have hnc143 := NB106_101.out
        have hnb144 := NB101_110.out
        have hnc144 := NB110_101.out
        have hcz145_0 : wc.cell? ⟨gb101, 0, none⟩ = some (.int .u64 a0_0) := (blk_cell BK101.out 0).trans rfl
        have hcz145_1 : wc.cell? ⟨gb101, 1, none⟩ = some (.int .u64 a0_1) := (blk_cell BK101.out 1).trans rfl
        have hfz145_0 := blk_frozen BK101.out 0
        have hfz145_1 := blk_frozen BK101.out 1
        go_wp2_with (first | ((with_reducible refine gate_callee (f := 38) rfl ?_); refine goesL_ (some 71) rfl rfl Tryd.func38 (by kernel_rfl) rfl #[.agg #[.int .u64 a0_0, .int .u64 a0_1]] rfl (by (try simp only [List.map_toArray, List.map_cons, List.map_nil]); first | done | rfl | (simp only [List.length_drop, List.length_take]; rfl)) ?_; (with_reducible refine (Podd.odds_May.calls kj40 a0_0 a0_1 false _ A128.out).mono ?_); rintro e w146 ⟨rfl, hb⟩; refine ⟨_, rfl, ?_⟩; have n0_ := Aside0.mk (blk_below (g := gb101) (o := .cells #[.int .u64 a0_0, .int .u64 a0_1] 47 (0, 0)) of_lies hb); have n1_ := Aside0.mk (blk_below (g := gb102) (o := .cells #[.int .u64 a1_0, .int .u64 a1_1] 47 (0, 0)) of_lies hb); have n2_ := Aside0.mk (blk_below (g := gb106) (o := .cells #[.int .u64 t103, .int .u64 t104] 47 (0, 0)) of_lies hb); have n3_ := Aside0.mk (blk_below (g := gb110) (o := .cells #[.int .u64 t107, .int .u64 t108] 47 (0, 0)) of_lies hb); have n4_ := Aside0.mk (below_step (low HB) hb); clear BK101; clear BK102; clear BK106; clear BK110; clear HB; have BK101 := n0_; have BK102 := n1_; have BK106 := n2_; have BK110 := n3_; have HB := n4_; clear n0_ n1_ n2_ n3_ n4_; (try clear hb); (try clear hb2); (try clear hk); (try clear hi)))
        go_meet
        case rel => exact ⟨_, (true), (by first | rfl | (simp; done) | (simp [*]; done)), H', ⟨by have := HJ5.out; have := HJ40.out; first | omega | exact Nat.le_refl _⟩, ⟨of_lies⟩, ⟨of_lies⟩, ⟨of_lies⟩, ⟨of_lies⟩, ⟨low HB⟩⟩
      case rest =>
       clear HC127
       try clear c1
       try clear c2
       try clear p2
       try clear c3
       try clear c4
       try clear c5
       try clear c6
       try clear c7
       try clear c8
       try clear c9
       try clear c10
       try clear c11
       try clear c12
       try clear c13
       try clear c14
       try clear c15
       try clear c21
       try clear c22
       try clear c23
       try clear c25
       try clear c25b0
       try clear c26
       try clear c27
       try clear c28
       try clear c30
       try clear c31
       try clear c33
       try clear c34
       try clear c35
       try clear c36
       try clear c37
       try clear c38
       try clear c40
       try clear c42
       try clear c42b0
       try clear c42b1
       try clear c45
       try clear c45b0
       try clear c45b1
       try clear c46
       try clear c46b0
       try clear c46b1
       try clear c47
       try clear c47b0
       try clear c48
       try clear c49
       try clear c50
       try clear c52
       try clear c53
       try clear c57
       try clear c60
       try clear c60b0
       try clear c61
       try clear c62
       try clear c63
       try clear c65
       try clear c66
       try clear c70
       try clear c74
       try clear c75
       try clear c76
       try clear c77
       try clear c79
       try clear c80
       try clear c84
       try clear c89
       try clear c90
       try clear c91
       try clear c93
       try clear c94
       try clear c98
       try clear c103
       try clear c104
       try clear c105
       try clear c107
       try clear c108
       try clear c112
       try clear c115
       try clear c116
       try clear c117
       try clear c119
       try clear c120
       try clear c124
       try clear c129
       try clear c130
       try clear c130b0
       try clear c130b1
       try clear c131
       try clear c132
       try clear c133
       try clear c136
       try clear c137
       try clear c138
       try clear c142
       try clear c143
       try clear c144
       try clear hcz101_0
       try clear hcz101_1
       try clear hcz106_0
       try clear hcz106_1
       try clear hcz109_0
       try clear hcz109_1
       try clear hcz10_0
       try clear hcz10_1
       try clear hcz111_0
       try clear hcz111_1
       try clear hcz113_0
       try clear hcz113_1
       try clear hcz118_0
       try clear hcz118_1
       try clear hcz11_0
       try clear hcz11_1
       try clear hcz121_0
       try clear hcz121_1
       try clear hcz123_0
       try clear hcz123_1
       try clear hcz125_0
       try clear hcz125_1
       try clear hcz134_0
       try clear hcz134_1
       try clear hcz139_0
       try clear hcz139_1
       try clear hcz141_0
       try clear hcz141_1
       try clear hcz145_0
       try clear hcz145_1
       try clear hcz16_0
       try clear hcz16_1
       try clear hcz17_0
       try clear hcz17_1
       try clear hcz18_0
       try clear hcz18_1
       try clear hcz24_0
       try clear hcz24_1
       try clear hcz29_0
       try clear hcz29_1
       try clear hcz32_0
       try clear hcz32_1
       try clear hcz36_0
       try clear hcz36_1
       try clear hcz39_0
       try clear hcz39_1
       try clear hcz51_0
       try clear hcz51_1
       try clear hcz54_0
       try clear hcz54_1
       try clear hcz56_0
       try clear hcz56_1
       try clear hcz58_0
       try clear hcz58_1
       try clear hcz64_0
       try clear hcz64_1
       try clear hcz67_0
       try clear hcz67_1
       try clear hcz69_0
       try clear hcz69_1
       try clear hcz71_0
       try clear hcz71_1
       try clear hcz78_0
       try clear hcz78_1
       try clear hcz81_0
       try clear hcz81_1
       try clear hcz83_0
       try clear hcz83_1
       try clear hcz85_0
       try clear hcz85_1
       try clear hcz87_0
       try clear hcz87_1
       try clear hcz92_0
       try clear hcz92_1
       try clear hcz95_0
       try clear hcz95_1
       try clear hcz97_0
       try clear hcz97_1
       try clear hcz99_0
       try clear hcz99_1
       try clear hfz101_0
       try clear hfz101_1
       try clear hfz106_0
       try clear hfz106_1
       try clear hfz109_0
       try clear hfz109_1
       try clear hfz10_0
       try clear hfz10_1
       try clear hfz111_0
       try clear hfz111_1
       try clear hfz113_0
       try clear hfz113_1
       try clear hfz118_0
       try clear hfz118_1
       try clear hfz11_0
       try clear hfz11_1
       try clear hfz121_0
       try clear hfz121_1
       try clear hfz123_0
       try clear hfz123_1
       try clear hfz125_0
       try clear hfz125_1
       try clear hfz134_0
       try clear hfz134_1
       try clear hfz139_0
       try clear hfz139_1
       try clear hfz141_0
       try clear hfz141_1
       try clear hfz145_0
       try clear hfz145_1
       try clear hfz16_0
       try clear hfz16_1
       try clear hfz17_0
       try clear hfz17_1
       try clear hfz18_0
       try clear hfz18_1
       try clear hfz24_0
       try clear hfz24_1
       try clear hfz29_0
       try clear hfz29_1
       try clear hfz32_0
       try clear hfz32_1
       try clear hfz36_0
       try clear hfz36_1
       try clear hfz39_0
       try clear hfz39_1
       try clear hfz51_0
       try clear hfz51_1
       try clear hfz54_0
       try clear hfz54_1
       try clear hfz56_0
       try clear hfz56_1
       try clear hfz58_0
       try clear hfz58_1
       try clear hfz64_0
       try clear hfz64_1
       try clear hfz67_0
       try clear hfz67_1
       try clear hfz69_0
       try clear hfz69_1
       try clear hfz71_0
       try clear hfz71_1
       try clear hfz78_0
       try clear hfz78_1
       try clear hfz81_0
       try clear hfz81_1
       try clear hfz83_0
       try clear hfz83_1
       try clear hfz85_0
       try clear hfz85_1
       try clear hfz87_0
       try clear hfz87_1
       try clear hfz92_0
       try clear hfz92_1
       try clear hfz95_0
       try clear hfz95_1
       try clear hfz97_0
       try clear hfz97_1
       try clear hfz99_0
       try clear hfz99_1
       try clear p2
       obtain ⟨kq, x81_126, rfl, HA, HJ126, BK101, BK102, BK106, BK110, HB⟩ := hcut
       cases kq with
       | zero => exact absurd HA.out (by simp [joustlaw32_OddsOrder.j2])
       | succ kj126 =>
        have H := HA.out
        clear HA
        simp only [joustlaw32_OddsOrder.j2] at H
        by_cases c147 : x81_126 = true
        ·
         subst c147
         have H1 : ((Podd.lives.f).bind fun t117 => (some t117)) = some r := by rw [if_pos rfl] at H; exact H
         clear H
         have H := H1
         clear H1
         replace H := Option.bind_eq_some_iff.mp H
         obtain ⟨t117, A1480, H⟩ := H
         replace H : (some t117) = some r := H
         have A148 := Aside0.mk A1480
         clear A1480
         obtain rfl := Option.some.inj H
         go_wp2_with (first | ((with_reducible refine gate_callee (f := 34) rfl ?_); refine goesL_ (some 82) rfl rfl Tryd.func34 (by kernel_rfl) rfl #[] rfl (by (try simp only [List.map_toArray, List.map_cons, List.map_nil]); first | done | rfl | (simp only [List.length_drop, List.length_take]; rfl)) ?_; (with_reducible refine (Podd.lives.calls  t117 _ ?side1 A148.out).mono ?_); (case side1 => repeat (first | exact (GoodW.below HGW.out (low HB)) | (with_reducible refine GoodW.alloc ?_ _) | (with_reducible refine GoodW.drewN ?_ _) | (with_reducible refine GoodW.drew ?_))); rintro e w149 ⟨rfl, hb⟩; refine ⟨_, rfl, ?_⟩; have n0_ := Aside0.mk (blk_below (g := gb101) (o := .cells #[.int .u64 a0_0, .int .u64 a0_1] 47 (0, 0)) of_lies hb); have n1_ := Aside0.mk (blk_below (g := gb102) (o := .cells #[.int .u64 a1_0, .int .u64 a1_1] 47 (0, 0)) of_lies hb); have n2_ := Aside0.mk (blk_below (g := gb106) (o := .cells #[.int .u64 t103, .int .u64 t104] 47 (0, 0)) of_lies hb); have n3_ := Aside0.mk (blk_below (g := gb110) (o := .cells #[.int .u64 t107, .int .u64 t108] 47 (0, 0)) of_lies hb); have n4_ := Aside0.mk (below_step (low HB) hb); clear BK101; clear BK102; clear BK106; clear BK110; clear HB; have BK101 := n0_; have BK102 := n1_; have BK106 := n2_; have BK110 := n3_; have HB := n4_; clear n0_ n1_ n2_ n3_ n4_; (try clear hb); (try clear hb2); (try clear hk); (try clear hi)))
         go_ret
         exact ⟨by first | rfl | (simp [errW_none, errW_some] <;> rfl) | (simp [*, errW_none, errW_some] <;> rfl), low HB⟩
        ·
         replace c147 := Bool.eq_false_iff.mpr c147
         subst c147
         have H1 : ((Podd.odds_Make.f kj126 (IntKind.u64.wrap (a0_0 * (IntKind.u64.wrap (a2)))) (IntKind.u64.wrap (a0_1 * (IntKind.u64.wrap (a2))))).bind fun bt118 => (if bt118.2.2 = 0 then (if (bt118.1 == a0_0 && (bt118.2.1 == a0_1)) = true then ((Podd.lives.f).bind fun t122 => (some t122)) else (some false)) else (some false))) = some r := by rw [if_neg (show ¬ (false = true) by decide)] at H; exact H
         clear H
         have H := H1
         clear H1
         replace H := Option.bind_eq_some_iff.mp H
         obtain ⟨⟨t118, t119, t120⟩, A1500, H⟩ := H
         replace H : (if t120 = 0 then (if (t118 == a0_0 && (t119 == a0_1)) = true then ((Podd.lives.f).bind fun t122 => (some t122)) else (some false)) else (some false)) = some r := H
         have A150 := Aside0.mk A1500
         clear A1500
         by_cases c151 : t120 = 0
         ·
          rw [if_pos c151] at H
          have c151b0 : (t120 == 0) = true := beq_iff_eq.mpr c151
          have c151b1 : (t120 != 0) = false := bne_eq_false_iff_eq.mpr c151
          clear c151
          by_cases c152 : (t118 == a0_0 && (t119 == a0_1)) = true
          ·
           rw [if_pos c152] at H
           have c152b0 : (t118 == a0_0 && (t119 == a0_1)) = true := c152
           (try (have c152b1 : decide (t118 = a0_0 && (t119 == a0_1)) = true := by simpa using c152))
           (try (have c152b2 : (t118 == a0_0 && (t119 == a0_1)) = true := by simpa using c152))
           clear c152
           replace H := Option.bind_eq_some_iff.mp H
           obtain ⟨t122, A1530, H⟩ := H
           replace H : (some t122) = some r := H
           have A153 := Aside0.mk A1530
           clear A1530
           obtain rfl := Option.some.inj H
           have hnb154 := NB101_102.out
           have hnc154 := NB102_101.out
           have hnb155 := NB101_106.out
           have hnc155 := NB106_101.out
           have hnb156 := NB101_110.out
           have hnc156 := NB110_101.out
           have hcz157_0 : wc.cell? ⟨gb101, 0, none⟩ = some (.int .u64 a0_0) := (blk_cell BK101.out 0).trans rfl
           have hcz157_1 : wc.cell? ⟨gb101, 1, none⟩ = some (.int .u64 a0_1) := (blk_cell BK101.out 1).trans rfl
           have hfz157_0 := blk_frozen BK101.out 0
           have hfz157_1 := blk_frozen BK101.out 1
           go_wp2_with (first | ((with_reducible refine gate_callee (f := 39) rfl ?_); refine goesL_ (some 94) rfl rfl Tryd.func39 (by kernel_rfl) rfl #[.int .u64 (IntKind.u64.wrap (a0_0 * (IntKind.u64.wrap (a2)))), .int .u64 (IntKind.u64.wrap (a0_1 * (IntKind.u64.wrap (a2))))] rfl (by (try simp only [List.map_toArray, List.map_cons, List.map_nil]); first | done | rfl | (simp only [List.length_drop, List.length_take]; rfl)) ?_; (with_reducible refine (Podd.odds_Make.calls kj126 (IntKind.u64.wrap (a0_0 * (IntKind.u64.wrap (a2)))) (IntKind.u64.wrap (a0_1 * (IntKind.u64.wrap (a2)))) t118 t119 t120 _ A150.out).mono ?_); rintro e w158 ⟨rfl, hb⟩; refine ⟨_, rfl, ?_⟩; have n0_ := Aside0.mk (blk_below (g := gb101) (o := .cells #[.int .u64 a0_0, .int .u64 a0_1] 47 (0, 0)) of_lies hb); have n1_ := Aside0.mk (blk_below (g := gb102) (o := .cells #[.int .u64 a1_0, .int .u64 a1_1] 47 (0, 0)) of_lies hb); have n2_ := Aside0.mk (blk_below (g := gb106) (o := .cells #[.int .u64 t103, .int .u64 t104] 47 (0, 0)) of_lies hb); have n3_ := Aside0.mk (blk_below (g := gb110) (o := .cells #[.int .u64 t107, .int .u64 t108] 47 (0, 0)) of_lies hb); have n4_ := Aside0.mk (below_step (low HB) hb); clear BK101; clear BK102; clear BK106; clear BK110; clear HB; have BK101 := n0_; have BK102 := n1_; have BK106 := n2_; have BK110 := n3_; have HB := n4_; clear n0_ n1_ n2_ n3_ n4_; (try clear hb); (try clear hb2); (try clear hk); (try clear hi)) | ((with_reducible refine gate_dst (N := 15) rfl ?_); refine box_event ?hg (N := 15) ?hd (cs := #[.int .u64 0, .int .u64 0]) (t := 47) ?hr ?_; (case hd => rfl); (case hg => rfl); (case hr => first | (go_simp; done) | (go_simp; rfl)); intro gb121 hg w159 hbox hb; have n0_ := Aside0.mk (blk_below (g := gb101) (o := .cells #[.int .u64 a0_0, .int .u64 a0_1] 47 (0, 0)) of_lies hb); have n1_ := Aside0.mk (blk_below (g := gb102) (o := .cells #[.int .u64 a1_0, .int .u64 a1_1] 47 (0, 0)) of_lies hb); have n2_ := Aside0.mk (blk_below (g := gb106) (o := .cells #[.int .u64 t103, .int .u64 t104] 47 (0, 0)) of_lies hb); have n3_ := Aside0.mk (blk_below (g := gb110) (o := .cells #[.int .u64 t107, .int .u64 t108] 47 (0, 0)) of_lies hb); have n4_ := Aside0.mk (below_step (low HB) hb); have n5_ := Aside0.mk (hbox); have n6_ := Aside0.mk ((by rw [hg]; exact (below_size (low HB)) : w.heap.size ≤ gb121)); have n7_ := Aside0.mk ((by rw [hg]; exact (below_size (low HB)) : w.heap.size ≤ gb121)); have n8_ := Aside0.mk ((by rw [hg]; exact Nat.ne_of_lt (blk_lt (g := gb101) (o := .cells #[.int .u64 a0_0, .int .u64 a0_1] 47 (0, 0)) of_lies) : gb101 ≠ gb121)); have n9_ := Aside0.mk ((by rw [hg]; exact Nat.ne_of_gt (blk_lt (g := gb101) (o := .cells #[.int .u64 a0_0, .int .u64 a0_1] 47 (0, 0)) of_lies) : gb121 ≠ gb101)); have n10_ := Aside0.mk ((by rw [hg]; exact Nat.ne_of_lt (blk_lt (g := gb102) (o := .cells #[.int .u64 a1_0, .int .u64 a1_1] 47 (0, 0)) of_lies) : gb102 ≠ gb121)); have n11_ := Aside0.mk ((by rw [hg]; exact Nat.ne_of_gt (blk_lt (g := gb102) (o := .cells #[.int .u64 a1_0, .int .u64 a1_1] 47 (0, 0)) of_lies) : gb121 ≠ gb102)); have n12_ := Aside0.mk ((by rw [hg]; exact Nat.ne_of_lt (blk_lt (g := gb106) (o := .cells #[.int .u64 t103, .int .u64 t104] 47 (0, 0)) of_lies) : gb106 ≠ gb121)); have n13_ := Aside0.mk ((by rw [hg]; exact Nat.ne_of_gt (blk_lt (g := gb106) (o := .cells #[.int .u64 t103, .int .u64 t104] 47 (0, 0)) of_lies) : gb121 ≠ gb106)); have n14_ := Aside0.mk ((by rw [hg]; exact Nat.ne_of_lt (blk_lt (g := gb110) (o := .cells #[.int .u64 t107, .int .u64 t108] 47 (0, 0)) of_lies) : gb110 ≠ gb121)); have n15_ := Aside0.mk ((by rw [hg]; exact Nat.ne_of_gt (blk_lt (g := gb110) (o := .cells #[.int .u64 t107, .int .u64 t108] 47 (0, 0)) of_lies) : gb121 ≠ gb110)); clear BK101; clear BK102; clear BK106; clear BK110; clear HB; have BK101 := n0_; have BK102 := n1_; have BK106 := n2_; have BK110 := n3_; have HB := n4_; have BK121 := n5_; have GW121 := n6_; have GE121 := n7_; have NB101_121 := n8_; have NB121_101 := n9_; have NB102_121 := n10_; have NB121_102 := n11_; have NB106_121 := n12_; have NB121_106 := n13_; have NB110_121 := n14_; have NB121_110 := n15_; clear n0_ n1_ n2_ n3_ n4_ n5_ n6_ n7_ n8_ n9_ n10_ n11_ n12_ n13_ n14_ n15_; clear hb hbox hg; have hnb160 := NB121_101.out; have hnc160 := NB101_121.out; have hnb161 := NB121_102.out; have hnc161 := NB102_121.out; have hnb162 := NB121_106.out; have hnc162 := NB106_121.out; have hnb163 := NB121_110.out; have hnc163 := NB110_121.out; obtain ⟨hcz164_0, hcz164_1, hfz164_0, hfz164_1⟩ := cells2 BK121.out; obtain ⟨hcz165_0, hcz165_1, hfz165_0, hfz165_1⟩ := cells2 BK101.out) | (go_at_call 34; (with_reducible refine (Podd.lives.calls  t122 _ ?side1 A153.out).mono ?_); (case side1 => repeat (first | exact (GoodW.below HGW.out (low HB)) | (with_reducible refine GoodW.alloc ?_ _) | (with_reducible refine GoodW.drewN ?_ _) | (with_reducible refine GoodW.drew ?_))); rintro e w166 ⟨rfl, hb⟩; have n0_ := Aside0.mk (blk_below (g := gb101) (o := .cells #[.int .u64 a0_0, .int .u64 a0_1] 47 (0, 0)) of_lies hb); have n1_ := Aside0.mk (blk_below (g := gb102) (o := .cells #[.int .u64 a1_0, .int .u64 a1_1] 47 (0, 0)) of_lies hb); have n2_ := Aside0.mk (blk_below (g := gb106) (o := .cells #[.int .u64 t103, .int .u64 t104] 47 (0, 0)) of_lies hb); have n3_ := Aside0.mk (blk_below (g := gb110) (o := .cells #[.int .u64 t107, .int .u64 t108] 47 (0, 0)) of_lies hb); have n4_ := Aside0.mk (blk_below (g := gb121) (o := .cells #[.int .u64 t118, .int .u64 t119] 47 (0, 0)) of_lies hb); have n5_ := Aside0.mk (below_step (low HB) hb); clear BK101; clear BK102; clear BK106; clear BK110; clear BK121; clear HB; have BK101 := n0_; have BK102 := n1_; have BK106 := n2_; have BK110 := n3_; have BK121 := n4_; have HB := n5_; clear n0_ n1_ n2_ n3_ n4_ n5_; (try clear hb); (try clear hb2); (try clear hk); (try clear hi)))
           go_ret
           exact ⟨by first | rfl | (simp [errW_none, errW_some] <;> rfl) | (simp [*, errW_none, errW_some] <;> rfl), low HB⟩
          ·
           rw [if_neg c152] at H
           have c152b0 : (t118 == a0_0 && (t119 == a0_1)) = false := by simpa using c152
           (try (have c152b1 : decide (t118 = a0_0 && (t119 == a0_1)) = false := by simpa using c152))
           (try (have c152b2 : (t118 == a0_0 && (t119 == a0_1)) = false := by simpa using c152))
           (try (have c152b3 : ¬ (t118 = a0_0 && (t119 == a0_1)) := by simpa using c152))
           clear c152
           obtain rfl := Option.some.inj H
           have hnb167 := NB101_102.out
           have hnc167 := NB102_101.out
           have hnb168 := NB101_106.out
           have hnc168 := NB106_101.out
           have hnb169 := NB101_110.out
           have hnc169 := NB110_101.out
           have hcz170_0 : wc.cell? ⟨gb101, 0, none⟩ = some (.int .u64 a0_0) := (blk_cell BK101.out 0).trans rfl
           have hcz170_1 : wc.cell? ⟨gb101, 1, none⟩ = some (.int .u64 a0_1) := (blk_cell BK101.out 1).trans rfl
           have hfz170_0 := blk_frozen BK101.out 0
           have hfz170_1 := blk_frozen BK101.out 1
           go_wp2_with (first | ((with_reducible refine gate_callee (f := 39) rfl ?_); refine goesL_ (some 94) rfl rfl Tryd.func39 (by kernel_rfl) rfl #[.int .u64 (IntKind.u64.wrap (a0_0 * (IntKind.u64.wrap (a2)))), .int .u64 (IntKind.u64.wrap (a0_1 * (IntKind.u64.wrap (a2))))] rfl (by (try simp only [List.map_toArray, List.map_cons, List.map_nil]); first | done | rfl | (simp only [List.length_drop, List.length_take]; rfl)) ?_; (with_reducible refine (Podd.odds_Make.calls kj126 (IntKind.u64.wrap (a0_0 * (IntKind.u64.wrap (a2)))) (IntKind.u64.wrap (a0_1 * (IntKind.u64.wrap (a2)))) t118 t119 t120 _ A150.out).mono ?_); rintro e w171 ⟨rfl, hb⟩; refine ⟨_, rfl, ?_⟩; have n0_ := Aside0.mk (blk_below (g := gb101) (o := .cells #[.int .u64 a0_0, .int .u64 a0_1] 47 (0, 0)) of_lies hb); have n1_ := Aside0.mk (blk_below (g := gb102) (o := .cells #[.int .u64 a1_0, .int .u64 a1_1] 47 (0, 0)) of_lies hb); have n2_ := Aside0.mk (blk_below (g := gb106) (o := .cells #[.int .u64 t103, .int .u64 t104] 47 (0, 0)) of_lies hb); have n3_ := Aside0.mk (blk_below (g := gb110) (o := .cells #[.int .u64 t107, .int .u64 t108] 47 (0, 0)) of_lies hb); have n4_ := Aside0.mk (below_step (low HB) hb); clear BK101; clear BK102; clear BK106; clear BK110; clear HB; have BK101 := n0_; have BK102 := n1_; have BK106 := n2_; have BK110 := n3_; have HB := n4_; clear n0_ n1_ n2_ n3_ n4_; (try clear hb); (try clear hb2); (try clear hk); (try clear hi)) | ((with_reducible refine gate_dst (N := 15) rfl ?_); refine box_event ?hg (N := 15) ?hd (cs := #[.int .u64 0, .int .u64 0]) (t := 47) ?hr ?_; (case hd => rfl); (case hg => rfl); (case hr => first | (go_simp; done) | (go_simp; rfl)); intro gb121 hg w172 hbox hb; have n0_ := Aside0.mk (blk_below (g := gb101) (o := .cells #[.int .u64 a0_0, .int .u64 a0_1] 47 (0, 0)) of_lies hb); have n1_ := Aside0.mk (blk_below (g := gb102) (o := .cells #[.int .u64 a1_0, .int .u64 a1_1] 47 (0, 0)) of_lies hb); have n2_ := Aside0.mk (blk_below (g := gb106) (o := .cells #[.int .u64 t103, .int .u64 t104] 47 (0, 0)) of_lies hb); have n3_ := Aside0.mk (blk_below (g := gb110) (o := .cells #[.int .u64 t107, .int .u64 t108] 47 (0, 0)) of_lies hb); have n4_ := Aside0.mk (below_step (low HB) hb); have n5_ := Aside0.mk (hbox); have n6_ := Aside0.mk ((by rw [hg]; exact (below_size (low HB)) : w.heap.size ≤ gb121)); have n7_ := Aside0.mk ((by rw [hg]; exact (below_size (low HB)) : w.heap.size ≤ gb121)); have n8_ := Aside0.mk ((by rw [hg]; exact Nat.ne_of_lt (blk_lt (g := gb101) (o := .cells #[.int .u64 a0_0, .int .u64 a0_1] 47 (0, 0)) of_lies) : gb101 ≠ gb121)); have n9_ := Aside0.mk ((by rw [hg]; exact Nat.ne_of_gt (blk_lt (g := gb101) (o := .cells #[.int .u64 a0_0, .int .u64 a0_1] 47 (0, 0)) of_lies) : gb121 ≠ gb101)); have n10_ := Aside0.mk ((by rw [hg]; exact Nat.ne_of_lt (blk_lt (g := gb102) (o := .cells #[.int .u64 a1_0, .int .u64 a1_1] 47 (0, 0)) of_lies) : gb102 ≠ gb121)); have n11_ := Aside0.mk ((by rw [hg]; exact Nat.ne_of_gt (blk_lt (g := gb102) (o := .cells #[.int .u64 a1_0, .int .u64 a1_1] 47 (0, 0)) of_lies) : gb121 ≠ gb102)); have n12_ := Aside0.mk ((by rw [hg]; exact Nat.ne_of_lt (blk_lt (g := gb106) (o := .cells #[.int .u64 t103, .int .u64 t104] 47 (0, 0)) of_lies) : gb106 ≠ gb121)); have n13_ := Aside0.mk ((by rw [hg]; exact Nat.ne_of_gt (blk_lt (g := gb106) (o := .cells #[.int .u64 t103, .int .u64 t104] 47 (0, 0)) of_lies) : gb121 ≠ gb106)); have n14_ := Aside0.mk ((by rw [hg]; exact Nat.ne_of_lt (blk_lt (g := gb110) (o := .cells #[.int .u64 t107, .int .u64 t108] 47 (0, 0)) of_lies) : gb110 ≠ gb121)); have n15_ := Aside0.mk ((by rw [hg]; exact Nat.ne_of_gt (blk_lt (g := gb110) (o := .cells #[.int .u64 t107, .int .u64 t108] 47 (0, 0)) of_lies) : gb121 ≠ gb110)); clear BK101; clear BK102; clear BK106; clear BK110; clear HB; have BK101 := n0_; have BK102 := n1_; have BK106 := n2_; have BK110 := n3_; have HB := n4_; have BK121 := n5_; have GW121 := n6_; have GE121 := n7_; have NB101_121 := n8_; have NB121_101 := n9_; have NB102_121 := n10_; have NB121_102 := n11_; have NB106_121 := n12_; have NB121_106 := n13_; have NB110_121 := n14_; have NB121_110 := n15_; clear n0_ n1_ n2_ n3_ n4_ n5_ n6_ n7_ n8_ n9_ n10_ n11_ n12_ n13_ n14_ n15_; clear hb hbox hg; have hnb173 := NB121_101.out; have hnc173 := NB101_121.out; have hnb174 := NB121_102.out; have hnc174 := NB102_121.out; have hnb175 := NB121_106.out; have hnc175 := NB106_121.out; have hnb176 := NB121_110.out; have hnc176 := NB110_121.out; obtain ⟨hcz177_0, hcz177_1, hfz177_0, hfz177_1⟩ := cells2 BK121.out; obtain ⟨hcz178_0, hcz178_1, hfz178_0, hfz178_1⟩ := cells2 BK101.out))
           go_ret
           exact ⟨by first | rfl | (simp [errW_none, errW_some] <;> rfl) | (simp [*, errW_none, errW_some] <;> rfl), low HB⟩
         ·
          rw [if_neg c151] at H
          have c151b0 : (t120 == 0) = false := beq_eq_false_iff_ne.mpr c151
          have c151b1 : (t120 != 0) = true := bne_iff_ne.mpr c151
          obtain rfl := Option.some.inj H
          have hnb179 := NB101_102.out
          have hnc179 := NB102_101.out
          have hnb180 := NB101_106.out
          have hnc180 := NB106_101.out
          have hnb181 := NB101_110.out
          have hnc181 := NB110_101.out
          have hcz182_0 : wc.cell? ⟨gb101, 0, none⟩ = some (.int .u64 a0_0) := (blk_cell BK101.out 0).trans rfl
          have hcz182_1 : wc.cell? ⟨gb101, 1, none⟩ = some (.int .u64 a0_1) := (blk_cell BK101.out 1).trans rfl
          have hfz182_0 := blk_frozen BK101.out 0
          have hfz182_1 := blk_frozen BK101.out 1
          go_wp2_with (first | ((with_reducible refine gate_callee (f := 39) rfl ?_); refine goesL_ (some 94) rfl rfl Tryd.func39 (by kernel_rfl) rfl #[.int .u64 (IntKind.u64.wrap (a0_0 * (IntKind.u64.wrap (a2)))), .int .u64 (IntKind.u64.wrap (a0_1 * (IntKind.u64.wrap (a2))))] rfl (by (try simp only [List.map_toArray, List.map_cons, List.map_nil]); first | done | rfl | (simp only [List.length_drop, List.length_take]; rfl)) ?_; (with_reducible refine (Podd.odds_Make.calls kj126 (IntKind.u64.wrap (a0_0 * (IntKind.u64.wrap (a2)))) (IntKind.u64.wrap (a0_1 * (IntKind.u64.wrap (a2)))) t118 t119 t120 _ A150.out).mono ?_); rintro e w183 ⟨rfl, hb⟩; refine ⟨_, rfl, ?_⟩; have n0_ := Aside0.mk (blk_below (g := gb101) (o := .cells #[.int .u64 a0_0, .int .u64 a0_1] 47 (0, 0)) of_lies hb); have n1_ := Aside0.mk (blk_below (g := gb102) (o := .cells #[.int .u64 a1_0, .int .u64 a1_1] 47 (0, 0)) of_lies hb); have n2_ := Aside0.mk (blk_below (g := gb106) (o := .cells #[.int .u64 t103, .int .u64 t104] 47 (0, 0)) of_lies hb); have n3_ := Aside0.mk (blk_below (g := gb110) (o := .cells #[.int .u64 t107, .int .u64 t108] 47 (0, 0)) of_lies hb); have n4_ := Aside0.mk (below_step (low HB) hb); clear BK101; clear BK102; clear BK106; clear BK110; clear HB; have BK101 := n0_; have BK102 := n1_; have BK106 := n2_; have BK110 := n3_; have HB := n4_; clear n0_ n1_ n2_ n3_ n4_; (try clear hb); (try clear hb2); (try clear hk); (try clear hi)) | ((with_reducible refine gate_dst (N := 15) rfl ?_); refine box_event ?hg (N := 15) ?hd (cs := #[.int .u64 0, .int .u64 0]) (t := 47) ?hr ?_; (case hd => rfl); (case hg => rfl); (case hr => first | (go_simp; done) | (go_simp; rfl)); intro gb121 hg w184 hbox hb; have n0_ := Aside0.mk (blk_below (g := gb101) (o := .cells #[.int .u64 a0_0, .int .u64 a0_1] 47 (0, 0)) of_lies hb); have n1_ := Aside0.mk (blk_below (g := gb102) (o := .cells #[.int .u64 a1_0, .int .u64 a1_1] 47 (0, 0)) of_lies hb); have n2_ := Aside0.mk (blk_below (g := gb106) (o := .cells #[.int .u64 t103, .int .u64 t104] 47 (0, 0)) of_lies hb); have n3_ := Aside0.mk (blk_below (g := gb110) (o := .cells #[.int .u64 t107, .int .u64 t108] 47 (0, 0)) of_lies hb); have n4_ := Aside0.mk (below_step (low HB) hb); have n5_ := Aside0.mk (hbox); have n6_ := Aside0.mk ((by rw [hg]; exact (below_size (low HB)) : w.heap.size ≤ gb121)); have n7_ := Aside0.mk ((by rw [hg]; exact (below_size (low HB)) : w.heap.size ≤ gb121)); have n8_ := Aside0.mk ((by rw [hg]; exact Nat.ne_of_lt (blk_lt (g := gb101) (o := .cells #[.int .u64 a0_0, .int .u64 a0_1] 47 (0, 0)) of_lies) : gb101 ≠ gb121)); have n9_ := Aside0.mk ((by rw [hg]; exact Nat.ne_of_gt (blk_lt (g := gb101) (o := .cells #[.int .u64 a0_0, .int .u64 a0_1] 47 (0, 0)) of_lies) : gb121 ≠ gb101)); have n10_ := Aside0.mk ((by rw [hg]; exact Nat.ne_of_lt (blk_lt (g := gb102) (o := .cells #[.int .u64 a1_0, .int .u64 a1_1] 47 (0, 0)) of_lies) : gb102 ≠ gb121)); have n11_ := Aside0.mk ((by rw [hg]; exact Nat.ne_of_gt (blk_lt (g := gb102) (o := .cells #[.int .u64 a1_0, .int .u64 a1_1] 47 (0, 0)) of_lies) : gb121 ≠ gb102)); have n12_ := Aside0.mk ((by rw [hg]; exact Nat.ne_of_lt (blk_lt (g := gb106) (o := .cells #[.int .u64 t103, .int .u64 t104] 47 (0, 0)) of_lies) : gb106 ≠ gb121)); have n13_ := Aside0.mk ((by rw [hg]; exact Nat.ne_of_gt (blk_lt (g := gb106) (o := .cells #[.int .u64 t103, .int .u64 t104] 47 (0, 0)) of_lies) : gb121 ≠ gb106)); have n14_ := Aside0.mk ((by rw [hg]; exact Nat.ne_of_lt (blk_lt (g := gb110) (o := .cells #[.int .u64 t107, .int .u64 t108] 47 (0, 0)) of_lies) : gb110 ≠ gb121)); have n15_ := Aside0.mk ((by rw [hg]; exact Nat.ne_of_gt (blk_lt (g := gb110) (o := .cells #[.int .u64 t107, .int .u64 t108] 47 (0, 0)) of_lies) : gb121 ≠ gb110)); clear BK101; clear BK102; clear BK106; clear BK110; clear HB; have BK101 := n0_; have BK102 := n1_; have BK106 := n2_; have BK110 := n3_; have HB := n4_; have BK121 := n5_; have GW121 := n6_; have GE121 := n7_; have NB101_121 := n8_; have NB121_101 := n9_; have NB102_121 := n10_; have NB121_102 := n11_; have NB106_121 := n12_; have NB121_106 := n13_; have NB110_121 := n14_; have NB121_110 := n15_; clear n0_ n1_ n2_ n3_ n4_ n5_ n6_ n7_ n8_ n9_ n10_ n11_ n12_ n13_ n14_ n15_; clear hb hbox hg; have hnb185 := NB121_101.out; have hnc185 := NB101_121.out; have hnb186 := NB121_102.out; have hnc186 := NB102_121.out; have hnb187 := NB121_106.out; have hnc187 := NB106_121.out; have hnb188 := NB121_110.out; have hnc188 := NB110_121.out; obtain ⟨hcz189_0, hcz189_1, hfz189_0, hfz189_1⟩ := cells2 BK121.out))
          go_ret
          exact ⟨by first | rfl | (simp [errW_none, errW_some] <;> rfl) | (simp [*, errW_none, errW_some] <;> rfl), low HB⟩

end Go.Proofs.YtcdcpnhlmgmnkaaDoor.Podo
end
