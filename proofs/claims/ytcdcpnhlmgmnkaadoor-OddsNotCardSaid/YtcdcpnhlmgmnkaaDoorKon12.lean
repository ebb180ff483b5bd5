/- Joined by a program of this session (pack.py) out of: Podnx0 Podnx1 Podnx2 -/
import Derived.ArgAppend
import Derived.Below
import Derived.BigQuiet
import Derived.Deep.AppendLies
import Derived.Deep.CutBlock
import Derived.Deep.DeepCutAuto
import Derived.Deep.Draws
import Derived.Deep.LoopGhost
import Derived.Deep.OwnRows
import Derived.Deep.QuietTactic
import Derived.Deep.RegionHeld3
import Derived.KernelRfl
import Derived.Laws.BitsLemmas
import Derived.Laws.BytesArg
import Derived.Laws.IdiomCopy
import Derived.Laws.MakeOwn
import Derived.Laws.OwnMore
import Derived.Laws.Rows
import Derived.Laws.Slices
import Derived.Lib.AppendStr
import Derived.Lib.ConvBytes
import Derived.Maps.AppendAt
import Derived.OrdersHeld
import Derived.OwnWalk
import Derived.RowKit
import Derived.RowKit3
import Derived.Tactics
import Derived.Test.YtcdcpnhlmgmnkaaDoorProg
import Derived.WalkKit
import Derived.WideLaws
import Derived.Test.YtcdcpnhlmgmnkaaDoorKon1
import Derived.Test.YtcdcpnhlmgmnkaaDoorKon11
section
-- made for this claim by a program of this session (mkpp.py)
namespace Go.Proofs.YtcdcpnhlmgmnkaaDoor.Podn
open Go.RowKit Go.Proofs.YtcdcpnhlmgmnkaaDoor.Base Go.Proofs.YtcdcpnhlmgmnkaaDoorW.PrintWords Go.Proofs.YtcdcpnhlmgmnkaaDoorW.PrintLast Go.Proofs.YtcdcpnhlmgmnkaaDoorW.PrintMore
attribute [local go_sem] max2_int min2_int max_two min_two max_three min_three max_four min_four   -- for this text's walks alone
set_option linter.unusedVariables false
set_option linter.unusedSimpArgs false



def errW : Option Int → Value
 | none => .nilIface
 | some c => .iface 0 (.int .i64 c)
theorem errW_none : errW none = .nilIface := rfl
theorem errW_some (c : Int) : errW (some c) = .iface 0 (.int .i64 c) := rfl

-- the values' own types
/-! #### struct type 47 -/
structure S47 where
 f0 : Int
 f1 : Int
def z47 : S47 := ⟨(0 : Int), (0 : Int)⟩
def k47 : Kd S47 := Kd.iso (Kd.pair (Kd.int .u64) (Kd.int .u64)) (fun x : S47 => (x.f0, x.f1))
theorem k47_open {w : World} {x : S47} {cs : List Value} (h : k47.K w x cs) : cs = [.int .u64 x.f0, .int .u64 x.f1] := by
 obtain ⟨_, _, rfl, rfl, rfl⟩ := h
 exact rfl
theorem k47_openM {w : World} {base : Nat} {ok : Nat → Prop} {x : S47} {cs : List Value} (h : k47.M w base ok x cs) : cs = [.int .u64 x.f0, .int .u64 x.f1] := by
 obtain ⟨_, _, rfl, rfl, rfl⟩ := h
 exact rfl
theorem k47_mk (w : World) (x : S47)  : k47.K w x [.int .u64 x.f0, .int .u64 x.f1] := ⟨[.int .u64 x.f0], [.int .u64 x.f1], rfl, rfl, rfl⟩
theorem k47_mkM (w : World) (base : Nat) (ok : Nat → Prop) (x : S47)  : k47.M w base ok x [.int .u64 x.f0, .int .u64 x.f1] := ⟨[.int .u64 x.f0], [.int .u64 x.f1], rfl, rfl, rfl⟩
def rd_T47 (xs : List S47) (i : Int) : S47 := xs.getD i.toNat z47
theorem at_T47 {w : World} {A : Option Addr} {n : Nat} {xs : List S47} (h : Kd.C k47 w A n xs) (i : Int) (h0 : 0 ≤ i) (h1 : i < n) : ∃ ad , A = some ad ∧ w.cell? (ad.add (i.toNat * 2)) = some (.int .u64 (rd_T47 xs i).f0) ∧ w.cell? ⟨(ad.add (i.toNat * 2)).block, (ad.add (i.toNat * 2)).off + 1, none⟩ = some (.int .u64 (rd_T47 xs i).f1) := by
 obtain ⟨ad, c, e, _, hK, hc0⟩ := Kd.C_get h z47 i h0 h1
 have hc : ∀ j u, c[j]? = some u → w.cell? (ad.add (i.toNat * 2 + j)) = some u := hc0
 obtain rfl := k47_open hK
 exact ⟨ad, e, hc 0 _ rfl, by rw [← add_field _ _ 1 (by omega)]; exact hc 1 _ rfl⟩

end Go.Proofs.YtcdcpnhlmgmnkaaDoor.Podn
end
section
-- made for this claim by a program of this session (mkpp.py)
namespace Go.Proofs.YtcdcpnhlmgmnkaaDoor.Podn
open Go.RowKit Go.Proofs.YtcdcpnhlmgmnkaaDoor.Base Go.Proofs.YtcdcpnhlmgmnkaaDoorW.PrintWords Go.Proofs.YtcdcpnhlmgmnkaaDoorW.PrintLast Go.Proofs.YtcdcpnhlmgmnkaaDoorW.PrintMore
attribute [local go_sem] max2_int min2_int max_two min_two max_three min_three max_four min_four   -- for this text's walks alone
set_option linter.unusedVariables false
set_option linter.unusedSimpArgs false

theorem eqA47 (d : Nat) (w : World) (x0 y0 : Int) (x1 y1 : Int) :
  (Op.equalIn (d + 2) 47 (.agg #[.int .u64 x0, .int .u64 x1]) (.agg #[.int .u64 y0, .int .u64 y1])).run Tryd.prog w = .ok (x0 == y0 && (x1 == y1)) w := by
 refine eqA_of Tryd.underlying47 (by kernel_rfl) ?_
 refine eqf_cons (by rfl) (by go_simp; rfl) (by go_simp; rfl) (by go_simp) ?_
 exact eqf_last (by rfl) (by go_simp; rfl) (by go_simp; rfl) (by go_simp)
end Go.Proofs.YtcdcpnhlmgmnkaaDoor.Podn
end
section
-- made for this claim by a program of this session (mkpp.py)
namespace Go.Proofs.YtcdcpnhlmgmnkaaDoor.Podn
open Go.RowKit Go.Proofs.YtcdcpnhlmgmnkaaDoor.Base Go.Proofs.YtcdcpnhlmgmnkaaDoorW.PrintWords Go.Proofs.YtcdcpnhlmgmnkaaDoorW.PrintLast Go.Proofs.YtcdcpnhlmgmnkaaDoorW.PrintMore
attribute [local go_sem] max2_int min2_int max_two min_two max_three min_three max_four min_four   -- for this text's walks alone
set_option linter.unusedVariables false
set_option linter.unusedSimpArgs false

attribute [local go_sem high] eqA47
-- GIVEN: function 34 (Podd.lives)

-- GIVEN: function 36 (Pods2.odds_Sum)

-- GIVEN: function 37 (Podd.odds_Compare)

-- GIVEN: function 38 (Podd.odds_May)

-- GIVEN: function 44 (Podd.odds_Not)

/-! ### joustlaw32_OddsNot: function 12 -/
def joustlaw32_OddsNot.j0 : Nat → Bool → Int → Int → Int → Int → Int → Int → Option (Bool)
 | 0, _, _, _, _, _, _, _ => none
 | k + 1, x63, x102000, x102001, x103000, x103001, x107000, x107001 => if x63 = true then (some false) else ((Podd.odds_Compare.f k x102000 x102001 x103000 x103001).bind fun bt117 => (if bt117.2 = 0 then ((Podd.odds_Not.f k x103000 x103001).bind fun bt121 => ((Podd.odds_Compare.f k bt121.1 bt121.2.1 x107000 x107001).bind fun bt125 => ((Podd.odds_Compare.f k x103000 x103001 x102000 x102001).bind fun bt127 => (if bt125.2 = 0 then (if bt125.1 = bt117.1 then (if bt127.2 = 0 then (if bt127.1 = (wrap64 (-bt117.1)) then (if ((bt117.1 == 0) == (x102000 == x103000 && (x102001 == x103001))) = true then ((Podd.lives.f).bind fun t129 => (some t129)) else (some false)) else (some false)) else (some false)) else (some false)) else (some false))))) else ((Podd.odds_May.f k x103000 x103001).bind fun t119 => (if t119 = true then (some false) else (if bt117.1 = 0 then ((Podd.lives.f).bind fun t120 => (some t120)) else (some false))))))
def joustlaw32_OddsNot.f (k : Nat) (a0_0 : Int) (a0_1 : Int) (a1_0 : Int) (a1_1 : Int) : Option (Bool) := (Podd.odds_Not.f k a0_0 a0_1).bind fun bt103 => (if bt103.2.2 = 0 then ((Podd.odds_Not.f k bt103.1 bt103.2.1).bind fun bt109 => ((Pods2.odds_Sum.f a0_0 a0_1 bt103.1 bt103.2.1).bind fun bt113 => (if bt109.2.2 = 0 then (if (!(bt109.1 == a0_0) || (!(bt109.2.1 == a0_1))) = true then (joustlaw32_OddsNot.j0 k true a0_0 a0_1 a1_0 a1_1 bt103.1 bt103.2.1) else (if bt113.2.2 = 0 then (joustlaw32_OddsNot.j0 k (!(bt113.1 == 1) || (!(bt113.2.1 == 1))) a0_0 a0_1 a1_0 a1_1 bt103.1 bt103.2.1) else (joustlaw32_OddsNot.j0 k true a0_0 a0_1 a1_0 a1_1 bt103.1 bt103.2.1))) else (joustlaw32_OddsNot.j0 k true a0_0 a0_1 a1_0 a1_1 bt103.1 bt103.2.1)))) else ((Podd.odds_May.f k a0_0 a0_1).bind fun t107 => (if t107 = true then (some false) else (if (bt103.1 == 0 && (bt103.2.1 == 0)) = true then ((Podd.lives.f).bind fun t108 => (some t108)) else (some false)))))
theorem joustlaw32_OddsNot.mono_l : ∀ k, (∀ y0 y1 y2 y3 y4 y5 y6, LeO (joustlaw32_OddsNot.j0 k y0 y1 y2 y3 y4 y5 y6) (joustlaw32_OddsNot.j0 (k + 1) y0 y1 y2 y3 y4 y5 y6))
 | 0 => fun _ _ _ _ _ _ _ r h => by simp [joustlaw32_OddsNot.j0] at h
 | k + 1 => by
  have ih0 := joustlaw32_OddsNot.mono_l k
  ·
   intro y0 y1 y2 y3 y4 y5 y6
   unfold joustlaw32_OddsNot.j0
   repeat' first
   | (with_reducible exact ih0 _ _ _ _ _ _ _)
   | (with_reducible exact Podd.odds_Compare.mono _ _ _ _ _)
   | (with_reducible exact Podd.odds_May.mono _ _ _)
   | (with_reducible exact Podd.odds_Not.mono _ _ _)
   | (with_reducible exact LeO.refl _)
   | (with_reducible exact LeO.none _)
   | (with_reducible refine LeO.ite ?_ ?_)
   | (with_reducible refine LeO.bind ?_ (fun _ => ?_))
   | exact ih0 _ _ _ _ _ _ _
   | exact Podd.odds_Compare.mono _ _ _ _ _
   | exact Podd.odds_May.mono _ _ _
   | exact Podd.odds_Not.mono _ _ _
   | exact LeO.none _
   | refine LeO.ite ?_ ?_
   | refine LeO.bind ?_ (fun _ => ?_)
theorem joustlaw32_OddsNot.mono : ∀ a0 a1 a2 a3 k, LeO (joustlaw32_OddsNot.f k a0 a1 a2 a3) (joustlaw32_OddsNot.f (k + 1) a0 a1 a2 a3) := by
 intro a0 a1 a2 a3 k
 have ih0 := joustlaw32_OddsNot.mono_l k
 unfold joustlaw32_OddsNot.f
 repeat' first
   | (with_reducible exact ih0 _ _ _ _ _ _ _)
   | (with_reducible exact Podd.odds_Compare.mono _ _ _ _ _)
   | (with_reducible exact Podd.odds_May.mono _ _ _)
   | (with_reducible exact Podd.odds_Not.mono _ _ _)
   | (with_reducible exact LeO.refl _)
   | (with_reducible exact LeO.none _)
   | (with_reducible refine LeO.ite ?_ ?_)
   | (with_reducible refine LeO.bind ?_ (fun _ => ?_))
   | exact ih0 _ _ _ _ _ _ _
   | exact Podd.odds_Compare.mono _ _ _ _ _
   | exact Podd.odds_May.mono _ _ _
   | exact Podd.odds_Not.mono _ _ _
   | exact LeO.none _
   | refine LeO.ite ?_ ?_
   | refine LeO.bind ?_ (fun _ => ?_)
set_option maxHeartbeats 8000000 in
set_option maxRecDepth 100000 in
theorem joustlaw32_OddsNot.calls (k : Nat) (a0_0 : Int) (a0_1 : Int) (a1_0 : Int) (a1_1 : Int) (r : Bool) (w : World) (hg_ : GoodW w) (h : joustlaw32_OddsNot.f k a0_0 a0_1 a1_0 a1_1 = some r) :
  Calls Tryd.prog 12 #[.agg #[.int .u64 a0_0, .int .u64 a0_1], .agg #[.int .u64 a1_0, .int .u64 a1_1]] w fun e w' => e = .returned (.bool r) ∧ Below w.heap.size w w' := by
 have hu47 := Tryd.underlying47
 have HGW := Aside0.mk hg_
 clear hg_
 have HB := Aside0.mk (Below.refl w.heap.size w)
 have H : ((Podd.odds_Not.f k a0_0 a0_1).bind fun bt103 => (if bt103.2.2 = 0 then ((Podd.odds_Not.f k bt103.1 bt103.2.1).bind fun bt109 => ((Pods2.odds_Sum.f a0_0 a0_1 bt103.1 bt103.2.1).bind fun bt113 => (if bt109.2.2 = 0 then (if (!(bt109.1 == a0_0) || (!(bt109.2.1 == a0_1))) = true then (joustlaw32_OddsNot.j0 k true a0_0 a0_1 a1_0 a1_1 bt103.1 bt103.2.1) else (if bt113.2.2 = 0 then (joustlaw32_OddsNot.j0 k (!(bt113.1 == 1) || (!(bt113.2.1 == 1))) a0_0 a0_1 a1_0 a1_1 bt103.1 bt103.2.1) else (joustlaw32_OddsNot.j0 k true a0_0 a0_1 a1_0 a1_1 bt103.1 bt103.2.1))) else (joustlaw32_OddsNot.j0 k true a0_0 a0_1 a1_0 a1_1 bt103.1 bt103.2.1)))) else ((Podd.odds_May.f k a0_0 a0_1).bind fun t107 => (if t107 = true then (some false) else (if (bt103.1 == 0 && (bt103.2.1 == 0)) = true then ((Podd.lives.f).bind fun t108 => (some t108)) else (some false)))))) = some r := h
 clear h
 replace H := Option.bind_eq_some_iff.mp H
 obtain ⟨⟨t103, t104, t105⟩, A30, H⟩ := H
 replace H : (if t105 = 0 then ((Podd.odds_Not.f k t103 t104).bind fun bt109 => ((Pods2.odds_Sum.f a0_0 a0_1 t103 t104).bind fun bt113 => (if bt109.2.2 = 0 then (if (!(bt109.1 == a0_0) || (!(bt109.2.1 == a0_1))) = true then (joustlaw32_OddsNot.j0 k true a0_0 a0_1 a1_0 a1_1 t103 t104) else (if bt113.2.2 = 0 then (joustlaw32_OddsNot.j0 k (!(bt113.1 == 1) || (!(bt113.2.1 == 1))) a0_0 a0_1 a1_0 a1_1 t103 t104) else (joustlaw32_OddsNot.j0 k true a0_0 a0_1 a1_0 a1_1 t103 t104))) else (joustlaw32_OddsNot.j0 k true a0_0 a0_1 a1_0 a1_1 t103 t104)))) else ((Podd.odds_May.f k a0_0 a0_1).bind fun t107 => (if t107 = true then (some false) else (if (t103 == 0 && (t104 == 0)) = true then ((Podd.lives.f).bind fun t108 => (some t108)) else (some false))))) = some r := H
 have A3 := Aside0.mk A30
 clear A30
 by_cases c4 : t105 = 0
 ·
  rw [if_pos c4] at H
  have c4b0 : (t105 == 0) = true := beq_iff_eq.mpr c4
  have c4b1 : (t105 != 0) = false := bne_eq_false_iff_eq.mpr c4
  clear c4
  replace H := Option.bind_eq_some_iff.mp H
  obtain ⟨⟨t109, t110, t111⟩, A50, H⟩ := H
  replace H : ((Pods2.odds_Sum.f a0_0 a0_1 t103 t104).bind fun bt113 => (if t111 = 0 then (if (!(t109 == a0_0) || (!(t110 == a0_1))) = true then (joustlaw32_OddsNot.j0 k true a0_0 a0_1 a1_0 a1_1 t103 t104) else (if bt113.2.2 = 0 then (joustlaw32_OddsNot.j0 k (!(bt113.1 == 1) || (!(bt113.2.1 == 1))) a0_0 a0_1 a1_0 a1_1 t103 t104) else (joustlaw32_OddsNot.j0 k true a0_0 a0_1 a1_0 a1_1 t103 t104))) else (joustlaw32_OddsNot.j0 k true a0_0 a0_1 a1_0 a1_1 t103 t104))) = some r := H
  have A5 := Aside0.mk A50
  clear A50
  replace H := Option.bind_eq_some_iff.mp H
  obtain ⟨⟨t113, t114, t115⟩, A60, H⟩ := H
  replace H : (if t111 = 0 then (if (!(t109 == a0_0) || (!(t110 == a0_1))) = true then (joustlaw32_OddsNot.j0 k true a0_0 a0_1 a1_0 a1_1 t103 t104) else (if t115 = 0 then (joustlaw32_OddsNot.j0 k (!(t113 == 1) || (!(t114 == 1))) a0_0 a0_1 a1_0 a1_1 t103 t104) else (joustlaw32_OddsNot.j0 k true a0_0 a0_1 a1_0 a1_1 t103 t104))) else (joustlaw32_OddsNot.j0 k true a0_0 a0_1 a1_0 a1_1 t103 t104)) = some r := H
  have A6 := Aside0.mk A60
  clear A60
  have HC7 := Aside0.mk H
  clear H
  go_enter Tryd.func12, Tryd.ntmps12
  go_upto_region 6 with (first | ((with_reducible refine gate_dst (N := 2) rfl ?_); refine box_event ?hg (N := 2) ?hd (cs := #[.int .u64 a0_0, .int .u64 a0_1]) (t := 47) ?hr ?_; (case hd => rfl); (case hg => rfl); (case hr => first | (go_simp; done) | (go_simp; rfl)); intro gb101 hg w8 hbox hb; have n0_ := Aside0.mk (below_step (low HB) hb); have n1_ := Aside0.mk (hbox); have n2_ := Aside0.mk ((by rw [hg]; exact (below_size (low HB)) : w.heap.size ≤ gb101)); have n3_ := Aside0.mk ((by rw [hg]; exact (below_size (low HB)) : w.heap.size ≤ gb101)); clear HB; have HB := n0_; have BK101 := n1_; have GW101 := n2_; have GE101 := n3_; clear n0_ n1_ n2_ n3_; clear hb hbox hg) | ((with_reducible refine gate_dst (N := 3) rfl ?_); refine box_event ?hg (N := 3) ?hd (cs := #[.int .u64 a1_0, .int .u64 a1_1]) (t := 47) ?hr ?_; (case hd => rfl); (case hg => rfl); (case hr => first | (go_simp; done) | (go_simp; rfl)); intro gb102 hg w9 hbox hb; have n0_ := Aside0.mk (blk_below (g := gb101) (o := .cells #[.int .u64 a0_0, .int .u64 a0_1] 47 (0, 0)) of_lies hb); have n1_ := Aside0.mk (below_step (low HB) hb); have n2_ := Aside0.mk (hbox); have n3_ := Aside0.mk ((by rw [hg]; exact (below_size (low HB)) : w.heap.size ≤ gb102)); have n4_ := Aside0.mk ((by rw [hg]; exact (below_size (low HB)) : w.heap.size ≤ gb102)); have n5_ := Aside0.mk ((by rw [hg]; exact Nat.ne_of_lt (blk_lt (g := gb101) (o := .cells #[.int .u64 a0_0, .int .u64 a0_1] 47 (0, 0)) of_lies) : gb101 ≠ gb102)); have n6_ := Aside0.mk ((by rw [hg]; exact Nat.ne_of_gt (blk_lt (g := gb101) (o := .cells #[.int .u64 a0_0, .int .u64 a0_1] 47 (0, 0)) of_lies) : gb102 ≠ gb101)); clear BK101; clear HB; have BK101 := n0_; have HB := n1_; have BK102 := n2_; have GW102 := n3_; have GE102 := n4_; have NB101_102 := n5_; have NB102_101 := n6_; clear n0_ n1_ n2_ n3_ n4_ n5_ n6_; clear hb hbox hg; have hnb10 := NB101_102.out; have hnc10 := NB102_101.out; obtain ⟨hcz11_0, hcz11_1, hfz11_0, hfz11_1⟩ := cells2 BK101.out) | ((with_reducible refine gate_callee (f := 44) rfl ?_); refine goesL_ (some 21) rfl rfl Tryd.func44 (by kernel_rfl) rfl #[.agg #[.int .u64 a0_0, .int .u64 a0_1]] rfl (by (try simp only [List.map_toArray, List.map_cons, List.map_nil]); first | done | rfl | (simp only [List.length_drop, List.length_take]; rfl)) ?_; (with_reducible refine (Podd.odds_Not.calls k a0_0 a0_1 t103 t104 t105 _ A3.out).mono ?_); rintro e w12 ⟨rfl, hb⟩; refine ⟨_, rfl, ?_⟩; have n0_ := Aside0.mk (blk_below (g := gb101) (o := .cells #[.int .u64 a0_0, .int .u64 a0_1] 47 (0, 0)) of_lies hb); have n1_ := Aside0.mk (blk_below (g := gb102) (o := .cells #[.int .u64 a1_0, .int .u64 a1_1] 47 (0, 0)) of_lies hb); have n2_ := Aside0.mk (below_step (low HB) hb); clear BK101; clear BK102; clear HB; have BK101 := n0_; have BK102 := n1_; have HB := n2_; clear n0_ n1_ n2_; (try clear hb); (try clear hb2); (try clear hk); (try clear hi)) | ((with_reducible refine gate_dst (N := 5) rfl ?_); refine box_event ?hg (N := 5) ?hd (cs := #[.int .u64 0, .int .u64 0]) (t := 47) ?hr ?_; (case hd => rfl); (case hg => rfl); (case hr => first | (go_simp; done) | (go_simp; rfl)); intro gb106 hg w13 hbox hb; have n0_ := Aside0.mk (blk_below (g := gb101) (o := .cells #[.int .u64 a0_0, .int .u64 a0_1] 47 (0, 0)) of_lies hb); have n1_ := Aside0.mk (blk_below (g := gb102) (o := .cells #[.int .u64 a1_0, .int .u64 a1_1] 47 (0, 0)) of_lies hb); have n2_ := Aside0.mk (below_step (low HB) hb); have n3_ := Aside0.mk (hbox); have n4_ := Aside0.mk ((by rw [hg]; exact (below_size (low HB)) : w.heap.size ≤ gb106)); have n5_ := Aside0.mk ((by rw [hg]; exact (below_size (low HB)) : w.heap.size ≤ gb106)); have n6_ := Aside0.mk ((by rw [hg]; exact Nat.ne_of_lt (blk_lt (g := gb101) (o := .cells #[.int .u64 a0_0, .int .u64 a0_1] 47 (0, 0)) of_lies) : gb101 ≠ gb106)); have n7_ := Aside0.mk ((by rw [hg]; exact Nat.ne_of_gt (blk_lt (g := gb101) (o := .cells #[.int .u64 a0_0, .int .u64 a0_1] 47 (0, 0)) of_lies) : gb106 ≠ gb101)); have n8_ := Aside0.mk ((by rw [hg]; exact Nat.ne_of_lt (blk_lt (g := gb102) (o := .cells #[.int .u64 a1_0, .int .u64 a1_1] 47 (0, 0)) of_lies) : gb102 ≠ gb106)); have n9_ := Aside0.mk ((by rw [hg]; exact Nat.ne_of_gt (blk_lt (g := gb102) (o := .cells #[.int .u64 a1_0, .int .u64 a1_1] 47 (0, 0)) of_lies) : gb106 ≠ gb102)); clear BK101; clear BK102; clear HB; have BK101 := n0_; have BK102 := n1_; have HB := n2_; have BK106 := n3_; have GW106 := n4_; have GE106 := n5_; have NB101_106 := n6_; have NB106_101 := n7_; have NB102_106 := n8_; have NB106_102 := n9_; clear n0_ n1_ n2_ n3_ n4_ n5_ n6_ n7_ n8_ n9_; clear hb hbox hg; have hnb14 := NB106_101.out; have hnc14 := NB101_106.out; have hnb15 := NB106_102.out; have hnc15 := NB102_106.out; obtain ⟨hcz16_0, hcz16_1, hfz16_0, hfz16_1⟩ := cells2 BK106.out) | ((with_reducible refine gate_callee (f := 44) rfl ?_); refine goesL_ (some 39) rfl rfl Tryd.func44 (by kernel_rfl) rfl #[.agg #[.int .u64 t103, .int .u64 t104]] rfl (by (try simp only [List.map_toArray, List.map_cons, List.map_nil]); first | done | rfl | (simp only [List.length_drop, List.length_take]; rfl)) ?_; (with_reducible refine (Podd.odds_Not.calls k t103 t104 t109 t110 t111 _ A5.out).mono ?_); rintro e w17 ⟨rfl, hb⟩; refine ⟨_, rfl, ?_⟩; have n0_ := Aside0.mk (blk_below (g := gb101) (o := .cells #[.int .u64 a0_0, .int .u64 a0_1] 47 (0, 0)) of_lies hb); have n1_ := Aside0.mk (blk_below (g := gb102) (o := .cells #[.int .u64 a1_0, .int .u64 a1_1] 47 (0, 0)) of_lies hb); have n2_ := Aside0.mk (blk_below (g := gb106) (o := .cells #[.int .u64 t103, .int .u64 t104] 47 (0, 0)) of_lies hb); have n3_ := Aside0.mk (below_step (low HB) hb); clear BK101; clear BK102; clear BK106; clear HB; have BK101 := n0_; have BK102 := n1_; have BK106 := n2_; have HB := n3_; clear n0_ n1_ n2_ n3_; (try clear hb); (try clear hb2); (try clear hk); (try clear hi)) | ((with_reducible refine gate_dst (N := 7) rfl ?_); refine box_event ?hg (N := 7) ?hd (cs := #[.int .u64 0, .int .u64 0]) (t := 47) ?hr ?_; (case hd => rfl); (case hg => rfl); (case hr => first | (go_simp; done) | (go_simp; rfl)); intro gb112 hg w18 hbox hb; have n0_ := Aside0.mk (blk_below (g := gb101) (o := .cells #[.int .u64 a0_0, .int .u64 a0_1] 47 (0, 0)) of_lies hb); have n1_ := Aside0.mk (blk_below (g := gb102) (o := .cells #[.int .u64 a1_0, .int .u64 a1_1] 47 (0, 0)) of_lies hb); have n2_ := Aside0.mk (blk_below (g := gb106) (o := .cells #[.int .u64 t103, .int .u64 t104] 47 (0, 0)) of_lies hb); have n3_ := Aside0.mk (below_step (low HB) hb); have n4_ := Aside0.mk (hbox); have n5_ := Aside0.mk ((by rw [hg]; exact (below_size (low HB)) : w.heap.size ≤ gb112)); have n6_ := Aside0.mk ((by rw [hg]; exact (below_size (low HB)) : w.heap.size ≤ gb112)); have n7_ := Aside0.mk ((by rw [hg]; exact Nat.ne_of_lt (blk_lt (g := gb101) (o := .cells #[.int .u64 a0_0, .int .u64 a0_1] 47 (0, 0)) of_lies) : gb101 ≠ gb112)); have n8_ := Aside0.mk ((by rw [hg]; exact Nat.ne_of_gt (blk_lt (g := gb101) (o := .cells #[.int .u64 a0_0, .int .u64 a0_1] 47 (0, 0)) of_lies) : gb112 ≠ gb101)); have n9_ := Aside0.mk ((by rw [hg]; exact Nat.ne_of_lt (blk_lt (g := gb102) (o := .cells #[.int .u64 a1_0, .int .u64 a1_1] 47 (0, 0)) of_lies) : gb102 ≠ gb112)); have n10_ := Aside0.mk ((by rw [hg]; exact Nat.ne_of_gt (blk_lt (g := gb102) (o := .cells #[.int .u64 a1_0, .int .u64 a1_1] 47 (0, 0)) of_lies) : gb112 ≠ gb102)); have n11_ := Aside0.mk ((by rw [hg]; exact Nat.ne_of_lt (blk_lt (g := gb106) (o := .cells #[.int .u64 t103, .int .u64 t104] 47 (0, 0)) of_lies) : gb106 ≠ gb112)); have n12_ := Aside0.mk ((by rw [hg]; exact Nat.ne_of_gt (blk_lt (g := gb106) (o := .cells #[.int .u64 t103, .int .u64 t104] 47 (0, 0)) of_lies) : gb112 ≠ gb106)); clear BK101; clear BK102; clear BK106; clear HB; have BK101 := n0_; have BK102 := n1_; have BK106 := n2_; have HB := n3_; have BK112 := n4_; have GW112 := n5_; have GE112 := n6_; have NB101_112 := n7_; have NB112_101 := n8_; have NB102_112 := n9_; have NB112_102 := n10_; have NB106_112 := n11_; have NB112_106 := n12_; clear n0_ n1_ n2_ n3_ n4_ n5_ n6_ n7_ n8_ n9_ n10_ n11_ n12_; clear hb hbox hg; have hnb19 := NB112_101.out; have hnc19 := NB101_112.out; have hnb20 := NB112_102.out; have hnc20 := NB102_112.out; have hnb21 := NB112_106.out; have hnc21 := NB106_112.out; obtain ⟨hcz22_0, hcz22_1, hfz22_0, hfz22_1⟩ := cells2 BK112.out; obtain ⟨hcz23_0, hcz23_1, hfz23_0, hfz23_1⟩ := cells2 BK101.out; obtain ⟨hcz24_0, hcz24_1, hfz24_0, hfz24_1⟩ := cells2 BK106.out) | ((with_reducible refine gate_callee (f := 36) rfl ?_); refine goesL_ (some 45) rfl rfl Tryd.func36 (by kernel_rfl) rfl #[.agg #[.int .u64 a0_0, .int .u64 a0_1], .agg #[.int .u64 t103, .int .u64 t104]] rfl (by (try simp only [List.map_toArray, List.map_cons, List.map_nil]); first | done | rfl | (simp only [List.length_drop, List.length_take]; rfl)) ?_; (with_reducible refine (Pods2.odds_Sum.calls a0_0 a0_1 t103 t104 t113 t114 t115 _ A6.out).mono ?_); rintro e w25 ⟨rfl, hb⟩; refine ⟨_, rfl, ?_⟩; have n0_ := Aside0.mk (blk_below (g := gb101) (o := .cells #[.int .u64 a0_0, .int .u64 a0_1] 47 (0, 0)) of_lies hb); have n1_ := Aside0.mk (blk_below (g := gb102) (o := .cells #[.int .u64 a1_0, .int .u64 a1_1] 47 (0, 0)) of_lies hb); have n2_ := Aside0.mk (blk_below (g := gb106) (o := .cells #[.int .u64 t103, .int .u64 t104] 47 (0, 0)) of_lies hb); have n3_ := Aside0.mk (blk_below (g := gb112) (o := .cells #[.int .u64 t109, .int .u64 t110] 47 (0, 0)) of_lies hb); have n4_ := Aside0.mk (below_step (low HB) hb); clear BK101; clear BK102; clear BK106; clear BK112; clear HB; have BK101 := n0_; have BK102 := n1_; have BK106 := n2_; have BK112 := n3_; have HB := n4_; clear n0_ n1_ n2_ n3_ n4_; (try clear hb); (try clear hb2); (try clear hk); (try clear hi)) | ((with_reducible refine gate_dst (N := 9) rfl ?_); refine box_event ?hg (N := 9) ?hd (cs := #[.int .u64 0, .int .u64 0]) (t := 47) ?hr ?_; (case hd => rfl); (case hg => rfl); (case hr => first | (go_simp; done) | (go_simp; rfl)); intro gb116 hg w26 hbox hb; have n0_ := Aside0.mk (blk_below (g := gb101) (o := .cells #[.int .u64 a0_0, .int .u64 a0_1] 47 (0, 0)) of_lies hb); have n1_ := Aside0.mk (blk_below (g := gb102) (o := .cells #[.int .u64 a1_0, .int .u64 a1_1] 47 (0, 0)) of_lies hb); have n2_ := Aside0.mk (blk_below (g := gb106) (o := .cells #[.int .u64 t103, .int .u64 t104] 47 (0, 0)) of_lies hb); have n3_ := Aside0.mk (blk_below (g := gb112) (o := .cells #[.int .u64 t109, .int .u64 t110] 47 (0, 0)) of_lies hb); have n4_ := Aside0.mk (below_step (low HB) hb); have n5_ := Aside0.mk (hbox); have n6_ := Aside0.mk ((by rw [hg]; exact (below_size (low HB)) : w.heap.size ≤ gb116)); have n7_ := Aside0.mk ((by rw [hg]; exact (below_size (low HB)) : w.heap.size ≤ gb116)); have n8_ := Aside0.mk ((by rw [hg]; exact Nat.ne_of_lt (blk_lt (g := gb101) (o := .cells #[.int .u64 a0_0, .int .u64 a0_1] 47 (0, 0)) of_lies) : gb101 ≠ gb116)); have n9_ := Aside0.mk ((by rw [hg]; exact Nat.ne_of_gt (blk_lt (g := gb101) (o := .cells #[.int .u64 a0_0, .int .u64 a0_1] 47 (0, 0)) of_lies) : gb116 ≠ gb101)); have n10_ := Aside0.mk ((by rw [hg]; exact Nat.ne_of_lt (blk_lt (g := gb102) (o := .cells #[.int .u64 a1_0, .int .u64 a1_1] 47 (0, 0)) of_lies) : gb102 ≠ gb116)); have n11_ := Aside0.mk ((by rw [hg]; exact Nat.ne_of_gt (blk_lt (g := gb102) (o := .cells #[.int .u64 a1_0, .int .u64 a1_1] 47 (0, 0)) of_lies) : gb116 ≠ gb102)); have n12_ := Aside0.mk ((by rw [hg]; exact Nat.ne_of_lt (blk_lt (g := gb106) (o := .cells #[.int .u64 t103, .int .u64 t104] 47 (0, 0)) of_lies) : gb106 ≠ gb116)); have n13_ := Aside0.mk ((by rw [hg]; exact Nat.ne_of_gt (blk_lt (g := gb106) (o := .cells #[.int .u64 t103, .int .u64 t104] 47 (0, 0)) of_lies) : gb116 ≠ gb106)); have n14_ := Aside0.mk ((by rw [hg]; exact Nat.ne_of_lt (blk_lt (g := gb112) (o := .cells #[.int .u64 t109, .int .u64 t110] 47 (0, 0)) of_lies) : gb112 ≠ gb116)); have n15_ := Aside0.mk ((by rw [hg]; exact Nat.ne_of_gt (blk_lt (g := gb112) (o := .cells #[.int .u64 t109, .int .u64 t110] 47 (0, 0)) of_lies) : gb116 ≠ gb112)); clear BK101; clear BK102; clear BK106; clear BK112; clear HB; have BK101 := n0_; have BK102 := n1_; have BK106 := n2_; have BK112 := n3_; have HB := n4_; have BK116 := n5_; have GW116 := n6_; have GE116 := n7_; have NB101_116 := n8_; have NB116_101 := n9_; have NB102_116 := n10_; have NB116_102 := n11_; have NB106_116 := n12_; have NB116_106 := n13_; have NB112_116 := n14_; have NB116_112 := n15_; clear n0_ n1_ n2_ n3_ n4_ n5_ n6_ n7_ n8_ n9_ n10_ n11_ n12_ n13_ n14_ n15_; clear hb hbox hg; have hnb27 := NB116_101.out; have hnc27 := NB101_116.out; have hnb28 := NB116_102.out; have hnc28 := NB102_116.out; have hnb29 := NB116_106.out; have hnc29 := NB106_116.out; have hnb30 := NB116_112.out; have hnc30 := NB112_116.out; obtain ⟨hcz31_0, hcz31_1, hfz31_0, hfz31_1⟩ := cells2 BK116.out))
  (try simp only [Act.put, List.setIfInBounds_toArray, List.set_cons_zero, List.set_cons_succ])
  go_cut [63] (fun v63 wc => ∃ (kq : Nat) (x63_6 : Bool), v63 = .bool x63_6 ∧ Aside0 (joustlaw32_OddsNot.j0 kq x63_6 a0_0 a0_1 a1_0 a1_1 t103 t104 = some r) ∧ Aside0 (kq ≤ k) ∧ Aside0 (wc.heap[gb101]? = some (.cells #[.int .u64 a0_0, .int .u64 a0_1] 47 (0, 0))) ∧ Aside0 (wc.heap[gb102]? = some (.cells #[.int .u64 a1_0, .int .u64 a1_1] 47 (0, 0))) ∧ Aside0 (wc.heap[gb106]? = some (.cells #[.int .u64 t103, .int .u64 t104] 47 (0, 0))) ∧ Aside0 (wc.heap[gb112]? = some (.cells #[.int .u64 t109, .int .u64 t110] 47 (0, 0))) ∧ Aside0 (wc.heap[gb116]? = some (.cells #[.int .u64 t113, .int .u64 t114] 47 (0, 0))) ∧ Aside0 (Below w.heap.size w wc))
  case first =>
   have H := HC7.out
   clear HC7
   by_cases c32 : t111 = 0
   ·
    rw [if_pos c32] at H
    have c32b0 : (t111 == 0) = true := beq_iff_eq.mpr c32
    have c32b1 : (t111 != 0) = false := bne_eq_false_iff_eq.mpr c32
    clear c32
    (first | rw [c32b0] | (simp only [i64_w, i32_w]; rw [c32b0]) | skip)
    by_cases c33 : (!(t109 == a0_0) || (!(t110 == a0_1))) = true
    ·
     rw [if_pos c33] at H
     have c33b0 : (!(t109 == a0_0) || (!(t110 == a0_1))) = true := c33
     clear c33
     have H' := Aside0.mk H
     clear H
     have hnb34 := NB112_101.out
     have hnc34 := NB101_112.out
     have hnb35 := NB112_102.out
     have hnc35 := NB102_112.out
     have hnb36 := NB112_106.out
     have hnc36 := NB106_112.out
     have hnb37 := NB112_116.out
     have hnc37 := NB116_112.out
     have hcz38_0 : w26.cell? ⟨gb112, 0, none⟩ = some (.int .u64 t109) := (blk_cell BK112.out 0).trans rfl
     have hcz38_1 : w26.cell? ⟨gb112, 1, none⟩ = some (.int .u64 t110) := (blk_cell BK112.out 1).trans rfl
     have hfz38_0 := blk_frozen BK112.out 0
     have hfz38_1 := blk_frozen BK112.out 1
     have hnb39 := NB101_102.out
     have hnc39 := NB102_101.out
     have hnb40 := NB101_106.out
     have hnc40 := NB106_101.out
     have hnb41 := NB101_116.out
     have hnc41 := NB116_101.out
     have hcz42_0 : w26.cell? ⟨gb101, 0, none⟩ = some (.int .u64 a0_0) := (blk_cell BK101.out 0).trans rfl
     have hcz42_1 : w26.cell? ⟨gb101, 1, none⟩ = some (.int .u64 a0_1) := (blk_cell BK101.out 1).trans rfl
     have hfz42_0 := blk_frozen BK101.out 0
     have hfz42_1 := blk_frozen BK101.out 1
     go_wp2
     go_meet
     case rel => exact ⟨_, (true), (by first | rfl | (simp; done) | (simp [*]; done)), H', ⟨by first | omega | exact Nat.le_refl _⟩, ⟨of_lies⟩, ⟨of_lies⟩, ⟨of_lies⟩, ⟨of_lies⟩, ⟨of_lies⟩, ⟨low HB⟩⟩
    ·
     rw [if_neg c33] at H
     have c33b0 : (!(t109 == a0_0) || (!(t110 == a0_1))) = false := by simpa using c33
     clear c33
     by_cases c43 : t115 = 0
     ·
      rw [if_pos c43] at H
      have c43b0 : (t115 == 0) = true := beq_iff_eq.mpr c43
      have c43b1 : (t115 != 0) = false := bne_eq_false_iff_eq.mpr c43
      clear c43
      have H' := Aside0.mk H
      clear H
      have hnb44 := NB112_101.out
      have hnc44 := NB101_112.out
      have hnb45 := NB112_102.out
      have hnc45 := NB102_112.out
      have hnb46 := NB112_106.out
      have hnc46 := NB106_112.out
      have hnb47 := NB112_116.out
      have hnc47 := NB116_112.out
      have hcz48_0 : w26.cell? ⟨gb112, 0, none⟩ = some (.int .u64 t109) := (blk_cell BK112.out 0).trans rfl
      have hcz48_1 : w26.cell? ⟨gb112, 1, none⟩ = some (.int .u64 t110) := (blk_cell BK112.out 1).trans rfl
      have hfz48_0 := blk_frozen BK112.out 0
      have hfz48_1 := blk_frozen BK112.out 1
      have hnb49 := NB101_102.out
      have hnc49 := NB102_101.out
      have hnb50 := NB101_106.out
      have hnc50 := NB106_101.out
      have hnb51 := NB101_116.out
      have hnc51 := NB116_101.out
      have hcz52_0 : w26.cell? ⟨gb101, 0, none⟩ = some (.int .u64 a0_0) := (blk_cell BK101.out 0).trans rfl
      have hcz52_1 : w26.cell? ⟨gb101, 1, none⟩ = some (.int .u64 a0_1) := (blk_cell BK101.out 1).trans rfl
      have hfz52_0 := blk_frozen BK101.out 0
      have hfz52_1 := blk_frozen BK101.out 1
      have hnb53 := NB116_102.out
      have hnc53 := NB102_116.out
      have hnb54 := NB116_106.out
      have hnc54 := NB106_116.out
      have hcz55_0 : w26.cell? ⟨gb116, 0, none⟩ = some (.int .u64 0) := (blk_cell BK116.out 0).trans rfl
      have hcz55_1 : w26.cell? ⟨gb116, 1, none⟩ = some (.int .u64 0) := (blk_cell BK116.out 1).trans rfl
      have hfz55_0 := blk_frozen BK116.out 0
      have hfz55_1 := blk_frozen BK116.out 1
      go_wp2
      go_meet
      case rel => exact ⟨_, ((!(t113 == 1) || (!(t114 == 1)))), (by first | rfl | (simp; done) | (simp [*]; done)), H', ⟨by first | omega | exact Nat.le_refl _⟩, ⟨of_lies⟩, ⟨of_lies⟩, ⟨of_lies⟩, ⟨of_lies⟩, ⟨of_lies⟩, ⟨low HB⟩⟩
     ·
      rw [if_neg c43] at H
      have c43b0 : (t115 == 0) = false := beq_eq_false_iff_ne.mpr c43
      have c43b1 : (t115 != 0) = true := bne_iff_ne.mpr c43
      have H' := Aside0.mk H
      clear H
      have hnb56 := NB112_101.out
      have hnc56 := NB101_112.out
      have hnb57 := NB112_102.out
      have hnc57 := NB102_112.out
      have hnb58 := NB112_106.out
      have hnc58 := NB106_112.out
      have hnb59 := NB112_116.out
      have hnc59 := NB116_112.out
      have hcz60_0 : w26.cell? ⟨gb112, 0, none⟩ = some (.int .u64 t109) := (blk_cell BK112.out 0).trans rfl
      have hcz60_1 : w26.cell? ⟨gb112, 1, none⟩ = some (.int .u64 t110) := (blk_cell BK112.out 1).trans rfl
      have hfz60_0 := blk_frozen BK112.out 0
      have hfz60_1 := blk_frozen BK112.out 1
      have hnb61 := NB101_102.out
      have hnc61 := NB102_101.out
      have hnb62 := NB101_106.out
      have hnc62 := NB106_101.out
      have hnb63 := NB101_116.out
      have hnc63 := NB116_101.out
      have hcz64_0 : w26.cell? ⟨gb101, 0, none⟩ = some (.int .u64 a0_0) := (blk_cell BK101.out 0).trans rfl
      have hcz64_1 : w26.cell? ⟨gb101, 1, none⟩ = some (.int .u64 a0_1) := (blk_cell BK101.out 1).trans rfl
      have hfz64_0 := blk_frozen BK101.out 0
      have hfz64_1 := blk_frozen BK101.out 1
      go_wp2
      go_meet
      case rel => exact ⟨_, (true), (by first | rfl | (simp; done) | (simp [*]; done)), H', ⟨by first | omega | exact Nat.le_refl _⟩, ⟨of_lies⟩, ⟨of_lies⟩, ⟨of_lies⟩, ⟨of_lies⟩, ⟨of_lies⟩, ⟨low HB⟩⟩
   ·
    rw [if_neg c32] at H
    have c32b0 : (t111 == 0) = false := beq_eq_false_iff_ne.mpr c32
    have c32b1 : (t111 != 0) = true := bne_iff_ne.mpr c32
    (first | rw [c32b0] | (simp only [i64_w, i32_w]; rw [c32b0]) | skip)
    have H' := Aside0.mk H
    clear H
    go_wp2
    go_meet
    case rel => exact ⟨_, (true), (by first | rfl | (simp; done) | (simp [*]; done)), H', ⟨by first | omega | exact Nat.le_refl _⟩, ⟨of_lies⟩, ⟨of_lies⟩, ⟨of_lies⟩, ⟨of_lies⟩, ⟨of_lies⟩, ⟨low HB⟩⟩
  case rest =>
   clear HC7
   try clear c1
   try clear c2
   try clear p2
   try clear c3
   try clear c4
   try clear c4b0
   try clear c4b1
   try clear c5
   try clear c6
   try clear c10
   try clear c12
   try clear c14
   try clear c15
   try clear c19
   try clear c20
   try clear c21
   try clear c27
   try clear c28
   try clear c29
   try clear c30
   try clear c32
   try clear c32b0
   try clear c32b1
   try clear c33
   try clear c33b0
   try clear c34
   try clear c35
   try clear c36
   try clear c37
   try clear c39
   try clear c40
   try clear c41
   try clear c43
   try clear c43b0
   try clear c43b1
   try clear c44
   try clear c45
   try clear c46
   try clear c47
   try clear c49
   try clear c50
   try clear c51
   try clear c53
   try clear c54
   try clear c56
   try clear c57
   try clear c58
   try clear c59
   try clear c61
   try clear c62
   try clear c63
   try clear hcz11_0
   try clear hcz11_1
   try clear hcz16_0
   try clear hcz16_1
   try clear hcz22_0
   try clear hcz22_1
   try clear hcz23_0
   try clear hcz23_1
   try clear hcz24_0
   try clear hcz24_1
   try clear hcz31_0
   try clear hcz31_1
   try clear hcz38_0
   try clear hcz38_1
   try clear hcz42_0
   try clear hcz42_1
   try clear hcz48_0
   try clear hcz48_1
   try clear hcz52_0
   try clear hcz52_1
   try clear hcz55_0
   try clear hcz55_1
   try clear hcz60_0
   try clear hcz60_1
   try clear hcz64_0
   try clear hcz64_1
   try clear hfz11_0
   try clear hfz11_1
   try clear hfz16_0
   try clear hfz16_1
   try clear hfz22_0
   try clear hfz22_1
   try clear hfz23_0
   try clear hfz23_1
   try clear hfz24_0
   try clear hfz24_1
   try clear hfz31_0
   try clear hfz31_1
   try clear hfz38_0
   try clear hfz38_1
   try clear hfz42_0
   try clear hfz42_1
   try clear hfz48_0
   try clear hfz48_1
   try clear hfz52_0
   try clear hfz52_1
   try clear hfz55_0
   try clear hfz55_1
   try clear hfz60_0
   try clear hfz60_1
   try clear hfz64_0
   try clear hfz64_1
   obtain ⟨kq, x63_6, rfl, HA, HJ6, BK101, BK102, BK106, BK112, BK116, HB⟩ := hcut
   cases kq with
   | zero => exact absurd HA.out (by simp [joustlaw32_OddsNot.j0])
   | succ kj6 =>
    have H := HA.out
    clear HA
    simp only [joustlaw32_OddsNot.j0] at H
    by_cases c65 : x63_6 = true
    ·
     subst c65
     have H1 : (some false) = some r := by rw [if_pos rfl] at H; exact H
     clear H
     have H := H1
     clear H1
     obtain rfl := Option.some.inj H
     go_wp2
     go_ret
     exact ⟨by first | rfl | (simp [errW_none, errW_some] <;> rfl) | (simp [*, errW_none, errW_some] <;> rfl), low HB⟩
    ·
     replace c65 := Bool.eq_false_iff.mpr c65
     subst c65
     have H1 : ((Podd.odds_Compare.f kj6 a0_0 a0_1 a1_0 a1_1).bind fun bt117 => (if bt117.2 = 0 then ((Podd.odds_Not.f kj6 a1_0 a1_1).bind fun bt121 => ((Podd.odds_Compare.f kj6 bt121.1 bt121.2.1 t103 t104).bind fun bt125 => ((Podd.odds_Compare.f kj6 a1_0 a1_1 a0_0 a0_1).bind fun bt127 => (if bt125.2 = 0 then (if bt125.1 = bt117.1 then (if bt127.2 = 0 then (if bt127.1 = (wrap64 (-bt117.1)) then (if ((bt117.1 == 0) == (a0_0 == a1_0 && (a0_1 == a1_1))) = true then ((Podd.lives.f).bind fun t129 => (some t129)) else (some false)) else (some false)) else (some false)) else (some false)) else (some false))))) else ((Podd.odds_May.f kj6 a1_0 a1_1).bind fun t119 => (if t119 = true then (some false) else (if bt117.1 = 0 then ((Podd.lives.f).bind fun t120 => (some t120)) else (some false)))))) = some r := by rw [if_neg (show ¬ (false = true) by decide)] at H; exact H
     clear H
     have H := H1
     clear H1
     replace H := Option.bind_eq_some_iff.mp H
     obtain ⟨⟨t117, t118⟩, A660, H⟩ := H
     replace H : (if t118 = 0 then ((Podd.odds_Not.f kj6 a1_0 a1_1).bind fun bt121 => ((Podd.odds_Compare.f kj6 bt121.1 bt121.2.1 t103 t104).bind fun bt125 => ((Podd.odds_Compare.f kj6 a1_0 a1_1 a0_0 a0_1).bind fun bt127 => (if bt125.2 = 0 then (if bt125.1 = t117 then (if bt127.2 = 0 then (if bt127.1 = (wrap64 (-t117)) then (if ((t117 == 0) == (a0_0 == a1_0 && (a0_1 == a1_1))) = true then ((Podd.lives.f).bind fun t129 => (some t129)) else (some false)) else (some false)) else (some false)) else (some false)) else (some false))))) else ((Podd.odds_May.f kj6 a1_0 a1_1).bind fun t119 => (if t119 = true then (some false) else (if t117 = 0 then ((Podd.lives.f).bind fun t120 => (some t120)) else (some false))))) = some r := H
     have A66 := Aside0.mk A660
     clear A660
     by_cases c67 : t118 = 0
     ·
      rw [if_pos c67] at H
      have c67b0 : (t118 == 0) = true := beq_iff_eq.mpr c67
      have c67b1 : (t118 != 0) = false := bne_eq_false_iff_eq.mpr c67
      clear c67
      replace H := Option.bind_eq_some_iff.mp H
      obtain ⟨⟨t121, t122, t123⟩, A680, H⟩ := H
      replace H : ((Podd.odds_Compare.f kj6 t121 t122 t103 t104).bind fun bt125 => ((Podd.odds_Compare.f kj6 a1_0 a1_1 a0_0 a0_1).bind fun bt127 => (if bt125.2 = 0 then (if bt125.1 = t117 then (if bt127.2 = 0 then (if bt127.1 = (wrap64 (-t117)) then (if ((t117 == 0) == (a0_0 == a1_0 && (a0_1 == a1_1))) = true then ((Podd.lives.f).bind fun t129 => (some t129)) else (some false)) else (some false)) else (some false)) else (some false)) else (some false)))) = some r := H
      have A68 := Aside0.mk A680
      clear A680
      replace H := Option.bind_eq_some_iff.mp H
      obtain ⟨⟨t125, t126⟩, A690, H⟩ := H
      replace H : ((Podd.odds_Compare.f kj6 a1_0 a1_1 a0_0 a0_1).bind fun bt127 => (if t126 = 0 then (if t125 = t117 then (if bt127.2 = 0 then (if bt127.1 = (wrap64 (-t117)) then (if ((t117 == 0) == (a0_0 == a1_0 && (a0_1 == a1_1))) = true then ((Podd.lives.f).bind fun t129 => (some t129)) else (some false)) else (some false)) else (some false)) else (some false)) else (some false))) = some r := H
      have A69 := Aside0.mk A690
      clear A690
      replace H := Option.bind_eq_some_iff.mp H
      obtain ⟨⟨t127, t128⟩, A700, H⟩ := H
      replace H : (if t126 = 0 then (if t125 = t117 then (if t128 = 0 then (if t127 = (wrap64 (-t117)) then (if ((t117 == 0) == (a0_0 == a1_0 && (a0_1 == a1_1))) = true then ((Podd.lives.f).bind fun t129 => (some t129)) else (some false)) else (some false)) else (some false)) else (some false)) else (some false)) = some r := H
      have A70 := Aside0.mk A700
      clear A700
      by_cases c71 : t126 = 0
      ·
       rw [if_pos c71] at H
       have c71b0 : (t126 == 0) = true := beq_iff_eq.mpr c71
       have c71b1 : (t126 != 0) = false := bne_eq_false_iff_eq.mpr c71
       clear c71
       by_cases c72 : t125 = t117
       ·
        rw [if_pos c72] at H
        have c72b0 : (t125 == t117) = true := beq_iff_eq.mpr c72
        have c72b1 : (t125 != t117) = false := bne_eq_false_iff_eq.mpr c72
        clear c72
        by_cases c73 : t128 = 0
        ·
         rw [if_pos c73] at H
         have c73b0 : (t128 == 0) = true := beq_iff_eq.mpr c73
         have c73b1 : (t128 != 0) = false := bne_eq_false_iff_eq.mpr c73
         clear c73
         by_cases c74 : t127 = (wrap64 (-t117))
         ·
          rw [if_pos c74] at H
          have c74b0 : (t127 == (wrap64 (-t117))) = true := beq_iff_eq.mpr c74
          have c74b1 : (t127 != (wrap64 (-t117))) = false := bne_eq_false_iff_eq.mpr c74
          clear c74
          by_cases c75 : ((t117 == 0) == (a0_0 == a1_0 && (a0_1 == a1_1))) = true
          ·
           rw [if_pos c75] at H
           have c75b0 : ((t117 == 0) == (a0_0 == a1_0 && (a0_1 == a1_1))) = true := c75
           (try (have c75b1 : decide ((t117 == 0) = (a0_0 == a1_0 && (a0_1 == a1_1))) = true := by simpa using c75))
           (try (have c75b2 : ((t117 == 0) == (a0_0 == a1_0 && (a0_1 == a1_1))) = true := by simpa using c75))
           clear c75
           replace H := Option.bind_eq_some_iff.mp H
           obtain ⟨t129, A760, H⟩ := H
           replace H : (some t129) = some r := H
           have A76 := Aside0.mk A760
           clear A760
           obtain rfl := Option.some.inj H
           have hnb77 := NB101_102.out
           have hnc77 := NB102_101.out
           have hnb78 := NB101_106.out
           have hnc78 := NB106_101.out
           have hnb79 := NB101_112.out
           have hnc79 := NB112_101.out
           have hnb80 := NB101_116.out
           have hnc80 := NB116_101.out
           have hcz81_0 : wc.cell? ⟨gb101, 0, none⟩ = some (.int .u64 a0_0) := (blk_cell BK101.out 0).trans rfl
           have hcz81_1 : wc.cell? ⟨gb101, 1, none⟩ = some (.int .u64 a0_1) := (blk_cell BK101.out 1).trans rfl
           have hfz81_0 := blk_frozen BK101.out 0
           have hfz81_1 := blk_frozen BK101.out 1
           have hnb82 := NB102_106.out
           have hnc82 := NB106_102.out
           have hnb83 := NB102_112.out
           have hnc83 := NB112_102.out
           have hnb84 := NB102_116.out
           have hnc84 := NB116_102.out
           have hcz85_0 : wc.cell? ⟨gb102, 0, none⟩ = some (.int .u64 a1_0) := (blk_cell BK102.out 0).trans rfl
           have hcz85_1 : wc.cell? ⟨gb102, 1, none⟩ = some (.int .u64 a1_1) := (blk_cell BK102.out 1).trans rfl
           have hfz85_0 := blk_frozen BK102.out 0
           have hfz85_1 := blk_frozen BK102.out 1
           go_wp2_with (first | ((with_reducible refine gate_callee (f := 37) rfl ?_); refine goesL_ (some 67) rfl rfl Tryd.func37 (by kernel_rfl) rfl #[.agg #[.int .u64 a0_0, .int .u64 a0_1], .agg #[.int .u64 a1_0, .int .u64 a1_1]] rfl (by (try simp only [List.map_toArray, List.map_cons, List.map_nil]); first | done | rfl | (simp only [List.length_drop, List.length_take]; rfl)) ?_; (with_reducible refine (Podd.odds_Compare.calls kj6 a0_0 a0_1 a1_0 a1_1 t117 t118 _ A66.out).mono ?_); rintro e w86 ⟨rfl, hb⟩; refine ⟨_, rfl, ?_⟩; have n0_ := Aside0.mk (blk_below (g := gb101) (o := .cells #[.int .u64 a0_0, .int .u64 a0_1] 47 (0, 0)) of_lies hb); have n1_ := Aside0.mk (blk_below (g := gb102) (o := .cells #[.int .u64 a1_0, .int .u64 a1_1] 47 (0, 0)) of_lies hb); have n2_ := Aside0.mk (blk_below (g := gb106) (o := .cells #[.int .u64 t103, .int .u64 t104] 47 (0, 0)) of_lies hb); have n3_ := Aside0.mk (blk_below (g := gb112) (o := .cells #[.int .u64 t109, .int .u64 t110] 47 (0, 0)) of_lies hb); have n4_ := Aside0.mk (blk_below (g := gb116) (o := .cells #[.int .u64 t113, .int .u64 t114] 47 (0, 0)) of_lies hb); have n5_ := Aside0.mk (below_step (low HB) hb); clear BK101; clear BK102; clear BK106; clear BK112; clear BK116; clear HB; have BK101 := n0_; have BK102 := n1_; have BK106 := n2_; have BK112 := n3_; have BK116 := n4_; have HB := n5_; clear n0_ n1_ n2_ n3_ n4_ n5_; (try clear hb); (try clear hb2); (try clear hk); (try clear hi); obtain ⟨hcz87_0, hcz87_1, hfz87_0, hfz87_1⟩ := cells2 BK102.out) | ((with_reducible refine gate_callee (f := 44) rfl ?_); refine goesL_ (some 84) rfl rfl Tryd.func44 (by kernel_rfl) rfl #[.agg #[.int .u64 a1_0, .int .u64 a1_1]] rfl (by (try simp only [List.map_toArray, List.map_cons, List.map_nil]); first | done | rfl | (simp only [List.length_drop, List.length_take]; rfl)) ?_; (with_reducible refine (Podd.odds_Not.calls kj6 a1_0 a1_1 t121 t122 t123 _ A68.out).mono ?_); rintro e w88 ⟨rfl, hb⟩; refine ⟨_, rfl, ?_⟩; have n0_ := Aside0.mk (blk_below (g := gb101) (o := .cells #[.int .u64 a0_0, .int .u64 a0_1] 47 (0, 0)) of_lies hb); have n1_ := Aside0.mk (blk_below (g := gb102) (o := .cells #[.int .u64 a1_0, .int .u64 a1_1] 47 (0, 0)) of_lies hb); have n2_ := Aside0.mk (blk_below (g := gb106) (o := .cells #[.int .u64 t103, .int .u64 t104] 47 (0, 0)) of_lies hb); have n3_ := Aside0.mk (blk_below (g := gb112) (o := .cells #[.int .u64 t109, .int .u64 t110] 47 (0, 0)) of_lies hb); have n4_ := Aside0.mk (blk_below (g := gb116) (o := .cells #[.int .u64 t113, .int .u64 t114] 47 (0, 0)) of_lies hb); have n5_ := Aside0.mk (below_step (low HB) hb); clear BK101; clear BK102; clear BK106; clear BK112; clear BK116; clear HB; have BK101 := n0_; have BK102 := n1_; have BK106 := n2_; have BK112 := n3_; have BK116 := n4_; have HB := n5_; clear n0_ n1_ n2_ n3_ n4_ n5_; (try clear hb); (try clear hb2); (try clear hk); (try clear hi)) | ((with_reducible refine gate_dst (N := 13) rfl ?_); refine box_event ?hg (N := 13) ?hd (cs := #[.int .u64 0, .int .u64 0]) (t := 47) ?hr ?_; (case hd => rfl); (case hg => rfl); (case hr => first | (go_simp; done) | (go_simp; rfl)); intro gb124 hg w89 hbox hb; have n0_ := Aside0.mk (blk_below (g := gb101) (o := .cells #[.int .u64 a0_0, .int .u64 a0_1] 47 (0, 0)) of_lies hb); have n1_ := Aside0.mk (blk_below (g := gb102) (o := .cells #[.int .u64 a1_0, .int .u64 a1_1] 47 (0, 0)) of_lies hb); have n2_ := Aside0.mk (blk_below (g := gb106) (o := .cells #[.int .u64 t103, .int .u64 t104] 47 (0, 0)) of_lies hb); have n3_ := Aside0.mk (blk_below (g := gb112) (o := .cells #[.int .u64 t109, .int .u64 t110] 47 (0, 0)) of_lies hb); have n4_ := Aside0.mk (blk_below (g := gb116) (o := .cells #[.int .u64 t113, .int .u64 t114] 47 (0, 0)) of_lies hb); have n5_ := Aside0.mk (below_step (low HB) hb); have n6_ := Aside0.mk (hbox); have n7_ := Aside0.mk ((by rw [hg]; exact (below_size (low HB)) : w.heap.size ≤ gb124)); have n8_ := Aside0.mk ((by rw [hg]; exact (below_size (low HB)) : w.heap.size ≤ gb124)); have n9_ := Aside0.mk ((by rw [hg]; exact Nat.ne_of_lt (blk_lt (g := gb101) (o := .cells #[.int .u64 a0_0, .int .u64 a0_1] 47 (0, 0)) of_lies) : gb101 ≠ gb124)); have n10_ := Aside0.mk ((by rw [hg]; exact Nat.ne_of_gt (blk_lt (g := gb101) (o := .cells #[.int .u64 a0_0, .int .u64 a0_1] 47 (0, 0)) of_lies) : gb124 ≠ gb101)); have n11_ := Aside0.mk ((by rw [hg]; exact Nat.ne_of_lt (blk_lt (g := gb102) (o := .cells #[.int .u64 a1_0, .int .u64 a1_1] 47 (0, 0)) of_lies) : gb102 ≠ gb124)); have n12_ := Aside0.mk ((by rw [hg]; exact Nat.ne_of_gt (blk_lt (g := gb102) (o := .cells #[.int .u64 a1_0, .int .u64 a1_1] 47 (0, 0)) of_lies) : gb124 ≠ gb102)); have n13_ := Aside0.mk ((by rw [hg]; exact Nat.ne_of_lt (blk_lt (g := gb106) (o := .cells #[.int .u64 t103, .int .u64 t104] 47 (0, 0)) of_lies) : gb106 ≠ gb124)); have n14_ := Aside0.mk ((by rw [hg]; exact Nat.ne_of_gt (blk_lt (g := gb106) (o := .cells #[.int .u64 t103, .int .u64 t104] 47 (0, 0)) of_lies) : gb124 ≠ gb106)); have n15_ := Aside0.mk ((by rw [hg]; exact Nat.ne_of_lt (blk_lt (g := gb112) (o := .cells #[.int .u64 t109, .int .u64 t110] 47 (0, 0)) of_lies) : gb112 ≠ gb124)); have n16_ := Aside0.mk ((by rw [hg]; exact Nat.ne_of_gt (blk_lt (g := gb112) (o := .cells #[.int .u64 t109, .int .u64 t110] 47 (0, 0)) of_lies) : gb124 ≠ gb112)); have n17_ := Aside0.mk ((by rw [hg]; exact Nat.ne_of_lt (blk_lt (g := gb116) (o := .cells #[.int .u64 t113, .int .u64 t114] 47 (0, 0)) of_lies) : gb116 ≠ gb124)); have n18_ := Aside0.mk ((by rw [hg]; exact Nat.ne_of_gt (blk_lt (g := gb116) (o := .cells #[.int .u64 t113, .int .u64 t114] 47 (0, 0)) of_lies) : gb124 ≠ gb116)); clear BK101; clear BK102; clear BK106; clear BK112; clear BK116; clear HB; have BK101 := n0_; have BK102 := n1_; have BK106 := n2_; have BK112 := n3_; have BK116 := n4_; have HB := n5_; have BK124 := n6_; have GW124 := n7_; have GE124 := n8_; have NB101_124 := n9_; have NB124_101 := n10_; have NB102_124 := n11_; have NB124_102 := n12_; have NB106_124 := n13_; have NB124_106 := n14_; have NB112_124 := n15_; have NB124_112 := n16_; have NB116_124 := n17_; have NB124_116 := n18_; clear n0_ n1_ n2_ n3_ n4_ n5_ n6_ n7_ n8_ n9_ n10_ n11_ n12_ n13_ n14_ n15_ n16_ n17_ n18_; clear hb hbox hg; have hnb90 := NB124_101.out; have hnc90 := NB101_124.out; have hnb91 := NB124_102.out; have hnc91 := NB102_124.out; have hnb92 := NB124_106.out; have hnc92 := NB106_124.out; have hnb93 := NB124_112.out; have hnc93 := NB112_124.out; have hnb94 := NB124_116.out; have hnc94 := NB116_124.out; obtain ⟨hcz95_0, hcz95_1, hfz95_0, hfz95_1⟩ := cells2 BK124.out; have hnb96 := NB106_112.out; have hnc96 := NB112_106.out; have hnb97 := NB106_116.out; have hnc97 := NB116_106.out; obtain ⟨hcz98_0, hcz98_1, hfz98_0, hfz98_1⟩ := cells2 BK106.out) | ((with_reducible refine gate_callee (f := 37) rfl ?_); refine goesL_ (some 90) rfl rfl Tryd.func37 (by kernel_rfl) rfl #[.agg #[.int .u64 t121, .int .u64 t122], .agg #[.int .u64 t103, .int .u64 t104]] rfl (by (try simp only [List.map_toArray, List.map_cons, List.map_nil]); first | done | rfl | (simp only [List.length_drop, List.length_take]; rfl)) ?_; (with_reducible refine (Podd.odds_Compare.calls kj6 t121 t122 t103 t104 t125 t126 _ A69.out).mono ?_); rintro e w99 ⟨rfl, hb⟩; refine ⟨_, rfl, ?_⟩; have n0_ := Aside0.mk (blk_below (g := gb101) (o := .cells #[.int .u64 a0_0, .int .u64 a0_1] 47 (0, 0)) of_lies hb); have n1_ := Aside0.mk (blk_below (g := gb102) (o := .cells #[.int .u64 a1_0, .int .u64 a1_1] 47 (0, 0)) of_lies hb); have n2_ := Aside0.mk (blk_below (g := gb106) (o := .cells #[.int .u64 t103, .int .u64 t104] 47 (0, 0)) of_lies hb); have n3_ := Aside0.mk (blk_below (g := gb112) (o := .cells #[.int .u64 t109, .int .u64 t110] 47 (0, 0)) of_lies hb); have n4_ := Aside0.mk (blk_below (g := gb116) (o := .cells #[.int .u64 t113, .int .u64 t114] 47 (0, 0)) of_lies hb); have n5_ := Aside0.mk (blk_below (g := gb124) (o := .cells #[.int .u64 t121, .int .u64 t122] 47 (0, 0)) of_lies hb); have n6_ := Aside0.mk (below_step (low HB) hb); clear BK101; clear BK102; clear BK106; clear BK112; clear BK116; clear BK124; clear HB; have BK101 := n0_; have BK102 := n1_; have BK106 := n2_; have BK112 := n3_; have BK116 := n4_; have BK124 := n5_; have HB := n6_; clear n0_ n1_ n2_ n3_ n4_ n5_ n6_; (try clear hb); (try clear hb2); (try clear hk); (try clear hi); obtain ⟨hcz100_0, hcz100_1, hfz100_0, hfz100_1⟩ := cells2 BK102.out; obtain ⟨hcz101_0, hcz101_1, hfz101_0, hfz101_1⟩ := cells2 BK101.out) | ((with_reducible refine gate_callee (f := 37) rfl ?_); refine goesL_ (some 96) rfl rfl Tryd.func37 (by kernel_rfl) rfl #[.agg #[.int .u64 a1_0, .int .u64 a1_1], .agg #[.int .u64 a0_0, .int .u64 a0_1]] rfl (by (try simp only [List.map_toArray, List.map_cons, List.map_nil]); first | done | rfl | (simp only [List.length_drop, List.length_take]; rfl)) ?_; (with_reducible refine (Podd.odds_Compare.calls kj6 a1_0 a1_1 a0_0 a0_1 t127 t128 _ A70.out).mono ?_); rintro e w102 ⟨rfl, hb⟩; refine ⟨_, rfl, ?_⟩; have n0_ := Aside0.mk (blk_below (g := gb101) (o := .cells #[.int .u64 a0_0, .int .u64 a0_1] 47 (0, 0)) of_lies hb); have n1_ := Aside0.mk (blk_below (g := gb102) (o := .cells #[.int .u64 a1_0, .int .u64 a1_1] 47 (0, 0)) of_lies hb); have n2_ := Aside0.mk (blk_below (g := gb106) (o := .cells #[.int .u64 t103, .int .u64 t104] 47 (0, 0)) of_lies hb); have n3_ := Aside0.mk (blk_below (g := gb112) (o := .cells #[.int .u64 t109, .int .u64 t110] 47 (0, 0)) of_lies hb); have n4_ := Aside0.mk (blk_below (g := gb116) (o := .cells #[.int .u64 t113, .int .u64 t114] 47 (0, 0)) of_lies hb); have n5_ := Aside0.mk (blk_below (g := gb124) (o := .cells #[.int .u64 t121, .int .u64 t122] 47 (0, 0)) of_lies hb); have n6_ := Aside0.mk (below_step (low HB) hb); clear BK101; clear BK102; clear BK106; clear BK112; clear BK116; clear BK124; clear HB; have BK101 := n0_; have BK102 := n1_; have BK106 := n2_; have BK112 := n3_; have BK116 := n4_; have BK124 := n5_; have HB := n6_; clear n0_ n1_ n2_ n3_ n4_ n5_ n6_; (try clear hb); (try clear hb2); (try clear hk); (try clear hi); obtain ⟨hcz103_0, hcz103_1, hfz103_0, hfz103_1⟩ := cells2 BK101.out; obtain ⟨hcz104_0, hcz104_1, hfz104_0, hfz104_1⟩ := cells2 BK102.out) | (go_at_call 34; (with_reducible refine (Podd.lives.calls  t129 _ ?side1 A76.out).mono ?_); (case side1 => repeat (first | exact (GoodW.below HGW.out (low HB)) | (with_reducible refine GoodW.alloc ?_ _) | (with_reducible refine GoodW.drewN ?_ _) | (with_reducible refine GoodW.drew ?_))); rintro e w105 ⟨rfl, hb⟩; have n0_ := Aside0.mk (blk_below (g := gb101) (o := .cells #[.int .u64 a0_0, .int .u64 a0_1] 47 (0, 0)) of_lies hb); have n1_ := Aside0.mk (blk_below (g := gb102) (o := .cells #[.int .u64 a1_0, .int .u64 a1_1] 47 (0, 0)) of_lies hb); have n2_ := Aside0.mk (blk_below (g := gb106) (o := .cells #[.int .u64 t103, .int .u64 t104] 47 (0, 0)) of_lies hb); have n3_ := Aside0.mk (blk_below (g := gb112) (o := .cells #[.int .u64 t109, .int .u64 t110] 47 (0, 0)) of_lies hb); have n4_ := Aside0.mk (blk_below (g := gb116) (o := .cells #[.int .u64 t113, .int .u64 t114] 47 (0, 0)) of_lies hb); have n5_ := Aside0.mk (blk_below (g := gb124) (o := .cells #[.int .u64 t121, .int .u64 t122] 47 (0, 0)) of_lies hb); have n6_ := Aside0.mk (below_step (low HB) hb); clear BK101; clear BK102; clear BK106; clear BK112; clear BK116; clear BK124; clear HB; have BK101 := n0_; have BK102 := n1_; have BK106 := n2_; have BK112 := n3_; have BK116 := n4_; have BK124 := n5_; have HB := n6_; clear n0_ n1_ n2_ n3_ n4_ n5_ n6_; (try clear hb); (try clear hb2); (try clear hk); (try clear hi)))
           go_ret
           exact ⟨by first | rfl | (simp [errW_none, errW_some] <;> rfl) | (simp [*, errW_none, errW_some] <;> rfl), low HB⟩
          ·
           rw [if_neg c75] at H
           have c75b0 : ((t117 == 0) == (a0_0 == a1_0 && (a0_1 == a1_1))) = false := by simpa using c75
           (try (have c75b1 : decide ((t117 == 0) = (a0_0 == a1_0 && (a0_1 == a1_1))) = false := by simpa using c75))
           (try (have c75b2 : ((t117 == 0) == (a0_0 == a1_0 && (a0_1 == a1_1))) = false := by simpa using c75))
           (try (have c75b3 : ¬ ((t117 == 0) = (a0_0 == a1_0 && (a0_1 == a1_1))) := by simpa using c75))
           clear c75
           obtain rfl := Option.some.inj H
           have hnb106 := NB101_102.out
           have hnc106 := NB102_101.out
           have hnb107 := NB101_106.out
           have hnc107 := NB106_101.out
           have hnb108 := NB101_112.out
           have hnc108 := NB112_101.out
           have hnb109 := NB101_116.out
           have hnc109 := NB116_101.out
           have hcz110_0 : wc.cell? ⟨gb101, 0, none⟩ = some (.int .u64 a0_0) := (blk_cell BK101.out 0).trans rfl
           have hcz110_1 : wc.cell? ⟨gb101, 1, none⟩ = some (.int .u64 a0_1) := (blk_cell BK101.out 1).trans rfl
           have hfz110_0 := blk_frozen BK101.out 0
           have hfz110_1 := blk_frozen BK101.out 1
           have hnb111 := NB102_106.out
           have hnc111 := NB106_102.out
           have hnb112 := NB102_112.out
           have hnc112 := NB112_102.out
           have hnb113 := NB102_116.out
           have hnc113 := NB116_102.out
           have hcz114_0 : wc.cell? ⟨gb102, 0, none⟩ = some (.int .u64 a1_0) := (blk_cell BK102.out 0).trans rfl
           have hcz114_1 : wc.cell? ⟨gb102, 1, none⟩ = some (.int .u64 a1_1) := (blk_cell BK102.out 1).trans rfl
           have hfz114_0 := blk_frozen BK102.out 0
           have hfz114_1 := blk_frozen BK102.out 1
           go_wp2_with (first | ((with_reducible refine gate_callee (f := 37) rfl ?_); refine goesL_ (some 67) rfl rfl Tryd.func37 (by kernel_rfl) rfl #[.agg #[.int .u64 a0_0, .int .u64 a0_1], .agg #[.int .u64 a1_0, .int .u64 a1_1]] rfl (by (try simp only [List.map_toArray, List.map_cons, List.map_nil]); first | done | rfl | (simp only [List.length_drop, List.length_take]; rfl)) ?_; (with_reducible refine (Podd.odds_Compare.calls kj6 a0_0 a0_1 a1_0 a1_1 t117 t118 _ A66.out).mono ?_); rintro e w115 ⟨rfl, hb⟩; refine ⟨_, rfl, ?_⟩; have n0_ := Aside0.mk (blk_below (g := gb101) (o := .cells #[.int .u64 a0_0, .int .u64 a0_1] 47 (0, 0)) of_lies hb); have n1_ := Aside0.mk (blk_below (g := gb102) (o := .cells #[.int .u64 a1_0, .int .u64 a1_1] 47 (0, 0)) of_lies hb); have n2_ := Aside0.mk (blk_below (g := gb106) (o := .cells #[.int .u64 t103, .int .u64 t104] 47 (0, 0)) of_lies hb); have n3_ := Aside0.mk (blk_below (g := gb112) (o := .cells #[.int .u64 t109, .int .u64 t110] 47 (0, 0)) of_lies hb); have n4_ := Aside0.mk (blk_below (g := gb116) (o := .cells #[.int .u64 t113, .int .u64 t114] 47 (0, 0)) of_lies hb); have n5_ := Aside0.mk (below_step (low HB) hb); clear BK101; clear BK102; clear BK106; clear BK112; clear BK116; clear HB; have BK101 := n0_; have BK102 := n1_; have BK106 := n2_; have BK112 := n3_; have BK116 := n4_; have HB := n5_; clear n0_ n1_ n2_ n3_ n4_ n5_; (try clear hb); (try clear hb2); (try clear hk); (try clear hi); obtain ⟨hcz116_0, hcz116_1, hfz116_0, hfz116_1⟩ := cells2 BK102.out) | ((with_reducible refine gate_callee (f := 44) rfl ?_); refine goesL_ (some 84) rfl rfl Tryd.func44 (by kernel_rfl) rfl #[.agg #[.int .u64 a1_0, .int .u64 a1_1]] rfl (by (try simp only [List.map_toArray, List.map_cons, List.map_nil]); first | done | rfl | (simp only [List.length_drop, List.length_take]; rfl)) ?_; (with_reducible refine (Podd.odds_Not.calls kj6 a1_0 a1_1 t121 t122 t123 _ A68.out).mono ?_); rintro e w117 ⟨rfl, hb⟩; refine ⟨_, rfl, ?_⟩; have n0_ := Aside0.mk (blk_below (g := gb101) (o := .cells #[.int .u64 a0_0, .int .u64 a0_1] 47 (0, 0)) of_lies hb); have n1_ := Aside0.mk (blk_below (g := gb102) (o := .cells #[.int .u64 a1_0, .int .u64 a1_1] 47 (0, 0)) of_lies hb); have n2_ := Aside0.mk (blk_below (g := gb106) (o := .cells #[.int .u64 t103, .int .u64 t104] 47 (0, 0)) of_lies hb); have n3_ := Aside0.mk (blk_below (g := gb112) (o := .cells #[.int .u64 t109, .int .u64 t110] 47 (0, 0)) of_lies hb); have n4_ := Aside0.mk (blk_below (g := gb116) (o := .cells #[.int .u64 t113, .int .u64 t114] 47 (0, 0)) of_lies hb); have n5_ := Aside0.mk (below_step (low HB) hb); clear BK101; clear BK102; clear BK106; clear BK112; clear BK116; clear HB; have BK101 := n0_; have BK102 := n1_; have BK106 := n2_; have BK112 := n3_; have BK116 := n4_; have HB := n5_; clear n0_ n1_ n2_ n3_ n4_ n5_; (try clear hb); (try clear hb2); (try clear hk); (try clear hi)) | ((with_reducible refine gate_dst (N := 13) rfl ?_); refine box_event ?hg (N := 13) ?hd (cs := #[.int .u64 0, .int .u64 0]) (t := 47) ?hr ?_; (case hd => rfl); (case hg => rfl); (case hr => first | (go_simp; done) | (go_simp; rfl)); intro gb124 hg w118 hbox hb; have n0_ := Aside0.mk (blk_below (g := gb101) (o := .cells #[.int .u64 a0_0, .int .u64 a0_1] 47 (0, 0)) of_lies hb); have n1_ := Aside0.mk (blk_below (g := gb102) (o := .cells #[.int .u64 a1_0, .int .u64 a1_1] 47 (0, 0)) of_lies hb); have n2_ := Aside0.mk (blk_below (g := gb106) (o := .cells #[.int .u64 t103, .int .u64 t104] 47 (0, 0)) of_lies hb); have n3_ := Aside0.mk (blk_below (g := gb112) (o := .cells #[.int .u64 t109, .int .u64 t110] 47 (0, 0)) of_lies hb); have n4_ := Aside0.mk (blk_below (g := gb116) (o := .cells #[.int .u64 t113, .int .u64 t114] 47 (0, 0)) of_lies hb); have n5_ := Aside0.mk (below_step (low HB) hb); have n6_ := Aside0.mk (hbox); have n7_ := Aside0.mk ((by rw [hg]; exact (below_size (low HB)) : w.heap.size ≤ gb124)); have n8_ := Aside0.mk ((by rw [hg]; exact (below_size (low HB)) : w.heap.size ≤ gb124)); have n9_ := Aside0.mk ((by rw [hg]; exact Nat.ne_of_lt (blk_lt (g := gb101) (o := .cells #[.int .u64 a0_0, .int .u64 a0_1] 47 (0, 0)) of_lies) : gb101 ≠ gb124)); have n10_ := Aside0.mk ((by rw [hg]; exact Nat.ne_of_gt (blk_lt (g := gb101) (o := .cells #[.int .u64 a0_0, .int .u64 a0_1] 47 (0, 0)) of_lies) : gb124 ≠ gb101)); have n11_ := Aside0.mk ((by rw [hg]; exact Nat.ne_of_lt (blk_lt (g := gb102) (o := .cells #[.int .u64 a1_0, .int .u64 a1_1] 47 (0, 0)) of_lies) : gb102 ≠ gb124)); have n12_ := Aside0.mk ((by rw [hg]; exact Nat.ne_of_gt (blk_lt (g := gb102) (o := .cells #[.int .u64 a1_0, .int .u64 a1_1] 47 (0, 0)) of_lies) : gb124 ≠ gb102)); have n13_ := Aside0.mk ((by rw [hg]; exact Nat.ne_of_lt (blk_lt (g := gb106) (o := .cells #[.int .u64 t103, .int .u64 t104] 47 (0, 0)) of_lies) : gb106 ≠ gb124)); have n14_ := Aside0.mk ((by rw [hg]; exact Nat.ne_of_gt (blk_lt (g := gb106) (o := .cells #[.int .u64 t103, .int .u64 t104] 47 (0, 0)) of_lies) : gb124 ≠ gb106)); have n15_ := Aside0.mk ((by rw [hg]; exact Nat.ne_of_lt (blk_lt (g := gb112) (o := .cells #[.int .u64 t109, .int .u64 t110] 47 (0, 0)) of_lies) : gb112 ≠ gb124)); have n16_ := Aside0.mk ((by rw [hg]; exact Nat.ne_of_gt (blk_lt (g := gb112) (o := .cells #[.int .u64 t109, .int .u64 t110] 47 (0, 0)) of_lies) : gb124 ≠ gb112)); have n17_ := Aside0.mk ((by rw [hg]; exact Nat.ne_of_lt (blk_lt (g := gb116) (o := .cells #[.int .u64 t113, .int .u64 t114] 47 (0, 0)) of_lies) : gb116 ≠ gb124)); have n18_ := Aside0.mk ((by rw [hg]; exact Nat.ne_of_gt (blk_lt (g := gb116) (o := .cells #[.int .u64 t113, .int .u64 t114] 47 (0, 0)) of_lies) : gb124 ≠ gb116)); clear BK101; clear BK102; clear BK106; clear BK112; clear BK116; clear HB; have BK101 := n0_; have BK102 := n1_; have BK106 := n2_; have BK112 := n3_; have BK116 := n4_; have HB := n5_; have BK124 := n6_; have GW124 := n7_; have GE124 := n8_; have NB101_124 := n9_; have NB124_101 := n10_; have NB102_124 := n11_; have NB124_102 := n12_; have NB106_124 := n13_; have NB124_106 := n14_; have NB112_124 := n15_; have NB124_112 := n16_; have NB116_124 := n17_; have NB124_116 := n18_; clear n0_ n1_ n2_ n3_ n4_ n5_ n6_ n7_ n8_ n9_ n10_ n11_ n12_ n13_ n14_ n15_ n16_ n17_ n18_; clear hb hbox hg; have hnb119 := NB124_101.out; have hnc119 := NB101_124.out; have hnb120 := NB124_102.out; have hnc120 := NB102_124.out; have hnb121 := NB124_106.out; have hnc121 := NB106_124.out; have hnb122 := NB124_112.out; have hnc122 := NB112_124.out; have hnb123 := NB124_116.out; have hnc123 := NB116_124.out; obtain ⟨hcz124_0, hcz124_1, hfz124_0, hfz124_1⟩ := cells2 BK124.out; have hnb125 := NB106_112.out; have hnc125 := NB112_106.out; have hnb126 := NB106_116.out; have hnc126 := NB116_106.out; obtain ⟨hcz127_0, hcz127_1, hfz127_0, hfz127_1⟩ := cells2 BK106.out) | ((with_reducible refine gate_callee (f := 37) rfl ?_); refine goesL_ (some 90) rfl rfl Tryd.func37 (by kernel_rfl) rfl #[.agg #[.int .u64 t121, .int .u64 t122], .agg #[.int .u64 t103, .int .u64 t104]] rfl (by (try simp only [List.map_toArray, List.map_cons, List.map_nil]); first | done | rfl | (simp only [List.length_drop, List.length_take]; rfl)) ?_; (with_reducible refine (Podd.odds_Compare.calls kj6 t121 t122 t103 t104 t125 t126 _ A69.out).mono ?_); rintro e w128 ⟨rfl, hb⟩; refine ⟨_, rfl, ?_⟩; have n0_ := Aside0.mk (blk_below (g := gb101) (o := .cells #[.int .u64 a0_0, .int .u64 a0_1] 47 (0, 0)) of_lies hb); have n1_ := Aside0.mk (blk_below (g := gb102) (o := .cells #[.int .u64 a1_0, .int .u64 a1_1] 47 (0, 0)) of_lies hb); have n2_ := Aside0.mk (blk_below (g := gb106) (o := .cells #[.int .u64 t103, .int .u64 t104] 47 (0, 0)) of_lies hb); have n3_ := Aside0.mk (blk_below (g := gb112) (o := .cells #[.int .u64 t109, .int .u64 t110] 47 (0, 0)) of_lies hb); have n4_ := Aside0.mk (blk_below (g := gb116) (o := .cells #[.int .u64 t113, .int .u64 t114] 47 (0, 0)) of_lies hb); have n5_ := Aside0.mk (blk_below (g := gb124) (o := .cells #[.int .u64 t121, .int .u64 t122] 47 (0, 0)) of_lies hb); have n6_ := Aside0.mk (below_step (low HB) hb); clear BK101; clear BK102; clear BK106; clear BK112; clear BK116; clear BK124; clear HB; have BK101 := n0_; have BK102 := n1_; have BK106 := n2_; have BK112 := n3_; have BK116 := n4_; have BK124 := n5_; have HB := n6_; clear n0_ n1_ n2_ n3_ n4_ n5_ n6_; (try clear hb); (try clear hb2); (try clear hk); (try clear hi); obtain ⟨hcz129_0, hcz129_1, hfz129_0, hfz129_1⟩ := cells2 BK102.out; obtain ⟨hcz130_0, hcz130_1, hfz130_0, hfz130_1⟩ := cells2 BK101.out) | ((with_reducible refine gate_callee (f := 37) rfl ?_); refine goesL_ (some 96) rfl rfl Tryd.func37 (by kernel_rfl) rfl #[.agg #[.int .u64 a1_0, .int .u64 a1_1], .agg #[.int .u64 a0_0, .int .u64 a0_1]] rfl (by (try simp only [List.map_toArray, List.map_cons, List.map_nil]); first | done | rfl | (simp only [List.length_drop, List.length_take]; rfl)) ?_; (with_reducible refine (Podd.odds_Compare.calls kj6 a1_0 a1_1 a0_0 a0_1 t127 t128 _ A70.out).mono ?_); rintro e w131 ⟨rfl, hb⟩; refine ⟨_, rfl, ?_⟩; have n0_ := Aside0.mk (blk_below (g := gb101) (o := .cells #[.int .u64 a0_0, .int .u64 a0_1] 47 (0, 0)) of_lies hb); have n1_ := Aside0.mk (blk_below (g := gb102) (o := .cells #[.int .u64 a1_0, .int .u64 a1_1] 47 (0, 0)) of_lies hb); have n2_ := Aside0.mk (blk_below (g := gb106) (o := .cells #[.int .u64 t103, .int .u64 t104] 47 (0, 0)) of_lies hb); have n3_ := Aside0.mk (blk_below (g := gb112) (o := .cells #[.int .u64 t109, .int .u64 t110] 47 (0, 0)) of_lies hb); have n4_ := Aside0.mk (blk_below (g := gb116) (o := .cells #[.int .u64 t113, .int .u64 t114] 47 (0, 0)) of_lies hb); have n5_ := Aside0.mk (blk_below (g := gb124) (o := .cells #[.int .u64 t121, .int .u64 t122] 47 (0, 0)) of_lies hb); have n6_ := Aside0.mk (below_step (low HB) hb); clear BK101; clear BK102; clear BK106; clear BK112; clear BK116; clear BK124; clear HB; have BK101 := n0_; have BK102 := n1_; have BK106 := n2_; have BK112 := n3_; have BK116 := n4_; have BK124 := n5_; have HB := n6_; clear n0_ n1_ n2_ n3_ n4_ n5_ n6_; (try clear hb); (try clear hb2); (try clear hk); (try clear hi); obtain ⟨hcz132_0, hcz132_1, hfz132_0, hfz132_1⟩ := cells2 BK101.out; obtain ⟨hcz133_0, hcz133_1, hfz133_0, hfz133_1⟩ := cells2 BK102.out))
           go_ret
           exact ⟨by first | rfl | (simp [errW_none, errW_some] <;> rfl) | (simp [*, errW_none, errW_some] <;> rfl), low HB⟩
         ·
          rw [if_neg c74] at H
          have c74b0 : (t127 == (wrap64 (-t117))) = false := beq_eq_false_iff_ne.mpr c74
          have c74b1 : (t127 != (wrap64 (-t117))) = true := bne_iff_ne.mpr c74
          obtain rfl := Option.some.inj H
          have hnb134 := NB101_102.out
          have hnc134 := NB102_101.out
          have hnb135 := NB101_106.out
          have hnc135 := NB106_101.out
          have hnb136 := NB101_112.out
          have hnc136 := NB112_101.out
          have hnb137 := NB101_116.out
          have hnc137 := NB116_101.out
          have hcz138_0 : wc.cell? ⟨gb101, 0, none⟩ = some (.int .u64 a0_0) := (blk_cell BK101.out 0).trans rfl
          have hcz138_1 : wc.cell? ⟨gb101, 1, none⟩ = some (.int .u64 a0_1) := (blk_cell BK101.out 1).trans rfl
          have hfz138_0 := blk_frozen BK101.out 0
          have hfz138_1 := blk_frozen BK101.out 1
          have hnb139 := NB102_106.out
          have hnc139 := NB106_102.out
          have hnb140 := NB102_112.out
          have hnc140 := NB112_102.out
          have hnb141 := NB102_116.out
          have hnc141 := NB116_102.out
          have hcz142_0 : wc.cell? ⟨gb102, 0, none⟩ = some (.int .u64 a1_0) := (blk_cell BK102.out 0).trans rfl
          have hcz142_1 : wc.cell? ⟨gb102, 1, none⟩ = some (.int .u64 a1_1) := (blk_cell BK102.out 1).trans rfl
          have hfz142_0 := blk_frozen BK102.out 0
          have hfz142_1 := blk_frozen BK102.out 1
          go_wp2_with (first | ((with_reducible refine gate_callee (f := 37) rfl ?_); refine goesL_ (some 67) rfl rfl Tryd.func37 (by kernel_rfl) rfl #[.agg #[.int .u64 a0_0, .int .u64 a0_1], .agg #[.int .u64 a1_0, .int .u64 a1_1]] rfl (by (try simp only [List.map_toArray, List.map_cons, List.map_nil]); first | done | rfl | (simp only [List.length_drop, List.length_take]; rfl)) ?_; (with_reducible refine (Podd.odds_Compare.calls kj6 a0_0 a0_1 a1_0 a1_1 t117 t118 _ A66.out).mono ?_); rintro e w143 ⟨rfl, hb⟩; refine ⟨_, rfl, ?_⟩; have n0_ := Aside0.mk (blk_below (g := gb101) (o := .cells #[.int .u64 a0_0, .int .u64 a0_1] 47 (0, 0)) of_lies hb); have n1_ := Aside0.mk (blk_below (g := gb102) (o := .cells #[.int .u64 a1_0, .int .u64 a1_1] 47 (0, 0)) of_lies hb); have n2_ := Aside0.mk (blk_below (g := gb106) (o := .cells #[.int .u64 t103, .int .u64 t104] 47 (0, 0)) of_lies hb); have n3_ := Aside0.mk (blk_below (g := gb112) (o := .cells #[.int .u64 t109, .int .u64 t110] 47 (0, 0)) of_lies hb); have n4_ := Aside0.mk (blk_below (g := gb116) (o := .cells #[.int .u64 t113, .int .u64 t114] 47 (0, 0)) of_lies hb); have n5_ := Aside0.mk (below_step (low HB) hb); clear BK101; clear BK102; clear BK106; clear BK112; clear BK116; clear HB; have BK101 := n0_; have BK102 := n1_; have BK106 := n2_; have BK112 := n3_; have BK116 := n4_; have HB := n5_; clear n0_ n1_ n2_ n3_ n4_ n5_; (try clear hb); (try clear hb2); (try clear hk); (try clear hi); obtain ⟨hcz144_0, hcz144_1, hfz144_0, hfz144_1⟩ := cells2 BK102.out) | ((with_reducible refine gate_callee (f := 44) rfl ?_); refine goesL_ (some 84) rfl rfl Tryd.func44 (by kernel_rfl) rfl #[.agg #[.int .u64 a1_0, .int .u64 a1_1]] rfl (by (try simp only [List.map_toArray, List.map_cons, List.map_nil]); first | done | rfl | (simp only [List.length_drop, List.length_take]; rfl)) ?_; (with_reducible refine (Podd.odds_Not.calls kj6 a1_0 a1_1 t121 t122 t123 _ A68.out).mono ?_); rintro e w145 ⟨rfl, hb⟩; refine ⟨_, rfl, ?_⟩; have n0_ := Aside0.mk (blk_below (g := gb101) (o := .cells #[.int .u64 a0_0, .int .u64 a0_1] 47 (0, 0)) of_lies hb); have n1_ := Aside0.mk (blk_below (g := gb102) (o := .cells #[.int .u64 a1_0, .int .u64 a1_1] 47 (0, 0)) of_lies hb); have n2_ := Aside0.mk (blk_below (g := gb106) (o := .cells #[.int .u64 t103, .int .u64 t104] 47 (0, 0)) of_lies hb); have n3_ := Aside0.mk (blk_below (g := gb112) (o := .cells #[.int .u64 t109, .int .u64 t110] 47 (0, 0)) of_lies hb); have n4_ := Aside0.mk (blk_below (g := gb116) (o := .cells #[.int .u64 t113, .int .u64 t114] 47 (0, 0)) of_lies hb); have n5_ := Aside0.mk (below_step (low HB) hb); clear BK101; clear BK102; clear BK106; clear BK112; clear BK116; clear HB; have BK101 := n0_; have BK102 := n1_; have BK106 := n2_; have BK112 := n3_; have BK116 := n4_; have HB := n5_; clear n0_ n1_ n2_ n3_ n4_ n5_; (try clear hb); (try clear hb2); (try clear hk); (try clear hi)) | ((with_reducible refine gate_dst (N := 13) rfl ?_); refine box_event ?hg (N := 13) ?hd (cs := #[.int .u64 0, .int .u64 0]) (t := 47) ?hr ?_; (case hd => rfl); (case hg => rfl); (case hr => first | (go_simp; done) | (go_simp; rfl)); intro gb124 hg w146 hbox hb; have n0_ := Aside0.mk (blk_below (g := gb101) (o := .cells #[.int .u64 a0_0, .int .u64 a0_1] 47 (0, 0)) of_lies hb); have n1_ := Aside0.mk (blk_below (g := gb102) (o := .cells #[.int .u64 a1_0, .int .u64 a1_1] 47 (0, 0)) of_lies hb); have n2_ := Aside0.mk (blk_below (g := gb106) (o := .cells #[.int .u64 t103, .int .u64 t104] 47 (0, 0)) of_lies hb); have n3_ := Aside0.mk (blk_below (g := gb112) (o := .cells #[.int .u64 t109, .int .u64 t110] 47 (0, 0)) of_lies hb); have n4_ := Aside0.mk (blk_below (g := gb116) (o := .cells #[.int .u64 t113, .int .u64 t114] 47 (0, 0)) of_lies hb); have n5_ := Aside0.mk (below_step (low HB) hb); have n6_ := Aside0.mk (hbox); have n7_ := Aside0.mk ((by rw [hg]; exact (below_size (low HB)) : w.heap.size ≤ gb124)); have n8_ := Aside0.mk ((by rw [hg]; exact (below_size (low HB)) : w.heap.size ≤ gb124)); have n9_ := Aside0.mk ((by rw [hg]; exact Nat.ne_of_lt (blk_lt (g := gb101) (o := .cells #[.int .u64 a0_0, .int .u64 a0_1] 47 (0, 0)) of_lies) : gb101 ≠ gb124)); have n10_ := Aside0.mk ((by rw [hg]; exact Nat.ne_of_gt (blk_lt (g := gb101) (o := .cells #[.int .u64 a0_0, .int .u64 a0_1] 47 (0, 0)) of_lies) : gb124 ≠ gb101)); have n11_ := Aside0.mk ((by rw [hg]; exact Nat.ne_of_lt (blk_lt (g := gb102) (o := .cells #[.int .u64 a1_0, .int .u64 a1_1] 47 (0, 0)) of_lies) : gb102 ≠ gb124)); have n12_ := Aside0.mk ((by rw [hg]; exact Nat.ne_of_gt (blk_lt (g := gb102) (o := .cells #[.int .u64 a1_0, .int .u64 a1_1] 47 (0, 0)) of_lies) : gb124 ≠ gb102)); have n13_ := Aside0.mk ((by rw [hg]; exact Nat.ne_of_lt (blk_lt (g := gb106) (o := .cells #[.int .u64 t103, .int .u64 t104] 47 (0, 0)) of_lies) : gb106 ≠ gb124)); have n14_ := Aside0.mk ((by rw [hg]; exact Nat.ne_of_gt (blk_lt (g := gb106) (o := .cells #[.int .u64 t103, .int .u64 t104] 47 (0, 0)) of_lies) : gb124 ≠ gb106)); have n15_ := Aside0.mk ((by rw [hg]; exact Nat.ne_of_lt (blk_lt (g := gb112) (o := .cells #[.int .u64 t109, .int .u64 t110] 47 (0, 0)) of_lies) : gb112 ≠ gb124)); have n16_ := Aside0.mk ((by rw [hg]; exact Nat.ne_of_gt (blk_lt (g := gb112) (o := .cells #[.int .u64 t109, .int .u64 t110] 47 (0, 0)) of_lies) : gb124 ≠ gb112)); have n17_ := Aside0.mk ((by rw [hg]; exact Nat.ne_of_lt (blk_lt (g := gb116) (o := .cells #[.int .u64 t113, .int .u64 t114] 47 (0, 0)) of_lies) : gb116 ≠ gb124)); have n18_ := Aside0.mk ((by rw [hg]; exact Nat.ne_of_gt (blk_lt (g := gb116) (o := .cells #[.int .u64 t113, .int .u64 t114] 47 (0, 0)) of_lies) : gb124 ≠ gb116)); clear BK101; clear BK102; clear BK106; clear BK112; clear BK116; clear HB; have BK101 := n0_; have BK102 := n1_; have BK106 := n2_; have BK112 := n3_; have BK116 := n4_; have HB := n5_; have BK124 := n6_; have GW124 := n7_; have GE124 := n8_; have NB101_124 := n9_; have NB124_101 := n10_; have NB102_124 := n11_; have NB124_102 := n12_; have NB106_124 := n13_; have NB124_106 := n14_; have NB112_124 := n15_; have NB124_112 := n16_; have NB116_124 := n17_; have NB124_116 := n18_; clear n0_ n1_ n2_ n3_ n4_ n5_ n6_ n7_ n8_ n9_ n10_ n11_ n12_ n13_ n14_ n15_ n16_ n17_ n18_; clear hb hbox hg; have hnb147 := NB124_101.out; have hnc147 := NB101_124.out; have hnb148 := NB124_102.out; have hnc148 := NB102_124.out; have hnb149 := NB124_106.out; have hnc149 := NB106_124.out; have hnb150 := NB124_112.out; have hnc150 := NB112_124.out; have hnb151 := NB124_116.out; have hnc151 := NB116_124.out; obtain ⟨hcz152_0, hcz152_1, hfz152_0, hfz152_1⟩ := cells2 BK124.out; have hnb153 := NB106_112.out; have hnc153 := NB112_106.out; have hnb154 := NB106_116.out; have hnc154 := NB116_106.out; obtain ⟨hcz155_0, hcz155_1, hfz155_0, hfz155_1⟩ := cells2 BK106.out) | ((with_reducible refine gate_callee (f := 37) rfl ?_); refine goesL_ (some 90) rfl rfl Tryd.func37 (by kernel_rfl) rfl #[.agg #[.int .u64 t121, .int .u64 t122], .agg #[.int .u64 t103, .int .u64 t104]] rfl (by (try simp only [List.map_toArray, List.map_cons, List.map_nil]); first | done | rfl | (simp only [List.length_drop, List.length_take]; rfl)) ?_; (with_reducible refine (Podd.odds_Compare.calls kj6 t121 t122 t103 t104 t125 t126 _ A69.out).mono ?_); rintro e w156 ⟨rfl, hb⟩; refine ⟨_, rfl, ?_⟩; have n0_ := Aside0.mk (blk_below (g := gb101) (o := .cells #[.int .u64 a0_0, .int .u64 a0_1] 47 (0, 0)) of_lies hb); have n1_ := Aside0.mk (blk_below (g := gb102) (o := .cells #[.int .u64 a1_0, .int .u64 a1_1] 47 (0, 0)) of_lies hb); have n2_ := Aside0.mk (blk_below (g := gb106) (o := .cells #[.int .u64 t103, .int .u64 t104] 47 (0, 0)) of_lies hb); have n3_ := Aside0.mk (blk_below (g := gb112) (o := .cells #[.int .u64 t109, .int .u64 t110] 47 (0, 0)) of_lies hb); have n4_ := Aside0.mk (blk_below (g := gb116) (o := .cells #[.int .u64 t113, .int .u64 t114] 47 (0, 0)) of_lies hb); have n5_ := Aside0.mk (blk_below (g := gb124) (o := .cells #[.int .u64 t121, .int .u64 t122] 47 (0, 0)) of_lies hb); have n6_ := Aside0.mk (below_step (low HB) hb); clear BK101; clear BK102; clear BK106; clear BK112; clear BK116; clear BK124; clear HB; have BK101 := n0_; have BK102 := n1_; have BK106 := n2_; have BK112 := n3_; have BK116 := n4_; have BK124 := n5_; have HB := n6_; clear n0_ n1_ n2_ n3_ n4_ n5_ n6_; (try clear hb); (try clear hb2); (try clear hk); (try clear hi); obtain ⟨hcz157_0, hcz157_1, hfz157_0, hfz157_1⟩ := cells2 BK102.out; obtain ⟨hcz158_0, hcz158_1, hfz158_0, hfz158_1⟩ := cells2 BK101.out) | ((with_reducible refine gate_callee (f := 37) rfl ?_); refine goesL_ (some 96) rfl rfl Tryd.func37 (by kernel_rfl) rfl #[.agg #[.int .u64 a1_0, .int .u64 a1_1], .agg #[.int .u64 a0_0, .int .u64 a0_1]] rfl (by (try simp only [List.map_toArray, List.map_cons, List.map_nil]); first | done | rfl | (simp only [List.length_drop, List.length_take]; rfl)) ?_; (with_reducible refine (Podd.odds_Compare.calls kj6 a1_0 a1_1 a0_0 a0_1 t127 t128 _ A70.out).mono ?_); rintro e w159 ⟨rfl, hb⟩; refine ⟨_, rfl, ?_⟩; have n0_ := Aside0.mk (blk_below (g := gb101) (o := .cells #[.int .u64 a0_0, .int .u64 a0_1] 47 (0, 0)) of_lies hb); have n1_ := Aside0.mk (blk_below (g := gb102) (o := .cells #[.int .u64 a1_0, .int .u64 a1_1] 47 (0, 0)) of_lies hb); have n2_ := Aside0.mk (blk_below (g := gb106) (o := .cells #[.int .u64 t103, .int .u64 t104] 47 (0, 0)) of_lies hb); have n3_ := Aside0.mk (blk_below (g := gb112) (o := .cells #[.int .u64 t109, .int .u64 t110] 47 (0, 0)) of_lies hb); have n4_ := Aside0.mk (blk_below (g := gb116) (o := .cells #[.int .u64 t113, .int .u64 t114] 47 (0, 0)) of_lies hb); have n5_ := Aside0.mk (blk_below (g := gb124) (o := .cells #[.int .u64 t121, .int .u64 t122] 47 (0, 0)) of_lies hb); have n6_ := Aside0.mk (below_step (low HB) hb); clear BK101; clear BK102; clear BK106; clear BK112; clear BK116; clear BK124; clear HB; have BK101 := n0_; have BK102 := n1_; have BK106 := n2_; have BK112 := n3_; have BK116 := n4_; have BK124 := n5_; have HB := n6_; clear n0_ n1_ n2_ n3_ n4_ n5_ n6_; (try clear hb); (try clear hb2); (try clear hk); (try clear hi)))
          go_ret
          exact ⟨by first | rfl | (simp [errW_none, errW_some] <;> rfl) | (simp [*, errW_none, errW_some] <;> rfl), low HB⟩
        ·
         rw [if_neg c73] at H
         have c73b0 : (t128 == 0) = false := beq_eq_false_iff_ne.mpr c73
         have c73b1 : (t128 != 0) = true := bne_iff_ne.mpr c73
         obtain rfl := Option.some.inj H
         have hnb160 := NB101_102.out
         have hnc160 := NB102_101.out
         have hnb161 := NB101_106.out
         have hnc161 := NB106_101.out
         have hnb162 := NB101_112.out
         have hnc162 := NB112_101.out
         have hnb163 := NB101_116.out
         have hnc163 := NB116_101.out
         have hcz164_0 : wc.cell? ⟨gb101, 0, none⟩ = some (.int .u64 a0_0) := (blk_cell BK101.out 0).trans rfl
         have hcz164_1 : wc.cell? ⟨gb101, 1, none⟩ = some (.int .u64 a0_1) := (blk_cell BK101.out 1).trans rfl
         have hfz164_0 := blk_frozen BK101.out 0
         have hfz164_1 := blk_frozen BK101.out 1
         have hnb165 := NB102_106.out
         have hnc165 := NB106_102.out
         have hnb166 := NB102_112.out
         have hnc166 := NB112_102.out
         have hnb167 := NB102_116.out
         have hnc167 := NB116_102.out
         have hcz168_0 : wc.cell? ⟨gb102, 0, none⟩ = some (.int .u64 a1_0) := (blk_cell BK102.out 0).trans rfl
         have hcz168_1 : wc.cell? ⟨gb102, 1, none⟩ = some (.int .u64 a1_1) := (blk_cell BK102.out 1).trans rfl
         have hfz168_0 := blk_frozen BK102.out 0
         have hfz168_1 := blk_frozen BK102.out 1
         go_wp2_with (first | ((with_reducible refine gate_callee (f := 37) rfl ?_); refine goesL_ (some 67) rfl rfl Tryd.func37 (by kernel_rfl) rfl #[.agg #[.int .u64 a0_0, .int .u64 a0_1], .agg #[.int .u64 a1_0, .int .u64 a1_1]] rfl (by (try simp only [List.map_toArray, List.map_cons, List.map_nil]); first | done | rfl | (simp only [List.length_drop, List.length_take]; rfl)) ?_; (with_reducible refine (Podd.odds_Compare.calls kj6 a0_0 a0_1 a1_0 a1_1 t117 t118 _ A66.out).mono ?_); rintro e w169 ⟨rfl, hb⟩; refine ⟨_, rfl, ?_⟩; have n0_ := Aside0.mk (blk_below (g := gb101) (o := .cells #[.int .u64 a0_0, .int .u64 a0_1] 47 (0, 0)) of_lies hb); have n1_ := Aside0.mk (blk_below (g := gb102) (o := .cells #[.int .u64 a1_0, .int .u64 a1_1] 47 (0, 0)) of_lies hb); have n2_ := Aside0.mk (blk_below (g := gb106) (o := .cells #[.int .u64 t103, .int .u64 t104] 47 (0, 0)) of_lies hb); have n3_ := Aside0.mk (blk_below (g := gb112) (o := .cells #[.int .u64 t109, .int .u64 t110] 47 (0, 0)) of_lies hb); have n4_ := Aside0.mk (blk_below (g := gb116) (o := .cells #[.int .u64 t113, .int .u64 t114] 47 (0, 0)) of_lies hb); have n5_ := Aside0.mk (below_step (low HB) hb); clear BK101; clear BK102; clear BK106; clear BK112; clear BK116; clear HB; have BK101 := n0_; have BK102 := n1_; have BK106 := n2_; have BK112 := n3_; have BK116 := n4_; have HB := n5_; clear n0_ n1_ n2_ n3_ n4_ n5_; (try clear hb); (try clear hb2); (try clear hk); (try clear hi); obtain ⟨hcz170_0, hcz170_1, hfz170_0, hfz170_1⟩ := cells2 BK102.out) | ((with_reducible refine gate_callee (f := 44) rfl ?_); refine goesL_ (some 84) rfl rfl Tryd.func44 (by kernel_rfl) rfl #[.agg #[.int .u64 a1_0, .int .u64 a1_1]] rfl (by (try simp only [List.map_toArray, List.map_cons, List.map_nil]); first | done | rfl | (simp only [List.length_drop, List.length_take]; rfl)) ?_; (with_reducible refine (Podd.odds_Not.calls kj6 a1_0 a1_1 t121 t122 t123 _ A68.out).mono ?_); rintro e w171 ⟨rfl, hb⟩; refine ⟨_, rfl, ?_⟩; have n0_ := Aside0.mk (blk_below (g := gb101) (o := .cells #[.int .u64 a0_0, .int .u64 a0_1] 47 (0, 0)) of_lies hb); have n1_ := Aside0.mk (blk_below (g := gb102) (o := .cells #[.int .u64 a1_0, .int .u64 a1_1] 47 (0, 0)) of_lies hb); have n2_ := Aside0.mk (blk_below (g := gb106) (o := .cells #[.int .u64 t103, .int .u64 t104] 47 (0, 0)) of_lies hb); have n3_ := Aside0.mk (blk_below (g := gb112) (o := .cells #[.int .u64 t109, .int .u64 t110] 47 (0, 0)) of_lies hb); have n4_ := Aside0.mk (blk_below (g := gb116) (o := .cells #[.int .u64 t113, .int .u64 t114] 47 (0, 0)) of_lies hb); have n5_ := Aside0.mk (below_step (low HB) hb); clear BK101; clear BK102; clear BK106; clear BK112; clear BK116; clear HB; have BK101 := n0_; have BK102 := n1_; have BK106 := n2_; have BK112 := n3_; have BK116 := n4_; have HB := n5_; clear n0_ n1_ n2_ n3_ n4_ n5_; (try clear hb); (try clear hb2); (try clear hk); (try clear hi)) | ((with_reducible refine gate_dst (N := 13) rfl ?_); refine box_event ?hg (N := 13) ?hd (cs := #[.int .u64 0, .int .u64 0]) (t := 47) ?hr ?_; (case hd => rfl); (case hg => rfl); (case hr => first | (go_simp; done) | (go_simp; rfl)); intro gb124 hg w172 hbox hb; have n0_ := Aside0.mk (blk_below (g := gb101) (o := .cells #[.int .u64 a0_0, .int .u64 a0_1] 47 (0, 0)) of_lies hb); have n1_ := Aside0.mk (blk_below (g := gb102) (o := .cells #[.int .u64 a1_0, .int .u64 a1_1] 47 (0, 0)) of_lies hb); have n2_ := Aside0.mk (blk_below (g := gb106) (o := .cells #[.int .u64 t103, .int .u64 t104] 47 (0, 0)) of_lies hb); have n3_ := Aside0.mk (blk_below (g := gb112) (o := .cells #[.int .u64 t109, .int .u64 t110] 47 (0, 0)) of_lies hb); have n4_ := Aside0.mk (blk_below (g := gb116) (o := .cells #[.int .u64 t113, .int .u64 t114] 47 (0, 0)) of_lies hb); have n5_ := Aside0.mk (below_step (low HB) hb); have n6_ := Aside0.mk (hbox); have n7_ := Aside0.mk ((by rw [hg]; exact (below_size (low HB)) : w.heap.size ≤ gb124)); have n8_ := Aside0.mk ((by rw [hg]; exact (below_size (low HB)) : w.heap.size ≤ gb124)); have n9_ := Aside0.mk ((by rw [hg]; exact Nat.ne_of_lt (blk_lt (g := gb101) (o := .cells #[.int .u64 a0_0, .int .u64 a0_1] 47 (0, 0)) of_lies) : gb101 ≠ gb124)); have n10_ := Aside0.mk ((by rw [hg]; exact Nat.ne_of_gt (blk_lt (g := gb101) (o := .cells #[.int .u64 a0_0, .int .u64 a0_1] 47 (0, 0)) of_lies) : gb124 ≠ gb101)); have n11_ := Aside0.mk ((by rw [hg]; exact Nat.ne_of_lt (blk_lt (g := gb102) (o := .cells #[.int .u64 a1_0, .int .u64 a1_1] 47 (0, 0)) of_lies) : gb102 ≠ gb124)); have n12_ := Aside0.mk ((by rw [hg]; exact Nat.ne_of_gt (blk_lt (g := gb102) (o := .cells #[.int .u64 a1_0, .int .u64 a1_1] 47 (0, 0)) of_lies) : gb124 ≠ gb102)); have n13_ := Aside0.mk ((by rw [hg]; exact Nat.ne_of_lt (blk_lt (g := gb106) (o := .cells #[.int .u64 t103, .int .u64 t104] 47 (0, 0)) of_lies) : gb106 ≠ gb124)); have n14_ := Aside0.mk ((by rw [hg]; exact Nat.ne_of_gt (blk_lt (g := gb106) (o := .cells #[.int .u64 t103, .int .u64 t104] 47 (0, 0)) of_lies) : gb124 ≠ gb106)); have n15_ := Aside0.mk ((by rw [hg]; exact Nat.ne_of_lt (blk_lt (g := gb112) (o := .cells #[.int .u64 t109, .int .u64 t110] 47 (0, 0)) of_lies) : gb112 ≠ gb124)); have n16_ := Aside0.mk ((by rw [hg]; exact Nat.ne_of_gt (blk_lt (g := gb112) (o := .cells #[.int .u64 t109, .int .u64 t110] 47 (0, 0)) of_lies) : gb124 ≠ gb112)); have n17_ := Aside0.mk ((by rw [hg]; exact Nat.ne_of_lt (blk_lt (g := gb116) (o := .cells #[.int .u64 t113, .int .u64 t114] 47 (0, 0)) of_lies) : gb116 ≠ gb124)); have n18_ := Aside0.mk ((by rw [hg]; exact Nat.ne_of_gt (blk_lt (g := gb116) (o := .cells #[.int .u64 t113, .int .u64 t114] 47 (0, 0)) of_lies) : gb124 ≠ gb116)); clear BK101; clear BK102; clear BK106; clear BK112; clear BK116; clear HB; have BK101 := n0_; have BK102 := n1_; have BK106 := n2_; have BK112 := n3_; have BK116 := n4_; have HB := n5_; have BK124 := n6_; have GW124 := n7_; have GE124 := n8_; have NB101_124 := n9_; have NB124_101 := n10_; have NB102_124 := n11_; have NB124_102 := n12_; have NB106_124 := n13_; have NB124_106 := n14_; have NB112_124 := n15_; have NB124_112 := n16_; have NB116_124 := n17_; have NB124_116 := n18_; clear n0_ n1_ n2_ n3_ n4_ n5_ n6_ n7_ n8_ n9_ n10_ n11_ n12_ n13_ n14_ n15_ n16_ n17_ n18_; clear hb hbox hg; have hnb173 := NB124_101.out; have hnc173 := NB101_124.out; have hnb174 := NB124_102.out; have hnc174 := NB102_124.out; have hnb175 := NB124_106.out; have hnc175 := NB106_124.out; have hnb176 := NB124_112.out; have hnc176 := NB112_124.out; have hnb177 := NB124_116.out; have hnc177 := NB116_124.out; obtain ⟨hcz178_0, hcz178_1, hfz178_0, hfz178_1⟩ := cells2 BK124.out; have hnb179 := NB106_112.out; have hnc179 := NB112_106.out; have hnb180 := NB106_116.out; have hnc180 := NB116_106.out; obtain ⟨hcz181_0, hcz181_1, hfz181_0, hfz181_1⟩ := cells2 BK106.out) | ((with_reducible refine gate_callee (f := 37) rfl ?_); refine goesL_ (some 90) rfl rfl Tryd.func37 (by kernel_rfl) rfl #[.agg #[.int .u64 t121, .int .u64 t122], .agg #[.int .u64 t103, .int .u64 t104]] rfl (by (try simp only [List.map_toArray, List.map_cons, List.map_nil]); first | done | rfl | (simp only [List.length_drop, List.length_take]; rfl)) ?_; (with_reducible refine (Podd.odds_Compare.calls kj6 t121 t122 t103 t104 t125 t126 _ A69.out).mono ?_); rintro e w182 ⟨rfl, hb⟩; refine ⟨_, rfl, ?_⟩; have n0_ := Aside0.mk (blk_below (g := gb101) (o := .cells #[.int .u64 a0_0, .int .u64 a0_1] 47 (0, 0)) of_lies hb); have n1_ := Aside0.mk (blk_below (g := gb102) (o := .cells #[.int .u64 a1_0, .int .u64 a1_1] 47 (0, 0)) of_lies hb); have n2_ := Aside0.mk (blk_below (g := gb106) (o := .cells #[.int .u64 t103, .int .u64 t104] 47 (0, 0)) of_lies hb); have n3_ := Aside0.mk (blk_below (g := gb112) (o := .cells #[.int .u64 t109, .int .u64 t110] 47 (0, 0)) of_lies hb); have n4_ := Aside0.mk (blk_below (g := gb116) (o := .cells #[.int .u64 t113, .int .u64 t114] 47 (0, 0)) of_lies hb); have n5_ := Aside0.mk (blk_below (g := gb124) (o := .cells #[.int .u64 t121, .int .u64 t122] 47 (0, 0)) of_lies hb); have n6_ := Aside0.mk (below_step (low HB) hb); clear BK101; clear BK102; clear BK106; clear BK112; clear BK116; clear BK124; clear HB; have BK101 := n0_; have BK102 := n1_; have BK106 := n2_; have BK112 := n3_; have BK116 := n4_; have BK124 := n5_; have HB := n6_; clear n0_ n1_ n2_ n3_ n4_ n5_ n6_; (try clear hb); (try clear hb2); (try clear hk); (try clear hi); obtain ⟨hcz183_0, hcz183_1, hfz183_0, hfz183_1⟩ := cells2 BK102.out; obtain ⟨hcz184_0, hcz184_1, hfz184_0, hfz184_1⟩ := cells2 BK101.out) | ((with_reducible refine gate_callee (f := 37) rfl ?_); refine goesL_ (some 96) rfl rfl Tryd.func37 (by kernel_rfl) rfl #[.agg #[.int .u64 a1_0, .int .u64 a1_1], .agg #[.int .u64 a0_0, .int .u64 a0_1]] rfl (by (try simp only [List.map_toArray, List.map_cons, List.map_nil]); first | done | rfl | (simp only [List.length_drop, List.length_take]; rfl)) ?_; (with_reducible refine (Podd.odds_Compare.calls kj6 a1_0 a1_1 a0_0 a0_1 t127 t128 _ A70.out).mono ?_); rintro e w185 ⟨rfl, hb⟩; refine ⟨_, rfl, ?_⟩; have n0_ := Aside0.mk (blk_below (g := gb101) (o := .cells #[.int .u64 a0_0, .int .u64 a0_1] 47 (0, 0)) of_lies hb); have n1_ := Aside0.mk (blk_below (g := gb102) (o := .cells #[.int .u64 a1_0, .int .u64 a1_1] 47 (0, 0)) of_lies hb); have n2_ := Aside0.mk (blk_below (g := gb106) (o := .cells #[.int .u64 t103, .int .u64 t104] 47 (0, 0)) of_lies hb); have n3_ := Aside0.mk (blk_below (g := gb112) (o := .cells #[.int .u64 t109, .int .u64 t110] 47 (0, 0)) of_lies hb); have n4_ := Aside0.mk (blk_below (g := gb116) (o := .cells #[.int .u64 t113, .int .u64 t114] 47 (0, 0)) of_lies hb); have n5_ := Aside0.mk (blk_below (g := gb124) (o := .cells #[.int .u64 t121, .int .u64 t122] 47 (0, 0)) of_lies hb); have n6_ := Aside0.mk (below_step (low HB) hb); clear BK101; clear BK102; clear BK106; clear BK112; clear BK116; clear BK124; clear HB; have BK101 := n0_; have BK102 := n1_; have BK106 := n2_; have BK112 := n3_; have BK116 := n4_; have BK124 := n5_; have HB := n6_; clear n0_ n1_ n2_ n3_ n4_ n5_ n6_; (try clear hb); (try clear hb2); (try clear hk); (try clear hi)))
         go_ret
         exact ⟨by first | rfl | (simp [errW_none, errW_some] <;> rfl) | (simp [*, errW_none, errW_some] <;> rfl), low HB⟩
       ·
        rw [if_neg c72] at H
        have c72b0 : (t125 == t117) = false := beq_eq_false_iff_ne.mpr c72
        have c72b1 : (t125 != t117) = true := bne_iff_ne.mpr c72
        obtain rfl := Option.some.inj H
        have hnb186 := NB101_102.out
        have hnc186 := NB102_101.out
        have hnb187 := NB101_106.out
        have hnc187 := NB106_101.out
        have hnb188 := NB101_112.out
        have hnc188 := NB112_101.out
        have hnb189 := NB101_116.out
        have hnc189 := NB116_101.out
        have hcz190_0 : wc.cell? ⟨gb101, 0, none⟩ = some (.int .u64 a0_0) := (blk_cell BK101.out 0).trans rfl
        have hcz190_1 : wc.cell? ⟨gb101, 1, none⟩ = some (.int .u64 a0_1) := (blk_cell BK101.out 1).trans rfl
        have hfz190_0 := blk_frozen BK101.out 0
        have hfz190_1 := blk_frozen BK101.out 1
        have hnb191 := NB102_106.out
        have hnc191 := NB106_102.out
        have hnb192 := NB102_112.out
        have hnc192 := NB112_102.out
        have hnb193 := NB102_116.out
        have hnc193 := NB116_102.out
        have hcz194_0 : wc.cell? ⟨gb102, 0, none⟩ = some (.int .u64 a1_0) := (blk_cell BK102.out 0).trans rfl
        have hcz194_1 : wc.cell? ⟨gb102, 1, none⟩ = some (.int .u64 a1_1) := (blk_cell BK102.out 1).trans rfl
        have hfz194_0 := blk_frozen BK102.out 0
        have hfz194_1 := blk_frozen BK102.out 1
        go_wp2_with (first | ((with_reducible refine gate_callee (f := 37) rfl ?_); refine goesL_ (some 67) rfl rfl Tryd.func37 (by kernel_rfl) rfl #[.agg #[.int .u64 a0_0, .int .u64 a0_1], .agg #[.int .u64 a1_0, .int .u64 a1_1]] rfl (by (try simp only [List.map_toArray, List.map_cons, List.map_nil]); first | done | rfl | (simp only [List.length_drop, List.length_take]; rfl)) ?_; (with_reducible refine (Podd.odds_Compare.calls kj6 a0_0 a0_1 a1_0 a1_1 t117 t118 _ A66.out).mono ?_); rintro e w195 ⟨rfl, hb⟩; refine ⟨_, rfl, ?_⟩; have n0_ := Aside0.mk (blk_below (g := gb101) (o := .cells #[.int .u64 a0_0, .int .u64 a0_1] 47 (0, 0)) of_lies hb); have n1_ := Aside0.mk (blk_below (g := gb102) (o := .cells #[.int .u64 a1_0, .int .u64 a1_1] 47 (0, 0)) of_lies hb); have n2_ := Aside0.mk (blk_below (g := gb106) (o := .cells #[.int .u64 t103, .int .u64 t104] 47 (0, 0)) of_lies hb); have n3_ := Aside0.mk (blk_below (g := gb112) (o := .cells #[.int .u64 t109, .int .u64 t110] 47 (0, 0)) of_lies hb); have n4_ := Aside0.mk (blk_below (g := gb116) (o := .cells #[.int .u64 t113, .int .u64 t114] 47 (0, 0)) of_lies hb); have n5_ := Aside0.mk (below_step (low HB) hb); clear BK101; clear BK102; clear BK106; clear BK112; clear BK116; clear HB; have BK101 := n0_; have BK102 := n1_; have BK106 := n2_; have BK112 := n3_; have BK116 := n4_; have HB := n5_; clear n0_ n1_ n2_ n3_ n4_ n5_; (try clear hb); (try clear hb2); (try clear hk); (try clear hi); obtain ⟨hcz196_0, hcz196_1, hfz196_0, hfz196_1⟩ := cells2 BK102.out) | ((with_reducible refine gate_callee (f := 44) rfl ?_); refine goesL_ (some 84) rfl rfl Tryd.func44 (by kernel_rfl) rfl #[.agg #[.int .u64 a1_0, .int .u64 a1_1]] rfl (by (try simp only [List.map_toArray, List.map_cons, List.map_nil]); first | done | rfl | (simp only [List.length_drop, List.length_take]; rfl)) ?_; (with_reducible refine (Podd.odds_Not.calls kj6 a1_0 a1_1 t121 t122 t123 _ A68.out).mono ?_); rintro e w197 ⟨rfl, hb⟩; refine ⟨_, rfl, ?_⟩; have n0_ := Aside0.mk (blk_below (g := gb101) (o := .cells #[.int .u64 a0_0, .int .u64 a0_1] 47 (0, 0)) of_lies hb); have n1_ := Aside0.mk (blk_below (g := gb102) (o := .cells #[.int .u64 a1_0, .int .u64 a1_1] 47 (0, 0)) of_lies hb); have n2_ := Aside0.mk (blk_below (g := gb106) (o := .cells #[.int .u64 t103, .int .u64 t104] 47 (0, 0)) of_lies hb); have n3_ := Aside0.mk (blk_below (g := gb112) (o := .cells #[.int .u64 t109, .int .u64 t110] 47 (0, 0)) of_lies hb); have n4_ := Aside0.mk (blk_below (g := gb116) (o := .cells #[.int .u64 t113, .int .u64 t114] 47 (0, 0)) of_lies hb); have n5_ := Aside0.mk (below_step (low HB) hb); clear BK101; clear BK102; clear BK106; clear BK112; clear BK116; clear HB; have BK101 := n0_; have BK102 := n1_; have BK106 := n2_; have BK112 := n3_; have BK116 := n4_; have HB := n5_; clear n0_ n1_ n2_ n3_ n4_ n5_; (try clear hb); (try clear hb2); (try clear hk); (try clear hi)) | ((with_reducible refine gate_dst (N := 13) rfl ?_); refine box_event ?hg (N := 13) ?hd (cs := #[.int .u64 0, .int .u64 0]) (t := 47) ?hr ?_; (case hd => rfl); (case hg => rfl); (case hr => first | (go_simp; done) | (go_simp; rfl)); intro gb124 hg w198 hbox hb; have n0_ := Aside0.mk (blk_below (g := gb101) (o := .cells #[.int .u64 a0_0, .int .u64 a0_1] 47 (0, 0)) of_lies hb); have n1_ := Aside0.mk (blk_below (g := gb102) (o := .cells #[.int .u64 a1_0, .int .u64 a1_1] 47 (0, 0)) of_lies hb); have n2_ := Aside0.mk (blk_below (g := gb106) (o := .cells #[.int .u64 t103, .int .u64 t104] 47 (0, 0)) of_lies hb); have n3_ := Aside0.mk (blk_below (g := gb112) (o := .cells #[.int .u64 t109, .int .u64 t110] 47 (0, 0)) of_lies hb); have n4_ := Aside0.mk (blk_below (g := gb116) (o := .cells #[.int .u64 t113, .int .u64 t114] 47 (0, 0)) of_lies hb); have n5_ := Aside0.mk (below_step (low HB) hb); have n6_ := Aside0.mk (hbox); have n7_ := Aside0.mk ((by rw [hg]; exact (below_size (low HB)) : w.heap.size ≤ gb124)); have n8_ := Aside0.mk ((by rw [hg]; exact (below_size (low HB)) : w.heap.size ≤ gb124)); have n9_ := Aside0.mk ((by rw [hg]; exact Nat.ne_of_lt (blk_lt (g := gb101) (o := .cells #[.int .u64 a0_0, .int .u64 a0_1] 47 (0, 0)) of_lies) : gb101 ≠ gb124)); have n10_ := Aside0.mk ((by rw [hg]; exact Nat.ne_of_gt (blk_lt (g := gb101) (o := .cells #[.int .u64 a0_0, .int .u64 a0_1] 47 (0, 0)) of_lies) : gb124 ≠ gb101)); have n11_ := Aside0.mk ((by rw [hg]; exact Nat.ne_of_lt (blk_lt (g := gb102) (o := .cells #[.int .u64 a1_0, .int .u64 a1_1] 47 (0, 0)) of_lies) : gb102 ≠ gb124)); have n12_ := Aside0.mk ((by rw [hg]; exact Nat.ne_of_gt (blk_lt (g := gb102) (o := .cells #[.int .u64 a1_0, .int .u64 a1_1] 47 (0, 0)) of_lies) : gb124 ≠ gb102)); have n13_ := Aside0.mk ((by rw [hg]; exact Nat.ne_of_lt (blk_lt (g := gb106) (o := .cells #[.int .u64 t103, .int .u64 t104] 47 (0, 0)) of_lies) : gb106 ≠ gb124)); have n14_ := Aside0.mk ((by rw [hg]; exact Nat.ne_of_gt (blk_lt (g := gb106) (o := .cells #[.int .u64 t103, .int .u64 t104] 47 (0, 0)) of_lies) : gb124 ≠ gb106)); have n15_ := Aside0.mk ((by rw [hg]; exact Nat.ne_of_lt (blk_lt (g := gb112) (o := .cells #[.int .u64 t109, .int .u64 t110] 47 (0, 0)) of_lies) : gb112 ≠ gb124)); have n16_ := Aside0.mk ((by rw [hg]; exact Nat.ne_of_gt (blk_lt (g := gb112) (o := .cells #[.int .u64 t109, .int .u64 t110] 47 (0, 0)) of_lies) : gb124 ≠ gb112)); have n17_ := Aside0.mk ((by rw [hg]; exact Nat.ne_of_lt (blk_lt (g := gb116) (o := .cells #[.int .u64 t113, .int .u64 t114] 47 (0, 0)) of_lies) : gb116 ≠ gb124)); have n18_ := Aside0.mk ((by rw [hg]; exact Nat.ne_of_gt (blk_lt (g := gb116) (o := .cells #[.int .u64 t113, .int .u64 t114] 47 (0, 0)) of_lies) : gb124 ≠ gb116)); clear BK101; clear BK102; clear BK106; clear BK112; clear BK116; clear HB; have BK101 := n0_; have BK102 := n1_; have BK106 := n2_; have BK112 := n3_; have BK116 := n4_; have HB := n5_; have BK124 := n6_; have GW124 := n7_; have GE124 := n8_; have NB101_124 := n9_; have NB124_101 := n10_; have NB102_124 := n11_; have NB124_102 := n12_; have NB106_124 := n13_; have NB124_106 := n14_; have NB112_124 := n15_; have NB124_112 := n16_; have NB116_124 := n17_; have NB124_116 := n18_; clear n0_ n1_ n2_ n3_ n4_ n5_ n6_ n7_ n8_ n9_ n10_ n11_ n12_ n13_ n14_ n15_ n16_ n17_ n18_; clear hb hbox hg; have hnb199 := NB124_101.out; have hnc199 := NB101_124.out; have hnb200 := NB124_102.out; have hnc200 := NB102_124.out; have hnb201 := NB124_106.out; have hnc201 := NB106_124.out; have hnb202 := NB124_112.out; have hnc202 := NB112_124.out; have hnb203 := NB124_116.out; have hnc203 := NB116_124.out; obtain ⟨hcz204_0, hcz204_1, hfz204_0, hfz204_1⟩ := cells2 BK124.out; have hnb205 := NB106_112.out; have hnc205 := NB112_106.out; have hnb206 := NB106_116.out; have hnc206 := NB116_106.out; obtain ⟨hcz207_0, hcz207_1, hfz207_0, hfz207_1⟩ := cells2 BK106.out) | ((with_reducible refine gate_callee (f := 37) rfl ?_); refine goesL_ (some 90) rfl rfl Tryd.func37 (by kernel_rfl) rfl #[.agg #[.int .u64 t121, .int .u64 t122], .agg #[.int .u64 t103, .int .u64 t104]] rfl (by (try simp only [List.map_toArray, List.map_cons, List.map_nil]); first | done | rfl | (simp only [List.length_drop, List.length_take]; rfl)) ?_; (with_reducible refine (Podd.odds_Compare.calls kj6 t121 t122 t103 t104 t125 t126 _ A69.out).mono ?_); rintro e w208 ⟨rfl, hb⟩; refine ⟨_, rfl, ?_⟩; have n0_ := Aside0.mk (blk_below (g := gb101) (o := .cells #[.int .u64 a0_0, .int .u64 a0_1] 47 (0, 0)) of_lies hb); have n1_ := Aside0.mk (blk_below (g := gb102) (o := .cells #[.int .u64 a1_0, .int .u64 a1_1] 47 (0, 0)) of_lies hb); have n2_ := Aside0.mk (blk_below (g := gb106) (o := .cells #[.int .u64 t103, .int .u64 t104] 47 (0, 0)) of_lies hb); have n3_ := Aside0.mk (blk_below (g := gb112) (o := .cells #[.int .u64 t109, .int .u64 t110] 47 (0, 0)) of_lies hb); have n4_ := Aside0.mk (blk_below (g := gb116) (o := .cells #[.int .u64 t113, .int .u64 t114] 47 (0, 0)) of_lies hb); have n5_ := Aside0.mk (blk_below (g := gb124) (o := .cells #[.int .u64 t121, .int .u64 t122] 47 (0, 0)) of_lies hb); have n6_ := Aside0.mk (below_step (low HB) hb); clear BK101; clear BK102; clear BK106; clear BK112; clear BK116; clear BK124; clear HB; have BK101 := n0_; have BK102 := n1_; have BK106 := n2_; have BK112 := n3_; have BK116 := n4_; have BK124 := n5_; have HB := n6_; clear n0_ n1_ n2_ n3_ n4_ n5_ n6_; (try clear hb); (try clear hb2); (try clear hk); (try clear hi); obtain ⟨hcz209_0, hcz209_1, hfz209_0, hfz209_1⟩ := cells2 BK102.out; obtain ⟨hcz210_0, hcz210_1, hfz210_0, hfz210_1⟩ := cells2 BK101.out) | ((with_reducible refine gate_callee (f := 37) rfl ?_); refine goesL_ (some 96) rfl rfl Tryd.func37 (by kernel_rfl) rfl #[.agg #[.int .u64 a1_0, .int .u64 a1_1], .agg #[.int .u64 a0_0, .int .u64 a0_1]] rfl (by (try simp only [List.map_toArray, List.map_cons, List.map_nil]); first | done | rfl | (simp only [List.length_drop, List.length_take]; rfl)) ?_; (with_reducible refine (Podd.odds_Compare.calls kj6 a1_0 a1_1 a0_0 a0_1 t127 t128 _ A70.out).mono ?_); rintro e w211 ⟨rfl, hb⟩; refine ⟨_, rfl, ?_⟩; have n0_ := Aside0.mk (blk_below (g := gb101) (o := .cells #[.int .u64 a0_0, .int .u64 a0_1] 47 (0, 0)) of_lies hb); have n1_ := Aside0.mk (blk_below (g := gb102) (o := .cells #[.int .u64 a1_0, .int .u64 a1_1] 47 (0, 0)) of_lies hb); have n2_ := Aside0.mk (blk_below (g := gb106) (o := .cells #[.int .u64 t103, .int .u64 t104] 47 (0, 0)) of_lies hb); have n3_ := Aside0.mk (blk_below (g := gb112) (o := .cells #[.int .u64 t109, .int .u64 t110] 47 (0, 0)) of_lies hb); have n4_ := Aside0.mk (blk_below (g := gb116) (o := .cells #[.int .u64 t113, .int .u64 t114] 47 (0, 0)) of_lies hb); have n5_ := Aside0.mk (blk_below (g := gb124) (o := .cells #[.int .u64 t121, .int .u64 t122] 47 (0, 0)) of_lies hb); have n6_ := Aside0.mk (below_step (low HB) hb); clear BK101; clear BK102; clear BK106; clear BK112; clear BK116; clear BK124; clear HB; have BK101 := n0_; have BK102 := n1_; have BK106 := n2_; have BK112 := n3_; have BK116 := n4_; have BK124 := n5_; have HB := n6_; clear n0_ n1_ n2_ n3_ n4_ n5_ n6_; (try clear hb); (try clear hb2); (try clear hk); (try clear hi)))
        go_ret
        exact ⟨by first | rfl | (simp [errW_none, errW_some] <;> rfl) | (simp [*, errW_none, errW_some] <;> rfl), low HB⟩
      ·
       rw [if_neg c71] at H
       have c71b0 : (t126 == 0) = false := beq_eq_false_iff_ne.mpr c71
       have c71b1 : (t126 != 0) = true := bne_iff_ne.mpr c71
       obtain rfl := Option.some.inj H
       have hnb212 := NB101_102.out
       have hnc212 := NB102_101.out
       have hnb213 := NB101_106.out
       have hnc213 := NB106_101.out
       have hnb214 := NB101_112.out
       have hnc214 := NB112_101.out
       have hnb215 := NB101_116.out
       have hnc215 := NB116_101.out
       have hcz216_0 : wc.cell? ⟨gb101, 0, none⟩ = some (.int .u64 a0_0) := (blk_cell BK101.out 0).trans rfl
       have hcz216_1 : wc.cell? ⟨gb101, 1, none⟩ = some (.int .u64 a0_1) := (blk_cell BK101.out 1).trans rfl
       have hfz216_0 := blk_frozen BK101.out 0
       have hfz216_1 := blk_frozen BK101.out 1
       have hnb217 := NB102_106.out
       have hnc217 := NB106_102.out
       have hnb218 := NB102_112.out
       have hnc218 := NB112_102.out
       have hnb219 := NB102_116.out
       have hnc219 := NB116_102.out
       have hcz220_0 : wc.cell? ⟨gb102, 0, none⟩ = some (.int .u64 a1_0) := (blk_cell BK102.out 0).trans rfl
       have hcz220_1 : wc.cell? ⟨gb102, 1, none⟩ = some (.int .u64 a1_1) := (blk_cell BK102.out 1).trans rfl
       have hfz220_0 := blk_frozen BK102.out 0
       have hfz220_1 := blk_frozen BK102.out 1
       go_wp2_with (first | ((with_reducible refine gate_callee (f := 37) rfl ?_); refine goesL_ (some 67) rfl rfl Tryd.func37 (by kernel_rfl) rfl #[.agg #[.int .u64 a0_0, .int .u64 a0_1], .agg #[.int .u64 a1_0, .int .u64 a1_1]] rfl (by (try simp only [List.map_toArray, List.map_cons, List.map_nil]); first | done | rfl | (simp only [List.length_drop, List.length_take]; rfl)) ?_; (with_reducible refine (Podd.odds_Compare.calls kj6 a0_0 a0_1 a1_0 a1_1 t117 t118 _ A66.out).mono ?_); rintro e w221 ⟨rfl, hb⟩; refine ⟨_, rfl, ?_⟩; have n0_ := Aside0.mk (blk_below (g := gb101) (o := .cells #[.int .u64 a0_0, .int .u64 a0_1] 47 (0, 0)) of_lies hb); have n1_ := Aside0.mk (blk_below (g := gb102) (o := .cells #[.int .u64 a1_0, .int .u64 a1_1] 47 (0, 0)) of_lies hb); have n2_ := Aside0.mk (blk_below (g := gb106) (o := .cells #[.int .u64 t103, .int .u64 t104] 47 (0, 0)) of_lies hb); have n3_ := Aside0.mk (blk_below (g := gb112) (o := .cells #[.int .u64 t109, .int .u64 t110] 47 (0, 0)) of_lies hb); have n4_ := Aside0.mk (blk_below (g := gb116) (o := .cells #[.int .u64 t113, .int .u64 t114] 47 (0, 0)) of_lies hb); have n5_ := Aside0.mk (below_step (low HB) hb); clear BK101; clear BK102; clear BK106; clear BK112; clear BK116; clear HB; have BK101 := n0_; have BK102 := n1_; have BK106 := n2_; have BK112 := n3_; have BK116 := n4_; have HB := n5_; clear n0_ n1_ n2_ n3_ n4_ n5_; (try clear hb); (try clear hb2); (try clear hk); (try clear hi); obtain ⟨hcz222_0, hcz222_1, hfz222_0, hfz222_1⟩ := cells2 BK102.out) | ((with_reducible refine gate_callee (f := 44) rfl ?_); refine goesL_ (some 84) rfl rfl Tryd.func44 (by kernel_rfl) rfl #[.agg #[.int .u64 a1_0, .int .u64 a1_1]] rfl (by (try simp only [List.map_toArray, List.map_cons, List.map_nil]); first | done | rfl | (simp only [List.length_drop, List.length_take]; rfl)) ?_; (with_reducible refine (Podd.odds_Not.calls kj6 a1_0 a1_1 t121 t122 t123 _ A68.out).mono ?_); rintro e w223 ⟨rfl, hb⟩; refine ⟨_, rfl, ?_⟩; have n0_ := Aside0.mk (blk_below (g := gb101) (o := .cells #[.int .u64 a0_0, .int .u64 a0_1] 47 (0, 0)) of_lies hb); have n1_ := Aside0.mk (blk_below (g := gb102) (o := .cells #[.int .u64 a1_0, .int .u64 a1_1] 47 (0, 0)) of_lies hb); have n2_ := Aside0.mk (blk_below (g := gb106) (o := .cells #[.int .u64 t103, .int .u64 t104] 47 (0, 0)) of_lies hb); have n3_ := Aside0.mk (blk_below (g := gb112) (o := .cells #[.int .u64 t109, .int .u64 t110] 47 (0, 0)) of_lies hb); have n4_ := Aside0.mk (blk_below (g := gb116) (o := .cells #[.int .u64 t113, .int .u64 t114] 47 (0, 0)) of_lies hb); have n5_ := Aside0.mk (below_step (low HB) hb); clear BK101; clear BK102; clear BK106; clear BK112; clear BK116; clear HB; have BK101 := n0_; have BK102 := n1_; have BK106 := n2_; have BK112 := n3_; have BK116 := n4_; have HB := n5_; clear n0_ n1_ n2_ n3_ n4_ n5_; (try clear hb); (try clear hb2); (try clear hk); (try clear hi)) | ((with_reducible refine gate_dst (N := 13) rfl ?_); refine box_event ?hg (N := 13) ?hd (cs := #[.int .u64 0, .int .u64 0]) (t := 47) ?hr ?_; (case hd => rfl); (case hg => rfl); (case hr => first | (go_simp; done) | (go_simp; rfl)); intro gb124 hg w224 hbox hb; have n0_ := Aside0.mk (blk_below (g := gb101) (o := .cells #[.int .u64 a0_0, .int .u64 a0_1] 47 (0, 0)) of_lies hb); have n1_ := Aside0.mk (blk_below (g := gb102) (o := .cells #[.int .u64 a1_0, .int .u64 a1_1] 47 (0, 0)) of_lies hb); have n2_ := Aside0.mk (blk_below (g := gb106) (o := .cells #[.int .u64 t103, .int .u64 t104] 47 (0, 0)) of_lies hb); have n3_ := Aside0.mk (blk_below (g := gb112) (o := .cells #[.int .u64 t109, .int .u64 t110] 47 (0, 0)) of_lies hb); have n4_ := Aside0.mk (blk_below (g := gb116) (o := .cells #[.int .u64 t113, .int .u64 t114] 47 (0, 0)) of_lies hb); have n5_ := Aside0.mk (below_step (low HB) hb); have n6_ := Aside0.mk (hbox); have n7_ := Aside0.mk ((by rw [hg]; exact (below_size (low HB)) : w.heap.size ≤ gb124)); have n8_ := Aside0.mk ((by rw [hg]; exact (below_size (low HB)) : w.heap.size ≤ gb124)); have n9_ := Aside0.mk ((by rw [hg]; exact Nat.ne_of_lt (blk_lt (g := gb101) (o := .cells #[.int .u64 a0_0, .int .u64 a0_1] 47 (0, 0)) of_lies) : gb101 ≠ gb124)); have n10_ := Aside0.mk ((by rw [hg]; exact Nat.ne_of_gt (blk_lt (g := gb101) (o := .cells #[.int .u64 a0_0, .int .u64 a0_1] 47 (0, 0)) of_lies) : gb124 ≠ gb101)); have n11_ := Aside0.mk ((by rw [hg]; exact Nat.ne_of_lt (blk_lt (g := gb102) (o := .cells #[.int .u64 a1_0, .int .u64 a1_1] 47 (0, 0)) of_lies) : gb102 ≠ gb124)); have n12_ := Aside0.mk ((by rw [hg]; exact Nat.ne_of_gt (blk_lt (g := gb102) (o := .cells #[.int .u64 a1_0, .int .u64 a1_1] 47 (0, 0)) of_lies) : gb124 ≠ gb102)); have n13_ := Aside0.mk ((by rw [hg]; exact Nat.ne_of_lt (blk_lt (g := gb106) (o := .cells #[.int .u64 t103, .int .u64 t104] 47 (0, 0)) of_lies) : gb106 ≠ gb124)); have n14_ := Aside0.mk ((by rw [hg]; exact Nat.ne_of_gt (blk_lt (g := gb106) (o := .cells #[.int .u64 t103, .int .u64 t104] 47 (0, 0)) of_lies) : gb124 ≠ gb106)); have n15_ := Aside0.mk ((by rw [hg]; exact Nat.ne_of_lt (blk_lt (g := gb112) (o := .cells #[.int .u64 t109, .int .u64 t110] 47 (0, 0)) of_lies) : gb112 ≠ gb124)); have n16_ := Aside0.mk ((by rw [hg]; exact Nat.ne_of_gt (blk_lt (g := gb112) (o := .cells #[.int .u64 t109, .int .u64 t110] 47 (0, 0)) of_lies) : gb124 ≠ gb112)); have n17_ := Aside0.mk ((by rw [hg]; exact Nat.ne_of_lt (blk_lt (g := gb116) (o := .cells #[.int .u64 t113, .int .u64 t114] 47 (0, 0)) of_lies) : gb116 ≠ gb124)); have n18_ := Aside0.mk ((by rw [hg]; exact Nat.ne_of_gt (blk_lt (g := gb116) (o := .cells #[.int .u64 t113, .int .u64 t114] 47 (0, 0)) of_lies) : gb124 ≠ gb116)); clear BK101; clear BK102; clear BK106; clear BK112; clear BK116; clear HB; have BK101 := n0_; have BK102 := n1_; have BK106 := n2_; have BK112 := n3_; have BK116 := n4_; have HB := n5_; have BK124 := n6_; have GW124 := n7_; have GE124 := n8_; have NB101_124 := n9_; have NB124_101 := n10_; have NB102_124 := n11_; have NB124_102 := n12_; have NB106_124 := n13_; have NB124_106 := n14_; have NB112_124 := n15_; have NB124_112 := n16_; have NB116_124 := n17_; have NB124_116 := n18_; clear n0_ n1_ n2_ n3_ n4_ n5_ n6_ n7_ n8_ n9_ n10_ n11_ n12_ n13_ n14_ n15_ n16_ n17_ n18_; clear hb hbox hg; have hnb225 := NB124_101.out; have hnc225 := NB101_124.out; have hnb226 := NB124_102.out; have hnc226 := NB102_124.out; have hnb227 := NB124_106.out; have hnc227 := NB106_124.out; have hnb228 := NB124_112.out; have hnc228 := NB112_124.out; have hnb229 := NB124_116.out; have hnc229 := NB116_124.out; obtain ⟨hcz230_0, hcz230_1, hfz230_0, hfz230_1⟩ := cells2 BK124.out; have hnb231 := NB106_112.out; have hnc231 := NB112_106.out; have hnb232 := NB106_116.out; have hnc232 := NB116_106.out; obtain ⟨hcz233_0, hcz233_1, hfz233_0, hfz233_1⟩ := cells2 BK106.out) | ((with_reducible refine gate_callee (f := 37) rfl ?_); refine goesL_ (some 90) rfl rfl Tryd.func37 (by kernel_rfl) rfl #[.agg #[.int .u64 t121, .int .u64 t122], .agg #[.int .u64 t103, .int .u64 t104]] rfl (by (try simp only [List.map_toArray, List.map_cons, List.map_nil]); first | done | rfl | (simp only [List.length_drop, List.length_take]; rfl)) ?_; (with_reducible refine (Podd.odds_Compare.calls kj6 t121 t122 t103 t104 t125 t126 _ A69.out).mono ?_); rintro e w234 ⟨rfl, hb⟩; refine ⟨_, rfl, ?_⟩; have n0_ := Aside0.mk (blk_below (g := gb101) (o := .cells #[.int .u64 a0_0, .int .u64 a0_1] 47 (0, 0)) of_lies hb); have n1_ := Aside0.mk (blk_below (g := gb102) (o := .cells #[.int .u64 a1_0, .int .u64 a1_1] 47 (0, 0)) of_lies hb); have n2_ := Aside0.mk (blk_below (g := gb106) (o := .cells #[.int .u64 t103, .int .u64 t104] 47 (0, 0)) of_lies hb); have n3_ := Aside0.mk (blk_below (g := gb112) (o := .cells #[.int .u64 t109, .int .u64 t110] 47 (0, 0)) of_lies hb); have n4_ := Aside0.mk (blk_below (g := gb116) (o := .cells #[.int .u64 t113, .int .u64 t114] 47 (0, 0)) of_lies hb); have n5_ := Aside0.mk (blk_below (g := gb124) (o := .cells #[.int .u64 t121, .int .u64 t122] 47 (0, 0)) of_lies hb); have n6_ := Aside0.mk (below_step (low HB) hb); clear BK101; clear BK102; clear BK106; clear BK112; clear BK116; clear BK124; clear HB; have BK101 := n0_; have BK102 := n1_; have BK106 := n2_; have BK112 := n3_; have BK116 := n4_; have BK124 := n5_; have HB := n6_; clear n0_ n1_ n2_ n3_ n4_ n5_ n6_; (try clear hb); (try clear hb2); (try clear hk); (try clear hi); obtain ⟨hcz235_0, hcz235_1, hfz235_0, hfz235_1⟩ := cells2 BK102.out; obtain ⟨hcz236_0, hcz236_1, hfz236_0, hfz236_1⟩ := cells2 BK101.out) | ((with_reducible refine gate_callee (f := 37) rfl ?_); refine goesL_ (some 96) rfl rfl Tryd.func37 (by kernel_rfl) rfl #[.agg #[.int .u64 a1_0, .int .u64 a1_1], .agg #[.int .u64 a0_0, .int .u64 a0_1]] rfl (by (try simp only [List.map_toArray, List.map_cons, List.map_nil]); first | done | rfl | (simp only [List.length_drop, List.length_take]; rfl)) ?_; (with_reducible refine (Podd.odds_Compare.calls kj6 a1_0 a1_1 a0_0 a0_1 t127 t128 _ A70.out).mono ?_); rintro e w237 ⟨rfl, hb⟩; refine ⟨_, rfl, ?_⟩; have n0_ := Aside0.mk (blk_below (g := gb101) (o := .cells #[.int .u64 a0_0, .int .u64 a0_1] 47 (0, 0)) of_lies hb); have n1_ := Aside0.mk (blk_below (g := gb102) (o := .cells #[.int .u64 a1_0, .int .u64 a1_1] 47 (0, 0)) of_lies hb); have n2_ := Aside0.mk (blk_below (g := gb106) (o := .cells #[.int .u64 t103, .int .u64 t104] 47 (0, 0)) of_lies hb); have n3_ := Aside0.mk (blk_below (g := gb112) (o := .cells #[.int .u64 t109, .int .u64 t110] 47 (0, 0)) of_lies hb); have n4_ := Aside0.mk (blk_below (g := gb116) (o := .cells #[.int .u64 t113, .int .u64 t114] 47 (0, 0)) of_lies hb); have n5_ := Aside0.mk (blk_below (g := gb124) (o := .cells #[.int .u64 t121, .int .u64 t122] 47 (0, 0)) of_lies hb); have n6_ := Aside0.mk (below_step (low HB) hb); clear BK101; clear BK102; clear BK106; clear BK112; clear BK116; clear BK124; clear HB; have BK101 := n0_; have BK102 := n1_; have BK106 := n2_; have BK112 := n3_; have BK116 := n4_; have BK124 := n5_; have HB := n6_; clear n0_ n1_ n2_ n3_ n4_ n5_ n6_; (try clear hb); (try clear hb2); (try clear hk); (try clear hi)))
       go_ret
       exact ⟨by first | rfl | (simp [errW_none, errW_some] <;> rfl) | (simp [*, errW_none, errW_some] <;> rfl), low HB⟩
     ·
      rw [if_neg c67] at H
      have c67b0 : (t118 == 0) = false := beq_eq_false_iff_ne.mpr c67
      have c67b1 : (t118 != 0) = true := bne_iff_ne.mpr c67
      replace H := Option.bind_eq_some_iff.mp H
      obtain ⟨t119, A2380, H⟩ := H
      replace H : (if t119 = true then (some false) else (if t117 = 0 then ((Podd.lives.f).bind fun t120 => (some t120)) else (some false))) = some r := H
      have A238 := Aside0.mk A2380
      clear A2380
      by_cases c239 : t119 = true
      ·
       subst c239
       have H1 : (some false) = some r := by rw [if_pos rfl] at H; exact H
       clear H
       have H := H1
       clear H1
       obtain rfl := Option.some.inj H
       have hnb240 := NB101_102.out
       have hnc240 := NB102_101.out
       have hnb241 := NB101_106.out
       have hnc241 := NB106_101.out
       have hnb242 := NB101_112.out
       have hnc242 := NB112_101.out
       have hnb243 := NB101_116.out
       have hnc243 := NB116_101.out
       have hcz244_0 : wc.cell? ⟨gb101, 0, none⟩ = some (.int .u64 a0_0) := (blk_cell BK101.out 0).trans rfl
       have hcz244_1 : wc.cell? ⟨gb101, 1, none⟩ = some (.int .u64 a0_1) := (blk_cell BK101.out 1).trans rfl
       have hfz244_0 := blk_frozen BK101.out 0
       have hfz244_1 := blk_frozen BK101.out 1
       have hnb245 := NB102_106.out
       have hnc245 := NB106_102.out
       have hnb246 := NB102_112.out
       have hnc246 := NB112_102.out
       have hnb247 := NB102_116.out
       have hnc247 := NB116_102.out
       have hcz248_0 : wc.cell? ⟨gb102, 0, none⟩ = some (.int .u64 a1_0) := (blk_cell BK102.out 0).trans rfl
       have hcz248_1 : wc.cell? ⟨gb102, 1, none⟩ = some (.int .u64 a1_1) := (blk_cell BK102.out 1).trans rfl
       have hfz248_0 := blk_frozen BK102.out 0
       have hfz248_1 := blk_frozen BK102.out 1
       go_wp2_with (first | ((with_reducible refine gate_callee (f := 37) rfl ?_); refine goesL_ (some 67) rfl rfl Tryd.func37 (by kernel_rfl) rfl #[.agg #[.int .u64 a0_0, .int .u64 a0_1], .agg #[.int .u64 a1_0, .int .u64 a1_1]] rfl (by (try simp only [List.map_toArray, List.map_cons, List.map_nil]); first | done | rfl | (simp only [List.length_drop, List.length_take]; rfl)) ?_; (with_reducible refine (Podd.odds_Compare.calls kj6 a0_0 a0_1 a1_0 a1_1 t117 t118 _ A66.out).mono ?_); rintro e w249 ⟨rfl, hb⟩; refine ⟨_, rfl, ?_⟩; have n0_ := Aside0.mk (blk_below (g := gb101) (o := .cells #[.int .u64 a0_0, .int .u64 a0_1] 47 (0, 0)) of_lies hb); have n1_ := Aside0.mk (blk_below (g := gb102) (o := .cells #[.int .u64 a1_0, .int .u64 a1_1] 47 (0, 0)) of_lies hb); have n2_ := Aside0.mk (blk_below (g := gb106) (o := .cells #[.int .u64 t103, .int .u64 t104] 47 (0, 0)) of_lies hb); have n3_ := Aside0.mk (blk_below (g := gb112) (o := .cells #[.int .u64 t109, .int .u64 t110] 47 (0, 0)) of_lies hb); have n4_ := Aside0.mk (blk_below (g := gb116) (o := .cells #[.int .u64 t113, .int .u64 t114] 47 (0, 0)) of_lies hb); have n5_ := Aside0.mk (below_step (low HB) hb); clear BK101; clear BK102; clear BK106; clear BK112; clear BK116; clear HB; have BK101 := n0_; have BK102 := n1_; have BK106 := n2_; have BK112 := n3_; have BK116 := n4_; have HB := n5_; clear n0_ n1_ n2_ n3_ n4_ n5_; (try clear hb); (try clear hb2); (try clear hk); (try clear hi); obtain ⟨hcz250_0, hcz250_1, hfz250_0, hfz250_1⟩ := cells2 BK102.out) | ((with_reducible refine gate_callee (f := 38) rfl ?_); refine goesL_ (some 73) rfl rfl Tryd.func38 (by kernel_rfl) rfl #[.agg #[.int .u64 a1_0, .int .u64 a1_1]] rfl (by (try simp only [List.map_toArray, List.map_cons, List.map_nil]); first | done | rfl | (simp only [List.length_drop, List.length_take]; rfl)) ?_; (with_reducible refine (Podd.odds_May.calls kj6 a1_0 a1_1 true _ A238.out).mono ?_); rintro e w251 ⟨rfl, hb⟩; refine ⟨_, rfl, ?_⟩; have n0_ := Aside0.mk (blk_below (g := gb101) (o := .cells #[.int .u64 a0_0, .int .u64 a0_1] 47 (0, 0)) of_lies hb); have n1_ := Aside0.mk (blk_below (g := gb102) (o := .cells #[.int .u64 a1_0, .int .u64 a1_1] 47 (0, 0)) of_lies hb); have n2_ := Aside0.mk (blk_below (g := gb106) (o := .cells #[.int .u64 t103, .int .u64 t104] 47 (0, 0)) of_lies hb); have n3_ := Aside0.mk (blk_below (g := gb112) (o := .cells #[.int .u64 t109, .int .u64 t110] 47 (0, 0)) of_lies hb); have n4_ := Aside0.mk (blk_below (g := gb116) (o := .cells #[.int .u64 t113, .int .u64 t114] 47 (0, 0)) of_lies hb); have n5_ := Aside0.mk (below_step (low HB) hb); clear BK101; clear BK102; clear BK106; clear BK112; clear BK116; clear HB; have BK101 := n0_; have BK102 := n1_; have BK106 := n2_; have BK112 := n3_; have BK116 := n4_; have HB := n5_; clear n0_ n1_ n2_ n3_ n4_ n5_; (try clear hb); (try clear hb2); (try clear hk); (try clear hi)))
       go_ret
       exact ⟨by first | rfl | (simp [errW_none, errW_some] <;> rfl) | (simp [*, errW_none, errW_some] <;> rfl), low HB⟩
      ·
       replace c239 := Bool.eq_false_iff.mpr c239
       subst c239
       have H1 : (if t117 = 0 then ((Podd.lives.f).bind fun t120 => (some t120)) else (some false)) = some r := by rw [if_neg (show ¬ (false = true) by decide)] at H; exact H
       clear H
       have H := H1
       clear H1
       by_cases c252 : t117 = 0
       ·
        rw [if_pos c252] at H
        have c252b0 : (t117 == 0) = true := beq_iff_eq.mpr c252
        have c252b1 : (t117 != 0) = false := bne_eq_false_iff_eq.mpr c252
        clear c252
        replace H := Option.bind_eq_some_iff.mp H
        obtain ⟨t120, A2530, H⟩ := H
        replace H : (some t120) = some r := H
        have A253 := Aside0.mk A2530
        clear A2530
        obtain rfl := Option.some.inj H
        have hnb254 := NB101_102.out
        have hnc254 := NB102_101.out
        have hnb255 := NB101_106.out
        have hnc255 := NB106_101.out
        have hnb256 := NB101_112.out
        have hnc256 := NB112_101.out
        have hnb257 := NB101_116.out
        have hnc257 := NB116_101.out
        have hcz258_0 : wc.cell? ⟨gb101, 0, none⟩ = some (.int .u64 a0_0) := (blk_cell BK101.out 0).trans rfl
        have hcz258_1 : wc.cell? ⟨gb101, 1, none⟩ = some (.int .u64 a0_1) := (blk_cell BK101.out 1).trans rfl
        have hfz258_0 := blk_frozen BK101.out 0
        have hfz258_1 := blk_frozen BK101.out 1
        have hnb259 := NB102_106.out
        have hnc259 := NB106_102.out
        have hnb260 := NB102_112.out
        have hnc260 := NB112_102.out
        have hnb261 := NB102_116.out
        have hnc261 := NB116_102.out
        have hcz262_0 : wc.cell? ⟨gb102, 0, none⟩ = some (.int .u64 a1_0) := (blk_cell BK102.out 0).trans rfl
        have hcz262_1 : wc.cell? ⟨gb102, 1, none⟩ = some (.int .u64 a1_1) := (blk_cell BK102.out 1).trans rfl
        have hfz262_0 := blk_frozen BK102.out 0
        have hfz262_1 := blk_frozen BK102.out 1
        go_wp2_with (first | ((with_reducible refine gate_callee (f := 37) rfl ?_); refine goesL_ (some 67) rfl rfl Tryd.func37 (by kernel_rfl) rfl #[.agg #[.int .u64 a0_0, .int .u64 a0_1], .agg #[.int .u64 a1_0, .int .u64 a1_1]] rfl (by (try simp only [List.map_toArray, List.map_cons, List.map_nil]); first | done | rfl | (simp only [List.length_drop, List.length_take]; rfl)) ?_; (with_reducible refine (Podd.odds_Compare.calls kj6 a0_0 a0_1 a1_0 a1_1 t117 t118 _ A66.out).mono ?_); rintro e w263 ⟨rfl, hb⟩; refine ⟨_, rfl, ?_⟩; have n0_ := Aside0.mk (blk_below (g := gb101) (o := .cells #[.int .u64 a0_0, .int .u64 a0_1] 47 (0, 0)) of_lies hb); have n1_ := Aside0.mk (blk_below (g := gb102) (o := .cells #[.int .u64 a1_0, .int .u64 a1_1] 47 (0, 0)) of_lies hb); have n2_ := Aside0.mk (blk_below (g := gb106) (o := .cells #[.int .u64 t103, .int .u64 t104] 47 (0, 0)) of_lies hb); have n3_ := Aside0.mk (blk_below (g := gb112) (o := .cells #[.int .u64 t109, .int .u64 t110] 47 (0, 0)) of_lies hb); have n4_ := Aside0.mk (blk_below (g := gb116) (o := .cells #[.int .u64 t113, .int .u64 t114] 47 (0, 0)) of_lies hb); have n5_ := Aside0.mk (below_step (low HB) hb); clear BK101; clear BK102; clear BK106; clear BK112; clear BK116; clear HB; have BK101 := n0_; have BK102 := n1_; have BK106 := n2_; have BK112 := n3_; have BK116 := n4_; have HB := n5_; clear n0_ n1_ n2_ n3_ n4_ n5_; (try clear hb); (try clear hb2); (try clear hk); (try clear hi); obtain ⟨hcz264_0, hcz264_1, hfz264_0, hfz264_1⟩ := cells2 BK102.out) | ((with_reducible refine gate_callee (f := 38) rfl ?_); refine goesL_ (some 73) rfl rfl Tryd.func38 (by kernel_rfl) rfl #[.agg #[.int .u64 a1_0, .int .u64 a1_1]] rfl (by (try simp only [List.map_toArray, List.map_cons, List.map_nil]); first | done | rfl | (simp only [List.length_drop, List.length_take]; rfl)) ?_; (with_reducible refine (Podd.odds_May.calls kj6 a1_0 a1_1 false _ A238.out).mono ?_); rintro e w265 ⟨rfl, hb⟩; refine ⟨_, rfl, ?_⟩; have n0_ := Aside0.mk (blk_below (g := gb101) (o := .cells #[.int .u64 a0_0, .int .u64 a0_1] 47 (0, 0)) of_lies hb); have n1_ := Aside0.mk (blk_below (g := gb102) (o := .cells #[.int .u64 a1_0, .int .u64 a1_1] 47 (0, 0)) of_lies hb); have n2_ := Aside0.mk (blk_below (g := gb106) (o := .cells #[.int .u64 t103, .int .u64 t104] 47 (0, 0)) of_lies hb); have n3_ := Aside0.mk (blk_below (g := gb112) (o := .cells #[.int .u64 t109, .int .u64 t110] 47 (0, 0)) of_lies hb); have n4_ := Aside0.mk (blk_below (g := gb116) (o := .cells #[.int .u64 t113, .int .u64 t114] 47 (0, 0)) of_lies hb); have n5_ := Aside0.mk (below_step (low HB) hb); clear BK101; clear BK102; clear BK106; clear BK112; clear BK116; clear HB; have BK101 := n0_; have BK102 := n1_; have BK106 := n2_; have BK112 := n3_; have BK116 := n4_; have HB := n5_; clear n0_ n1_ n2_ n3_ n4_ n5_; (try clear hb); (try clear hb2); (try clear hk); (try clear hi)) | (go_at_call 34; (with_reducible refine (Podd.lives.calls  t120 _ ?side1 A253.out).mono ?_); (case side1 => repeat (first | exact (GoodW.below HGW.out (low HB)) | (with_reducible refine GoodW.alloc ?_ _) | (with_reducible refine GoodW.drewN ?_ _) | (with_reducible refine GoodW.drew ?_))); rintro e w266 ⟨rfl, hb⟩; have n0_ := Aside0.mk (blk_below (g := gb101) (o := .cells #[.int .u64 a0_0, .int .u64 a0_1] 47 (0, 0)) of_lies hb); have n1_ := Aside0.mk (blk_below (g := gb102) (o := .cells #[.int .u64 a1_0, .int .u64 a1_1] 47 (0, 0)) of_lies hb); have n2_ := Aside0.mk (blk_below (g := gb106) (o := .cells #[.int .u64 t103, .int .u64 t104] 47 (0, 0)) of_lies hb); have n3_ := Aside0.mk (blk_below (g := gb112) (o := .cells #[.int .u64 t109, .int .u64 t110] 47 (0, 0)) of_lies hb); have n4_ := Aside0.mk (blk_below (g := gb116) (o := .cells #[.int .u64 t113, .int .u64 t114] 47 (0, 0)) of_lies hb); have n5_ := Aside0.mk (below_step (low HB) hb); clear BK101; clear BK102; clear BK106; clear BK112; clear BK116; clear HB; have BK101 := n0_; have BK102 := n1_; have BK106 := n2_; have BK112 := n3_; have BK116 := n4_; have HB := n5_; clear n0_ n1_ n2_ n3_ n4_ n5_; (try clear hb); (try clear hb2); (try clear hk); (try clear hi)))
        go_ret
        exact ⟨by first | rfl | (simp [errW_none, errW_some] <;> rfl) | (simp [*, errW_none, errW_some] <;> rfl), low HB⟩
       ·
        rw [if_neg c252] at H
        have c252b0 : (t117 == 0) = false := beq_eq_false_iff_ne.mpr c252
        have c252b1 : (t117 != 0) = true := bne_iff_ne.mpr c252
        obtain rfl := Option.some.inj H
        have hnb267 := NB101_102.out
        have hnc267 := NB102_101.out
        have hnb268 := NB101_106.out
        have hnc268 := NB106_101.out
        have hnb269 := NB101_112.out
        have hnc269 := NB112_101.out
        have hnb270 := NB101_116.out
        have hnc270 := NB116_101.out
        have hcz271_0 : wc.cell? ⟨gb101, 0, none⟩ = some (.int .u64 a0_0) := (blk_cell BK101.out 0).trans rfl
        have hcz271_1 : wc.cell? ⟨gb101, 1, none⟩ = some (.int .u64 a0_1) := (blk_cell BK101.out 1).trans rfl
        have hfz271_0 := blk_frozen BK101.out 0
        have hfz271_1 := blk_frozen BK101.out 1
        have hnb272 := NB102_106.out
        have hnc272 := NB106_102.out
        have hnb273 := NB102_112.out
        have hnc273 := NB112_102.out
        have hnb274 := NB102_116.out
        have hnc274 := NB116_102.out
        have hcz275_0 : wc.cell? ⟨gb102, 0, none⟩ = some (.int .u64 a1_0) := (blk_cell BK102.out 0).trans rfl
        have hcz275_1 : wc.cell? ⟨gb102, 1, none⟩ = some (.int .u64 a1_1) := (blk_cell BK102.out 1).trans rfl
        have hfz275_0 := blk_frozen BK102.out 0
        have hfz275_1 := blk_frozen BK102.out 1
        go_wp2_with (first | ((with_reducible refine gate_callee (f := 37) rfl ?_); refine goesL_ (some 67) rfl rfl Tryd.func37 (by kernel_rfl) rfl #[.agg #[.int .u64 a0_0, .int .u64 a0_1], .agg #[.int .u64 a1_0, .int .u64 a1_1]] rfl (by (try simp only [List.map_toArray, List.map_cons, List.map_nil]); first | done | rfl | (simp only [List.length_drop, List.length_take]; rfl)) ?_; (with_reducible refine (Podd.odds_Compare.calls kj6 a0_0 a0_1 a1_0 a1_1 t117 t118 _ A66.out).mono ?_); rintro e w276 ⟨rfl, hb⟩; refine ⟨_, rfl, ?_⟩; have n0_ := Aside0.mk (blk_below (g := gb101) (o := .cells #[.int .u64 a0_0, .int .u64 a0_1] 47 (0, 0)) of_lies hb); have n1_ := Aside0.mk (blk_below (g := gb102) (o := .cells #[.int .u64 a1_0, .int .u64 a1_1] 47 (0, 0)) of_lies hb); have n2_ := Aside0.mk (blk_below (g := gb106) (o := .cells #[.int .u64 t103, .int .u64 t104] 47 (0, 0)) of_lies hb); have n3_ := Aside0.mk (blk_below (g := gb112) (o := .cells #[.int .u64 t109, .int .u64 t110] 47 (0, 0)) of_lies hb); have n4_ := Aside0.mk (blk_below (g := gb116) (o := .cells #[.int .u64 t113, .int .u64 t114] 47 (0, 0)) of_lies hb); have n5_ := Aside0.mk (below_step (low HB) hb); clear BK101; clear BK102; clear BK106; clear BK112; clear BK116; clear HB; have BK101 := n0_; have BK102 := n1_; have BK106 := n2_; have BK112 := n3_; have BK116 := n4_; have HB := n5_; clear n0_ n1_ n2_ n3_ n4_ n5_; (try clear hb); (try clear hb2); (try clear hk); (try clear hi); obtain ⟨hcz277_0, hcz277_1, hfz277_0, hfz277_1⟩ := cells2 BK102.out) | ((with_reducible refine gate_callee (f := 38) rfl ?_); refine goesL_ (some 73) rfl rfl Tryd.func38 (by kernel_rfl) rfl #[.agg #[.int .u64 a1_0, .int .u64 a1_1]] rfl (by (try simp only [List.map_toArray, List.map_cons, List.map_nil]); first | done | rfl | (simp only [List.length_drop, List.length_take]; rfl)) ?_; (with_reducible refine (Podd.odds_May.calls kj6 a1_0 a1_1 false _ A238.out).mono ?_); rintro e w278 ⟨rfl, hb⟩; refine ⟨_, rfl, ?_⟩; have n0_ := Aside0.mk (blk_below (g := gb101) (o := .cells #[.int .u64 a0_0, .int .u64 a0_1] 47 (0, 0)) of_lies hb); have n1_ := Aside0.mk (blk_below (g := gb102) (o := .cells #[.int .u64 a1_0, .int .u64 a1_1] 47 (0, 0)) of_lies hb); have n2_ := Aside0.mk (blk_below (g := gb106) (o := .cells #[.int .u64 t103, .int .u64 t104] 47 (0, 0)) of_lies hb); have n3_ := Aside0.mk (blk_below (g := gb112) (o := .cells #[.int .u64 t109, .int .u64 t110] 47 (0, 0)) of_lies hb); have n4_ := Aside0.mk (blk_below (g := gb116) (o := .cells #[.int .u64 t113, .int .u64 t114] 47 (0, 0)) of_lies hb); have n5_ := Aside0.mk (below_step (low HB) hb); clear BK101; clear BK102; clear BK106; clear BK112; clear BK116; clear HB; have BK101 := n0_; have BK102 := n1_; have BK106 := n2_; have BK112 := n3_; have BK116 := n4_; have HB := n5_; clear n0_ n1_ n2_ n3_ n4_ n5_; (try clear hb); (try clear hb2); (try clear hk); (try clear hi)))
        go_ret
        exact ⟨by first | rfl | (simp [errW_none, errW_some] <;> rfl) | (simp [*, errW_none, errW_some] <;> rfl), low HB⟩
 ·
  rw [if_neg c4] at H
  have c4b0 : (t105 == 0) = false := beq_eq_false_iff_ne.mpr c4
  have c4b1 : (t105 != 0) = true := bne_iff_ne.mpr c4
  replace H := Option.bind_eq_some_iff.mp H
  obtain ⟨t107, A2790, H⟩ := H
  replace H : (if t107 = true then (some false) else (if (t103 == 0 && (t104 == 0)) = true then ((Podd.lives.f).bind fun t108 => (some t108)) else (some false))) = some r := H
  have A279 := Aside0.mk A2790
  clear A2790
  by_cases c280 : t107 = true
  ·
   subst c280
   have H1 : (some false) = some r := by rw [if_pos rfl] at H; exact H
   clear H
   have H := H1
   clear H1
   obtain rfl := Option.some.inj H
   go_enter Tryd.func12, Tryd.ntmps12
   go_wp2_with (first | ((with_reducible refine gate_dst (N := 2) rfl ?_); refine box_event ?hg (N := 2) ?hd (cs := #[.int .u64 a0_0, .int .u64 a0_1]) (t := 47) ?hr ?_; (case hd => rfl); (case hg => rfl); (case hr => first | (go_simp; done) | (go_simp; rfl)); intro gb101 hg w281 hbox hb; have n0_ := Aside0.mk (below_step (low HB) hb); have n1_ := Aside0.mk (hbox); have n2_ := Aside0.mk ((by rw [hg]; exact (below_size (low HB)) : w.heap.size ≤ gb101)); have n3_ := Aside0.mk ((by rw [hg]; exact (below_size (low HB)) : w.heap.size ≤ gb101)); clear HB; have HB := n0_; have BK101 := n1_; have GW101 := n2_; have GE101 := n3_; clear n0_ n1_ n2_ n3_; clear hb hbox hg) | ((with_reducible refine gate_dst (N := 3) rfl ?_); refine box_event ?hg (N := 3) ?hd (cs := #[.int .u64 a1_0, .int .u64 a1_1]) (t := 47) ?hr ?_; (case hd => rfl); (case hg => rfl); (case hr => first | (go_simp; done) | (go_simp; rfl)); intro gb102 hg w282 hbox hb; have n0_ := Aside0.mk (blk_below (g := gb101) (o := .cells #[.int .u64 a0_0, .int .u64 a0_1] 47 (0, 0)) of_lies hb); have n1_ := Aside0.mk (below_step (low HB) hb); have n2_ := Aside0.mk (hbox); have n3_ := Aside0.mk ((by rw [hg]; exact (below_size (low HB)) : w.heap.size ≤ gb102)); have n4_ := Aside0.mk ((by rw [hg]; exact (below_size (low HB)) : w.heap.size ≤ gb102)); have n5_ := Aside0.mk ((by rw [hg]; exact Nat.ne_of_lt (blk_lt (g := gb101) (o := .cells #[.int .u64 a0_0, .int .u64 a0_1] 47 (0, 0)) of_lies) : gb101 ≠ gb102)); have n6_ := Aside0.mk ((by rw [hg]; exact Nat.ne_of_gt (blk_lt (g := gb101) (o := .cells #[.int .u64 a0_0, .int .u64 a0_1] 47 (0, 0)) of_lies) : gb102 ≠ gb101)); clear BK101; clear HB; have BK101 := n0_; have HB := n1_; have BK102 := n2_; have GW102 := n3_; have GE102 := n4_; have NB101_102 := n5_; have NB102_101 := n6_; clear n0_ n1_ n2_ n3_ n4_ n5_ n6_; clear hb hbox hg; have hnb283 := NB101_102.out; have hnc283 := NB102_101.out; obtain ⟨hcz284_0, hcz284_1, hfz284_0, hfz284_1⟩ := cells2 BK101.out) | ((with_reducible refine gate_callee (f := 44) rfl ?_); refine goesL_ (some 21) rfl rfl Tryd.func44 (by kernel_rfl) rfl #[.agg #[.int .u64 a0_0, .int .u64 a0_1]] rfl (by (try simp only [List.map_toArray, List.map_cons, List.map_nil]); first | done | rfl | (simp only [List.length_drop, List.length_take]; rfl)) ?_; (with_reducible refine (Podd.odds_Not.calls k a0_0 a0_1 t103 t104 t105 _ A3.out).mono ?_); rintro e w285 ⟨rfl, hb⟩; refine ⟨_, rfl, ?_⟩; have n0_ := Aside0.mk (blk_below (g := gb101) (o := .cells #[.int .u64 a0_0, .int .u64 a0_1] 47 (0, 0)) of_lies hb); have n1_ := Aside0.mk (blk_below (g := gb102) (o := .cells #[.int .u64 a1_0, .int .u64 a1_1] 47 (0, 0)) of_lies hb); have n2_ := Aside0.mk (below_step (low HB) hb); clear BK101; clear BK102; clear HB; have BK101 := n0_; have BK102 := n1_; have HB := n2_; clear n0_ n1_ n2_; (try clear hb); (try clear hb2); (try clear hk); (try clear hi)) | ((with_reducible refine gate_dst (N := 5) rfl ?_); refine box_event ?hg (N := 5) ?hd (cs := #[.int .u64 0, .int .u64 0]) (t := 47) ?hr ?_; (case hd => rfl); (case hg => rfl); (case hr => first | (go_simp; done) | (go_simp; rfl)); intro gb106 hg w286 hbox hb; have n0_ := Aside0.mk (blk_below (g := gb101) (o := .cells #[.int .u64 a0_0, .int .u64 a0_1] 47 (0, 0)) of_lies hb); have n1_ := Aside0.mk (blk_below (g := gb102) (o := .cells #[.int .u64 a1_0, .int .u64 a1_1] 47 (0, 0)) of_lies hb); have n2_ := Aside0.mk (below_step (low HB) hb); have n3_ := Aside0.mk (hbox); have n4_ := Aside0.mk ((by rw [hg]; exact (below_size (low HB)) : w.heap.size ≤ gb106)); have n5_ := Aside0.mk ((by rw [hg]; exact (below_size (low HB)) : w.heap.size ≤ gb106)); have n6_ := Aside0.mk ((by rw [hg]; exact Nat.ne_of_lt (blk_lt (g := gb101) (o := .cells #[.int .u64 a0_0, .int .u64 a0_1] 47 (0, 0)) of_lies) : gb101 ≠ gb106)); have n7_ := Aside0.mk ((by rw [hg]; exact Nat.ne_of_gt (blk_lt (g := gb101) (o := .cells #[.int .u64 a0_0, .int .u64 a0_1] 47 (0, 0)) of_lies) : gb106 ≠ gb101)); have n8_ := Aside0.mk ((by rw [hg]; exact Nat.ne_of_lt (blk_lt (g := gb102) (o := .cells #[.int .u64 a1_0, .int .u64 a1_1] 47 (0, 0)) of_lies) : gb102 ≠ gb106)); have n9_ := Aside0.mk ((by rw [hg]; exact Nat.ne_of_gt (blk_lt (g := gb102) (o := .cells #[.int .u64 a1_0, .int .u64 a1_1] 47 (0, 0)) of_lies) : gb106 ≠ gb102)); clear BK101; clear BK102; clear HB; have BK101 := n0_; have BK102 := n1_; have HB := n2_; have BK106 := n3_; have GW106 := n4_; have GE106 := n5_; have NB101_106 := n6_; have NB106_101 := n7_; have NB102_106 := n8_; have NB106_102 := n9_; clear n0_ n1_ n2_ n3_ n4_ n5_ n6_ n7_ n8_ n9_; clear hb hbox hg; have hnb287 := NB106_101.out; have hnc287 := NB101_106.out; have hnb288 := NB106_102.out; have hnc288 := NB102_106.out; obtain ⟨hcz289_0, hcz289_1, hfz289_0, hfz289_1⟩ := cells2 BK106.out; obtain ⟨hcz290_0, hcz290_1, hfz290_0, hfz290_1⟩ := cells2 BK101.out) | ((with_reducible refine gate_callee (f := 38) rfl ?_); refine goesL_ (some 27) rfl rfl Tryd.func38 (by kernel_rfl) rfl #[.agg #[.int .u64 a0_0, .int .u64 a0_1]] rfl (by (try simp only [List.map_toArray, List.map_cons, List.map_nil]); first | done | rfl | (simp only [List.length_drop, List.length_take]; rfl)) ?_; (with_reducible refine (Podd.odds_May.calls k a0_0 a0_1 true _ A279.out).mono ?_); rintro e w291 ⟨rfl, hb⟩; refine ⟨_, rfl, ?_⟩; have n0_ := Aside0.mk (blk_below (g := gb101) (o := .cells #[.int .u64 a0_0, .int .u64 a0_1] 47 (0, 0)) of_lies hb); have n1_ := Aside0.mk (blk_below (g := gb102) (o := .cells #[.int .u64 a1_0, .int .u64 a1_1] 47 (0, 0)) of_lies hb); have n2_ := Aside0.mk (blk_below (g := gb106) (o := .cells #[.int .u64 t103, .int .u64 t104] 47 (0, 0)) of_lies hb); have n3_ := Aside0.mk (below_step (low HB) hb); clear BK101; clear BK102; clear BK106; clear HB; have BK101 := n0_; have BK102 := n1_; have BK106 := n2_; have HB := n3_; clear n0_ n1_ n2_ n3_; (try clear hb); (try clear hb2); (try clear hk); (try clear hi)))
   go_ret
   exact ⟨by first | rfl | (simp [errW_none, errW_some] <;> rfl) | (simp [*, errW_none, errW_some] <;> rfl), low HB⟩
  ·
   replace c280 := Bool.eq_false_iff.mpr c280
   subst c280
   have H1 : (if (t103 == 0 && (t104 == 0)) = true then ((Podd.lives.f).bind fun t108 => (some t108)) else (some false)) = some r := by rw [if_neg (show ¬ (false = true) by decide)] at H; exact H
   clear H
   have H := H1
   clear H1
   by_cases c292 : (t103 == 0 && (t104 == 0)) = true
   ·
    rw [if_pos c292] at H
    have c292b0 : (t103 == 0 && (t104 == 0)) = true := c292
    (try (have c292b1 : decide (t103 = 0 && (t104 == 0)) = true := by simpa using c292))
    (try (have c292b2 : (t103 == 0 && (t104 == 0)) = true := by simpa using c292))
    clear c292
    replace H := Option.bind_eq_some_iff.mp H
    obtain ⟨t108, A2930, H⟩ := H
    replace H : (some t108) = some r := H
    have A293 := Aside0.mk A2930
    clear A2930
    obtain rfl := Option.some.inj H
    go_enter Tryd.func12, Tryd.ntmps12
    go_wp2_with (first | ((with_reducible refine gate_dst (N := 2) rfl ?_); refine box_event ?hg (N := 2) ?hd (cs := #[.int .u64 a0_0, .int .u64 a0_1]) (t := 47) ?hr ?_; (case hd => rfl); (case hg => rfl); (case hr => first | (go_simp; done) | (go_simp; rfl)); intro gb101 hg w294 hbox hb; have n0_ := Aside0.mk (below_step (low HB) hb); have n1_ := Aside0.mk (hbox); have n2_ := Aside0.mk ((by rw [hg]; exact (below_size (low HB)) : w.heap.size ≤ gb101)); have n3_ := Aside0.mk ((by rw [hg]; exact (below_size (low HB)) : w.heap.size ≤ gb101)); clear HB; have HB := n0_; have BK101 := n1_; have GW101 := n2_; have GE101 := n3_; clear n0_ n1_ n2_ n3_; clear hb hbox hg) | ((with_reducible refine gate_dst (N := 3) rfl ?_); refine box_event ?hg (N := 3) ?hd (cs := #[.int .u64 a1_0, .int .u64 a1_1]) (t := 47) ?hr ?_; (case hd => rfl); (case hg => rfl); (case hr => first | (go_simp; done) | (go_simp; rfl)); intro gb102 hg w295 hbox hb; have n0_ := Aside0.mk (blk_below (g := gb101) (o := .cells #[.int .u64 a0_0, .int .u64 a0_1] 47 (0, 0)) of_lies hb); have n1_ := Aside0.mk (below_step (low HB) hb); have n2_ := Aside0.mk (hbox); have n3_ := Aside0.mk ((by rw [hg]; exact (below_size (low HB)) : w.heap.size ≤ gb102)); have n4_ := Aside0.mk ((by rw [hg]; exact (below_size (low HB)) : w.heap.size ≤ gb102)); have n5_ := Aside0.mk ((by rw [hg]; exact Nat.ne_of_lt (blk_lt (g := gb101) (o := .cells #[.int .u64 a0_0, .int .u64 a0_1] 47 (0, 0)) of_lies) : gb101 ≠ gb102)); have n6_ := Aside0.mk ((by rw [hg]; exact Nat.ne_of_gt (blk_lt (g := gb101) (o := .cells #[.int .u64 a0_0, .int .u64 a0_1] 47 (0, 0)) of_lies) : gb102 ≠ gb101)); clear BK101; clear HB; have BK101 := n0_; have HB := n1_; have BK102 := n2_; have GW102 := n3_; have GE102 := n4_; have NB101_102 := n5_; have NB102_101 := n6_; clear n0_ n1_ n2_ n3_ n4_ n5_ n6_; clear hb hbox hg; have hnb296 := NB101_102.out; have hnc296 := NB102_101.out; obtain ⟨hcz297_0, hcz297_1, hfz297_0, hfz297_1⟩ := cells2 BK101.out) | ((with_reducible refine gate_callee (f := 44) rfl ?_); refine goesL_ (some 21) rfl rfl Tryd.func44 (by kernel_rfl) rfl #[.agg #[.int .u64 a0_0, .int .u64 a0_1]] rfl (by (try simp only [List.map_toArray, List.map_cons, List.map_nil]); first | done | rfl | (simp only [List.length_drop, List.length_take]; rfl)) ?_; (with_reducible refine (Podd.odds_Not.calls k a0_0 a0_1 t103 t104 t105 _ A3.out).mono ?_); rintro e w298 ⟨rfl, hb⟩; refine ⟨_, rfl, ?_⟩; have n0_ := Aside0.mk (blk_below (g := gb101) (o := .cells #[.int .u64 a0_0, .int .u64 a0_1] 47 (0, 0)) of_lies hb); have n1_ := Aside0.mk (blk_below (g := gb102) (o := .cells #[.int .u64 a1_0, .int .u64 a1_1] 47 (0, 0)) of_lies hb); have n2_ := Aside0.mk (below_step (low HB) hb); clear BK101; clear BK102; clear HB; have BK101 := n0_; have BK102 := n1_; have HB := n2_; clear n0_ n1_ n2_; (try clear hb); (try clear hb2); (try clear hk); (try clear hi)) | ((with_reducible refine gate_dst (N := 5) rfl ?_); refine box_event ?hg (N := 5) ?hd (cs := #[.int .u64 0, .int .u64 0]) (t := 47) ?hr ?_; (case hd => rfl); (case hg => rfl); (case hr => first | (go_simp; done) | (go_simp; rfl)); intro gb106 hg w299 hbox hb; have n0_ := Aside0.mk (blk_below (g := gb101) (o := .cells #[.int .u64 a0_0, .int .u64 a0_1] 47 (0, 0)) of_lies hb); have n1_ := Aside0.mk (blk_below (g := gb102) (o := .cells #[.int .u64 a1_0, .int .u64 a1_1] 47 (0, 0)) of_lies hb); have n2_ := Aside0.mk (below_step (low HB) hb); have n3_ := Aside0.mk (hbox); have n4_ := Aside0.mk ((by rw [hg]; exact (below_size (low HB)) : w.heap.size ≤ gb106)); have n5_ := Aside0.mk ((by rw [hg]; exact (below_size (low HB)) : w.heap.size ≤ gb106)); have n6_ := Aside0.mk ((by rw [hg]; exact Nat.ne_of_lt (blk_lt (g := gb101) (o := .cells #[.int .u64 a0_0, .int .u64 a0_1] 47 (0, 0)) of_lies) : gb101 ≠ gb106)); have n7_ := Aside0.mk ((by rw [hg]; exact Nat.ne_of_gt (blk_lt (g := gb101) (o := .cells #[.int .u64 a0_0, .int .u64 a0_1] 47 (0, 0)) of_lies) : gb106 ≠ gb101)); have n8_ := Aside0.mk ((by rw [hg]; exact Nat.ne_of_lt (blk_lt (g := gb102) (o := .cells #[.int .u64 a1_0, .int .u64 a1_1] 47 (0, 0)) of_lies) : gb102 ≠ gb106)); have n9_ := Aside0.mk ((by rw [hg]; exact Nat.ne_of_gt (blk_lt (g := gb102) (o := .cells #[.int .u64 a1_0, .int .u64 a1_1] 47 (0, 0)) of_lies) : gb106 ≠ gb102)); clear BK101; clear BK102; clear HB; have BK101 := n0_; have BK102 := n1_; have HB := n2_; have BK106 := n3_; have GW106 := n4_; have GE106 := n5_; have NB101_106 := n6_; have NB106_101 := n7_; have NB102_106 := n8_; have NB106_102 := n9_; clear n0_ n1_ n2_ n3_ n4_ n5_ n6_ n7_ n8_ n9_; clear hb hbox hg; have hnb300 := NB106_101.out; have hnc300 := NB101_106.out; have hnb301 := NB106_102.out; have hnc301 := NB102_106.out; obtain ⟨hcz302_0, hcz302_1, hfz302_0, hfz302_1⟩ := cells2 BK106.out; obtain ⟨hcz303_0, hcz303_1, hfz303_0, hfz303_1⟩ := cells2 BK101.out) | ((with_reducible refine gate_callee (f := 38) rfl ?_); refine goesL_ (some 27) rfl rfl Tryd.func38 (by kernel_rfl) rfl #[.agg #[.int .u64 a0_0, .int .u64 a0_1]] rfl (by (try simp only [List.map_toArray, List.map_cons, List.map_nil]); first | done | rfl | (simp only [List.length_drop, List.length_take]; rfl)) ?_; (with_reducible refine (Podd.odds_May.calls k a0_0 a0_1 false _ A279.out).mono ?_); rintro e w304 ⟨rfl, hb⟩; refine ⟨_, rfl, ?_⟩; have n0_ := Aside0.mk (blk_below (g := gb101) (o := .cells #[.int .u64 a0_0, .int .u64 a0_1] 47 (0, 0)) of_lies hb); have n1_ := Aside0.mk (blk_below (g := gb102) (o := .cells #[.int .u64 a1_0, .int .u64 a1_1] 47 (0, 0)) of_lies hb); have n2_ := Aside0.mk (blk_below (g := gb106) (o := .cells #[.int .u64 t103, .int .u64 t104] 47 (0, 0)) of_lies hb); have n3_ := Aside0.mk (below_step (low HB) hb); clear BK101; clear BK102; clear BK106; clear HB; have BK101 := n0_; have BK102 := n1_; have BK106 := n2_; have HB := n3_; clear n0_ n1_ n2_ n3_; (try clear hb); (try clear hb2); (try clear hk); (try clear hi); obtain ⟨hcz305_0, hcz305_1, hfz305_0, hfz305_1⟩ := cells2 BK106.out) | (go_at_call 34; (with_reducible refine (Podd.lives.calls  t108 _ ?side1 A293.out).mono ?_); (case side1 => repeat (first | exact (GoodW.below HGW.out (low HB)) | (with_reducible refine GoodW.alloc ?_ _) | (with_reducible refine GoodW.drewN ?_ _) | (with_reducible refine GoodW.drew ?_))); rintro e w306 ⟨rfl, hb⟩; have n0_ := Aside0.mk (blk_below (g := gb101) (o := .cells #[.int .u64 a0_0, .int .u64 a0_1] 47 (0, 0)) of_lies hb); have n1_ := Aside0.mk (blk_below (g := gb102) (o := .cells #[.int .u64 a1_0, .int .u64 a1_1] 47 (0, 0)) of_lies hb); have n2_ := Aside0.mk (blk_below (g := gb106) (o := .cells #[.int .u64 t103, .int .u64 t104] 47 (0, 0)) of_lies hb); have n3_ := Aside0.mk (below_step (low HB) hb); clear BK101; clear BK102; clear BK106; clear HB; have BK101 := n0_; have BK102 := n1_; have BK106 := n2_; have HB := n3_; clear n0_ n1_ n2_ n3_; (try clear hb); (try clear hb2); (try clear hk); (try clear hi)))
    go_ret
    exact ⟨by first | rfl | (simp [errW_none, errW_some] <;> rfl) | (simp [*, errW_none, errW_some] <;> rfl), low HB⟩
   ·
    rw [if_neg c292] at H
    have c292b0 : (t103 == 0 && (t104 == 0)) = false := by simpa using c292
    (try (have c292b1 : decide (t103 = 0 && (t104 == 0)) = false := by simpa using c292))
    (try (have c292b2 : (t103 == 0 && (t104 == 0)) = false := by simpa using c292))
    (try (have c292b3 : ¬ (t103 = 0 && (t104 == 0)) := by simpa using c292))
    clear c292
    obtain rfl := Option.some.inj H
    go_enter Tryd.func12, Tryd.ntmps12
    go_wp2_with (first | ((with_reducible refine gate_dst (N := 2) rfl ?_); refine box_event ?hg (N := 2) ?hd (cs := #[.int .u64 a0_0, .int .u64 a0_1]) (t := 47) ?hr ?_; (case hd => rfl); (case hg => rfl); (case hr => first | (go_simp; done) | (go_simp; rfl)); intro gb101 hg w307 hbox hb; have n0_ := Aside0.mk (below_step (low HB) hb); have n1_ := Aside0.mk (hbox); have n2_ := Aside0.mk ((by rw [hg]; exact (below_size (low HB)) : w.heap.size ≤ gb101)); have n3_ := Aside0.mk ((by rw [hg]; exact (below_size (low HB)) : w.heap.size ≤ gb101)); clear HB; have HB := n0_; have BK101 := n1_; have GW101 := n2_; have GE101 := n3_; clear n0_ n1_ n2_ n3_; clear hb hbox hg) | ((with_reducible refine gate_dst (N := 3) rfl ?_); refine box_event ?hg (N := 3) ?hd (cs := #[.int .u64 a1_0, .int .u64 a1_1]) (t := 47) ?hr ?_; (case hd => rfl); (case hg => rfl); (case hr => first | (go_simp; done) | (go_simp; rfl)); intro gb102 hg w308 hbox hb; have n0_ := Aside0.mk (blk_below (g := gb101) (o := .cells #[.int .u64 a0_0, .int .u64 a0_1] 47 (0, 0)) of_lies hb); have n1_ := Aside0.mk (below_step (low HB) hb); have n2_ := Aside0.mk (hbox); have n3_ := Aside0.mk ((by rw [hg]; exact (below_size (low HB)) : w.heap.size ≤ gb102)); have n4_ := Aside0.mk ((by rw [hg]; exact (below_size (low HB)) : w.heap.size ≤ gb102)); have n5_ := Aside0.mk ((by rw [hg]; exact Nat.ne_of_lt (blk_lt (g := gb101) (o := .cells #[.int .u64 a0_0, .int .u64 a0_1] 47 (0, 0)) of_lies) : gb101 ≠ gb102)); have n6_ := Aside0.mk ((by rw [hg]; exact Nat.ne_of_gt (blk_lt (g := gb101) (o := .cells #[.int .u64 a0_0, .int .u64 a0_1] 47 (0, 0)) of_lies) : gb102 ≠ gb101)); clear BK101; clear HB; have BK101 := n0_; have HB := n1_; have BK102 := n2_; have GW102 := n3_; have GE102 := n4_; have NB101_102 := n5_; have NB102_101 := n6_; clear n0_ n1_ n2_ n3_ n4_ n5_ n6_; clear hb hbox hg; have hnb309 := NB101_102.out; have hnc309 := NB102_101.out; obtain ⟨hcz310_0, hcz310_1, hfz310_0, hfz310_1⟩ := cells2 BK101.out) | ((with_reducible refine gate_callee (f := 44) rfl ?_); refine goesL_ (some 21) rfl rfl Tryd.func44 (by kernel_rfl) rfl #[.agg #[.int .u64 a0_0, .int .u64 a0_1]] rfl (by (try simp only [List.map_toArray, List.map_cons, List.map_nil]); first | done | rfl | (simp only [List.length_drop, List.length_take]; rfl)) ?_; (with_reducible refine (Podd.odds_Not.calls k a0_0 a0_1 t103 t104 t105 _ A3.out).mono ?_); rintro e w311 ⟨rfl, hb⟩; refine ⟨_, rfl, ?_⟩; have n0_ := Aside0.mk (blk_below (g := gb101) (o := .cells #[.int .u64 a0_0, .int .u64 a0_1] 47 (0, 0)) of_lies hb); have n1_ := Aside0.mk (blk_below (g := gb102) (o := .cells #[.int .u64 a1_0, .int .u64 a1_1] 47 (0, 0)) of_lies hb); have n2_ := Aside0.mk (below_step (low HB) hb); clear BK101; clear BK102; clear HB; have BK101 := n0_; have BK102 := n1_; have HB := n2_; clear n0_ n1_ n2_; (try clear hb); (try clear hb2); (try clear hk); (try clear hi)) | ((with_reducible refine gate_dst (N := 5) rfl ?_); refine box_event ?hg (N := 5) ?hd (cs := #[.int .u64 0, .int .u64 0]) (t := 47) ?hr ?_; (case hd => rfl); (case hg => rfl); (case hr => first | (go_simp; done) | (go_simp; rfl)); intro gb106 hg w312 hbox hb; have n0_ := Aside0.mk (blk_below (g := gb101) (o := .cells #[.int .u64 a0_0, .int .u64 a0_1] 47 (0, 0)) of_lies hb); have n1_ := Aside0.mk (blk_below (g := gb102) (o := .cells #[.int .u64 a1_0, .int .u64 a1_1] 47 (0, 0)) of_lies hb); have n2_ := Aside0.mk (below_step (low HB) hb); have n3_ := Aside0.mk (hbox); have n4_ := Aside0.mk ((by rw [hg]; exact (below_size (low HB)) : w.heap.size ≤ gb106)); have n5_ := Aside0.mk ((by rw [hg]; exact (below_size (low HB)) : w.heap.size ≤ gb106)); have n6_ := Aside0.mk ((by rw [hg]; exact Nat.ne_of_lt (blk_lt (g := gb101) (o := .cells #[.int .u64 a0_0, .int .u64 a0_1] 47 (0, 0)) of_lies) : gb101 ≠ gb106)); have n7_ := Aside0.mk ((by rw [hg]; exact Nat.ne_of_gt (blk_lt (g := gb101) (o := .cells #[.int .u64 a0_0, .int .u64 a0_1] 47 (0, 0)) of_lies) : gb106 ≠ gb101)); have n8_ := Aside0.mk ((by rw [hg]; exact Nat.ne_of_lt (blk_lt (g := gb102) (o := .cells #[.int .u64 a1_0, .int .u64 a1_1] 47 (0, 0)) of_lies) : gb102 ≠ gb106)); have n9_ := Aside0.mk ((by rw [hg]; exact Nat.ne_of_gt (blk_lt (g := gb102) (o := .cells #[.int .u64 a1_0, .int .u64 a1_1] 47 (0, 0)) of_lies) : gb106 ≠ gb102)); clear BK101; clear BK102; clear HB; have BK101 := n0_; have BK102 := n1_; have HB := n2_; have BK106 := n3_; have GW106 := n4_; have GE106 := n5_; have NB101_106 := n6_; have NB106_101 := n7_; have NB102_106 := n8_; have NB106_102 := n9_; clear n0_ n1_ n2_ n3_ n4_ n5_ n6_ n7_ n8_ n9_; clear hb hbox hg; have hnb313 := NB106_101.out; have hnc313 := NB101_106.out; have hnb314 := NB106_102.out; have hnc314 := NB102_106.out; obtain ⟨hcz315_0, hcz315_1, hfz315_0, hfz315_1⟩ := cells2 BK106.out; obtain ⟨hcz316_0, hcz316_1, hfz316_0, hfz316_1⟩ := cells2 BK101.out) | ((with_reducible refine gate_callee (f := 38) rfl ?_); refine goesL_ (some 27) rfl rfl Tryd.func38 (by kernel_rfl) rfl #[.agg #[.int .u64 a0_0, .int .u64 a0_1]] rfl (by (try simp only [List.map_toArray, List.map_cons, List.map_nil]); first | done | rfl | (simp only [List.length_drop, List.length_take]; rfl)) ?_; (with_reducible refine (Podd.odds_May.calls k a0_0 a0_1 false _ A279.out).mono ?_); rintro e w317 ⟨rfl, hb⟩; refine ⟨_, rfl, ?_⟩; have n0_ := Aside0.mk (blk_below (g := gb101) (o := .cells #[.int .u64 a0_0, .int .u64 a0_1] 47 (0, 0)) of_lies hb); have n1_ := Aside0.mk (blk_below (g := gb102) (o := .cells #[.int .u64 a1_0, .int .u64 a1_1] 47 (0, 0)) of_lies hb); have n2_ := Aside0.mk (blk_below (g := gb106) (o := .cells #[.int .u64 t103, .int .u64 t104] 47 (0, 0)) of_lies hb); have n3_ := Aside0.mk (below_step (low HB) hb); clear BK101; clear BK102; clear BK106; clear HB; have BK101 := n0_; have BK102 := n1_; have BK106 := n2_; have HB := n3_; clear n0_ n1_ n2_ n3_; (try clear hb); (try clear hb2); (try clear hk); (try clear hi); obtain ⟨hcz318_0, hcz318_1, hfz318_0, hfz318_1⟩ := cells2 BK106.out))
    go_ret
    exact ⟨by first | rfl | (simp [errW_none, errW_some] <;> rfl) | (simp [*, errW_none, errW_some] <;> rfl), low HB⟩

end Go.Proofs.YtcdcpnhlmgmnkaaDoor.Podn
end
