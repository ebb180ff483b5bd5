/- Joined by a program of this session (pack.py) out of: Podux0 Podux1 Podux2 -/
import Derived.ArgAppend
import Derived.Below
import Derived.BigQuiet
import Derived.Deep.AppendLies
import Derived.Deep.CutBlock
import Derived.Deep.DeepCutAuto
import Derived.Deep.Draws
import Derived.Deep.LoopGhost
import Derived.Deep.OwnRows
import Derived.Deep.QuietTactic
import Derived.Deep.RegionHeld3
import Derived.KernelRfl
import Derived.Laws.BitsLemmas
import Derived.Laws.BytesArg
import Derived.Laws.IdiomCopy
import Derived.Laws.MakeOwn
import Derived.Laws.OwnMore
import Derived.Laws.Rows
import Derived.Laws.Slices
import Derived.Lib.AppendStr
import Derived.Lib.ConvBytes
import Derived.Maps.AppendAt
import Derived.OrdersHeld
import Derived.OwnWalk
import Derived.RowKit
import Derived.RowKit3
import Derived.Tactics
import Derived.Test.YtcdcpnhlmgmnkaaDoorProg
import Derived.WalkKit
import Derived.WideLaws
import Derived.Test.YtcdcpnhlmgmnkaaDoorKos1
import Derived.Test.YtcdcpnhlmgmnkaaDoorKos11
section
-- made for this claim by a program of this session (mkpp.py)
namespace Go.Proofs.YtcdcpnhlmgmnkaaDoor.Podu
open Go.RowKit Go.Proofs.YtcdcpnhlmgmnkaaDoor.Base Go.Proofs.YtcdcpnhlmgmnkaaDoorW.PrintWords Go.Proofs.YtcdcpnhlmgmnkaaDoorW.PrintLast Go.Proofs.YtcdcpnhlmgmnkaaDoorW.PrintMore
attribute [local go_sem] max2_int min2_int max_two min_two max_three min_three max_four min_four   -- for this text's walks alone
set_option linter.unusedVariables false
set_option linter.unusedSimpArgs false



def errW : Option Int → Value
 | none => .nilIface
 | some c => .iface 0 (.int .i64 c)
theorem errW_none : errW none = .nilIface := rfl
theorem errW_some (c : Int) : errW (some c) = .iface 0 (.int .i64 c) := rfl

-- the values' own types
/-! #### struct type 47 -/
structure S47 where
 f0 : Int
 f1 : Int
def z47 : S47 := ⟨(0 : Int), (0 : Int)⟩
def k47 : Kd S47 := Kd.iso (Kd.pair (Kd.int .u64) (Kd.int .u64)) (fun x : S47 => (x.f0, x.f1))
theorem k47_open {w : World} {x : S47} {cs : List Value} (h : k47.K w x cs) : cs = [.int .u64 x.f0, .int .u64 x.f1] := by
 obtain ⟨_, _, rfl, rfl, rfl⟩ := h
 exact rfl
theorem k47_openM {w : World} {base : Nat} {ok : Nat → Prop} {x : S47} {cs : List Value} (h : k47.M w base ok x cs) : cs = [.int .u64 x.f0, .int .u64 x.f1] := by
 obtain ⟨_, _, rfl, rfl, rfl⟩ := h
 exact rfl
theorem k47_mk (w : World) (x : S47)  : k47.K w x [.int .u64 x.f0, .int .u64 x.f1] := ⟨[.int .u64 x.f0], [.int .u64 x.f1], rfl, rfl, rfl⟩
theorem k47_mkM (w : World) (base : Nat) (ok : Nat → Prop) (x : S47)  : k47.M w base ok x [.int .u64 x.f0, .int .u64 x.f1] := ⟨[.int .u64 x.f0], [.int .u64 x.f1], rfl, rfl, rfl⟩
def rd_T47 (xs : List S47) (i : Int) : S47 := xs.getD i.toNat z47
theorem at_T47 {w : World} {A : Option Addr} {n : Nat} {xs : List S47} (h : Kd.C k47 w A n xs) (i : Int) (h0 : 0 ≤ i) (h1 : i < n) : ∃ ad , A = some ad ∧ w.cell? (ad.add (i.toNat * 2)) = some (.int .u64 (rd_T47 xs i).f0) ∧ w.cell? ⟨(ad.add (i.toNat * 2)).block, (ad.add (i.toNat * 2)).off + 1, none⟩ = some (.int .u64 (rd_T47 xs i).f1) := by
 obtain ⟨ad, c, e, _, hK, hc0⟩ := Kd.C_get h z47 i h0 h1
 have hc : ∀ j u, c[j]? = some u → w.cell? (ad.add (i.toNat * 2 + j)) = some u := hc0
 obtain rfl := k47_open hK
 exact ⟨ad, e, hc 0 _ rfl, by rw [← add_field _ _ 1 (by omega)]; exact hc 1 _ rfl⟩

end Go.Proofs.YtcdcpnhlmgmnkaaDoor.Podu
end
section
-- made for this claim by a program of this session (mkpp.py)
namespace Go.Proofs.YtcdcpnhlmgmnkaaDoor.Podu
open Go.RowKit Go.Proofs.YtcdcpnhlmgmnkaaDoor.Base Go.Proofs.YtcdcpnhlmgmnkaaDoorW.PrintWords Go.Proofs.YtcdcpnhlmgmnkaaDoorW.PrintLast Go.Proofs.YtcdcpnhlmgmnkaaDoorW.PrintMore
attribute [local go_sem] max2_int min2_int max_two min_two max_three min_three max_four min_four   -- for this text's walks alone
set_option linter.unusedVariables false
set_option linter.unusedSimpArgs false

theorem eqA47 (d : Nat) (w : World) (x0 y0 : Int) (x1 y1 : Int) :
  (Op.equalIn (d + 2) 47 (.agg #[.int .u64 x0, .int .u64 x1]) (.agg #[.int .u64 y0, .int .u64 y1])).run Tryd.prog w = .ok (x0 == y0 && (x1 == y1)) w := by
 refine eqA_of Tryd.underlying47 (by kernel_rfl) ?_
 refine eqf_cons (by rfl) (by go_simp; rfl) (by go_simp; rfl) (by go_simp) ?_
 exact eqf_last (by rfl) (by go_simp; rfl) (by go_simp; rfl) (by go_simp)
end Go.Proofs.YtcdcpnhlmgmnkaaDoor.Podu
end
section
-- made for this claim by a program of this session (mkpp.py)
namespace Go.Proofs.YtcdcpnhlmgmnkaaDoor.Podu
open Go.RowKit Go.Proofs.YtcdcpnhlmgmnkaaDoor.Base Go.Proofs.YtcdcpnhlmgmnkaaDoorW.PrintWords Go.Proofs.YtcdcpnhlmgmnkaaDoorW.PrintLast Go.Proofs.YtcdcpnhlmgmnkaaDoorW.PrintMore
attribute [local go_sem] max2_int min2_int max_two min_two max_three min_three max_four min_four   -- for this text's walks alone
set_option linter.unusedVariables false
set_option linter.unusedSimpArgs false

attribute [local go_sem high] eqA47
-- GIVEN: function 28 (Podd.odds_Exactly)

-- GIVEN: function 30 (Podd.odds_Least)

-- GIVEN: function 34 (Podd.lives)

-- GIVEN: function 36 (Pods2.odds_Sum)

/-! ### joustlaw32_OddsSums: function 9 -/
mutual
def joustlaw32_OddsSums.j0 : Nat → Int → Int → Int → Int → Bool → Int → Int → Int → Int → Option (Bool)
 | 0, _, _, _, _, _, _, _, _, _ => none
 | k + 1, x0, x1, x2, x3, x88, x105000, x105001, x115000, x115001 => if x88 = true then (some false) else (if x3 < 1048576 then ((Podd.odds_Least.f k x0 x1 x2 (wrap64 (x3 + 1))).bind fun bt119 => ((Pods2.odds_Sum.f x115000 x115001 bt119.1 bt119.2.1).bind fun bt123 => (if bt119.2.2 = 0 then (if bt123.2.2 = 0 then (if (!(bt123.1 == x105000) || (!(bt123.2.1 == x105001))) = true then (some false) else (joustlaw32_OddsSums.j1 k x0 x1 x2)) else (some false)) else (some false)))) else (joustlaw32_OddsSums.j1 k x0 x1 x2))
def joustlaw32_OddsSums.j1 : Nat → Int → Int → Int → Option (Bool)
 | 0, _, _, _ => none
 | k + 1, x0, x1, x2 => joustlaw32_OddsSums.l0 k x0 x1 x2 0 0 1
def joustlaw32_OddsSums.l0 : Nat → Int → Int → Int → Int → Int → Int → Option (Bool)
 | 0, _, _, _, _, _, _ => none
 | k + 1, x0, x1, x2, x20, x128000, x128001 => if x20 ≤ x2 then ((Podd.odds_Exactly.f k x0 x1 x2 x20).bind fun bt129 => ((Pods2.odds_Sum.f x128000 x128001 bt129.1 bt129.2.1).bind fun bt133 => (if bt129.2.2 = 0 then (if bt133.2.2 = 0 then (joustlaw32_OddsSums.l0 k x0 x1 x2 (wrap64 (x20 + 1)) bt133.1 bt133.2.1) else (some false)) else (some false)))) else (if (x128000 == 1 && (x128001 == 1)) = true then ((Podd.lives.f).bind fun t128 => (some t128)) else (some false))
end
def joustlaw32_OddsSums.f (k : Nat) (a0 : Int) (a1 : Int) (a2 : Int) (a3 : Int) : Option (Bool) := (Podd.odds_Least.f k a0 a1 a2 a3).bind fun bt101 => (if bt101.2.2 = 0 then ((Podd.odds_Exactly.f k a0 a1 a2 a3).bind fun bt111 => ((Podd.odds_Exactly.f k a0 a2 a1 a3).bind fun bt115 => (if bt111.2.2 = 0 then (if bt115.2.2 = 0 then (joustlaw32_OddsSums.j0 k a0 a1 a2 a3 (!(bt111.1 == bt115.1) || (!(bt111.2.1 == bt115.2.1))) bt101.1 bt101.2.1 bt111.1 bt111.2.1) else (joustlaw32_OddsSums.j0 k a0 a1 a2 a3 true bt101.1 bt101.2.1 bt111.1 bt111.2.1)) else (joustlaw32_OddsSums.j0 k a0 a1 a2 a3 true bt101.1 bt101.2.1 bt111.1 bt111.2.1)))) else (if a0 < 0 then ((Podd.lives.f).bind fun t105 => (some t105)) else (if a0 > 60 then ((Podd.lives.f).bind fun t106 => (some t106)) else (if a1 < 0 then ((Podd.lives.f).bind fun t107 => (some t107)) else (if a1 > a0 then ((Podd.lives.f).bind fun t108 => (some t108)) else (if a2 < 0 then ((Podd.lives.f).bind fun t109 => (some t109)) else (if a2 > a0 then ((Podd.lives.f).bind fun t110 => (some t110)) else (some false))))))))
theorem joustlaw32_OddsSums.mono_l : ∀ k, (∀ y0 y1 y2 y3 y4 y5 y6 y7 y8, LeO (joustlaw32_OddsSums.j0 k y0 y1 y2 y3 y4 y5 y6 y7 y8) (joustlaw32_OddsSums.j0 (k + 1) y0 y1 y2 y3 y4 y5 y6 y7 y8)) ∧ (∀ y0 y1 y2, LeO (joustlaw32_OddsSums.j1 k y0 y1 y2) (joustlaw32_OddsSums.j1 (k + 1) y0 y1 y2)) ∧ (∀ y0 y1 y2 y3 y4 y5, LeO (joustlaw32_OddsSums.l0 k y0 y1 y2 y3 y4 y5) (joustlaw32_OddsSums.l0 (k + 1) y0 y1 y2 y3 y4 y5))
 | 0 => ⟨fun _ _ _ _ _ _ _ _ _ r h => by simp [joustlaw32_OddsSums.j0] at h, fun _ _ _ r h => by simp [joustlaw32_OddsSums.j1] at h, fun _ _ _ _ _ _ r h => by simp [joustlaw32_OddsSums.l0] at h⟩
 | k + 1 => by
  obtain ⟨ih0, ih1, ih2⟩ := joustlaw32_OddsSums.mono_l k
  refine ⟨?_, ?_, ?_⟩
  ·
   intro y0 y1 y2 y3 y4 y5 y6 y7 y8
   unfold joustlaw32_OddsSums.j0
   repeat' first
   | (with_reducible exact ih0 _ _ _ _ _ _ _ _ _)
   | (with_reducible exact ih1 _ _ _)
   | (with_reducible exact ih2 _ _ _ _ _ _)
   | (with_reducible exact Podd.odds_Exactly.mono _ _ _ _ _)
   | (with_reducible exact Podd.odds_Least.mono _ _ _ _ _)
   | (with_reducible exact LeO.refl _)
   | (with_reducible exact LeO.none _)
   | (with_reducible refine LeO.ite ?_ ?_)
   | (with_reducible refine LeO.bind ?_ (fun _ => ?_))
   | exact ih0 _ _ _ _ _ _ _ _ _
   | exact ih1 _ _ _
   | exact ih2 _ _ _ _ _ _
   | exact Podd.odds_Exactly.mono _ _ _ _ _
   | exact Podd.odds_Least.mono _ _ _ _ _
   | exact LeO.none _
   | refine LeO.ite ?_ ?_
   | refine LeO.bind ?_ (fun _ => ?_)
  ·
   intro y0 y1 y2
   unfold joustlaw32_OddsSums.j1
   repeat' first
   | (with_reducible exact ih0 _ _ _ _ _ _ _ _ _)
   | (with_reducible exact ih1 _ _ _)
   | (with_reducible exact ih2 _ _ _ _ _ _)
   | (with_reducible exact Podd.odds_Exactly.mono _ _ _ _ _)
   | (with_reducible exact Podd.odds_Least.mono _ _ _ _ _)
   | (with_reducible exact LeO.refl _)
   | (with_reducible exact LeO.none _)
   | (with_reducible refine LeO.ite ?_ ?_)
   | (with_reducible refine LeO.bind ?_ (fun _ => ?_))
   | exact ih0 _ _ _ _ _ _ _ _ _
   | exact ih1 _ _ _
   | exact ih2 _ _ _ _ _ _
   | exact Podd.odds_Exactly.mono _ _ _ _ _
   | exact Podd.odds_Least.mono _ _ _ _ _
   | exact LeO.none _
   | refine LeO.ite ?_ ?_
   | refine LeO.bind ?_ (fun _ => ?_)
  ·
   intro y0 y1 y2 y3 y4 y5
   unfold joustlaw32_OddsSums.l0
   repeat' first
   | (with_reducible exact ih0 _ _ _ _ _ _ _ _ _)
   | (with_reducible exact ih1 _ _ _)
   | (with_reducible exact ih2 _ _ _ _ _ _)
   | (with_reducible exact Podd.odds_Exactly.mono _ _ _ _ _)
   | (with_reducible exact Podd.odds_Least.mono _ _ _ _ _)
   | (with_reducible exact LeO.refl _)
   | (with_reducible exact LeO.none _)
   | (with_reducible refine LeO.ite ?_ ?_)
   | (with_reducible refine LeO.bind ?_ (fun _ => ?_))
   | exact ih0 _ _ _ _ _ _ _ _ _
   | exact ih1 _ _ _
   | exact ih2 _ _ _ _ _ _
   | exact Podd.odds_Exactly.mono _ _ _ _ _
   | exact Podd.odds_Least.mono _ _ _ _ _
   | exact LeO.none _
   | refine LeO.ite ?_ ?_
   | refine LeO.bind ?_ (fun _ => ?_)
theorem joustlaw32_OddsSums.mono : ∀ a0 a1 a2 a3 k, LeO (joustlaw32_OddsSums.f k a0 a1 a2 a3) (joustlaw32_OddsSums.f (k + 1) a0 a1 a2 a3) := by
 intro a0 a1 a2 a3 k
 obtain ⟨ih0, ih1, ih2⟩ := joustlaw32_OddsSums.mono_l k
 unfold joustlaw32_OddsSums.f
 repeat' first
   | (with_reducible exact ih0 _ _ _ _ _ _ _ _ _)
   | (with_reducible exact ih1 _ _ _)
   | (with_reducible exact ih2 _ _ _ _ _ _)
   | (with_reducible exact Podd.odds_Exactly.mono _ _ _ _ _)
   | (with_reducible exact Podd.odds_Least.mono _ _ _ _ _)
   | (with_reducible exact LeO.refl _)
   | (with_reducible exact LeO.none _)
   | (with_reducible refine LeO.ite ?_ ?_)
   | (with_reducible refine LeO.bind ?_ (fun _ => ?_))
   | exact ih0 _ _ _ _ _ _ _ _ _
   | exact ih1 _ _ _
   | exact ih2 _ _ _ _ _ _
   | exact Podd.odds_Exactly.mono _ _ _ _ _
   | exact Podd.odds_Least.mono _ _ _ _ _
   | exact LeO.none _
   | refine LeO.ite ?_ ?_
   | refine LeO.bind ?_ (fun _ => ?_)
set_option maxHeartbeats 8000000 in
set_option maxRecDepth 100000 in
theorem joustlaw32_OddsSums.calls (k : Nat) (a0 : Int) (a1 : Int) (a2 : Int) (a3 : Int) (r : Bool) (w : World) (hg_ : GoodW w) (h : joustlaw32_OddsSums.f k a0 a1 a2 a3 = some r) :
  Calls Tryd.prog 9 #[.int .i64 a0, .int .i64 a1, .int .i64 a2, .int .i64 a3] w fun e w' => e = .returned (.bool r) ∧ Below w.heap.size w w' := by
 have hu47 := Tryd.underlying47
 have HGW := Aside0.mk hg_
 clear hg_
 have HB := Aside0.mk (Below.refl w.heap.size w)
 have H : ((Podd.odds_Least.f k a0 a1 a2 a3).bind fun bt101 => (if bt101.2.2 = 0 then ((Podd.odds_Exactly.f k a0 a1 a2 a3).bind fun bt111 => ((Podd.odds_Exactly.f k a0 a2 a1 a3).bind fun bt115 => (if bt111.2.2 = 0 then (if bt115.2.2 = 0 then (joustlaw32_OddsSums.j0 k a0 a1 a2 a3 (!(bt111.1 == bt115.1) || (!(bt111.2.1 == bt115.2.1))) bt101.1 bt101.2.1 bt111.1 bt111.2.1) else (joustlaw32_OddsSums.j0 k a0 a1 a2 a3 true bt101.1 bt101.2.1 bt111.1 bt111.2.1)) else (joustlaw32_OddsSums.j0 k a0 a1 a2 a3 true bt101.1 bt101.2.1 bt111.1 bt111.2.1)))) else (if a0 < 0 then ((Podd.lives.f).bind fun t105 => (some t105)) else (if a0 > 60 then ((Podd.lives.f).bind fun t106 => (some t106)) else (if a1 < 0 then ((Podd.lives.f).bind fun t107 => (some t107)) else (if a1 > a0 then ((Podd.lives.f).bind fun t108 => (some t108)) else (if a2 < 0 then ((Podd.lives.f).bind fun t109 => (some t109)) else (if a2 > a0 then ((Podd.lives.f).bind fun t110 => (some t110)) else (some false))))))))) = some r := h
 clear h
 replace H := Option.bind_eq_some_iff.mp H
 obtain ⟨⟨t101, t102, t103⟩, A50, H⟩ := H
 replace H : (if t103 = 0 then ((Podd.odds_Exactly.f k a0 a1 a2 a3).bind fun bt111 => ((Podd.odds_Exactly.f k a0 a2 a1 a3).bind fun bt115 => (if bt111.2.2 = 0 then (if bt115.2.2 = 0 then (joustlaw32_OddsSums.j0 k a0 a1 a2 a3 (!(bt111.1 == bt115.1) || (!(bt111.2.1 == bt115.2.1))) t101 t102 bt111.1 bt111.2.1) else (joustlaw32_OddsSums.j0 k a0 a1 a2 a3 true t101 t102 bt111.1 bt111.2.1)) else (joustlaw32_OddsSums.j0 k a0 a1 a2 a3 true t101 t102 bt111.1 bt111.2.1)))) else (if a0 < 0 then ((Podd.lives.f).bind fun t105 => (some t105)) else (if a0 > 60 then ((Podd.lives.f).bind fun t106 => (some t106)) else (if a1 < 0 then ((Podd.lives.f).bind fun t107 => (some t107)) else (if a1 > a0 then ((Podd.lives.f).bind fun t108 => (some t108)) else (if a2 < 0 then ((Podd.lives.f).bind fun t109 => (some t109)) else (if a2 > a0 then ((Podd.lives.f).bind fun t110 => (some t110)) else (some false)))))))) = some r := H
 have A5 := Aside0.mk A50
 clear A50
 by_cases c6 : t103 = 0
 ·
  rw [if_pos c6] at H
  have c6b0 : (t103 == 0) = true := beq_iff_eq.mpr c6
  have c6b1 : (t103 != 0) = false := bne_eq_false_iff_eq.mpr c6
  clear c6
  replace H := Option.bind_eq_some_iff.mp H
  obtain ⟨⟨t111, t112, t113⟩, A70, H⟩ := H
  replace H : ((Podd.odds_Exactly.f k a0 a2 a1 a3).bind fun bt115 => (if t113 = 0 then (if bt115.2.2 = 0 then (joustlaw32_OddsSums.j0 k a0 a1 a2 a3 (!(t111 == bt115.1) || (!(t112 == bt115.2.1))) t101 t102 t111 t112) else (joustlaw32_OddsSums.j0 k a0 a1 a2 a3 true t101 t102 t111 t112)) else (joustlaw32_OddsSums.j0 k a0 a1 a2 a3 true t101 t102 t111 t112))) = some r := H
  have A7 := Aside0.mk A70
  clear A70
  replace H := Option.bind_eq_some_iff.mp H
  obtain ⟨⟨t115, t116, t117⟩, A80, H⟩ := H
  replace H : (if t113 = 0 then (if t117 = 0 then (joustlaw32_OddsSums.j0 k a0 a1 a2 a3 (!(t111 == t115) || (!(t112 == t116))) t101 t102 t111 t112) else (joustlaw32_OddsSums.j0 k a0 a1 a2 a3 true t101 t102 t111 t112)) else (joustlaw32_OddsSums.j0 k a0 a1 a2 a3 true t101 t102 t111 t112)) = some r := H
  have A8 := Aside0.mk A80
  clear A80
  have HC9 := Aside0.mk H
  clear H
  go_enter Tryd.func9, Tryd.ntmps9
  go_upto_region 6 with (first | ((with_reducible refine gate_callee (f := 30) rfl ?_); refine goesL_ (some 30) rfl rfl Tryd.func30 (by kernel_rfl) rfl #[.int .i64 a0, .int .i64 a1, .int .i64 a2, .int .i64 a3] rfl (by (try simp only [List.map_toArray, List.map_cons, List.map_nil]); first | done | rfl | (simp only [List.length_drop, List.length_take]; rfl)) ?_; (with_reducible refine (Podd.odds_Least.calls k a0 a1 a2 a3 t101 t102 t103 _ A5.out).mono ?_); rintro e w10 ⟨rfl, hb⟩; refine ⟨_, rfl, ?_⟩; have n0_ := Aside0.mk (below_step (low HB) hb); clear HB; have HB := n0_; clear n0_; (try clear hb); (try clear hb2); (try clear hk); (try clear hi)) | ((with_reducible refine gate_dst (N := 9) rfl ?_); refine box_event ?hg (N := 9) ?hd (cs := #[.int .u64 0, .int .u64 0]) (t := 47) ?hr ?_; (case hd => rfl); (case hg => rfl); (case hr => first | (go_simp; done) | (go_simp; rfl)); intro gb104 hg w11 hbox hb; have n0_ := Aside0.mk (below_step (low HB) hb); have n1_ := Aside0.mk (hbox); have n2_ := Aside0.mk ((by rw [hg]; exact (below_size (low HB)) : w.heap.size ≤ gb104)); have n3_ := Aside0.mk ((by rw [hg]; exact (below_size (low HB)) : w.heap.size ≤ gb104)); clear HB; have HB := n0_; have BK104 := n1_; have GW104 := n2_; have GE104 := n3_; clear n0_ n1_ n2_ n3_; clear hb hbox hg; obtain ⟨hcz12_0, hcz12_1, hfz12_0, hfz12_1⟩ := cells2 BK104.out) | ((with_reducible refine gate_callee (f := 28) rfl ?_); refine goesL_ (some 67) rfl rfl Tryd.func28 (by kernel_rfl) rfl #[.int .i64 a0, .int .i64 a1, .int .i64 a2, .int .i64 a3] rfl (by (try simp only [List.map_toArray, List.map_cons, List.map_nil]); first | done | rfl | (simp only [List.length_drop, List.length_take]; rfl)) ?_; (with_reducible refine (Podd.odds_Exactly.calls k a0 a1 a2 a3 t111 t112 t113 _ A7.out).mono ?_); rintro e w13 ⟨rfl, hb⟩; refine ⟨_, rfl, ?_⟩; have n0_ := Aside0.mk (blk_below (g := gb104) (o := .cells #[.int .u64 t101, .int .u64 t102] 47 (0, 0)) of_lies hb); have n1_ := Aside0.mk (below_step (low HB) hb); clear BK104; clear HB; have BK104 := n0_; have HB := n1_; clear n0_ n1_; (try clear hb); (try clear hb2); (try clear hk); (try clear hi)) | ((with_reducible refine gate_dst (N := 11) rfl ?_); refine box_event ?hg (N := 11) ?hd (cs := #[.int .u64 0, .int .u64 0]) (t := 47) ?hr ?_; (case hd => rfl); (case hg => rfl); (case hr => first | (go_simp; done) | (go_simp; rfl)); intro gb114 hg w14 hbox hb; have n0_ := Aside0.mk (blk_below (g := gb104) (o := .cells #[.int .u64 t101, .int .u64 t102] 47 (0, 0)) of_lies hb); have n1_ := Aside0.mk (below_step (low HB) hb); have n2_ := Aside0.mk (hbox); have n3_ := Aside0.mk ((by rw [hg]; exact (below_size (low HB)) : w.heap.size ≤ gb114)); have n4_ := Aside0.mk ((by rw [hg]; exact (below_size (low HB)) : w.heap.size ≤ gb114)); have n5_ := Aside0.mk ((by rw [hg]; exact Nat.ne_of_lt (blk_lt (g := gb104) (o := .cells #[.int .u64 t101, .int .u64 t102] 47 (0, 0)) of_lies) : gb104 ≠ gb114)); have n6_ := Aside0.mk ((by rw [hg]; exact Nat.ne_of_gt (blk_lt (g := gb104) (o := .cells #[.int .u64 t101, .int .u64 t102] 47 (0, 0)) of_lies) : gb114 ≠ gb104)); clear BK104; clear HB; have BK104 := n0_; have HB := n1_; have BK114 := n2_; have GW114 := n3_; have GE114 := n4_; have NB104_114 := n5_; have NB114_104 := n6_; clear n0_ n1_ n2_ n3_ n4_ n5_ n6_; clear hb hbox hg; have hnb15 := NB114_104.out; have hnc15 := NB104_114.out; obtain ⟨hcz16_0, hcz16_1, hfz16_0, hfz16_1⟩ := cells2 BK114.out) | ((with_reducible refine gate_callee (f := 28) rfl ?_); refine goesL_ (some 75) rfl rfl Tryd.func28 (by kernel_rfl) rfl #[.int .i64 a0, .int .i64 a2, .int .i64 a1, .int .i64 a3] rfl (by (try simp only [List.map_toArray, List.map_cons, List.map_nil]); first | done | rfl | (simp only [List.length_drop, List.length_take]; rfl)) ?_; (with_reducible refine (Podd.odds_Exactly.calls k a0 a2 a1 a3 t115 t116 t117 _ A8.out).mono ?_); rintro e w17 ⟨rfl, hb⟩; refine ⟨_, rfl, ?_⟩; have n0_ := Aside0.mk (blk_below (g := gb104) (o := .cells #[.int .u64 t101, .int .u64 t102] 47 (0, 0)) of_lies hb); have n1_ := Aside0.mk (blk_below (g := gb114) (o := .cells #[.int .u64 t111, .int .u64 t112] 47 (0, 0)) of_lies hb); have n2_ := Aside0.mk (below_step (low HB) hb); clear BK104; clear BK114; clear HB; have BK104 := n0_; have BK114 := n1_; have HB := n2_; clear n0_ n1_ n2_; (try clear hb); (try clear hb2); (try clear hk); (try clear hi)) | ((with_reducible refine gate_dst (N := 13) rfl ?_); refine box_event ?hg (N := 13) ?hd (cs := #[.int .u64 0, .int .u64 0]) (t := 47) ?hr ?_; (case hd => rfl); (case hg => rfl); (case hr => first | (go_simp; done) | (go_simp; rfl)); intro gb118 hg w18 hbox hb; have n0_ := Aside0.mk (blk_below (g := gb104) (o := .cells #[.int .u64 t101, .int .u64 t102] 47 (0, 0)) of_lies hb); have n1_ := Aside0.mk (blk_below (g := gb114) (o := .cells #[.int .u64 t111, .int .u64 t112] 47 (0, 0)) of_lies hb); have n2_ := Aside0.mk (below_step (low HB) hb); have n3_ := Aside0.mk (hbox); have n4_ := Aside0.mk ((by rw [hg]; exact (below_size (low HB)) : w.heap.size ≤ gb118)); have n5_ := Aside0.mk ((by rw [hg]; exact (below_size (low HB)) : w.heap.size ≤ gb118)); have n6_ := Aside0.mk ((by rw [hg]; exact Nat.ne_of_lt (blk_lt (g := gb104) (o := .cells #[.int .u64 t101, .int .u64 t102] 47 (0, 0)) of_lies) : gb104 ≠ gb118)); have n7_ := Aside0.mk ((by rw [hg]; exact Nat.ne_of_gt (blk_lt (g := gb104) (o := .cells #[.int .u64 t101, .int .u64 t102] 47 (0, 0)) of_lies) : gb118 ≠ gb104)); have n8_ := Aside0.mk ((by rw [hg]; exact Nat.ne_of_lt (blk_lt (g := gb114) (o := .cells #[.int .u64 t111, .int .u64 t112] 47 (0, 0)) of_lies) : gb114 ≠ gb118)); have n9_ := Aside0.mk ((by rw [hg]; exact Nat.ne_of_gt (blk_lt (g := gb114) (o := .cells #[.int .u64 t111, .int .u64 t112] 47 (0, 0)) of_lies) : gb118 ≠ gb114)); clear BK104; clear BK114; clear HB; have BK104 := n0_; have BK114 := n1_; have HB := n2_; have BK118 := n3_; have GW118 := n4_; have GE118 := n5_; have NB104_118 := n6_; have NB118_104 := n7_; have NB114_118 := n8_; have NB118_114 := n9_; clear n0_ n1_ n2_ n3_ n4_ n5_ n6_ n7_ n8_ n9_; clear hb hbox hg; have hnb19 := NB118_104.out; have hnc19 := NB104_118.out; have hnb20 := NB118_114.out; have hnc20 := NB114_118.out; obtain ⟨hcz21_0, hcz21_1, hfz21_0, hfz21_1⟩ := cells2 BK118.out))
  (try simp only [Act.put, List.setIfInBounds_toArray, List.set_cons_zero, List.set_cons_succ])
  go_cut [88] (fun v88 wc => ∃ (kq : Nat) (x88_8 : Bool), v88 = .bool x88_8 ∧ Aside0 (joustlaw32_OddsSums.j0 kq a0 a1 a2 a3 x88_8 t101 t102 t111 t112 = some r) ∧ Aside0 (kq ≤ k) ∧ Aside0 (wc.heap[gb104]? = some (.cells #[.int .u64 t101, .int .u64 t102] 47 (0, 0))) ∧ Aside0 (wc.heap[gb114]? = some (.cells #[.int .u64 t111, .int .u64 t112] 47 (0, 0))) ∧ Aside0 (wc.heap[gb118]? = some (.cells #[.int .u64 t115, .int .u64 t116] 47 (0, 0))) ∧ Aside0 (Below w.heap.size w wc))
  case first =>
   have H := HC9.out
   clear HC9
   by_cases c22 : t113 = 0
   ·
    rw [if_pos c22] at H
    have c22b0 : (t113 == 0) = true := beq_iff_eq.mpr c22
    have c22b1 : (t113 != 0) = false := bne_eq_false_iff_eq.mpr c22
    clear c22
    (first | rw [c22b0] | (simp only [i64_w, i32_w]; rw [c22b0]) | skip)
    by_cases c23 : t117 = 0
    ·
     rw [if_pos c23] at H
     have c23b0 : (t117 == 0) = true := beq_iff_eq.mpr c23
     have c23b1 : (t117 != 0) = false := bne_eq_false_iff_eq.mpr c23
     clear c23
     have H' := Aside0.mk H
     clear H
     have hnb24 := NB114_104.out
     have hnc24 := NB104_114.out
     have hnb25 := NB114_118.out
     have hnc25 := NB118_114.out
     have hcz26_0 : w18.cell? ⟨gb114, 0, none⟩ = some (.int .u64 t111) := (blk_cell BK114.out 0).trans rfl
     have hcz26_1 : w18.cell? ⟨gb114, 1, none⟩ = some (.int .u64 t112) := (blk_cell BK114.out 1).trans rfl
     have hfz26_0 := blk_frozen BK114.out 0
     have hfz26_1 := blk_frozen BK114.out 1
     have hnb27 := NB118_104.out
     have hnc27 := NB104_118.out
     have hcz28_0 : w18.cell? ⟨gb118, 0, none⟩ = some (.int .u64 0) := (blk_cell BK118.out 0).trans rfl
     have hcz28_1 : w18.cell? ⟨gb118, 1, none⟩ = some (.int .u64 0) := (blk_cell BK118.out 1).trans rfl
     have hfz28_0 := blk_frozen BK118.out 0
     have hfz28_1 := blk_frozen BK118.out 1
     go_wp2
     go_meet
     case rel => exact ⟨_, ((!(t111 == t115) || (!(t112 == t116)))), (by first | rfl | (simp; done) | (simp [*]; done)), H', ⟨by first | omega | exact Nat.le_refl _⟩, ⟨of_lies⟩, ⟨of_lies⟩, ⟨of_lies⟩, ⟨low HB⟩⟩
    ·
     rw [if_neg c23] at H
     have c23b0 : (t117 == 0) = false := beq_eq_false_iff_ne.mpr c23
     have c23b1 : (t117 != 0) = true := bne_iff_ne.mpr c23
     have H' := Aside0.mk H
     clear H
     go_wp2
     go_meet
     case rel => exact ⟨_, (true), (by first | rfl | (simp; done) | (simp [*]; done)), H', ⟨by first | omega | exact Nat.le_refl _⟩, ⟨of_lies⟩, ⟨of_lies⟩, ⟨of_lies⟩, ⟨low HB⟩⟩
   ·
    rw [if_neg c22] at H
    have c22b0 : (t113 == 0) = false := beq_eq_false_iff_ne.mpr c22
    have c22b1 : (t113 != 0) = true := bne_iff_ne.mpr c22
    (first | rw [c22b0] | (simp only [i64_w, i32_w]; rw [c22b0]) | skip)
    have H' := Aside0.mk H
    clear H
    go_wp2
    go_meet
    case rel => exact ⟨_, (true), (by first | rfl | (simp; done) | (simp [*]; done)), H', ⟨by first | omega | exact Nat.le_refl _⟩, ⟨of_lies⟩, ⟨of_lies⟩, ⟨of_lies⟩, ⟨low HB⟩⟩
  case rest =>
   clear HC9
   try clear c1
   try clear c2
   try clear p2
   try clear c3
   try clear c6
   try clear c6b0
   try clear c6b1
   try clear c9
   try clear c15
   try clear c19
   try clear c20
   try clear c22
   try clear c22b0
   try clear c22b1
   try clear c23
   try clear c23b0
   try clear c23b1
   try clear c24
   try clear c25
   try clear c27
   try clear c28
   try clear hcz12_0
   try clear hcz12_1
   try clear hcz16_0
   try clear hcz16_1
   try clear hcz21_0
   try clear hcz21_1
   try clear hcz26_0
   try clear hcz26_1
   try clear hcz28_0
   try clear hcz28_1
   try clear hfz12_0
   try clear hfz12_1
   try clear hfz16_0
   try clear hfz16_1
   try clear hfz21_0
   try clear hfz21_1
   try clear hfz26_0
   try clear hfz26_1
   try clear hfz28_0
   try clear hfz28_1
   obtain ⟨kq, x88_8, rfl, HA, HJ8, BK104, BK114, BK118, HB⟩ := hcut
   cases kq with
   | zero => exact absurd HA.out (by simp [joustlaw32_OddsSums.j0])
   | succ kj8 =>
    have H := HA.out
    clear HA
    simp only [joustlaw32_OddsSums.j0] at H
    by_cases c29 : x88_8 = true
    ·
     subst c29
     have H1 : (some false) = some r := by rw [if_pos rfl] at H; exact H
     clear H
     have H := H1
     clear H1
     obtain rfl := Option.some.inj H
     go_wp2
     go_ret
     exact ⟨by first | rfl | (simp [errW_none, errW_some] <;> rfl) | (simp [*, errW_none, errW_some] <;> rfl), low HB⟩
    ·
     replace c29 := Bool.eq_false_iff.mpr c29
     subst c29
     have H1 : (if a3 < 1048576 then ((Podd.odds_Least.f kj8 a0 a1 a2 (wrap64 (a3 + 1))).bind fun bt119 => ((Pods2.odds_Sum.f t111 t112 bt119.1 bt119.2.1).bind fun bt123 => (if bt119.2.2 = 0 then (if bt123.2.2 = 0 then (if (!(bt123.1 == t101) || (!(bt123.2.1 == t102))) = true then (some false) else (joustlaw32_OddsSums.j1 kj8 a0 a1 a2)) else (some false)) else (some false)))) else (joustlaw32_OddsSums.j1 kj8 a0 a1 a2)) = some r := by rw [if_neg (show ¬ (false = true) by decide)] at H; exact H
     clear H
     have H := H1
     clear H1
     have HC30 := Aside0.mk H
     clear H
     go_upto_if 90 with (fail)
     go_cut [] (fun wc => ∃ (kq : Nat), Aside0 (joustlaw32_OddsSums.j1 kq a0 a1 a2 = some r) ∧ Aside0 (kq ≤ kj8) ∧ Aside0 (wc.heap[gb104]? = some (.cells #[.int .u64 t101, .int .u64 t102] 47 (0, 0))) ∧ Aside0 (wc.heap[gb114]? = some (.cells #[.int .u64 t111, .int .u64 t112] 47 (0, 0))) ∧ Aside0 (wc.heap[gb118]? = some (.cells #[.int .u64 t115, .int .u64 t116] 47 (0, 0))) ∧ Aside0 (Below w.heap.size w wc))
     case first =>
      have H := HC30.out
      clear HC30
      by_cases c31 : a3 < 1048576
      ·
       rw [if_pos c31] at H
       have c31b0 : decide (a3 < 1048576) = true := decide_eq_true c31
       clear c31
       (first | rw [c31b0] | (simp only [i64_w, i32_w]; rw [c31b0]) | skip)
       replace H := Option.bind_eq_some_iff.mp H
       obtain ⟨⟨t119, t120, t121⟩, A320, H⟩ := H
       replace H : ((Pods2.odds_Sum.f t111 t112 t119 t120).bind fun bt123 => (if t121 = 0 then (if bt123.2.2 = 0 then (if (!(bt123.1 == t101) || (!(bt123.2.1 == t102))) = true then (some false) else (joustlaw32_OddsSums.j1 kj8 a0 a1 a2)) else (some false)) else (some false))) = some r := H
       have A32 := Aside0.mk A320
       clear A320
       replace H := Option.bind_eq_some_iff.mp H
       obtain ⟨⟨t123, t124, t125⟩, A330, H⟩ := H
       replace H : (if t121 = 0 then (if t125 = 0 then (if (!(t123 == t101) || (!(t124 == t102))) = true then (some false) else (joustlaw32_OddsSums.j1 kj8 a0 a1 a2)) else (some false)) else (some false)) = some r := H
       have A33 := Aside0.mk A330
       clear A330
       by_cases c34 : t121 = 0
       ·
        rw [if_pos c34] at H
        have c34b0 : (t121 == 0) = true := beq_iff_eq.mpr c34
        have c34b1 : (t121 != 0) = false := bne_eq_false_iff_eq.mpr c34
        clear c34
        by_cases c35 : t125 = 0
        ·
         rw [if_pos c35] at H
         have c35b0 : (t125 == 0) = true := beq_iff_eq.mpr c35
         have c35b1 : (t125 != 0) = false := bne_eq_false_iff_eq.mpr c35
         clear c35
         by_cases c36 : (!(t123 == t101) || (!(t124 == t102))) = true
         ·
          rw [if_pos c36] at H
          have c36b0 : (!(t123 == t101) || (!(t124 == t102))) = true := c36
          clear c36
          obtain rfl := Option.some.inj H
          go_wp2_with (first | ((with_reducible refine gate_callee (f := 30) rfl ?_); refine goesL_ (some 97) rfl rfl Tryd.func30 (by kernel_rfl) rfl #[.int .i64 a0, .int .i64 a1, .int .i64 a2, .int .i64 (wrap64 (a3 + 1))] rfl (by (try simp only [List.map_toArray, List.map_cons, List.map_nil]); first | done | rfl | (simp only [List.length_drop, List.length_take]; rfl)) ?_; (with_reducible refine (Podd.odds_Least.calls kj8 a0 a1 a2 (wrap64 (a3 + 1)) t119 t120 t121 _ A32.out).mono ?_); rintro e w37 ⟨rfl, hb⟩; refine ⟨_, rfl, ?_⟩; have n0_ := Aside0.mk (blk_below (g := gb104) (o := .cells #[.int .u64 t101, .int .u64 t102] 47 (0, 0)) of_lies hb); have n1_ := Aside0.mk (blk_below (g := gb114) (o := .cells #[.int .u64 t111, .int .u64 t112] 47 (0, 0)) of_lies hb); have n2_ := Aside0.mk (blk_below (g := gb118) (o := .cells #[.int .u64 t115, .int .u64 t116] 47 (0, 0)) of_lies hb); have n3_ := Aside0.mk (below_step (low HB) hb); clear BK104; clear BK114; clear BK118; clear HB; have BK104 := n0_; have BK114 := n1_; have BK118 := n2_; have HB := n3_; clear n0_ n1_ n2_ n3_; (try clear hb); (try clear hb2); (try clear hk); (try clear hi)) | ((with_reducible refine gate_dst (N := 15) rfl ?_); refine box_event ?hg (N := 15) ?hd (cs := #[.int .u64 0, .int .u64 0]) (t := 47) ?hr ?_; (case hd => rfl); (case hg => rfl); (case hr => first | (go_simp; done) | (go_simp; rfl)); intro gb122 hg w38 hbox hb; have n0_ := Aside0.mk (blk_below (g := gb104) (o := .cells #[.int .u64 t101, .int .u64 t102] 47 (0, 0)) of_lies hb); have n1_ := Aside0.mk (blk_below (g := gb114) (o := .cells #[.int .u64 t111, .int .u64 t112] 47 (0, 0)) of_lies hb); have n2_ := Aside0.mk (blk_below (g := gb118) (o := .cells #[.int .u64 t115, .int .u64 t116] 47 (0, 0)) of_lies hb); have n3_ := Aside0.mk (below_step (low HB) hb); have n4_ := Aside0.mk (hbox); have n5_ := Aside0.mk ((by rw [hg]; exact (below_size (low HB)) : w.heap.size ≤ gb122)); have n6_ := Aside0.mk ((by rw [hg]; exact (below_size (low HB)) : w.heap.size ≤ gb122)); have n7_ := Aside0.mk ((by rw [hg]; exact Nat.ne_of_lt (blk_lt (g := gb104) (o := .cells #[.int .u64 t101, .int .u64 t102] 47 (0, 0)) of_lies) : gb104 ≠ gb122)); have n8_ := Aside0.mk ((by rw [hg]; exact Nat.ne_of_gt (blk_lt (g := gb104) (o := .cells #[.int .u64 t101, .int .u64 t102] 47 (0, 0)) of_lies) : gb122 ≠ gb104)); have n9_ := Aside0.mk ((by rw [hg]; exact Nat.ne_of_lt (blk_lt (g := gb114) (o := .cells #[.int .u64 t111, .int .u64 t112] 47 (0, 0)) of_lies) : gb114 ≠ gb122)); have n10_ := Aside0.mk ((by rw [hg]; exact Nat.ne_of_gt (blk_lt (g := gb114) (o := .cells #[.int .u64 t111, .int .u64 t112] 47 (0, 0)) of_lies) : gb122 ≠ gb114)); have n11_ := Aside0.mk ((by rw [hg]; exact Nat.ne_of_lt (blk_lt (g := gb118) (o := .cells #[.int .u64 t115, .int .u64 t116] 47 (0, 0)) of_lies) : gb118 ≠ gb122)); have n12_ := Aside0.mk ((by rw [hg]; exact Nat.ne_of_gt (blk_lt (g := gb118) (o := .cells #[.int .u64 t115, .int .u64 t116] 47 (0, 0)) of_lies) : gb122 ≠ gb118)); clear BK104; clear BK114; clear BK118; clear HB; have BK104 := n0_; have BK114 := n1_; have BK118 := n2_; have HB := n3_; have BK122 := n4_; have GW122 := n5_; have GE122 := n6_; have NB104_122 := n7_; have NB122_104 := n8_; have NB114_122 := n9_; have NB122_114 := n10_; have NB118_122 := n11_; have NB122_118 := n12_; clear n0_ n1_ n2_ n3_ n4_ n5_ n6_ n7_ n8_ n9_ n10_ n11_ n12_; clear hb hbox hg; have hnb39 := NB122_104.out; have hnc39 := NB104_122.out; have hnb40 := NB122_114.out; have hnc40 := NB114_122.out; have hnb41 := NB122_118.out; have hnc41 := NB118_122.out; obtain ⟨hcz42_0, hcz42_1, hfz42_0, hfz42_1⟩ := cells2 BK122.out; have hnb43 := NB114_104.out; have hnc43 := NB104_114.out; have hnb44 := NB114_118.out; have hnc44 := NB118_114.out; obtain ⟨hcz45_0, hcz45_1, hfz45_0, hfz45_1⟩ := cells2 BK114.out) | ((with_reducible refine gate_callee (f := 36) rfl ?_); refine goesL_ (some 103) rfl rfl Tryd.func36 (by kernel_rfl) rfl #[.agg #[.int .u64 t111, .int .u64 t112], .agg #[.int .u64 t119, .int .u64 t120]] rfl (by (try simp only [List.map_toArray, List.map_cons, List.map_nil]); first | done | rfl | (simp only [List.length_drop, List.length_take]; rfl)) ?_; (with_reducible refine (Pods2.odds_Sum.calls t111 t112 t119 t120 t123 t124 t125 _ A33.out).mono ?_); rintro e w46 ⟨rfl, hb⟩; refine ⟨_, rfl, ?_⟩; have n0_ := Aside0.mk (blk_below (g := gb104) (o := .cells #[.int .u64 t101, .int .u64 t102] 47 (0, 0)) of_lies hb); have n1_ := Aside0.mk (blk_below (g := gb114) (o := .cells #[.int .u64 t111, .int .u64 t112] 47 (0, 0)) of_lies hb); have n2_ := Aside0.mk (blk_below (g := gb118) (o := .cells #[.int .u64 t115, .int .u64 t116] 47 (0, 0)) of_lies hb); have n3_ := Aside0.mk (blk_below (g := gb122) (o := .cells #[.int .u64 t119, .int .u64 t120] 47 (0, 0)) of_lies hb); have n4_ := Aside0.mk (below_step (low HB) hb); clear BK104; clear BK114; clear BK118; clear BK122; clear HB; have BK104 := n0_; have BK114 := n1_; have BK118 := n2_; have BK122 := n3_; have HB := n4_; clear n0_ n1_ n2_ n3_ n4_; (try clear hb); (try clear hb2); (try clear hk); (try clear hi)) | ((with_reducible refine gate_dst (N := 17) rfl ?_); refine box_event ?hg (N := 17) ?hd (cs := #[.int .u64 0, .int .u64 0]) (t := 47) ?hr ?_; (case hd => rfl); (case hg => rfl); (case hr => first | (go_simp; done) | (go_simp; rfl)); intro gb126 hg w47 hbox hb; have n0_ := Aside0.mk (blk_below (g := gb104) (o := .cells #[.int .u64 t101, .int .u64 t102] 47 (0, 0)) of_lies hb); have n1_ := Aside0.mk (blk_below (g := gb114) (o := .cells #[.int .u64 t111, .int .u64 t112] 47 (0, 0)) of_lies hb); have n2_ := Aside0.mk (blk_below (g := gb118) (o := .cells #[.int .u64 t115, .int .u64 t116] 47 (0, 0)) of_lies hb); have n3_ := Aside0.mk (blk_below (g := gb122) (o := .cells #[.int .u64 t119, .int .u64 t120] 47 (0, 0)) of_lies hb); have n4_ := Aside0.mk (below_step (low HB) hb); have n5_ := Aside0.mk (hbox); have n6_ := Aside0.mk ((by rw [hg]; exact (below_size (low HB)) : w.heap.size ≤ gb126)); have n7_ := Aside0.mk ((by rw [hg]; exact (below_size (low HB)) : w.heap.size ≤ gb126)); have n8_ := Aside0.mk ((by rw [hg]; exact Nat.ne_of_lt (blk_lt (g := gb104) (o := .cells #[.int .u64 t101, .int .u64 t102] 47 (0, 0)) of_lies) : gb104 ≠ gb126)); have n9_ := Aside0.mk ((by rw [hg]; exact Nat.ne_of_gt (blk_lt (g := gb104) (o := .cells #[.int .u64 t101, .int .u64 t102] 47 (0, 0)) of_lies) : gb126 ≠ gb104)); have n10_ := Aside0.mk ((by rw [hg]; exact Nat.ne_of_lt (blk_lt (g := gb114) (o := .cells #[.int .u64 t111, .int .u64 t112] 47 (0, 0)) of_lies) : gb114 ≠ gb126)); have n11_ := Aside0.mk ((by rw [hg]; exact Nat.ne_of_gt (blk_lt (g := gb114) (o := .cells #[.int .u64 t111, .int .u64 t112] 47 (0, 0)) of_lies) : gb126 ≠ gb114)); have n12_ := Aside0.mk ((by rw [hg]; exact Nat.ne_of_lt (blk_lt (g := gb118) (o := .cells #[.int .u64 t115, .int .u64 t116] 47 (0, 0)) of_lies) : gb118 ≠ gb126)); have n13_ := Aside0.mk ((by rw [hg]; exact Nat.ne_of_gt (blk_lt (g := gb118) (o := .cells #[.int .u64 t115, .int .u64 t116] 47 (0, 0)) of_lies) : gb126 ≠ gb118)); have n14_ := Aside0.mk ((by rw [hg]; exact Nat.ne_of_lt (blk_lt (g := gb122) (o := .cells #[.int .u64 t119, .int .u64 t120] 47 (0, 0)) of_lies) : gb122 ≠ gb126)); have n15_ := Aside0.mk ((by rw [hg]; exact Nat.ne_of_gt (blk_lt (g := gb122) (o := .cells #[.int .u64 t119, .int .u64 t120] 47 (0, 0)) of_lies) : gb126 ≠ gb122)); clear BK104; clear BK114; clear BK118; clear BK122; clear HB; have BK104 := n0_; have BK114 := n1_; have BK118 := n2_; have BK122 := n3_; have HB := n4_; have BK126 := n5_; have GW126 := n6_; have GE126 := n7_; have NB104_126 := n8_; have NB126_104 := n9_; have NB114_126 := n10_; have NB126_114 := n11_; have NB118_126 := n12_; have NB126_118 := n13_; have NB122_126 := n14_; have NB126_122 := n15_; clear n0_ n1_ n2_ n3_ n4_ n5_ n6_ n7_ n8_ n9_ n10_ n11_ n12_ n13_ n14_ n15_; clear hb hbox hg; have hnb48 := NB126_104.out; have hnc48 := NB104_126.out; have hnb49 := NB126_114.out; have hnc49 := NB114_126.out; have hnb50 := NB126_118.out; have hnc50 := NB118_126.out; have hnb51 := NB126_122.out; have hnc51 := NB122_126.out; obtain ⟨hcz52_0, hcz52_1, hfz52_0, hfz52_1⟩ := cells2 BK126.out; have hnb53 := NB104_118.out; have hnc53 := NB118_104.out; obtain ⟨hcz54_0, hcz54_1, hfz54_0, hfz54_1⟩ := cells2 BK104.out))
          go_ret
          exact ⟨by first | rfl | (simp [errW_none, errW_some] <;> rfl) | (simp [*, errW_none, errW_some] <;> rfl), low HB⟩
         ·
          rw [if_neg c36] at H
          have c36b0 : (!(t123 == t101) || (!(t124 == t102))) = false := by simpa using c36
          clear c36
          have H' := Aside0.mk H
          clear H
          go_wp2_with (first | ((with_reducible refine gate_callee (f := 30) rfl ?_); refine goesL_ (some 97) rfl rfl Tryd.func30 (by kernel_rfl) rfl #[.int .i64 a0, .int .i64 a1, .int .i64 a2, .int .i64 (wrap64 (a3 + 1))] rfl (by (try simp only [List.map_toArray, List.map_cons, List.map_nil]); first | done | rfl | (simp only [List.length_drop, List.length_take]; rfl)) ?_; (with_reducible refine (Podd.odds_Least.calls kj8 a0 a1 a2 (wrap64 (a3 + 1)) t119 t120 t121 _ A32.out).mono ?_); rintro e w55 ⟨rfl, hb⟩; refine ⟨_, rfl, ?_⟩; have n0_ := Aside0.mk (blk_below (g := gb104) (o := .cells #[.int .u64 t101, .int .u64 t102] 47 (0, 0)) of_lies hb); have n1_ := Aside0.mk (blk_below (g := gb114) (o := .cells #[.int .u64 t111, .int .u64 t112] 47 (0, 0)) of_lies hb); have n2_ := Aside0.mk (blk_below (g := gb118) (o := .cells #[.int .u64 t115, .int .u64 t116] 47 (0, 0)) of_lies hb); have n3_ := Aside0.mk (below_step (low HB) hb); clear BK104; clear BK114; clear BK118; clear HB; have BK104 := n0_; have BK114 := n1_; have BK118 := n2_; have HB := n3_; clear n0_ n1_ n2_ n3_; (try clear hb); (try clear hb2); (try clear hk); (try clear hi)) | ((with_reducible refine gate_dst (N := 15) rfl ?_); refine box_event ?hg (N := 15) ?hd (cs := #[.int .u64 0, .int .u64 0]) (t := 47) ?hr ?_; (case hd => rfl); (case hg => rfl); (case hr => first | (go_simp; done) | (go_simp; rfl)); intro gb122 hg w56 hbox hb; have n0_ := Aside0.mk (blk_below (g := gb104) (o := .cells #[.int .u64 t101, .int .u64 t102] 47 (0, 0)) of_lies hb); have n1_ := Aside0.mk (blk_below (g := gb114) (o := .cells #[.int .u64 t111, .int .u64 t112] 47 (0, 0)) of_lies hb); have n2_ := Aside0.mk (blk_below (g := gb118) (o := .cells #[.int .u64 t115, .int .u64 t116] 47 (0, 0)) of_lies hb); have n3_ := Aside0.mk (below_step (low HB) hb); have n4_ := Aside0.mk (hbox); have n5_ := Aside0.mk ((by rw [hg]; exact (below_size (low HB)) : w.heap.size ≤ gb122)); have n6_ := Aside0.mk ((by rw [hg]; exact (below_size (low HB)) : w.heap.size ≤ gb122)); have n7_ := Aside0.mk ((by rw [hg]; exact Nat.ne_of_lt (blk_lt (g := gb104) (o := .cells #[.int .u64 t101, .int .u64 t102] 47 (0, 0)) of_lies) : gb104 ≠ gb122)); have n8_ := Aside0.mk ((by rw [hg]; exact Nat.ne_of_gt (blk_lt (g := gb104) (o := .cells #[.int .u64 t101, .int .u64 t102] 47 (0, 0)) of_lies) : gb122 ≠ gb104)); have n9_ := Aside0.mk ((by rw [hg]; exact Nat.ne_of_lt (blk_lt (g := gb114) (o := .cells #[.int .u64 t111, .int .u64 t112] 47 (0, 0)) of_lies) : gb114 ≠ gb122)); have n10_ := Aside0.mk ((by rw [hg]; exact Nat.ne_of_gt (blk_lt (g := gb114) (o := .cells #[.int .u64 t111, .int .u64 t112] 47 (0, 0)) of_lies) : gb122 ≠ gb114)); have n11_ := Aside0.mk ((by rw [hg]; exact Nat.ne_of_lt (blk_lt (g := gb118) (o := .cells #[.int .u64 t115, .int .u64 t116] 47 (0, 0)) of_lies) : gb118 ≠ gb122)); have n12_ := Aside0.mk ((by rw [hg]; exact Nat.ne_of_gt (blk_lt (g := gb118) (o := .cells #[.int .u64 t115, .int .u64 t116] 47 (0, 0)) of_lies) : gb122 ≠ gb118)); clear BK104; clear BK114; clear BK118; clear HB; have BK104 := n0_; have BK114 := n1_; have BK118 := n2_; have HB := n3_; have BK122 := n4_; have GW122 := n5_; have GE122 := n6_; have NB104_122 := n7_; have NB122_104 := n8_; have NB114_122 := n9_; have NB122_114 := n10_; have NB118_122 := n11_; have NB122_118 := n12_; clear n0_ n1_ n2_ n3_ n4_ n5_ n6_ n7_ n8_ n9_ n10_ n11_ n12_; clear hb hbox hg; have hnb57 := NB122_104.out; have hnc57 := NB104_122.out; have hnb58 := NB122_114.out; have hnc58 := NB114_122.out; have hnb59 := NB122_118.out; have hnc59 := NB118_122.out; obtain ⟨hcz60_0, hcz60_1, hfz60_0, hfz60_1⟩ := cells2 BK122.out; have hnb61 := NB114_104.out; have hnc61 := NB104_114.out; have hnb62 := NB114_118.out; have hnc62 := NB118_114.out; obtain ⟨hcz63_0, hcz63_1, hfz63_0, hfz63_1⟩ := cells2 BK114.out) | ((with_reducible refine gate_callee (f := 36) rfl ?_); refine goesL_ (some 103) rfl rfl Tryd.func36 (by kernel_rfl) rfl #[.agg #[.int .u64 t111, .int .u64 t112], .agg #[.int .u64 t119, .int .u64 t120]] rfl (by (try simp only [List.map_toArray, List.map_cons, List.map_nil]); first | done | rfl | (simp only [List.length_drop, List.length_take]; rfl)) ?_; (with_reducible refine (Pods2.odds_Sum.calls t111 t112 t119 t120 t123 t124 t125 _ A33.out).mono ?_); rintro e w64 ⟨rfl, hb⟩; refine ⟨_, rfl, ?_⟩; have n0_ := Aside0.mk (blk_below (g := gb104) (o := .cells #[.int .u64 t101, .int .u64 t102] 47 (0, 0)) of_lies hb); have n1_ := Aside0.mk (blk_below (g := gb114) (o := .cells #[.int .u64 t111, .int .u64 t112] 47 (0, 0)) of_lies hb); have n2_ := Aside0.mk (blk_below (g := gb118) (o := .cells #[.int .u64 t115, .int .u64 t116] 47 (0, 0)) of_lies hb); have n3_ := Aside0.mk (blk_below (g := gb122) (o := .cells #[.int .u64 t119, .int .u64 t120] 47 (0, 0)) of_lies hb); have n4_ := Aside0.mk (below_step (low HB) hb); clear BK104; clear BK114; clear BK118; clear BK122; clear HB; have BK104 := n0_; have BK114 := n1_; have BK118 := n2_; have BK122 := n3_; have HB := n4_; clear n0_ n1_ n2_ n3_ n4_; (try clear hb); (try clear hb2); (try clear hk); (try clear hi)) | ((with_reducible refine gate_dst (N := 17) rfl ?_); refine box_event ?hg (N := 17) ?hd (cs := #[.int .u64 0, .int .u64 0]) (t := 47) ?hr ?_; (case hd => rfl); (case hg => rfl); (case hr => first | (go_simp; done) | (go_simp; rfl)); intro gb126 hg w65 hbox hb; have n0_ := Aside0.mk (blk_below (g := gb104) (o := .cells #[.int .u64 t101, .int .u64 t102] 47 (0, 0)) of_lies hb); have n1_ := Aside0.mk (blk_below (g := gb114) (o := .cells #[.int .u64 t111, .int .u64 t112] 47 (0, 0)) of_lies hb); have n2_ := Aside0.mk (blk_below (g := gb118) (o := .cells #[.int .u64 t115, .int .u64 t116] 47 (0, 0)) of_lies hb); have n3_ := Aside0.mk (blk_below (g := gb122) (o := .cells #[.int .u64 t119, .int .u64 t120] 47 (0, 0)) of_lies hb); have n4_ := Aside0.mk (below_step (low HB) hb); have n5_ := Aside0.mk (hbox); have n6_ := Aside0.mk ((by rw [hg]; exact (below_size (low HB)) : w.heap.size ≤ gb126)); have n7_ := Aside0.mk ((by rw [hg]; exact (below_size (low HB)) : w.heap.size ≤ gb126)); have n8_ := Aside0.mk ((by rw [hg]; exact Nat.ne_of_lt (blk_lt (g := gb104) (o := .cells #[.int .u64 t101, .int .u64 t102] 47 (0, 0)) of_lies) : gb104 ≠ gb126)); have n9_ := Aside0.mk ((by rw [hg]; exact Nat.ne_of_gt (blk_lt (g := gb104) (o := .cells #[.int .u64 t101, .int .u64 t102] 47 (0, 0)) of_lies) : gb126 ≠ gb104)); have n10_ := Aside0.mk ((by rw [hg]; exact Nat.ne_of_lt (blk_lt (g := gb114) (o := .cells #[.int .u64 t111, .int .u64 t112] 47 (0, 0)) of_lies) : gb114 ≠ gb126)); have n11_ := Aside0.mk ((by rw [hg]; exact Nat.ne_of_gt (blk_lt (g := gb114) (o := .cells #[.int .u64 t111, .int .u64 t112] 47 (0, 0)) of_lies) : gb126 ≠ gb114)); have n12_ := Aside0.mk ((by rw [hg]; exact Nat.ne_of_lt (blk_lt (g := gb118) (o := .cells #[.int .u64 t115, .int .u64 t116] 47 (0, 0)) of_lies) : gb118 ≠ gb126)); have n13_ := Aside0.mk ((by rw [hg]; exact Nat.ne_of_gt (blk_lt (g := gb118) (o := .cells #[.int .u64 t115, .int .u64 t116] 47 (0, 0)) of_lies) : gb126 ≠ gb118)); have n14_ := Aside0.mk ((by rw [hg]; exact Nat.ne_of_lt (blk_lt (g := gb122) (o := .cells #[.int .u64 t119, .int .u64 t120] 47 (0, 0)) of_lies) : gb122 ≠ gb126)); have n15_ := Aside0.mk ((by rw [hg]; exact Nat.ne_of_gt (blk_lt (g := gb122) (o := .cells #[.int .u64 t119, .int .u64 t120] 47 (0, 0)) of_lies) : gb126 ≠ gb122)); clear BK104; clear BK114; clear BK118; clear BK122; clear HB; have BK104 := n0_; have BK114 := n1_; have BK118 := n2_; have BK122 := n3_; have HB := n4_; have BK126 := n5_; have GW126 := n6_; have GE126 := n7_; have NB104_126 := n8_; have NB126_104 := n9_; have NB114_126 := n10_; have NB126_114 := n11_; have NB118_126 := n12_; have NB126_118 := n13_; have NB122_126 := n14_; have NB126_122 := n15_; clear n0_ n1_ n2_ n3_ n4_ n5_ n6_ n7_ n8_ n9_ n10_ n11_ n12_ n13_ n14_ n15_; clear hb hbox hg; have hnb66 := NB126_104.out; have hnc66 := NB104_126.out; have hnb67 := NB126_114.out; have hnc67 := NB114_126.out; have hnb68 := NB126_118.out; have hnc68 := NB118_126.out; have hnb69 := NB126_122.out; have hnc69 := NB122_126.out; obtain ⟨hcz70_0, hcz70_1, hfz70_0, hfz70_1⟩ := cells2 BK126.out; have hnb71 := NB104_118.out; have hnc71 := NB118_104.out; obtain ⟨hcz72_0, hcz72_1, hfz72_0, hfz72_1⟩ := cells2 BK104.out))
          go_meet
          case rel => exact ⟨_, H', ⟨by have := HJ8.out; first | omega | exact Nat.le_refl _⟩, ⟨of_lies⟩, ⟨of_lies⟩, ⟨of_lies⟩, ⟨low HB⟩⟩
        ·
         rw [if_neg c35] at H
         have c35b0 : (t125 == 0) = false := beq_eq_false_iff_ne.mpr c35
         have c35b1 : (t125 != 0) = true := bne_iff_ne.mpr c35
         obtain rfl := Option.some.inj H
         go_wp2_with (first | ((with_reducible refine gate_callee (f := 30) rfl ?_); refine goesL_ (some 97) rfl rfl Tryd.func30 (by kernel_rfl) rfl #[.int .i64 a0, .int .i64 a1, .int .i64 a2, .int .i64 (wrap64 (a3 + 1))] rfl (by (try simp only [List.map_toArray, List.map_cons, List.map_nil]); first | done | rfl | (simp only [List.length_drop, List.length_take]; rfl)) ?_; (with_reducible refine (Podd.odds_Least.calls kj8 a0 a1 a2 (wrap64 (a3 + 1)) t119 t120 t121 _ A32.out).mono ?_); rintro e w73 ⟨rfl, hb⟩; refine ⟨_, rfl, ?_⟩; have n0_ := Aside0.mk (blk_below (g := gb104) (o := .cells #[.int .u64 t101, .int .u64 t102] 47 (0, 0)) of_lies hb); have n1_ := Aside0.mk (blk_below (g := gb114) (o := .cells #[.int .u64 t111, .int .u64 t112] 47 (0, 0)) of_lies hb); have n2_ := Aside0.mk (blk_below (g := gb118) (o := .cells #[.int .u64 t115, .int .u64 t116] 47 (0, 0)) of_lies hb); have n3_ := Aside0.mk (below_step (low HB) hb); clear BK104; clear BK114; clear BK118; clear HB; have BK104 := n0_; have BK114 := n1_; have BK118 := n2_; have HB := n3_; clear n0_ n1_ n2_ n3_; (try clear hb); (try clear hb2); (try clear hk); (try clear hi)) | ((with_reducible refine gate_dst (N := 15) rfl ?_); refine box_event ?hg (N := 15) ?hd (cs := #[.int .u64 0, .int .u64 0]) (t := 47) ?hr ?_; (case hd => rfl); (case hg => rfl); (case hr => first | (go_simp; done) | (go_simp; rfl)); intro gb122 hg w74 hbox hb; have n0_ := Aside0.mk (blk_below (g := gb104) (o := .cells #[.int .u64 t101, .int .u64 t102] 47 (0, 0)) of_lies hb); have n1_ := Aside0.mk (blk_below (g := gb114) (o := .cells #[.int .u64 t111, .int .u64 t112] 47 (0, 0)) of_lies hb); have n2_ := Aside0.mk (blk_below (g := gb118) (o := .cells #[.int .u64 t115, .int .u64 t116] 47 (0, 0)) of_lies hb); have n3_ := Aside0.mk (below_step (low HB) hb); have n4_ := Aside0.mk (hbox); have n5_ := Aside0.mk ((by rw [hg]; exact (below_size (low HB)) : w.heap.size ≤ gb122)); have n6_ := Aside0.mk ((by rw [hg]; exact (below_size (low HB)) : w.heap.size ≤ gb122)); have n7_ := Aside0.mk ((by rw [hg]; exact Nat.ne_of_lt (blk_lt (g := gb104) (o := .cells #[.int .u64 t101, .int .u64 t102] 47 (0, 0)) of_lies) : gb104 ≠ gb122)); have n8_ := Aside0.mk ((by rw [hg]; exact Nat.ne_of_gt (blk_lt (g := gb104) (o := .cells #[.int .u64 t101, .int .u64 t102] 47 (0, 0)) of_lies) : gb122 ≠ gb104)); have n9_ := Aside0.mk ((by rw [hg]; exact Nat.ne_of_lt (blk_lt (g := gb114) (o := .cells #[.int .u64 t111, .int .u64 t112] 47 (0, 0)) of_lies) : gb114 ≠ gb122)); have n10_ := Aside0.mk ((by rw [hg]; exact Nat.ne_of_gt (blk_lt (g := gb114) (o := .cells #[.int .u64 t111, .int .u64 t112] 47 (0, 0)) of_lies) : gb122 ≠ gb114)); have n11_ := Aside0.mk ((by rw [hg]; exact Nat.ne_of_lt (blk_lt (g := gb118) (o := .cells #[.int .u64 t115, .int .u64 t116] 47 (0, 0)) of_lies) : gb118 ≠ gb122)); have n12_ := Aside0.mk ((by rw [hg]; exact Nat.ne_of_gt (blk_lt (g := gb118) (o := .cells #[.int .u64 t115, .int .u64 t116] 47 (0, 0)) of_lies) : gb122 ≠ gb118)); clear BK104; clear BK114; clear BK118; clear HB; have BK104 := n0_; have BK114 := n1_; have BK118 := n2_; have HB := n3_; have BK122 := n4_; have GW122 := n5_; have GE122 := n6_; have NB104_122 := n7_; have NB122_104 := n8_; have NB114_122 := n9_; have NB122_114 := n10_; have NB118_122 := n11_; have NB122_118 := n12_; clear n0_ n1_ n2_ n3_ n4_ n5_ n6_ n7_ n8_ n9_ n10_ n11_ n12_; clear hb hbox hg; have hnb75 := NB122_104.out; have hnc75 := NB104_122.out; have hnb76 := NB122_114.out; have hnc76 := NB114_122.out; have hnb77 := NB122_118.out; have hnc77 := NB118_122.out; obtain ⟨hcz78_0, hcz78_1, hfz78_0, hfz78_1⟩ := cells2 BK122.out; have hnb79 := NB114_104.out; have hnc79 := NB104_114.out; have hnb80 := NB114_118.out; have hnc80 := NB118_114.out; obtain ⟨hcz81_0, hcz81_1, hfz81_0, hfz81_1⟩ := cells2 BK114.out) | ((with_reducible refine gate_callee (f := 36) rfl ?_); refine goesL_ (some 103) rfl rfl Tryd.func36 (by kernel_rfl) rfl #[.agg #[.int .u64 t111, .int .u64 t112], .agg #[.int .u64 t119, .int .u64 t120]] rfl (by (try simp only [List.map_toArray, List.map_cons, List.map_nil]); first | done | rfl | (simp only [List.length_drop, List.length_take]; rfl)) ?_; (with_reducible refine (Pods2.odds_Sum.calls t111 t112 t119 t120 t123 t124 t125 _ A33.out).mono ?_); rintro e w82 ⟨rfl, hb⟩; refine ⟨_, rfl, ?_⟩; have n0_ := Aside0.mk (blk_below (g := gb104) (o := .cells #[.int .u64 t101, .int .u64 t102] 47 (0, 0)) of_lies hb); have n1_ := Aside0.mk (blk_below (g := gb114) (o := .cells #[.int .u64 t111, .int .u64 t112] 47 (0, 0)) of_lies hb); have n2_ := Aside0.mk (blk_below (g := gb118) (o := .cells #[.int .u64 t115, .int .u64 t116] 47 (0, 0)) of_lies hb); have n3_ := Aside0.mk (blk_below (g := gb122) (o := .cells #[.int .u64 t119, .int .u64 t120] 47 (0, 0)) of_lies hb); have n4_ := Aside0.mk (below_step (low HB) hb); clear BK104; clear BK114; clear BK118; clear BK122; clear HB; have BK104 := n0_; have BK114 := n1_; have BK118 := n2_; have BK122 := n3_; have HB := n4_; clear n0_ n1_ n2_ n3_ n4_; (try clear hb); (try clear hb2); (try clear hk); (try clear hi)) | ((with_reducible refine gate_dst (N := 17) rfl ?_); refine box_event ?hg (N := 17) ?hd (cs := #[.int .u64 0, .int .u64 0]) (t := 47) ?hr ?_; (case hd => rfl); (case hg => rfl); (case hr => first | (go_simp; done) | (go_simp; rfl)); intro gb126 hg w83 hbox hb; have n0_ := Aside0.mk (blk_below (g := gb104) (o := .cells #[.int .u64 t101, .int .u64 t102] 47 (0, 0)) of_lies hb); have n1_ := Aside0.mk (blk_below (g := gb114) (o := .cells #[.int .u64 t111, .int .u64 t112] 47 (0, 0)) of_lies hb); have n2_ := Aside0.mk (blk_below (g := gb118) (o := .cells #[.int .u64 t115, .int .u64 t116] 47 (0, 0)) of_lies hb); have n3_ := Aside0.mk (blk_below (g := gb122) (o := .cells #[.int .u64 t119, .int .u64 t120] 47 (0, 0)) of_lies hb); have n4_ := Aside0.mk (below_step (low HB) hb); have n5_ := Aside0.mk (hbox); have n6_ := Aside0.mk ((by rw [hg]; exact (below_size (low HB)) : w.heap.size ≤ gb126)); have n7_ := Aside0.mk ((by rw [hg]; exact (below_size (low HB)) : w.heap.size ≤ gb126)); have n8_ := Aside0.mk ((by rw [hg]; exact Nat.ne_of_lt (blk_lt (g := gb104) (o := .cells #[.int .u64 t101, .int .u64 t102] 47 (0, 0)) of_lies) : gb104 ≠ gb126)); have n9_ := Aside0.mk ((by rw [hg]; exact Nat.ne_of_gt (blk_lt (g := gb104) (o := .cells #[.int .u64 t101, .int .u64 t102] 47 (0, 0)) of_lies) : gb126 ≠ gb104)); have n10_ := Aside0.mk ((by rw [hg]; exact Nat.ne_of_lt (blk_lt (g := gb114) (o := .cells #[.int .u64 t111, .int .u64 t112] 47 (0, 0)) of_lies) : gb114 ≠ gb126)); have n11_ := Aside0.mk ((by rw [hg]; exact Nat.ne_of_gt (blk_lt (g := gb114) (o := .cells #[.int .u64 t111, .int .u64 t112] 47 (0, 0)) of_lies) : gb126 ≠ gb114)); have n12_ := Aside0.mk ((by rw [hg]; exact Nat.ne_of_lt (blk_lt (g := gb118) (o := .cells #[.int .u64 t115, .int .u64 t116] 47 (0, 0)) of_lies) : gb118 ≠ gb126)); have n13_ := Aside0.mk ((by rw [hg]; exact Nat.ne_of_gt (blk_lt (g := gb118) (o := .cells #[.int .u64 t115, .int .u64 t116] 47 (0, 0)) of_lies) : gb126 ≠ gb118)); have n14_ := Aside0.mk ((by rw [hg]; exact Nat.ne_of_lt (blk_lt (g := gb122) (o := .cells #[.int .u64 t119, .int .u64 t120] 47 (0, 0)) of_lies) : gb122 ≠ gb126)); have n15_ := Aside0.mk ((by rw [hg]; exact Nat.ne_of_gt (blk_lt (g := gb122) (o := .cells #[.int .u64 t119, .int .u64 t120] 47 (0, 0)) of_lies) : gb126 ≠ gb122)); clear BK104; clear BK114; clear BK118; clear BK122; clear HB; have BK104 := n0_; have BK114 := n1_; have BK118 := n2_; have BK122 := n3_; have HB := n4_; have BK126 := n5_; have GW126 := n6_; have GE126 := n7_; have NB104_126 := n8_; have NB126_104 := n9_; have NB114_126 := n10_; have NB126_114 := n11_; have NB118_126 := n12_; have NB126_118 := n13_; have NB122_126 := n14_; have NB126_122 := n15_; clear n0_ n1_ n2_ n3_ n4_ n5_ n6_ n7_ n8_ n9_ n10_ n11_ n12_ n13_ n14_ n15_; clear hb hbox hg; have hnb84 := NB126_104.out; have hnc84 := NB104_126.out; have hnb85 := NB126_114.out; have hnc85 := NB114_126.out; have hnb86 := NB126_118.out; have hnc86 := NB118_126.out; have hnb87 := NB126_122.out; have hnc87 := NB122_126.out; obtain ⟨hcz88_0, hcz88_1, hfz88_0, hfz88_1⟩ := cells2 BK126.out))
         go_ret
         exact ⟨by first | rfl | (simp [errW_none, errW_some] <;> rfl) | (simp [*, errW_none, errW_some] <;> rfl), low HB⟩
       ·
        rw [if_neg c34] at H
        have c34b0 : (t121 == 0) = false := beq_eq_false_iff_ne.mpr c34
        have c34b1 : (t121 != 0) = true := bne_iff_ne.mpr c34
        obtain rfl := Option.some.inj H
        go_wp2_with (first | ((with_reducible refine gate_callee (f := 30) rfl ?_); refine goesL_ (some 97) rfl rfl Tryd.func30 (by kernel_rfl) rfl #[.int .i64 a0, .int .i64 a1, .int .i64 a2, .int .i64 (wrap64 (a3 + 1))] rfl (by (try simp only [List.map_toArray, List.map_cons, List.map_nil]); first | done | rfl | (simp only [List.length_drop, List.length_take]; rfl)) ?_; (with_reducible refine (Podd.odds_Least.calls kj8 a0 a1 a2 (wrap64 (a3 + 1)) t119 t120 t121 _ A32.out).mono ?_); rintro e w89 ⟨rfl, hb⟩; refine ⟨_, rfl, ?_⟩; have n0_ := Aside0.mk (blk_below (g := gb104) (o := .cells #[.int .u64 t101, .int .u64 t102] 47 (0, 0)) of_lies hb); have n1_ := Aside0.mk (blk_below (g := gb114) (o := .cells #[.int .u64 t111, .int .u64 t112] 47 (0, 0)) of_lies hb); have n2_ := Aside0.mk (blk_below (g := gb118) (o := .cells #[.int .u64 t115, .int .u64 t116] 47 (0, 0)) of_lies hb); have n3_ := Aside0.mk (below_step (low HB) hb); clear BK104; clear BK114; clear BK118; clear HB; have BK104 := n0_; have BK114 := n1_; have BK118 := n2_; have HB := n3_; clear n0_ n1_ n2_ n3_; (try clear hb); (try clear hb2); (try clear hk); (try clear hi)) | ((with_reducible refine gate_dst (N := 15) rfl ?_); refine box_event ?hg (N := 15) ?hd (cs := #[.int .u64 0, .int .u64 0]) (t := 47) ?hr ?_; (case hd => rfl); (case hg => rfl); (case hr => first | (go_simp; done) | (go_simp; rfl)); intro gb122 hg w90 hbox hb; have n0_ := Aside0.mk (blk_below (g := gb104) (o := .cells #[.int .u64 t101, .int .u64 t102] 47 (0, 0)) of_lies hb); have n1_ := Aside0.mk (blk_below (g := gb114) (o := .cells #[.int .u64 t111, .int .u64 t112] 47 (0, 0)) of_lies hb); have n2_ := Aside0.mk (blk_below (g := gb118) (o := .cells #[.int .u64 t115, .int .u64 t116] 47 (0, 0)) of_lies hb); have n3_ := Aside0.mk (below_step (low HB) hb); have n4_ := Aside0.mk (hbox); have n5_ := Aside0.mk ((by rw [hg]; exact (below_size (low HB)) : w.heap.size ≤ gb122)); have n6_ := Aside0.mk ((by rw [hg]; exact (below_size (low HB)) : w.heap.size ≤ gb122)); have n7_ := Aside0.mk ((by rw [hg]; exact Nat.ne_of_lt (blk_lt (g := gb104) (o := .cells #[.int .u64 t101, .int .u64 t102] 47 (0, 0)) of_lies) : gb104 ≠ gb122)); have n8_ := Aside0.mk ((by rw [hg]; exact Nat.ne_of_gt (blk_lt (g := gb104) (o := .cells #[.int .u64 t101, .int .u64 t102] 47 (0, 0)) of_lies) : gb122 ≠ gb104)); have n9_ := Aside0.mk ((by rw [hg]; exact Nat.ne_of_lt (blk_lt (g := gb114) (o := .cells #[.int .u64 t111, .int .u64 t112] 47 (0, 0)) of_lies) : gb114 ≠ gb122)); have n10_ := Aside0.mk ((by rw [hg]; exact Nat.ne_of_gt (blk_lt (g := gb114) (o := .cells #[.int .u64 t111, .int .u64 t112] 47 (0, 0)) of_lies) : gb122 ≠ gb114)); have n11_ := Aside0.mk ((by rw [hg]; exact Nat.ne_of_lt (blk_lt (g := gb118) (o := .cells #[.int .u64 t115, .int .u64 t116] 47 (0, 0)) of_lies) : gb118 ≠ gb122)); have n12_ := Aside0.mk ((by rw [hg]; exact Nat.ne_of_gt (blk_lt (g := gb118) (o := .cells #[.int .u64 t115, .int .u64 t116] 47 (0, 0)) of_lies) : gb122 ≠ gb118)); clear BK104; clear BK114; clear BK118; clear HB; have BK104 := n0_; have BK114 := n1_; have BK118 := n2_; have HB := n3_; have BK122 := n4_; have GW122 := n5_; have GE122 := n6_; have NB104_122 := n7_; have NB122_104 := n8_; have NB114_122 := n9_; have NB122_114 := n10_; have NB118_122 := n11_; have NB122_118 := n12_; clear n0_ n1_ n2_ n3_ n4_ n5_ n6_ n7_ n8_ n9_ n10_ n11_ n12_; clear hb hbox hg; have hnb91 := NB122_104.out; have hnc91 := NB104_122.out; have hnb92 := NB122_114.out; have hnc92 := NB114_122.out; have hnb93 := NB122_118.out; have hnc93 := NB118_122.out; obtain ⟨hcz94_0, hcz94_1, hfz94_0, hfz94_1⟩ := cells2 BK122.out; have hnb95 := NB114_104.out; have hnc95 := NB104_114.out; have hnb96 := NB114_118.out; have hnc96 := NB118_114.out; obtain ⟨hcz97_0, hcz97_1, hfz97_0, hfz97_1⟩ := cells2 BK114.out) | ((with_reducible refine gate_callee (f := 36) rfl ?_); refine goesL_ (some 103) rfl rfl Tryd.func36 (by kernel_rfl) rfl #[.agg #[.int .u64 t111, .int .u64 t112], .agg #[.int .u64 t119, .int .u64 t120]] rfl (by (try simp only [List.map_toArray, List.map_cons, List.map_nil]); first | done | rfl | (simp only [List.length_drop, List.length_take]; rfl)) ?_; (with_reducible refine (Pods2.odds_Sum.calls t111 t112 t119 t120 t123 t124 t125 _ A33.out).mono ?_); rintro e w98 ⟨rfl, hb⟩; refine ⟨_, rfl, ?_⟩; have n0_ := Aside0.mk (blk_below (g := gb104) (o := .cells #[.int .u64 t101, .int .u64 t102] 47 (0, 0)) of_lies hb); have n1_ := Aside0.mk (blk_below (g := gb114) (o := .cells #[.int .u64 t111, .int .u64 t112] 47 (0, 0)) of_lies hb); have n2_ := Aside0.mk (blk_below (g := gb118) (o := .cells #[.int .u64 t115, .int .u64 t116] 47 (0, 0)) of_lies hb); have n3_ := Aside0.mk (blk_below (g := gb122) (o := .cells #[.int .u64 t119, .int .u64 t120] 47 (0, 0)) of_lies hb); have n4_ := Aside0.mk (below_step (low HB) hb); clear BK104; clear BK114; clear BK118; clear BK122; clear HB; have BK104 := n0_; have BK114 := n1_; have BK118 := n2_; have BK122 := n3_; have HB := n4_; clear n0_ n1_ n2_ n3_ n4_; (try clear hb); (try clear hb2); (try clear hk); (try clear hi)) | ((with_reducible refine gate_dst (N := 17) rfl ?_); refine box_event ?hg (N := 17) ?hd (cs := #[.int .u64 0, .int .u64 0]) (t := 47) ?hr ?_; (case hd => rfl); (case hg => rfl); (case hr => first | (go_simp; done) | (go_simp; rfl)); intro gb126 hg w99 hbox hb; have n0_ := Aside0.mk (blk_below (g := gb104) (o := .cells #[.int .u64 t101, .int .u64 t102] 47 (0, 0)) of_lies hb); have n1_ := Aside0.mk (blk_below (g := gb114) (o := .cells #[.int .u64 t111, .int .u64 t112] 47 (0, 0)) of_lies hb); have n2_ := Aside0.mk (blk_below (g := gb118) (o := .cells #[.int .u64 t115, .int .u64 t116] 47 (0, 0)) of_lies hb); have n3_ := Aside0.mk (blk_below (g := gb122) (o := .cells #[.int .u64 t119, .int .u64 t120] 47 (0, 0)) of_lies hb); have n4_ := Aside0.mk (below_step (low HB) hb); have n5_ := Aside0.mk (hbox); have n6_ := Aside0.mk ((by rw [hg]; exact (below_size (low HB)) : w.heap.size ≤ gb126)); have n7_ := Aside0.mk ((by rw [hg]; exact (below_size (low HB)) : w.heap.size ≤ gb126)); have n8_ := Aside0.mk ((by rw [hg]; exact Nat.ne_of_lt (blk_lt (g := gb104) (o := .cells #[.int .u64 t101, .int .u64 t102] 47 (0, 0)) of_lies) : gb104 ≠ gb126)); have n9_ := Aside0.mk ((by rw [hg]; exact Nat.ne_of_gt (blk_lt (g := gb104) (o := .cells #[.int .u64 t101, .int .u64 t102] 47 (0, 0)) of_lies) : gb126 ≠ gb104)); have n10_ := Aside0.mk ((by rw [hg]; exact Nat.ne_of_lt (blk_lt (g := gb114) (o := .cells #[.int .u64 t111, .int .u64 t112] 47 (0, 0)) of_lies) : gb114 ≠ gb126)); have n11_ := Aside0.mk ((by rw [hg]; exact Nat.ne_of_gt (blk_lt (g := gb114) (o := .cells #[.int .u64 t111, .int .u64 t112] 47 (0, 0)) of_lies) : gb126 ≠ gb114)); have n12_ := Aside0.mk ((by rw [hg]; exact Nat.ne_of_lt (blk_lt (g := gb118) (o := .cells #[.int .u64 t115, .int .u64 t116] 47 (0, 0)) of_lies) : gb118 ≠ gb126)); have n13_ := Aside0.mk ((by rw [hg]; exact Nat.ne_of_gt (blk_lt (g := gb118) (o := .cells #[.int .u64 t115, .int .u64 t116] 47 (0, 0)) of_lies) : gb126 ≠ gb118)); have n14_ := Aside0.mk ((by rw [hg]; exact Nat.ne_of_lt (blk_lt (g := gb122) (o := .cells #[.int .u64 t119, .int .u64 t120] 47 (0, 0)) of_lies) : gb122 ≠ gb126)); have n15_ := Aside0.mk ((by rw [hg]; exact Nat.ne_of_gt (blk_lt (g := gb122) (o := .cells #[.int .u64 t119, .int .u64 t120] 47 (0, 0)) of_lies) : gb126 ≠ gb122)); clear BK104; clear BK114; clear BK118; clear BK122; clear HB; have BK104 := n0_; have BK114 := n1_; have BK118 := n2_; have BK122 := n3_; have HB := n4_; have BK126 := n5_; have GW126 := n6_; have GE126 := n7_; have NB104_126 := n8_; have NB126_104 := n9_; have NB114_126 := n10_; have NB126_114 := n11_; have NB118_126 := n12_; have NB126_118 := n13_; have NB122_126 := n14_; have NB126_122 := n15_; clear n0_ n1_ n2_ n3_ n4_ n5_ n6_ n7_ n8_ n9_ n10_ n11_ n12_ n13_ n14_ n15_; clear hb hbox hg; have hnb100 := NB126_104.out; have hnc100 := NB104_126.out; have hnb101 := NB126_114.out; have hnc101 := NB114_126.out; have hnb102 := NB126_118.out; have hnc102 := NB118_126.out; have hnb103 := NB126_122.out; have hnc103 := NB122_126.out; obtain ⟨hcz104_0, hcz104_1, hfz104_0, hfz104_1⟩ := cells2 BK126.out))
        go_ret
        exact ⟨by first | rfl | (simp [errW_none, errW_some] <;> rfl) | (simp [*, errW_none, errW_some] <;> rfl), low HB⟩
      ·
       rw [if_neg c31] at H
       have c31b0 : decide (a3 < 1048576) = false := decide_eq_false c31
       clear c31
       (first | rw [c31b0] | (simp only [i64_w, i32_w]; rw [c31b0]) | skip)
       have H' := Aside0.mk H
       clear H
       go_wp2
       go_meet
       case rel => exact ⟨_, H', ⟨by have := HJ8.out; first | omega | exact Nat.le_refl _⟩, ⟨of_lies⟩, ⟨of_lies⟩, ⟨of_lies⟩, ⟨low HB⟩⟩
     case rest =>
      clear HC30
      try clear c1
      try clear c2
      try clear p2
      try clear c3
      try clear c4
      try clear c5
      try clear c6
      try clear c6b0
      try clear c6b1
      try clear p6
      try clear c7
      try clear c8
      try clear c9
      try clear c10
      try clear c15
      try clear c19
      try clear c20
      try clear c22
      try clear c22b0
      try clear c22b1
      try clear c23
      try clear c23b0
      try clear c23b1
      try clear c24
      try clear c25
      try clear c27
      try clear c28
      try clear c29
      try clear c30
      try clear c31
      try clear c31b0
      try clear c34
      try clear c34b0
      try clear c34b1
      try clear c35
      try clear c35b0
      try clear c35b1
      try clear c36
      try clear c36b0
      try clear c39
      try clear c40
      try clear c41
      try clear c43
      try clear c44
      try clear c48
      try clear c49
      try clear c50
      try clear c51
      try clear c53
      try clear c57
      try clear c58
      try clear c59
      try clear c61
      try clear c62
      try clear p64
      try clear c66
      try clear c67
      try clear c68
      try clear c69
      try clear c71
      try clear c75
      try clear c76
      try clear c77
      try clear c79
      try clear c80
      try clear c84
      try clear c85
      try clear c86
      try clear c87
      try clear c91
      try clear c92
      try clear c93
      try clear c95
      try clear c96
      try clear c100
      try clear c101
      try clear c102
      try clear c103
      try clear hcz104_0
      try clear hcz104_1
      try clear hcz12_0
      try clear hcz12_1
      try clear hcz16_0
      try clear hcz16_1
      try clear hcz21_0
      try clear hcz21_1
      try clear hcz26_0
      try clear hcz26_1
      try clear hcz28_0
      try clear hcz28_1
      try clear hcz42_0
      try clear hcz42_1
      try clear hcz45_0
      try clear hcz45_1
      try clear hcz52_0
      try clear hcz52_1
      try clear hcz54_0
      try clear hcz54_1
      try clear hcz60_0
      try clear hcz60_1
      try clear hcz63_0
      try clear hcz63_1
      try clear hcz70_0
      try clear hcz70_1
      try clear hcz72_0
      try clear hcz72_1
      try clear hcz78_0
      try clear hcz78_1
      try clear hcz81_0
      try clear hcz81_1
      try clear hcz88_0
      try clear hcz88_1
      try clear hcz94_0
      try clear hcz94_1
      try clear hcz97_0
      try clear hcz97_1
      try clear hfz104_0
      try clear hfz104_1
      try clear hfz12_0
      try clear hfz12_1
      try clear hfz16_0
      try clear hfz16_1
      try clear hfz21_0
      try clear hfz21_1
      try clear hfz26_0
      try clear hfz26_1
      try clear hfz28_0
      try clear hfz28_1
      try clear hfz42_0
      try clear hfz42_1
      try clear hfz45_0
      try clear hfz45_1
      try clear hfz52_0
      try clear hfz52_1
      try clear hfz54_0
      try clear hfz54_1
      try clear hfz60_0
      try clear hfz60_1
      try clear hfz63_0
      try clear hfz63_1
      try clear hfz70_0
      try clear hfz70_1
      try clear hfz72_0
      try clear hfz72_1
      try clear hfz78_0
      try clear hfz78_1
      try clear hfz81_0
      try clear hfz81_1
      try clear hfz88_0
      try clear hfz88_1
      try clear hfz94_0
      try clear hfz94_1
      try clear hfz97_0
      try clear hfz97_1
      try clear p2
      obtain ⟨kq, HA, HJ29, BK104, BK114, BK118, HB⟩ := hcut
      cases kq with
      | zero => exact absurd HA.out (by simp [joustlaw32_OddsSums.j1])
      | succ kj29 =>
       have H := HA.out
       clear HA
       simp only [joustlaw32_OddsSums.j1] at H
       have H' := Aside0.mk H
       clear H
       go_wp2_with (first | ((with_reducible refine gate_dst (N := 19) rfl ?_); refine box_event ?hg (N := 19) ?hd (cs := #[.int .u64 0, .int .u64 0]) (t := 47) ?hr ?_; (case hd => rfl); (case hg => rfl); (case hr => first | (go_simp; done) | (go_simp; rfl)); intro gb127 hg w105 hbox hb; have n0_ := Aside0.mk (blk_below (g := gb104) (o := .cells #[.int .u64 t101, .int .u64 t102] 47 (0, 0)) of_lies hb); have n1_ := Aside0.mk (blk_below (g := gb114) (o := .cells #[.int .u64 t111, .int .u64 t112] 47 (0, 0)) of_lies hb); have n2_ := Aside0.mk (blk_below (g := gb118) (o := .cells #[.int .u64 t115, .int .u64 t116] 47 (0, 0)) of_lies hb); have n3_ := Aside0.mk (below_step (low HB) hb); have n4_ := Aside0.mk (hbox); have n5_ := Aside0.mk ((by rw [hg]; exact (below_size (low HB)) : w.heap.size ≤ gb127)); have n6_ := Aside0.mk ((by rw [hg]; exact (below_size (low HB)) : w.heap.size ≤ gb127)); have n7_ := Aside0.mk ((by rw [hg]; exact Nat.ne_of_lt (blk_lt (g := gb104) (o := .cells #[.int .u64 t101, .int .u64 t102] 47 (0, 0)) of_lies) : gb104 ≠ gb127)); have n8_ := Aside0.mk ((by rw [hg]; exact Nat.ne_of_gt (blk_lt (g := gb104) (o := .cells #[.int .u64 t101, .int .u64 t102] 47 (0, 0)) of_lies) : gb127 ≠ gb104)); have n9_ := Aside0.mk ((by rw [hg]; exact Nat.ne_of_lt (blk_lt (g := gb114) (o := .cells #[.int .u64 t111, .int .u64 t112] 47 (0, 0)) of_lies) : gb114 ≠ gb127)); have n10_ := Aside0.mk ((by rw [hg]; exact Nat.ne_of_gt (blk_lt (g := gb114) (o := .cells #[.int .u64 t111, .int .u64 t112] 47 (0, 0)) of_lies) : gb127 ≠ gb114)); have n11_ := Aside0.mk ((by rw [hg]; exact Nat.ne_of_lt (blk_lt (g := gb118) (o := .cells #[.int .u64 t115, .int .u64 t116] 47 (0, 0)) of_lies) : gb118 ≠ gb127)); have n12_ := Aside0.mk ((by rw [hg]; exact Nat.ne_of_gt (blk_lt (g := gb118) (o := .cells #[.int .u64 t115, .int .u64 t116] 47 (0, 0)) of_lies) : gb127 ≠ gb118)); clear BK104; clear BK114; clear BK118; clear HB; have BK104 := n0_; have BK114 := n1_; have BK118 := n2_; have HB := n3_; have BK127 := n4_; have GW127 := n5_; have GE127 := n6_; have NB104_127 := n7_; have NB127_104 := n8_; have NB114_127 := n9_; have NB127_114 := n10_; have NB118_127 := n11_; have NB127_118 := n12_; clear n0_ n1_ n2_ n3_ n4_ n5_ n6_ n7_ n8_ n9_ n10_ n11_ n12_; clear hb hbox hg; have hnb106 := NB127_104.out; have hnc106 := NB104_127.out; have hnb107 := NB127_114.out; have hnc107 := NB114_127.out; have hnb108 := NB127_118.out; have hnc108 := NB118_127.out; obtain ⟨hcz109_0, hcz109_1, hfz109_0, hfz109_1⟩ := cells2 BK127.out))
       go_loopg [20] kj29 (fun kq v20 w' => ∃ (x20_3 : Int) (x128000_3 : Int) (x128001_3 : Int), v20 = .int .i64 x20_3 ∧ Aside0 (joustlaw32_OddsSums.l0 kq a0 a1 a2 x20_3 x128000_3 x128001_3 = some r) ∧ Aside0 (kq ≤ kj29) ∧ Aside0 (w'.heap[gb104]? = some (.cells #[.int .u64 t101, .int .u64 t102] 47 (0, 0))) ∧ Aside0 (w'.heap[gb114]? = some (.cells #[.int .u64 t111, .int .u64 t112] 47 (0, 0))) ∧ Aside0 (w'.heap[gb118]? = some (.cells #[.int .u64 t115, .int .u64 t116] 47 (0, 0))) ∧ Aside0 (w'.heap[gb127]? = some (.cells #[.int .u64 x128000_3, .int .u64 x128001_3] 47 (0, 0))) ∧ Aside0 (Below w.heap.size w w'))
       case atStart => exact ⟨(0), (0), (1), (by first | rfl | (simp; done) | (simp [*]; done)), H', ⟨Nat.le_refl _⟩, ⟨of_lies⟩, ⟨of_lies⟩, ⟨of_lies⟩, ⟨of_lies⟩, ⟨low HB⟩⟩
       case round =>
        clear H'
        try clear c1
        try clear c2
        try clear p2
        try clear c3
        try clear c4
        try clear c5
        try clear c6
        try clear c6b0
        try clear c6b1
        try clear p6
        try clear c7
        try clear c8
        try clear c9
        try clear c10
        try clear c15
        try clear c19
        try clear c20
        try clear c22
        try clear c22b0
        try clear c22b1
        try clear c23
        try clear c23b0
        try clear c23b1
        try clear c24
        try clear c25
        try clear c27
        try clear c28
        try clear c29
        try clear c30
        try clear c31
        try clear c31b0
        try clear c34
        try clear c34b0
        try clear c34b1
        try clear c35
        try clear c35b0
        try clear c35b1
        try clear c36
        try clear c36b0
        try clear c39
        try clear c40
        try clear c41
        try clear c43
        try clear c44
        try clear c48
        try clear c49
        try clear c50
        try clear c51
        try clear c53
        try clear c57
        try clear c58
        try clear c59
        try clear c61
        try clear c62
        try clear p64
        try clear c66
        try clear c67
        try clear c68
        try clear c69
        try clear c71
        try clear c75
        try clear c76
        try clear c77
        try clear c79
        try clear c80
        try clear c84
        try clear c85
        try clear c86
        try clear c87
        try clear c91
        try clear c92
        try clear c93
        try clear c95
        try clear c96
        try clear c100
        try clear c101
        try clear c102
        try clear c103
        try clear c106
        try clear c107
        try clear c108
        try clear hcz104_0
        try clear hcz104_1
        try clear hcz109_0
        try clear hcz109_1
        try clear hcz12_0
        try clear hcz12_1
        try clear hcz16_0
        try clear hcz16_1
        try clear hcz21_0
        try clear hcz21_1
        try clear hcz26_0
        try clear hcz26_1
        try clear hcz28_0
        try clear hcz28_1
        try clear hcz42_0
        try clear hcz42_1
        try clear hcz45_0
        try clear hcz45_1
        try clear hcz52_0
        try clear hcz52_1
        try clear hcz54_0
        try clear hcz54_1
        try clear hcz60_0
        try clear hcz60_1
        try clear hcz63_0
        try clear hcz63_1
        try clear hcz70_0
        try clear hcz70_1
        try clear hcz72_0
        try clear hcz72_1
        try clear hcz78_0
        try clear hcz78_1
        try clear hcz81_0
        try clear hcz81_1
        try clear hcz88_0
        try clear hcz88_1
        try clear hcz94_0
        try clear hcz94_1
        try clear hcz97_0
        try clear hcz97_1
        try clear hfz104_0
        try clear hfz104_1
        try clear hfz109_0
        try clear hfz109_1
        try clear hfz12_0
        try clear hfz12_1
        try clear hfz16_0
        try clear hfz16_1
        try clear hfz21_0
        try clear hfz21_1
        try clear hfz26_0
        try clear hfz26_1
        try clear hfz28_0
        try clear hfz28_1
        try clear hfz42_0
        try clear hfz42_1
        try clear hfz45_0
        try clear hfz45_1
        try clear hfz52_0
        try clear hfz52_1
        try clear hfz54_0
        try clear hfz54_1
        try clear hfz60_0
        try clear hfz60_1
        try clear hfz63_0
        try clear hfz63_1
        try clear hfz70_0
        try clear hfz70_1
        try clear hfz72_0
        try clear hfz72_1
        try clear hfz78_0
        try clear hfz78_1
        try clear hfz81_0
        try clear hfz81_1
        try clear hfz88_0
        try clear hfz88_1
        try clear hfz94_0
        try clear hfz94_1
        try clear hfz97_0
        try clear hfz97_1
        try clear p2
        try clear p6
        try clear p64
        obtain ⟨x20_3, x128000_3, x128001_3, rfl, HA, HK3, BK104, BK114, BK118, BK127, HB⟩ := hrel
        cases gk with
        | zero => exact absurd HA.out (by simp [joustlaw32_OddsSums.l0])
        | succ k3 =>
         have H := HA.out
         clear HA
         simp only [joustlaw32_OddsSums.l0] at H
         by_cases c110 : x20_3 ≤ a2
         ·
          rw [if_pos c110] at H
          have c110b0 : decide (x20_3 ≤ a2) = true := decide_eq_true c110
          clear c110
          replace H := Option.bind_eq_some_iff.mp H
          obtain ⟨⟨t129, t130, t131⟩, A1110, H⟩ := H
          replace H : ((Pods2.odds_Sum.f x128000_3 x128001_3 t129 t130).bind fun bt133 => (if t131 = 0 then (if bt133.2.2 = 0 then (joustlaw32_OddsSums.l0 k3 a0 a1 a2 (wrap64 (x20_3 + 1)) bt133.1 bt133.2.1) else (some false)) else (some false))) = some r := H
          have A111 := Aside0.mk A1110
          clear A1110
          replace H := Option.bind_eq_some_iff.mp H
          obtain ⟨⟨t133, t134, t135⟩, A1120, H⟩ := H
          replace H : (if t131 = 0 then (if t135 = 0 then (joustlaw32_OddsSums.l0 k3 a0 a1 a2 (wrap64 (x20_3 + 1)) t133 t134) else (some false)) else (some false)) = some r := H
          have A112 := Aside0.mk A1120
          clear A1120
          by_cases c113 : t131 = 0
          ·
           rw [if_pos c113] at H
           have c113b0 : (t131 == 0) = true := beq_iff_eq.mpr c113
           have c113b1 : (t131 != 0) = false := bne_eq_false_iff_eq.mpr c113
           clear c113
           by_cases c114 : t135 = 0
           ·
            rw [if_pos c114] at H
            have c114b0 : (t135 == 0) = true := beq_iff_eq.mpr c114
            have c114b1 : (t135 != 0) = false := bne_eq_false_iff_eq.mpr c114
            clear c114
            have H' := Aside0.mk H
            clear H
            go_wp2_with (first | ((with_reducible refine gate_callee (f := 28) rfl ?_); refine goesL_ (some 128) rfl rfl Tryd.func28 (by kernel_rfl) rfl #[.int .i64 a0, .int .i64 a1, .int .i64 a2, .int .i64 x20_3] rfl (by (try simp only [List.map_toArray, List.map_cons, List.map_nil]); first | done | rfl | (simp only [List.length_drop, List.length_take]; rfl)) ?_; (with_reducible refine (Podd.odds_Exactly.calls k3 a0 a1 a2 x20_3 t129 t130 t131 _ A111.out).mono ?_); rintro e w115 ⟨rfl, hb⟩; refine ⟨_, rfl, ?_⟩; have n0_ := Aside0.mk (blk_below (g := gb104) (o := .cells #[.int .u64 t101, .int .u64 t102] 47 (0, 0)) of_lies hb); have n1_ := Aside0.mk (blk_below (g := gb114) (o := .cells #[.int .u64 t111, .int .u64 t112] 47 (0, 0)) of_lies hb); have n2_ := Aside0.mk (blk_below (g := gb118) (o := .cells #[.int .u64 t115, .int .u64 t116] 47 (0, 0)) of_lies hb); have n3_ := Aside0.mk (blk_below (g := gb127) (o := .cells #[.int .u64 x128000_3, .int .u64 x128001_3] 47 (0, 0)) of_lies hb); have n4_ := Aside0.mk (below_step (low HB) hb); clear BK104; clear BK114; clear BK118; clear BK127; clear HB; have BK104 := n0_; have BK114 := n1_; have BK118 := n2_; have BK127 := n3_; have HB := n4_; clear n0_ n1_ n2_ n3_ n4_; (try clear hb); (try clear hb2); (try clear hk); (try clear hi)) | ((with_reducible refine gate_dst (N := 21) rfl ?_); refine box_event ?hg (N := 21) ?hd (cs := #[.int .u64 0, .int .u64 0]) (t := 47) ?hr ?_; (case hd => rfl); (case hg => rfl); (case hr => first | (go_simp; done) | (go_simp; rfl)); intro gb132 hg w116 hbox hb; have n0_ := Aside0.mk (blk_below (g := gb104) (o := .cells #[.int .u64 t101, .int .u64 t102] 47 (0, 0)) of_lies hb); have n1_ := Aside0.mk (blk_below (g := gb114) (o := .cells #[.int .u64 t111, .int .u64 t112] 47 (0, 0)) of_lies hb); have n2_ := Aside0.mk (blk_below (g := gb118) (o := .cells #[.int .u64 t115, .int .u64 t116] 47 (0, 0)) of_lies hb); have n3_ := Aside0.mk (blk_below (g := gb127) (o := .cells #[.int .u64 x128000_3, .int .u64 x128001_3] 47 (0, 0)) of_lies hb); have n4_ := Aside0.mk (below_step (low HB) hb); have n5_ := Aside0.mk (hbox); have n6_ := Aside0.mk ((by rw [hg]; exact (below_size (low HB)) : w.heap.size ≤ gb132)); have n7_ := Aside0.mk ((by rw [hg]; exact (below_size (low HB)) : w.heap.size ≤ gb132)); have n8_ := Aside0.mk ((by rw [hg]; exact Nat.ne_of_lt (blk_lt (g := gb104) (o := .cells #[.int .u64 t101, .int .u64 t102] 47 (0, 0)) of_lies) : gb104 ≠ gb132)); have n9_ := Aside0.mk ((by rw [hg]; exact Nat.ne_of_gt (blk_lt (g := gb104) (o := .cells #[.int .u64 t101, .int .u64 t102] 47 (0, 0)) of_lies) : gb132 ≠ gb104)); have n10_ := Aside0.mk ((by rw [hg]; exact Nat.ne_of_lt (blk_lt (g := gb114) (o := .cells #[.int .u64 t111, .int .u64 t112] 47 (0, 0)) of_lies) : gb114 ≠ gb132)); have n11_ := Aside0.mk ((by rw [hg]; exact Nat.ne_of_gt (blk_lt (g := gb114) (o := .cells #[.int .u64 t111, .int .u64 t112] 47 (0, 0)) of_lies) : gb132 ≠ gb114)); have n12_ := Aside0.mk ((by rw [hg]; exact Nat.ne_of_lt (blk_lt (g := gb118) (o := .cells #[.int .u64 t115, .int .u64 t116] 47 (0, 0)) of_lies) : gb118 ≠ gb132)); have n13_ := Aside0.mk ((by rw [hg]; exact Nat.ne_of_gt (blk_lt (g := gb118) (o := .cells #[.int .u64 t115, .int .u64 t116] 47 (0, 0)) of_lies) : gb132 ≠ gb118)); have n14_ := Aside0.mk ((by rw [hg]; exact Nat.ne_of_lt (blk_lt (g := gb127) (o := .cells #[.int .u64 x128000_3, .int .u64 x128001_3] 47 (0, 0)) of_lies) : gb127 ≠ gb132)); have n15_ := Aside0.mk ((by rw [hg]; exact Nat.ne_of_gt (blk_lt (g := gb127) (o := .cells #[.int .u64 x128000_3, .int .u64 x128001_3] 47 (0, 0)) of_lies) : gb132 ≠ gb127)); clear BK104; clear BK114; clear BK118; clear BK127; clear HB; have BK104 := n0_; have BK114 := n1_; have BK118 := n2_; have BK127 := n3_; have HB := n4_; have BK132 := n5_; have GW132 := n6_; have GE132 := n7_; have NB104_132 := n8_; have NB132_104 := n9_; have NB114_132 := n10_; have NB132_114 := n11_; have NB118_132 := n12_; have NB132_118 := n13_; have NB127_132 := n14_; have NB132_127 := n15_; clear n0_ n1_ n2_ n3_ n4_ n5_ n6_ n7_ n8_ n9_ n10_ n11_ n12_ n13_ n14_ n15_; clear hb hbox hg; have hnb117 := NB132_104.out; have hnc117 := NB104_132.out; have hnb118 := NB132_114.out; have hnc118 := NB114_132.out; have hnb119 := NB132_118.out; have hnc119 := NB118_132.out; have hnb120 := NB132_127.out; have hnc120 := NB127_132.out; obtain ⟨hcz121_0, hcz121_1, hfz121_0, hfz121_1⟩ := cells2 BK132.out; have hnb122 := NB127_104.out; have hnc122 := NB104_127.out; have hnb123 := NB127_114.out; have hnc123 := NB114_127.out; have hnb124 := NB127_118.out; have hnc124 := NB118_127.out; obtain ⟨hcz125_0, hcz125_1, hfz125_0, hfz125_1⟩ := cells2 BK127.out) | ((with_reducible refine gate_callee (f := 36) rfl ?_); refine goesL_ (some 134) rfl rfl Tryd.func36 (by kernel_rfl) rfl #[.agg #[.int .u64 x128000_3, .int .u64 x128001_3], .agg #[.int .u64 t129, .int .u64 t130]] rfl (by (try simp only [List.map_toArray, List.map_cons, List.map_nil]); first | done | rfl | (simp only [List.length_drop, List.length_take]; rfl)) ?_; (with_reducible refine (Pods2.odds_Sum.calls x128000_3 x128001_3 t129 t130 t133 t134 t135 _ A112.out).mono ?_); rintro e w126 ⟨rfl, hb⟩; refine ⟨_, rfl, ?_⟩; have n0_ := Aside0.mk (blk_below (g := gb104) (o := .cells #[.int .u64 t101, .int .u64 t102] 47 (0, 0)) of_lies hb); have n1_ := Aside0.mk (blk_below (g := gb114) (o := .cells #[.int .u64 t111, .int .u64 t112] 47 (0, 0)) of_lies hb); have n2_ := Aside0.mk (blk_below (g := gb118) (o := .cells #[.int .u64 t115, .int .u64 t116] 47 (0, 0)) of_lies hb); have n3_ := Aside0.mk (blk_below (g := gb127) (o := .cells #[.int .u64 x128000_3, .int .u64 x128001_3] 47 (0, 0)) of_lies hb); have n4_ := Aside0.mk (blk_below (g := gb132) (o := .cells #[.int .u64 t129, .int .u64 t130] 47 (0, 0)) of_lies hb); have n5_ := Aside0.mk (below_step (low HB) hb); clear BK104; clear BK114; clear BK118; clear BK127; clear BK132; clear HB; have BK104 := n0_; have BK114 := n1_; have BK118 := n2_; have BK127 := n3_; have BK132 := n4_; have HB := n5_; clear n0_ n1_ n2_ n3_ n4_ n5_; (try clear hb); (try clear hb2); (try clear hk); (try clear hi)) | ((with_reducible refine gate_dst (N := 23) rfl ?_); refine box_event ?hg (N := 23) ?hd (cs := #[.int .u64 0, .int .u64 0]) (t := 47) ?hr ?_; (case hd => rfl); (case hg => rfl); (case hr => first | (go_simp; done) | (go_simp; rfl)); intro gb136 hg w127 hbox hb; have n0_ := Aside0.mk (blk_below (g := gb104) (o := .cells #[.int .u64 t101, .int .u64 t102] 47 (0, 0)) of_lies hb); have n1_ := Aside0.mk (blk_below (g := gb114) (o := .cells #[.int .u64 t111, .int .u64 t112] 47 (0, 0)) of_lies hb); have n2_ := Aside0.mk (blk_below (g := gb118) (o := .cells #[.int .u64 t115, .int .u64 t116] 47 (0, 0)) of_lies hb); have n3_ := Aside0.mk (blk_below (g := gb127) (o := .cells #[.int .u64 x128000_3, .int .u64 x128001_3] 47 (0, 0)) of_lies hb); have n4_ := Aside0.mk (blk_below (g := gb132) (o := .cells #[.int .u64 t129, .int .u64 t130] 47 (0, 0)) of_lies hb); have n5_ := Aside0.mk (below_step (low HB) hb); have n6_ := Aside0.mk (hbox); have n7_ := Aside0.mk ((by rw [hg]; exact (below_size (low HB)) : w.heap.size ≤ gb136)); have n8_ := Aside0.mk ((by rw [hg]; exact (below_size (low HB)) : w.heap.size ≤ gb136)); have n9_ := Aside0.mk ((by rw [hg]; exact Nat.ne_of_lt (blk_lt (g := gb104) (o := .cells #[.int .u64 t101, .int .u64 t102] 47 (0, 0)) of_lies) : gb104 ≠ gb136)); have n10_ := Aside0.mk ((by rw [hg]; exact Nat.ne_of_gt (blk_lt (g := gb104) (o := .cells #[.int .u64 t101, .int .u64 t102] 47 (0, 0)) of_lies) : gb136 ≠ gb104)); have n11_ := Aside0.mk ((by rw [hg]; exact Nat.ne_of_lt (blk_lt (g := gb114) (o := .cells #[.int .u64 t111, .int .u64 t112] 47 (0, 0)) of_lies) : gb114 ≠ gb136)); have n12_ := Aside0.mk ((by rw [hg]; exact Nat.ne_of_gt (blk_lt (g := gb114) (o := .cells #[.int .u64 t111, .int .u64 t112] 47 (0, 0)) of_lies) : gb136 ≠ gb114)); have n13_ := Aside0.mk ((by rw [hg]; exact Nat.ne_of_lt (blk_lt (g := gb118) (o := .cells #[.int .u64 t115, .int .u64 t116] 47 (0, 0)) of_lies) : gb118 ≠ gb136)); have n14_ := Aside0.mk ((by rw [hg]; exact Nat.ne_of_gt (blk_lt (g := gb118) (o := .cells #[.int .u64 t115, .int .u64 t116] 47 (0, 0)) of_lies) : gb136 ≠ gb118)); have n15_ := Aside0.mk ((by rw [hg]; exact Nat.ne_of_lt (blk_lt (g := gb127) (o := .cells #[.int .u64 x128000_3, .int .u64 x128001_3] 47 (0, 0)) of_lies) : gb127 ≠ gb136)); have n16_ := Aside0.mk ((by rw [hg]; exact Nat.ne_of_gt (blk_lt (g := gb127) (o := .cells #[.int .u64 x128000_3, .int .u64 x128001_3] 47 (0, 0)) of_lies) : gb136 ≠ gb127)); have n17_ := Aside0.mk ((by rw [hg]; exact Nat.ne_of_lt (blk_lt (g := gb132) (o := .cells #[.int .u64 t129, .int .u64 t130] 47 (0, 0)) of_lies) : gb132 ≠ gb136)); have n18_ := Aside0.mk ((by rw [hg]; exact Nat.ne_of_gt (blk_lt (g := gb132) (o := .cells #[.int .u64 t129, .int .u64 t130] 47 (0, 0)) of_lies) : gb136 ≠ gb132)); clear BK104; clear BK114; clear BK118; clear BK127; clear BK132; clear HB; have BK104 := n0_; have BK114 := n1_; have BK118 := n2_; have BK127 := n3_; have BK132 := n4_; have HB := n5_; have BK136 := n6_; have GW136 := n7_; have GE136 := n8_; have NB104_136 := n9_; have NB136_104 := n10_; have NB114_136 := n11_; have NB136_114 := n12_; have NB118_136 := n13_; have NB136_118 := n14_; have NB127_136 := n15_; have NB136_127 := n16_; have NB132_136 := n17_; have NB136_132 := n18_; clear n0_ n1_ n2_ n3_ n4_ n5_ n6_ n7_ n8_ n9_ n10_ n11_ n12_ n13_ n14_ n15_ n16_ n17_ n18_; clear hb hbox hg; have hnb128 := NB136_104.out; have hnc128 := NB104_136.out; have hnb129 := NB136_114.out; have hnc129 := NB114_136.out; have hnb130 := NB136_118.out; have hnc130 := NB118_136.out; have hnb131 := NB136_127.out; have hnc131 := NB127_136.out; have hnb132 := NB136_132.out; have hnc132 := NB132_136.out; obtain ⟨hcz133_0, hcz133_1, hfz133_0, hfz133_1⟩ := cells2 BK136.out; obtain ⟨hcz134_0, hcz134_1, hfz134_0, hfz134_1⟩ := cells2 BK127.out))
            go_roundg k3
            case measure => have := HJ8.out; have := HJ29.out; have := HK3.out; omega
            case rel => exact ⟨(wrap64 (x20_3 + 1)), (t133), (t134), (by first | rfl | (simp; done) | (simp [*]; done)), H', ⟨by have := HJ8.out; have := HJ29.out; have := HK3.out; omega⟩, ⟨of_lies⟩, ⟨of_lies⟩, ⟨of_lies⟩, ⟨of_lies⟩, ⟨low HB⟩⟩
           ·
            rw [if_neg c114] at H
            have c114b0 : (t135 == 0) = false := beq_eq_false_iff_ne.mpr c114
            have c114b1 : (t135 != 0) = true := bne_iff_ne.mpr c114
            obtain rfl := Option.some.inj H
            go_wp2_with (first | ((with_reducible refine gate_callee (f := 28) rfl ?_); refine goesL_ (some 128) rfl rfl Tryd.func28 (by kernel_rfl) rfl #[.int .i64 a0, .int .i64 a1, .int .i64 a2, .int .i64 x20_3] rfl (by (try simp only [List.map_toArray, List.map_cons, List.map_nil]); first | done | rfl | (simp only [List.length_drop, List.length_take]; rfl)) ?_; (with_reducible refine (Podd.odds_Exactly.calls k3 a0 a1 a2 x20_3 t129 t130 t131 _ A111.out).mono ?_); rintro e w135 ⟨rfl, hb⟩; refine ⟨_, rfl, ?_⟩; have n0_ := Aside0.mk (blk_below (g := gb104) (o := .cells #[.int .u64 t101, .int .u64 t102] 47 (0, 0)) of_lies hb); have n1_ := Aside0.mk (blk_below (g := gb114) (o := .cells #[.int .u64 t111, .int .u64 t112] 47 (0, 0)) of_lies hb); have n2_ := Aside0.mk (blk_below (g := gb118) (o := .cells #[.int .u64 t115, .int .u64 t116] 47 (0, 0)) of_lies hb); have n3_ := Aside0.mk (blk_below (g := gb127) (o := .cells #[.int .u64 x128000_3, .int .u64 x128001_3] 47 (0, 0)) of_lies hb); have n4_ := Aside0.mk (below_step (low HB) hb); clear BK104; clear BK114; clear BK118; clear BK127; clear HB; have BK104 := n0_; have BK114 := n1_; have BK118 := n2_; have BK127 := n3_; have HB := n4_; clear n0_ n1_ n2_ n3_ n4_; (try clear hb); (try clear hb2); (try clear hk); (try clear hi)) | ((with_reducible refine gate_dst (N := 21) rfl ?_); refine box_event ?hg (N := 21) ?hd (cs := #[.int .u64 0, .int .u64 0]) (t := 47) ?hr ?_; (case hd => rfl); (case hg => rfl); (case hr => first | (go_simp; done) | (go_simp; rfl)); intro gb132 hg w136 hbox hb; have n0_ := Aside0.mk (blk_below (g := gb104) (o := .cells #[.int .u64 t101, .int .u64 t102] 47 (0, 0)) of_lies hb); have n1_ := Aside0.mk (blk_below (g := gb114) (o := .cells #[.int .u64 t111, .int .u64 t112] 47 (0, 0)) of_lies hb); have n2_ := Aside0.mk (blk_below (g := gb118) (o := .cells #[.int .u64 t115, .int .u64 t116] 47 (0, 0)) of_lies hb); have n3_ := Aside0.mk (blk_below (g := gb127) (o := .cells #[.int .u64 x128000_3, .int .u64 x128001_3] 47 (0, 0)) of_lies hb); have n4_ := Aside0.mk (below_step (low HB) hb); have n5_ := Aside0.mk (hbox); have n6_ := Aside0.mk ((by rw [hg]; exact (below_size (low HB)) : w.heap.size ≤ gb132)); have n7_ := Aside0.mk ((by rw [hg]; exact (below_size (low HB)) : w.heap.size ≤ gb132)); have n8_ := Aside0.mk ((by rw [hg]; exact Nat.ne_of_lt (blk_lt (g := gb104) (o := .cells #[.int .u64 t101, .int .u64 t102] 47 (0, 0)) of_lies) : gb104 ≠ gb132)); have n9_ := Aside0.mk ((by rw [hg]; exact Nat.ne_of_gt (blk_lt (g := gb104) (o := .cells #[.int .u64 t101, .int .u64 t102] 47 (0, 0)) of_lies) : gb132 ≠ gb104)); have n10_ := Aside0.mk ((by rw [hg]; exact Nat.ne_of_lt (blk_lt (g := gb114) (o := .cells #[.int .u64 t111, .int .u64 t112] 47 (0, 0)) of_lies) : gb114 ≠ gb132)); have n11_ := Aside0.mk ((by rw [hg]; exact Nat.ne_of_gt (blk_lt (g := gb114) (o := .cells #[.int .u64 t111, .int .u64 t112] 47 (0, 0)) of_lies) : gb132 ≠ gb114)); have n12_ := Aside0.mk ((by rw [hg]; exact Nat.ne_of_lt (blk_lt (g := gb118) (o := .cells #[.int .u64 t115, .int .u64 t116] 47 (0, 0)) of_lies) : gb118 ≠ gb132)); have n13_ := Aside0.mk ((by rw [hg]; exact Nat.ne_of_gt (blk_lt (g := gb118) (o := .cells #[.int .u64 t115, .int .u64 t116] 47 (0, 0)) of_lies) : gb132 ≠ gb118)); have n14_ := Aside0.mk ((by rw [hg]; exact Nat.ne_of_lt (blk_lt (g := gb127) (o := .cells #[.int .u64 x128000_3, .int .u64 x128001_3] 47 (0, 0)) of_lies) : gb127 ≠ gb132)); have n15_ := Aside0.mk ((by rw [hg]; exact Nat.ne_of_gt (blk_lt (g := gb127) (o := .cells #[.int .u64 x128000_3, .int .u64 x128001_3] 47 (0, 0)) of_lies) : gb132 ≠ gb127)); clear BK104; clear BK114; clear BK118; clear BK127; clear HB; have BK104 := n0_; have BK114 := n1_; have BK118 := n2_; have BK127 := n3_; have HB := n4_; have BK132 := n5_; have GW132 := n6_; have GE132 := n7_; have NB104_132 := n8_; have NB132_104 := n9_; have NB114_132 := n10_; have NB132_114 := n11_; have NB118_132 := n12_; have NB132_118 := n13_; have NB127_132 := n14_; have NB132_127 := n15_; clear n0_ n1_ n2_ n3_ n4_ n5_ n6_ n7_ n8_ n9_ n10_ n11_ n12_ n13_ n14_ n15_; clear hb hbox hg; have hnb137 := NB132_104.out; have hnc137 := NB104_132.out; have hnb138 := NB132_114.out; have hnc138 := NB114_132.out; have hnb139 := NB132_118.out; have hnc139 := NB118_132.out; have hnb140 := NB132_127.out; have hnc140 := NB127_132.out; obtain ⟨hcz141_0, hcz141_1, hfz141_0, hfz141_1⟩ := cells2 BK132.out; have hnb142 := NB127_104.out; have hnc142 := NB104_127.out; have hnb143 := NB127_114.out; have hnc143 := NB114_127.out; have hnb144 := NB127_118.out; have hnc144 := NB118_127.out; obtain ⟨hcz145_0, hcz145_1, hfz145_0, hfz145_1⟩ := cells2 BK127.out) | ((with_reducible refine gate_callee (f := 36) rfl ?_); refine goesL_ (some 134) rfl rfl Tryd.func36 (by kernel_rfl) rfl #[.agg #[.int .u64 x128000_3, .int .u64 x128001_3], .agg #[.int .u64 t129, .int .u64 t130]] rfl (by (try simp only [List.map_toArray, List.map_cons, List.map_nil]); first | done | rfl | (simp only [List.length_drop, List.length_take]; rfl)) ?_; (with_reducible refine (Pods2.odds_Sum.calls x128000_3 x128001_3 t129 t130 t133 t134 t135 _ A112.out).mono ?_); rintro e w146 ⟨rfl, hb⟩; refine ⟨_, rfl, ?_⟩; have n0_ := Aside0.mk (blk_below (g := gb104) (o := .cells #[.int .u64 t101, .int .u64 t102] 47 (0, 0)) of_lies hb); have n1_ := Aside0.mk (blk_below (g := gb114) (o := .cells #[.int .u64 t111, .int .u64 t112] 47 (0, 0)) of_lies hb); have n2_ := Aside0.mk (blk_below (g := gb118) (o := .cells #[.int .u64 t115, .int .u64 t116] 47 (0, 0)) of_lies hb); have n3_ := Aside0.mk (blk_below (g := gb127) (o := .cells #[.int .u64 x128000_3, .int .u64 x128001_3] 47 (0, 0)) of_lies hb); have n4_ := Aside0.mk (blk_below (g := gb132) (o := .cells #[.int .u64 t129, .int .u64 t130] 47 (0, 0)) of_lies hb); have n5_ := Aside0.mk (below_step (low HB) hb); clear BK104; clear BK114; clear BK118; clear BK127; clear BK132; clear HB; have BK104 := n0_; have BK114 := n1_; have BK118 := n2_; have BK127 := n3_; have BK132 := n4_; have HB := n5_; clear n0_ n1_ n2_ n3_ n4_ n5_; (try clear hb); (try clear hb2); (try clear hk); (try clear hi)) | ((with_reducible refine gate_dst (N := 23) rfl ?_); refine box_event ?hg (N := 23) ?hd (cs := #[.int .u64 0, .int .u64 0]) (t := 47) ?hr ?_; (case hd => rfl); (case hg => rfl); (case hr => first | (go_simp; done) | (go_simp; rfl)); intro gb136 hg w147 hbox hb; have n0_ := Aside0.mk (blk_below (g := gb104) (o := .cells #[.int .u64 t101, .int .u64 t102] 47 (0, 0)) of_lies hb); have n1_ := Aside0.mk (blk_below (g := gb114) (o := .cells #[.int .u64 t111, .int .u64 t112] 47 (0, 0)) of_lies hb); have n2_ := Aside0.mk (blk_below (g := gb118) (o := .cells #[.int .u64 t115, .int .u64 t116] 47 (0, 0)) of_lies hb); have n3_ := Aside0.mk (blk_below (g := gb127) (o := .cells #[.int .u64 x128000_3, .int .u64 x128001_3] 47 (0, 0)) of_lies hb); have n4_ := Aside0.mk (blk_below (g := gb132) (o := .cells #[.int .u64 t129, .int .u64 t130] 47 (0, 0)) of_lies hb); have n5_ := Aside0.mk (below_step (low HB) hb); have n6_ := Aside0.mk (hbox); have n7_ := Aside0.mk ((by rw [hg]; exact (below_size (low HB)) : w.heap.size ≤ gb136)); have n8_ := Aside0.mk ((by rw [hg]; exact (below_size (low HB)) : w.heap.size ≤ gb136)); have n9_ := Aside0.mk ((by rw [hg]; exact Nat.ne_of_lt (blk_lt (g := gb104) (o := .cells #[.int .u64 t101, .int .u64 t102] 47 (0, 0)) of_lies) : gb104 ≠ gb136)); have n10_ := Aside0.mk ((by rw [hg]; exact Nat.ne_of_gt (blk_lt (g := gb104) (o := .cells #[.int .u64 t101, .int .u64 t102] 47 (0, 0)) of_lies) : gb136 ≠ gb104)); have n11_ := Aside0.mk ((by rw [hg]; exact Nat.ne_of_lt (blk_lt (g := gb114) (o := .cells #[.int .u64 t111, .int .u64 t112] 47 (0, 0)) of_lies) : gb114 ≠ gb136)); have n12_ := Aside0.mk ((by rw [hg]; exact Nat.ne_of_gt (blk_lt (g := gb114) (o := .cells #[.int .u64 t111, .int .u64 t112] 47 (0, 0)) of_lies) : gb136 ≠ gb114)); have n13_ := Aside0.mk ((by rw [hg]; exact Nat.ne_of_lt (blk_lt (g := gb118) (o := .cells #[.int .u64 t115, .int .u64 t116] 47 (0, 0)) of_lies) : gb118 ≠ gb136)); have n14_ := Aside0.mk ((by rw [hg]; exact Nat.ne_of_gt (blk_lt (g := gb118) (o := .cells #[.int .u64 t115, .int .u64 t116] 47 (0, 0)) of_lies) : gb136 ≠ gb118)); have n15_ := Aside0.mk ((by rw [hg]; exact Nat.ne_of_lt (blk_lt (g := gb127) (o := .cells #[.int .u64 x128000_3, .int .u64 x128001_3] 47 (0, 0)) of_lies) : gb127 ≠ gb136)); have n16_ := Aside0.mk ((by rw [hg]; exact Nat.ne_of_gt (blk_lt (g := gb127) (o := .cells #[.int .u64 x128000_3, .int .u64 x128001_3] 47 (0, 0)) of_lies) : gb136 ≠ gb127)); have n17_ := Aside0.mk ((by rw [hg]; exact Nat.ne_of_lt (blk_lt (g := gb132) (o := .cells #[.int .u64 t129, .int .u64 t130] 47 (0, 0)) of_lies) : gb132 ≠ gb136)); have n18_ := Aside0.mk ((by rw [hg]; exact Nat.ne_of_gt (blk_lt (g := gb132) (o := .cells #[.int .u64 t129, .int .u64 t130] 47 (0, 0)) of_lies) : gb136 ≠ gb132)); clear BK104; clear BK114; clear BK118; clear BK127; clear BK132; clear HB; have BK104 := n0_; have BK114 := n1_; have BK118 := n2_; have BK127 := n3_; have BK132 := n4_; have HB := n5_; have BK136 := n6_; have GW136 := n7_; have GE136 := n8_; have NB104_136 := n9_; have NB136_104 := n10_; have NB114_136 := n11_; have NB136_114 := n12_; have NB118_136 := n13_; have NB136_118 := n14_; have NB127_136 := n15_; have NB136_127 := n16_; have NB132_136 := n17_; have NB136_132 := n18_; clear n0_ n1_ n2_ n3_ n4_ n5_ n6_ n7_ n8_ n9_ n10_ n11_ n12_ n13_ n14_ n15_ n16_ n17_ n18_; clear hb hbox hg; have hnb148 := NB136_104.out; have hnc148 := NB104_136.out; have hnb149 := NB136_114.out; have hnc149 := NB114_136.out; have hnb150 := NB136_118.out; have hnc150 := NB118_136.out; have hnb151 := NB136_127.out; have hnc151 := NB127_136.out; have hnb152 := NB136_132.out; have hnc152 := NB132_136.out; obtain ⟨hcz153_0, hcz153_1, hfz153_0, hfz153_1⟩ := cells2 BK136.out))
            go_ret
            exact ⟨by first | rfl | (simp [errW_none, errW_some] <;> rfl) | (simp [*, errW_none, errW_some] <;> rfl), low HB⟩
          ·
           rw [if_neg c113] at H
           have c113b0 : (t131 == 0) = false := beq_eq_false_iff_ne.mpr c113
           have c113b1 : (t131 != 0) = true := bne_iff_ne.mpr c113
           obtain rfl := Option.some.inj H
           go_wp2_with (first | ((with_reducible refine gate_callee (f := 28) rfl ?_); refine goesL_ (some 128) rfl rfl Tryd.func28 (by kernel_rfl) rfl #[.int .i64 a0, .int .i64 a1, .int .i64 a2, .int .i64 x20_3] rfl (by (try simp only [List.map_toArray, List.map_cons, List.map_nil]); first | done | rfl | (simp only [List.length_drop, List.length_take]; rfl)) ?_; (with_reducible refine (Podd.odds_Exactly.calls k3 a0 a1 a2 x20_3 t129 t130 t131 _ A111.out).mono ?_); rintro e w154 ⟨rfl, hb⟩; refine ⟨_, rfl, ?_⟩; have n0_ := Aside0.mk (blk_below (g := gb104) (o := .cells #[.int .u64 t101, .int .u64 t102] 47 (0, 0)) of_lies hb); have n1_ := Aside0.mk (blk_below (g := gb114) (o := .cells #[.int .u64 t111, .int .u64 t112] 47 (0, 0)) of_lies hb); have n2_ := Aside0.mk (blk_below (g := gb118) (o := .cells #[.int .u64 t115, .int .u64 t116] 47 (0, 0)) of_lies hb); have n3_ := Aside0.mk (blk_below (g := gb127) (o := .cells #[.int .u64 x128000_3, .int .u64 x128001_3] 47 (0, 0)) of_lies hb); have n4_ := Aside0.mk (below_step (low HB) hb); clear BK104; clear BK114; clear BK118; clear BK127; clear HB; have BK104 := n0_; have BK114 := n1_; have BK118 := n2_; have BK127 := n3_; have HB := n4_; clear n0_ n1_ n2_ n3_ n4_; (try clear hb); (try clear hb2); (try clear hk); (try clear hi)) | ((with_reducible refine gate_dst (N := 21) rfl ?_); refine box_event ?hg (N := 21) ?hd (cs := #[.int .u64 0, .int .u64 0]) (t := 47) ?hr ?_; (case hd => rfl); (case hg => rfl); (case hr => first | (go_simp; done) | (go_simp; rfl)); intro gb132 hg w155 hbox hb; have n0_ := Aside0.mk (blk_below (g := gb104) (o := .cells #[.int .u64 t101, .int .u64 t102] 47 (0, 0)) of_lies hb); have n1_ := Aside0.mk (blk_below (g := gb114) (o := .cells #[.int .u64 t111, .int .u64 t112] 47 (0, 0)) of_lies hb); have n2_ := Aside0.mk (blk_below (g := gb118) (o := .cells #[.int .u64 t115, .int .u64 t116] 47 (0, 0)) of_lies hb); have n3_ := Aside0.mk (blk_below (g := gb127) (o := .cells #[.int .u64 x128000_3, .int .u64 x128001_3] 47 (0, 0)) of_lies hb); have n4_ := Aside0.mk (below_step (low HB) hb); have n5_ := Aside0.mk (hbox); have n6_ := Aside0.mk ((by rw [hg]; exact (below_size (low HB)) : w.heap.size ≤ gb132)); have n7_ := Aside0.mk ((by rw [hg]; exact (below_size (low HB)) : w.heap.size ≤ gb132)); have n8_ := Aside0.mk ((by rw [hg]; exact Nat.ne_of_lt (blk_lt (g := gb104) (o := .cells #[.int .u64 t101, .int .u64 t102] 47 (0, 0)) of_lies) : gb104 ≠ gb132)); have n9_ := Aside0.mk ((by rw [hg]; exact Nat.ne_of_gt (blk_lt (g := gb104) (o := .cells #[.int .u64 t101, .int .u64 t102] 47 (0, 0)) of_lies) : gb132 ≠ gb104)); have n10_ := Aside0.mk ((by rw [hg]; exact Nat.ne_of_lt (blk_lt (g := gb114) (o := .cells #[.int .u64 t111, .int .u64 t112] 47 (0, 0)) of_lies) : gb114 ≠ gb132)); have n11_ := Aside0.mk ((by rw [hg]; exact Nat.ne_of_gt (blk_lt (g := gb114) (o := .cells #[.int .u64 t111, .int .u64 t112] 47 (0, 0)) of_lies) : gb132 ≠ gb114)); have n12_ := Aside0.mk ((by rw [hg]; exact Nat.ne_of_lt (blk_lt (g := gb118) (o := .cells #[.int .u64 t115, .int .u64 t116] 47 (0, 0)) of_lies) : gb118 ≠ gb132)); have n13_ := Aside0.mk ((by rw [hg]; exact Nat.ne_of_gt (blk_lt (g := gb118) (o := .cells #[.int .u64 t115, .int .u64 t116] 47 (0, 0)) of_lies) : gb132 ≠ gb118)); have n14_ := Aside0.mk ((by rw [hg]; exact Nat.ne_of_lt (blk_lt (g := gb127) (o := .cells #[.int .u64 x128000_3, .int .u64 x128001_3] 47 (0, 0)) of_lies) : gb127 ≠ gb132)); have n15_ := Aside0.mk ((by rw [hg]; exact Nat.ne_of_gt (blk_lt (g := gb127) (o := .cells #[.int .u64 x128000_3, .int .u64 x128001_3] 47 (0, 0)) of_lies) : gb132 ≠ gb127)); clear BK104; clear BK114; clear BK118; clear BK127; clear HB; have BK104 := n0_; have BK114 := n1_; have BK118 := n2_; have BK127 := n3_; have HB := n4_; have BK132 := n5_; have GW132 := n6_; have GE132 := n7_; have NB104_132 := n8_; have NB132_104 := n9_; have NB114_132 := n10_; have NB132_114 := n11_; have NB118_132 := n12_; have NB132_118 := n13_; have NB127_132 := n14_; have NB132_127 := n15_; clear n0_ n1_ n2_ n3_ n4_ n5_ n6_ n7_ n8_ n9_ n10_ n11_ n12_ n13_ n14_ n15_; clear hb hbox hg; have hnb156 := NB132_104.out; have hnc156 := NB104_132.out; have hnb157 := NB132_114.out; have hnc157 := NB114_132.out; have hnb158 := NB132_118.out; have hnc158 := NB118_132.out; have hnb159 := NB132_127.out; have hnc159 := NB127_132.out; obtain ⟨hcz160_0, hcz160_1, hfz160_0, hfz160_1⟩ := cells2 BK132.out; have hnb161 := NB127_104.out; have hnc161 := NB104_127.out; have hnb162 := NB127_114.out; have hnc162 := NB114_127.out; have hnb163 := NB127_118.out; have hnc163 := NB118_127.out; obtain ⟨hcz164_0, hcz164_1, hfz164_0, hfz164_1⟩ := cells2 BK127.out) | ((with_reducible refine gate_callee (f := 36) rfl ?_); refine goesL_ (some 134) rfl rfl Tryd.func36 (by kernel_rfl) rfl #[.agg #[.int .u64 x128000_3, .int .u64 x128001_3], .agg #[.int .u64 t129, .int .u64 t130]] rfl (by (try simp only [List.map_toArray, List.map_cons, List.map_nil]); first | done | rfl | (simp only [List.length_drop, List.length_take]; rfl)) ?_; (with_reducible refine (Pods2.odds_Sum.calls x128000_3 x128001_3 t129 t130 t133 t134 t135 _ A112.out).mono ?_); rintro e w165 ⟨rfl, hb⟩; refine ⟨_, rfl, ?_⟩; have n0_ := Aside0.mk (blk_below (g := gb104) (o := .cells #[.int .u64 t101, .int .u64 t102] 47 (0, 0)) of_lies hb); have n1_ := Aside0.mk (blk_below (g := gb114) (o := .cells #[.int .u64 t111, .int .u64 t112] 47 (0, 0)) of_lies hb); have n2_ := Aside0.mk (blk_below (g := gb118) (o := .cells #[.int .u64 t115, .int .u64 t116] 47 (0, 0)) of_lies hb); have n3_ := Aside0.mk (blk_below (g := gb127) (o := .cells #[.int .u64 x128000_3, .int .u64 x128001_3] 47 (0, 0)) of_lies hb); have n4_ := Aside0.mk (blk_below (g := gb132) (o := .cells #[.int .u64 t129, .int .u64 t130] 47 (0, 0)) of_lies hb); have n5_ := Aside0.mk (below_step (low HB) hb); clear BK104; clear BK114; clear BK118; clear BK127; clear BK132; clear HB; have BK104 := n0_; have BK114 := n1_; have BK118 := n2_; have BK127 := n3_; have BK132 := n4_; have HB := n5_; clear n0_ n1_ n2_ n3_ n4_ n5_; (try clear hb); (try clear hb2); (try clear hk); (try clear hi)) | ((with_reducible refine gate_dst (N := 23) rfl ?_); refine box_event ?hg (N := 23) ?hd (cs := #[.int .u64 0, .int .u64 0]) (t := 47) ?hr ?_; (case hd => rfl); (case hg => rfl); (case hr => first | (go_simp; done) | (go_simp; rfl)); intro gb136 hg w166 hbox hb; have n0_ := Aside0.mk (blk_below (g := gb104) (o := .cells #[.int .u64 t101, .int .u64 t102] 47 (0, 0)) of_lies hb); have n1_ := Aside0.mk (blk_below (g := gb114) (o := .cells #[.int .u64 t111, .int .u64 t112] 47 (0, 0)) of_lies hb); have n2_ := Aside0.mk (blk_below (g := gb118) (o := .cells #[.int .u64 t115, .int .u64 t116] 47 (0, 0)) of_lies hb); have n3_ := Aside0.mk (blk_below (g := gb127) (o := .cells #[.int .u64 x128000_3, .int .u64 x128001_3] 47 (0, 0)) of_lies hb); have n4_ := Aside0.mk (blk_below (g := gb132) (o := .cells #[.int .u64 t129, .int .u64 t130] 47 (0, 0)) of_lies hb); have n5_ := Aside0.mk (below_step (low HB) hb); have n6_ := Aside0.mk (hbox); have n7_ := Aside0.mk ((by rw [hg]; exact (below_size (low HB)) : w.heap.size ≤ gb136)); have n8_ := Aside0.mk ((by rw [hg]; exact (below_size (low HB)) : w.heap.size ≤ gb136)); have n9_ := Aside0.mk ((by rw [hg]; exact Nat.ne_of_lt (blk_lt (g := gb104) (o := .cells #[.int .u64 t101, .int .u64 t102] 47 (0, 0)) of_lies) : gb104 ≠ gb136)); have n10_ := Aside0.mk ((by rw [hg]; exact Nat.ne_of_gt (blk_lt (g := gb104) (o := .cells #[.int .u64 t101, .int .u64 t102] 47 (0, 0)) of_lies) : gb136 ≠ gb104)); have n11_ := Aside0.mk ((by rw [hg]; exact Nat.ne_of_lt (blk_lt (g := gb114) (o := .cells #[.int .u64 t111, .int .u64 t112] 47 (0, 0)) of_lies) : gb114 ≠ gb136)); have n12_ := Aside0.mk ((by rw [hg]; exact Nat.ne_of_gt (blk_lt (g := gb114) (o := .cells #[.int .u64 t111, .int .u64 t112] 47 (0, 0)) of_lies) : gb136 ≠ gb114)); have n13_ := Aside0.mk ((by rw [hg]; exact Nat.ne_of_lt (blk_lt (g := gb118) (o := .cells #[.int .u64 t115, .int .u64 t116] 47 (0, 0)) of_lies) : gb118 ≠ gb136)); have n14_ := Aside0.mk ((by rw [hg]; exact Nat.ne_of_gt (blk_lt (g := gb118) (o := .cells #[.int .u64 t115, .int .u64 t116] 47 (0, 0)) of_lies) : gb136 ≠ gb118)); have n15_ := Aside0.mk ((by rw [hg]; exact Nat.ne_of_lt (blk_lt (g := gb127) (o := .cells #[.int .u64 x128000_3, .int .u64 x128001_3] 47 (0, 0)) of_lies) : gb127 ≠ gb136)); have n16_ := Aside0.mk ((by rw [hg]; exact Nat.ne_of_gt (blk_lt (g := gb127) (o := .cells #[.int .u64 x128000_3, .int .u64 x128001_3] 47 (0, 0)) of_lies) : gb136 ≠ gb127)); have n17_ := Aside0.mk ((by rw [hg]; exact Nat.ne_of_lt (blk_lt (g := gb132) (o := .cells #[.int .u64 t129, .int .u64 t130] 47 (0, 0)) of_lies) : gb132 ≠ gb136)); have n18_ := Aside0.mk ((by rw [hg]; exact Nat.ne_of_gt (blk_lt (g := gb132) (o := .cells #[.int .u64 t129, .int .u64 t130] 47 (0, 0)) of_lies) : gb136 ≠ gb132)); clear BK104; clear BK114; clear BK118; clear BK127; clear BK132; clear HB; have BK104 := n0_; have BK114 := n1_; have BK118 := n2_; have BK127 := n3_; have BK132 := n4_; have HB := n5_; have BK136 := n6_; have GW136 := n7_; have GE136 := n8_; have NB104_136 := n9_; have NB136_104 := n10_; have NB114_136 := n11_; have NB136_114 := n12_; have NB118_136 := n13_; have NB136_118 := n14_; have NB127_136 := n15_; have NB136_127 := n16_; have NB132_136 := n17_; have NB136_132 := n18_; clear n0_ n1_ n2_ n3_ n4_ n5_ n6_ n7_ n8_ n9_ n10_ n11_ n12_ n13_ n14_ n15_ n16_ n17_ n18_; clear hb hbox hg; have hnb167 := NB136_104.out; have hnc167 := NB104_136.out; have hnb168 := NB136_114.out; have hnc168 := NB114_136.out; have hnb169 := NB136_118.out; have hnc169 := NB118_136.out; have hnb170 := NB136_127.out; have hnc170 := NB127_136.out; have hnb171 := NB136_132.out; have hnc171 := NB132_136.out; obtain ⟨hcz172_0, hcz172_1, hfz172_0, hfz172_1⟩ := cells2 BK136.out))
           go_ret
           exact ⟨by first | rfl | (simp [errW_none, errW_some] <;> rfl) | (simp [*, errW_none, errW_some] <;> rfl), low HB⟩
         ·
          rw [if_neg c110] at H
          have c110b0 : decide (x20_3 ≤ a2) = false := decide_eq_false c110
          clear c110
          by_cases c173 : (x128000_3 == 1 && (x128001_3 == 1)) = true
          ·
           rw [if_pos c173] at H
           have c173b0 : (x128000_3 == 1 && (x128001_3 == 1)) = true := c173
           (try (have c173b1 : decide (x128000_3 = 1 && (x128001_3 == 1)) = true := by simpa using c173))
           (try (have c173b2 : (x128000_3 == 1 && (x128001_3 == 1)) = true := by simpa using c173))
           clear c173
           replace H := Option.bind_eq_some_iff.mp H
           obtain ⟨t128, A1740, H⟩ := H
           replace H : (some t128) = some r := H
           have A174 := Aside0.mk A1740
           clear A1740
           obtain rfl := Option.some.inj H
           have hnb175 := NB127_104.out
           have hnc175 := NB104_127.out
           have hnb176 := NB127_114.out
           have hnc176 := NB114_127.out
           have hnb177 := NB127_118.out
           have hnc177 := NB118_127.out
           have hcz178_0 : wr.cell? ⟨gb127, 0, none⟩ = some (.int .u64 x128000_3) := (blk_cell BK127.out 0).trans rfl
           have hcz178_1 : wr.cell? ⟨gb127, 1, none⟩ = some (.int .u64 x128001_3) := (blk_cell BK127.out 1).trans rfl
           have hfz178_0 := blk_frozen BK127.out 0
           have hfz178_1 := blk_frozen BK127.out 1
           go_wp2_with (first | (go_at_call 34; (with_reducible refine (Podd.lives.calls  t128 _ ?side1 A174.out).mono ?_); (case side1 => repeat (first | exact (GoodW.below HGW.out (low HB)) | (with_reducible refine GoodW.alloc ?_ _) | (with_reducible refine GoodW.drewN ?_ _) | (with_reducible refine GoodW.drew ?_))); rintro e w179 ⟨rfl, hb⟩; have n0_ := Aside0.mk (blk_below (g := gb104) (o := .cells #[.int .u64 t101, .int .u64 t102] 47 (0, 0)) of_lies hb); have n1_ := Aside0.mk (blk_below (g := gb114) (o := .cells #[.int .u64 t111, .int .u64 t112] 47 (0, 0)) of_lies hb); have n2_ := Aside0.mk (blk_below (g := gb118) (o := .cells #[.int .u64 t115, .int .u64 t116] 47 (0, 0)) of_lies hb); have n3_ := Aside0.mk (blk_below (g := gb127) (o := .cells #[.int .u64 x128000_3, .int .u64 x128001_3] 47 (0, 0)) of_lies hb); have n4_ := Aside0.mk (below_step (low HB) hb); clear BK104; clear BK114; clear BK118; clear BK127; clear HB; have BK104 := n0_; have BK114 := n1_; have BK118 := n2_; have BK127 := n3_; have HB := n4_; clear n0_ n1_ n2_ n3_ n4_; (try clear hb); (try clear hb2); (try clear hk); (try clear hi)))
           go_ret
           exact ⟨by first | rfl | (simp [errW_none, errW_some] <;> rfl) | (simp [*, errW_none, errW_some] <;> rfl), low HB⟩
          ·
           rw [if_neg c173] at H
           have c173b0 : (x128000_3 == 1 && (x128001_3 == 1)) = false := by simpa using c173
           (try (have c173b1 : decide (x128000_3 = 1 && (x128001_3 == 1)) = false := by simpa using c173))
           (try (have c173b2 : (x128000_3 == 1 && (x128001_3 == 1)) = false := by simpa using c173))
           (try (have c173b3 : ¬ (x128000_3 = 1 && (x128001_3 == 1)) := by simpa using c173))
           clear c173
           obtain rfl := Option.some.inj H
           have hnb180 := NB127_104.out
           have hnc180 := NB104_127.out
           have hnb181 := NB127_114.out
           have hnc181 := NB114_127.out
           have hnb182 := NB127_118.out
           have hnc182 := NB118_127.out
           have hcz183_0 : wr.cell? ⟨gb127, 0, none⟩ = some (.int .u64 x128000_3) := (blk_cell BK127.out 0).trans rfl
           have hcz183_1 : wr.cell? ⟨gb127, 1, none⟩ = some (.int .u64 x128001_3) := (blk_cell BK127.out 1).trans rfl
           have hfz183_0 := blk_frozen BK127.out 0
           have hfz183_1 := blk_frozen BK127.out 1
           go_wp2
           go_ret
           exact ⟨by first | rfl | (simp [errW_none, errW_some] <;> rfl) | (simp [*, errW_none, errW_some] <;> rfl), low HB⟩
 ·
  rw [if_neg c6] at H
  have c6b0 : (t103 == 0) = false := beq_eq_false_iff_ne.mpr c6
  have c6b1 : (t103 != 0) = true := bne_iff_ne.mpr c6
  by_cases c184 : a0 < 0
  ·
   rw [if_pos c184] at H
   have c184b0 : decide (a0 < 0) = true := decide_eq_true c184
   clear c184
   replace H := Option.bind_eq_some_iff.mp H
   obtain ⟨t105, A1850, H⟩ := H
   replace H : (some t105) = some r := H
   have A185 := Aside0.mk A1850
   clear A1850
   obtain rfl := Option.some.inj H
   go_enter Tryd.func9, Tryd.ntmps9
   go_wp2_with (first | ((with_reducible refine gate_callee (f := 30) rfl ?_); refine goesL_ (some 30) rfl rfl Tryd.func30 (by kernel_rfl) rfl #[.int .i64 a0, .int .i64 a1, .int .i64 a2, .int .i64 a3] rfl (by (try simp only [List.map_toArray, List.map_cons, List.map_nil]); first | done | rfl | (simp only [List.length_drop, List.length_take]; rfl)) ?_; (with_reducible refine (Podd.odds_Least.calls k a0 a1 a2 a3 t101 t102 t103 _ A5.out).mono ?_); rintro e w186 ⟨rfl, hb⟩; refine ⟨_, rfl, ?_⟩; have n0_ := Aside0.mk (below_step (low HB) hb); clear HB; have HB := n0_; clear n0_; (try clear hb); (try clear hb2); (try clear hk); (try clear hi)) | ((with_reducible refine gate_dst (N := 9) rfl ?_); refine box_event ?hg (N := 9) ?hd (cs := #[.int .u64 0, .int .u64 0]) (t := 47) ?hr ?_; (case hd => rfl); (case hg => rfl); (case hr => first | (go_simp; done) | (go_simp; rfl)); intro gb104 hg w187 hbox hb; have n0_ := Aside0.mk (below_step (low HB) hb); have n1_ := Aside0.mk (hbox); have n2_ := Aside0.mk ((by rw [hg]; exact (below_size (low HB)) : w.heap.size ≤ gb104)); have n3_ := Aside0.mk ((by rw [hg]; exact (below_size (low HB)) : w.heap.size ≤ gb104)); clear HB; have HB := n0_; have BK104 := n1_; have GW104 := n2_; have GE104 := n3_; clear n0_ n1_ n2_ n3_; clear hb hbox hg; obtain ⟨hcz188_0, hcz188_1, hfz188_0, hfz188_1⟩ := cells2 BK104.out) | (go_at_call 34; (with_reducible refine (Podd.lives.calls  t105 _ ?side1 A185.out).mono ?_); (case side1 => repeat (first | exact (GoodW.below HGW.out (low HB)) | (with_reducible refine GoodW.alloc ?_ _) | (with_reducible refine GoodW.drewN ?_ _) | (with_reducible refine GoodW.drew ?_))); rintro e w189 ⟨rfl, hb⟩; have n0_ := Aside0.mk (blk_below (g := gb104) (o := .cells #[.int .u64 t101, .int .u64 t102] 47 (0, 0)) of_lies hb); have n1_ := Aside0.mk (below_step (low HB) hb); clear BK104; clear HB; have BK104 := n0_; have HB := n1_; clear n0_ n1_; (try clear hb); (try clear hb2); (try clear hk); (try clear hi)))
   go_ret
   exact ⟨by first | rfl | (simp [errW_none, errW_some] <;> rfl) | (simp [*, errW_none, errW_some] <;> rfl), low HB⟩
  ·
   rw [if_neg c184] at H
   have c184b0 : decide (a0 < 0) = false := decide_eq_false c184
   clear c184
   by_cases c190 : a0 > 60
   ·
    rw [if_pos c190] at H
    have c190b0 : decide (60 < a0) = true := decide_eq_true c190
    clear c190
    replace H := Option.bind_eq_some_iff.mp H
    obtain ⟨t106, A1910, H⟩ := H
    replace H : (some t106) = some r := H
    have A191 := Aside0.mk A1910
    clear A1910
    obtain rfl := Option.some.inj H
    go_enter Tryd.func9, Tryd.ntmps9
    go_wp2_with (first | ((with_reducible refine gate_callee (f := 30) rfl ?_); refine goesL_ (some 30) rfl rfl Tryd.func30 (by kernel_rfl) rfl #[.int .i64 a0, .int .i64 a1, .int .i64 a2, .int .i64 a3] rfl (by (try simp only [List.map_toArray, List.map_cons, List.map_nil]); first | done | rfl | (simp only [List.length_drop, List.length_take]; rfl)) ?_; (with_reducible refine (Podd.odds_Least.calls k a0 a1 a2 a3 t101 t102 t103 _ A5.out).mono ?_); rintro e w192 ⟨rfl, hb⟩; refine ⟨_, rfl, ?_⟩; have n0_ := Aside0.mk (below_step (low HB) hb); clear HB; have HB := n0_; clear n0_; (try clear hb); (try clear hb2); (try clear hk); (try clear hi)) | ((with_reducible refine gate_dst (N := 9) rfl ?_); refine box_event ?hg (N := 9) ?hd (cs := #[.int .u64 0, .int .u64 0]) (t := 47) ?hr ?_; (case hd => rfl); (case hg => rfl); (case hr => first | (go_simp; done) | (go_simp; rfl)); intro gb104 hg w193 hbox hb; have n0_ := Aside0.mk (below_step (low HB) hb); have n1_ := Aside0.mk (hbox); have n2_ := Aside0.mk ((by rw [hg]; exact (below_size (low HB)) : w.heap.size ≤ gb104)); have n3_ := Aside0.mk ((by rw [hg]; exact (below_size (low HB)) : w.heap.size ≤ gb104)); clear HB; have HB := n0_; have BK104 := n1_; have GW104 := n2_; have GE104 := n3_; clear n0_ n1_ n2_ n3_; clear hb hbox hg; obtain ⟨hcz194_0, hcz194_1, hfz194_0, hfz194_1⟩ := cells2 BK104.out) | (go_at_call 34; (with_reducible refine (Podd.lives.calls  t106 _ ?side1 A191.out).mono ?_); (case side1 => repeat (first | exact (GoodW.below HGW.out (low HB)) | (with_reducible refine GoodW.alloc ?_ _) | (with_reducible refine GoodW.drewN ?_ _) | (with_reducible refine GoodW.drew ?_))); rintro e w195 ⟨rfl, hb⟩; have n0_ := Aside0.mk (blk_below (g := gb104) (o := .cells #[.int .u64 t101, .int .u64 t102] 47 (0, 0)) of_lies hb); have n1_ := Aside0.mk (below_step (low HB) hb); clear BK104; clear HB; have BK104 := n0_; have HB := n1_; clear n0_ n1_; (try clear hb); (try clear hb2); (try clear hk); (try clear hi)))
    go_ret
    exact ⟨by first | rfl | (simp [errW_none, errW_some] <;> rfl) | (simp [*, errW_none, errW_some] <;> rfl), low HB⟩
   ·
    rw [if_neg c190] at H
    have c190b0 : decide (60 < a0) = false := decide_eq_false c190
    clear c190
    by_cases c196 : a1 < 0
    ·
     rw [if_pos c196] at H
     have c196b0 : decide (a1 < 0) = true := decide_eq_true c196
     clear c196
     replace H := Option.bind_eq_some_iff.mp H
     obtain ⟨t107, A1970, H⟩ := H
     replace H : (some t107) = some r := H
     have A197 := Aside0.mk A1970
     clear A1970
     obtain rfl := Option.some.inj H
     go_enter Tryd.func9, Tryd.ntmps9
     go_wp2_with (first | ((with_reducible refine gate_callee (f := 30) rfl ?_); refine goesL_ (some 30) rfl rfl Tryd.func30 (by kernel_rfl) rfl #[.int .i64 a0, .int .i64 a1, .int .i64 a2, .int .i64 a3] rfl (by (try simp only [List.map_toArray, List.map_cons, List.map_nil]); first | done | rfl | (simp only [List.length_drop, List.length_take]; rfl)) ?_; (with_reducible refine (Podd.odds_Least.calls k a0 a1 a2 a3 t101 t102 t103 _ A5.out).mono ?_); rintro e w198 ⟨rfl, hb⟩; refine ⟨_, rfl, ?_⟩; have n0_ := Aside0.mk (below_step (low HB) hb); clear HB; have HB := n0_; clear n0_; (try clear hb); (try clear hb2); (try clear hk); (try clear hi)) | ((with_reducible refine gate_dst (N := 9) rfl ?_); refine box_event ?hg (N := 9) ?hd (cs := #[.int .u64 0, .int .u64 0]) (t := 47) ?hr ?_; (case hd => rfl); (case hg => rfl); (case hr => first | (go_simp; done) | (go_simp; rfl)); intro gb104 hg w199 hbox hb; have n0_ := Aside0.mk (below_step (low HB) hb); have n1_ := Aside0.mk (hbox); have n2_ := Aside0.mk ((by rw [hg]; exact (below_size (low HB)) : w.heap.size ≤ gb104)); have n3_ := Aside0.mk ((by rw [hg]; exact (below_size (low HB)) : w.heap.size ≤ gb104)); clear HB; have HB := n0_; have BK104 := n1_; have GW104 := n2_; have GE104 := n3_; clear n0_ n1_ n2_ n3_; clear hb hbox hg; obtain ⟨hcz200_0, hcz200_1, hfz200_0, hfz200_1⟩ := cells2 BK104.out) | (go_at_call 34; (with_reducible refine (Podd.lives.calls  t107 _ ?side1 A197.out).mono ?_); (case side1 => repeat (first | exact (GoodW.below HGW.out (low HB)) | (with_reducible refine GoodW.alloc ?_ _) | (with_reducible refine GoodW.drewN ?_ _) | (with_reducible refine GoodW.drew ?_))); rintro e w201 ⟨rfl, hb⟩; have n0_ := Aside0.mk (blk_below (g := gb104) (o := .cells #[.int .u64 t101, .int .u64 t102] 47 (0, 0)) of_lies hb); have n1_ := Aside0.mk (below_step (low HB) hb); clear BK104; clear HB; have BK104 := n0_; have HB := n1_; clear n0_ n1_; (try clear hb); (try clear hb2); (try clear hk); (try clear hi)))
     go_ret
     exact ⟨by first | rfl | (simp [errW_none, errW_some] <;> rfl) | (simp [*, errW_none, errW_some] <;> rfl), low HB⟩
    ·
     rw [if_neg c196] at H
     have c196b0 : decide (a1 < 0) = false := decide_eq_false c196
     clear c196
     by_cases c202 : a1 > a0
     ·
      rw [if_pos c202] at H
      have c202b0 : decide (a0 < a1) = true := decide_eq_true c202
      clear c202
      replace H := Option.bind_eq_some_iff.mp H
      obtain ⟨t108, A2030, H⟩ := H
      replace H : (some t108) = some r := H
      have A203 := Aside0.mk A2030
      clear A2030
      obtain rfl := Option.some.inj H
      go_enter Tryd.func9, Tryd.ntmps9
      go_wp2_with (first | ((with_reducible refine gate_callee (f := 30) rfl ?_); refine goesL_ (some 30) rfl rfl Tryd.func30 (by kernel_rfl) rfl #[.int .i64 a0, .int .i64 a1, .int .i64 a2, .int .i64 a3] rfl (by (try simp only [List.map_toArray, List.map_cons, List.map_nil]); first | done | rfl | (simp only [List.length_drop, List.length_take]; rfl)) ?_; (with_reducible refine (Podd.odds_Least.calls k a0 a1 a2 a3 t101 t102 t103 _ A5.out).mono ?_); rintro e w204 ⟨rfl, hb⟩; refine ⟨_, rfl, ?_⟩; have n0_ := Aside0.mk (below_step (low HB) hb); clear HB; have HB := n0_; clear n0_; (try clear hb); (try clear hb2); (try clear hk); (try clear hi)) | ((with_reducible refine gate_dst (N := 9) rfl ?_); refine box_event ?hg (N := 9) ?hd (cs := #[.int .u64 0, .int .u64 0]) (t := 47) ?hr ?_; (case hd => rfl); (case hg => rfl); (case hr => first | (go_simp; done) | (go_simp; rfl)); intro gb104 hg w205 hbox hb; have n0_ := Aside0.mk (below_step (low HB) hb); have n1_ := Aside0.mk (hbox); have n2_ := Aside0.mk ((by rw [hg]; exact (below_size (low HB)) : w.heap.size ≤ gb104)); have n3_ := Aside0.mk ((by rw [hg]; exact (below_size (low HB)) : w.heap.size ≤ gb104)); clear HB; have HB := n0_; have BK104 := n1_; have GW104 := n2_; have GE104 := n3_; clear n0_ n1_ n2_ n3_; clear hb hbox hg; obtain ⟨hcz206_0, hcz206_1, hfz206_0, hfz206_1⟩ := cells2 BK104.out) | (go_at_call 34; (with_reducible refine (Podd.lives.calls  t108 _ ?side1 A203.out).mono ?_); (case side1 => repeat (first | exact (GoodW.below HGW.out (low HB)) | (with_reducible refine GoodW.alloc ?_ _) | (with_reducible refine GoodW.drewN ?_ _) | (with_reducible refine GoodW.drew ?_))); rintro e w207 ⟨rfl, hb⟩; have n0_ := Aside0.mk (blk_below (g := gb104) (o := .cells #[.int .u64 t101, .int .u64 t102] 47 (0, 0)) of_lies hb); have n1_ := Aside0.mk (below_step (low HB) hb); clear BK104; clear HB; have BK104 := n0_; have HB := n1_; clear n0_ n1_; (try clear hb); (try clear hb2); (try clear hk); (try clear hi)))
      go_ret
      exact ⟨by first | rfl | (simp [errW_none, errW_some] <;> rfl) | (simp [*, errW_none, errW_some] <;> rfl), low HB⟩
     ·
      rw [if_neg c202] at H
      have c202b0 : decide (a0 < a1) = false := decide_eq_false c202
      clear c202
      by_cases c208 : a2 < 0
      ·
       rw [if_pos c208] at H
       have c208b0 : decide (a2 < 0) = true := decide_eq_true c208
       clear c208
       replace H := Option.bind_eq_some_iff.mp H
       obtain ⟨t109, A2090, H⟩ := H
       replace H : (some t109) = some r := H
       have A209 := Aside0.mk A2090
       clear A2090
       obtain rfl := Option.some.inj H
       go_enter Tryd.func9, Tryd.ntmps9
       go_wp2_with (first | ((with_reducible refine gate_callee (f := 30) rfl ?_); refine goesL_ (some 30) rfl rfl Tryd.func30 (by kernel_rfl) rfl #[.int .i64 a0, .int .i64 a1, .int .i64 a2, .int .i64 a3] rfl (by (try simp only [List.map_toArray, List.map_cons, List.map_nil]); first | done | rfl | (simp only [List.length_drop, List.length_take]; rfl)) ?_; (with_reducible refine (Podd.odds_Least.calls k a0 a1 a2 a3 t101 t102 t103 _ A5.out).mono ?_); rintro e w210 ⟨rfl, hb⟩; refine ⟨_, rfl, ?_⟩; have n0_ := Aside0.mk (below_step (low HB) hb); clear HB; have HB := n0_; clear n0_; (try clear hb); (try clear hb2); (try clear hk); (try clear hi)) | ((with_reducible refine gate_dst (N := 9) rfl ?_); refine box_event ?hg (N := 9) ?hd (cs := #[.int .u64 0, .int .u64 0]) (t := 47) ?hr ?_; (case hd => rfl); (case hg => rfl); (case hr => first | (go_simp; done) | (go_simp; rfl)); intro gb104 hg w211 hbox hb; have n0_ := Aside0.mk (below_step (low HB) hb); have n1_ := Aside0.mk (hbox); have n2_ := Aside0.mk ((by rw [hg]; exact (below_size (low HB)) : w.heap.size ≤ gb104)); have n3_ := Aside0.mk ((by rw [hg]; exact (below_size (low HB)) : w.heap.size ≤ gb104)); clear HB; have HB := n0_; have BK104 := n1_; have GW104 := n2_; have GE104 := n3_; clear n0_ n1_ n2_ n3_; clear hb hbox hg; obtain ⟨hcz212_0, hcz212_1, hfz212_0, hfz212_1⟩ := cells2 BK104.out) | (go_at_call 34; (with_reducible refine (Podd.lives.calls  t109 _ ?side1 A209.out).mono ?_); (case side1 => repeat (first | exact (GoodW.below HGW.out (low HB)) | (with_reducible refine GoodW.alloc ?_ _) | (with_reducible refine GoodW.drewN ?_ _) | (with_reducible refine GoodW.drew ?_))); rintro e w213 ⟨rfl, hb⟩; have n0_ := Aside0.mk (blk_below (g := gb104) (o := .cells #[.int .u64 t101, .int .u64 t102] 47 (0, 0)) of_lies hb); have n1_ := Aside0.mk (below_step (low HB) hb); clear BK104; clear HB; have BK104 := n0_; have HB := n1_; clear n0_ n1_; (try clear hb); (try clear hb2); (try clear hk); (try clear hi)))
       go_ret
       exact ⟨by first | rfl | (simp [errW_none, errW_some] <;> rfl) | (simp [*, errW_none, errW_some] <;> rfl), low HB⟩
      ·
       rw [if_neg c208] at H
       have c208b0 : decide (a2 < 0) = false := decide_eq_false c208
       clear c208
       by_cases c214 : a2 > a0
       ·
        rw [if_pos c214] at H
        have c214b0 : decide (a0 < a2) = true := decide_eq_true c214
        clear c214
        replace H := Option.bind_eq_some_iff.mp H
        obtain ⟨t110, A2150, H⟩ := H
        replace H : (some t110) = some r := H
        have A215 := Aside0.mk A2150
        clear A2150
        obtain rfl := Option.some.inj H
        go_enter Tryd.func9, Tryd.ntmps9
        go_wp2_with (first | ((with_reducible refine gate_callee (f := 30) rfl ?_); refine goesL_ (some 30) rfl rfl Tryd.func30 (by kernel_rfl) rfl #[.int .i64 a0, .int .i64 a1, .int .i64 a2, .int .i64 a3] rfl (by (try simp only [List.map_toArray, List.map_cons, List.map_nil]); first | done | rfl | (simp only [List.length_drop, List.length_take]; rfl)) ?_; (with_reducible refine (Podd.odds_Least.calls k a0 a1 a2 a3 t101 t102 t103 _ A5.out).mono ?_); rintro e w216 ⟨rfl, hb⟩; refine ⟨_, rfl, ?_⟩; have n0_ := Aside0.mk (below_step (low HB) hb); clear HB; have HB := n0_; clear n0_; (try clear hb); (try clear hb2); (try clear hk); (try clear hi)) | ((with_reducible refine gate_dst (N := 9) rfl ?_); refine box_event ?hg (N := 9) ?hd (cs := #[.int .u64 0, .int .u64 0]) (t := 47) ?hr ?_; (case hd => rfl); (case hg => rfl); (case hr => first | (go_simp; done) | (go_simp; rfl)); intro gb104 hg w217 hbox hb; have n0_ := Aside0.mk (below_step (low HB) hb); have n1_ := Aside0.mk (hbox); have n2_ := Aside0.mk ((by rw [hg]; exact (below_size (low HB)) : w.heap.size ≤ gb104)); have n3_ := Aside0.mk ((by rw [hg]; exact (below_size (low HB)) : w.heap.size ≤ gb104)); clear HB; have HB := n0_; have BK104 := n1_; have GW104 := n2_; have GE104 := n3_; clear n0_ n1_ n2_ n3_; clear hb hbox hg; obtain ⟨hcz218_0, hcz218_1, hfz218_0, hfz218_1⟩ := cells2 BK104.out) | (go_at_call 34; (with_reducible refine (Podd.lives.calls  t110 _ ?side1 A215.out).mono ?_); (case side1 => repeat (first | exact (GoodW.below HGW.out (low HB)) | (with_reducible refine GoodW.alloc ?_ _) | (with_reducible refine GoodW.drewN ?_ _) | (with_reducible refine GoodW.drew ?_))); rintro e w219 ⟨rfl, hb⟩; have n0_ := Aside0.mk (blk_below (g := gb104) (o := .cells #[.int .u64 t101, .int .u64 t102] 47 (0, 0)) of_lies hb); have n1_ := Aside0.mk (below_step (low HB) hb); clear BK104; clear HB; have BK104 := n0_; have HB := n1_; clear n0_ n1_; (try clear hb); (try clear hb2); (try clear hk); (try clear hi)))
        go_ret
        exact ⟨by first | rfl | (simp [errW_none, errW_some] <;> rfl) | (simp [*, errW_none, errW_some] <;> rfl), low HB⟩
       ·
        rw [if_neg c214] at H
        have c214b0 : decide (a0 < a2) = false := decide_eq_false c214
        clear c214
        obtain rfl := Option.some.inj H
        go_enter Tryd.func9, Tryd.ntmps9
        go_wp2_with (first | ((with_reducible refine gate_callee (f := 30) rfl ?_); refine goesL_ (some 30) rfl rfl Tryd.func30 (by kernel_rfl) rfl #[.int .i64 a0, .int .i64 a1, .int .i64 a2, .int .i64 a3] rfl (by (try simp only [List.map_toArray, List.map_cons, List.map_nil]); first | done | rfl | (simp only [List.length_drop, List.length_take]; rfl)) ?_; (with_reducible refine (Podd.odds_Least.calls k a0 a1 a2 a3 t101 t102 t103 _ A5.out).mono ?_); rintro e w220 ⟨rfl, hb⟩; refine ⟨_, rfl, ?_⟩; have n0_ := Aside0.mk (below_step (low HB) hb); clear HB; have HB := n0_; clear n0_; (try clear hb); (try clear hb2); (try clear hk); (try clear hi)) | ((with_reducible refine gate_dst (N := 9) rfl ?_); refine box_event ?hg (N := 9) ?hd (cs := #[.int .u64 0, .int .u64 0]) (t := 47) ?hr ?_; (case hd => rfl); (case hg => rfl); (case hr => first | (go_simp; done) | (go_simp; rfl)); intro gb104 hg w221 hbox hb; have n0_ := Aside0.mk (below_step (low HB) hb); have n1_ := Aside0.mk (hbox); have n2_ := Aside0.mk ((by rw [hg]; exact (below_size (low HB)) : w.heap.size ≤ gb104)); have n3_ := Aside0.mk ((by rw [hg]; exact (below_size (low HB)) : w.heap.size ≤ gb104)); clear HB; have HB := n0_; have BK104 := n1_; have GW104 := n2_; have GE104 := n3_; clear n0_ n1_ n2_ n3_; clear hb hbox hg; obtain ⟨hcz222_0, hcz222_1, hfz222_0, hfz222_1⟩ := cells2 BK104.out))
        go_ret
        exact ⟨by first | rfl | (simp [errW_none, errW_some] <;> rfl) | (simp [*, errW_none, errW_some] <;> rfl), low HB⟩

/-- THE ONE PURE STATEMENT of joustlaw32_OddsSums: yours. -/
def joustlaw32_OddsSums.Pure : Prop := ∀ (a0 : Int) (a1 : Int) (a2 : Int) (a3 : Int), (Lit.int .i64 a0).wf = true → (Lit.int .i64 a1).wf = true → (Lit.int .i64 a2).wf = true → (Lit.int .i64 a3).wf = true → ∃ k, joustlaw32_OddsSums.f k a0 a1 a2 a3 = some true


end Go.Proofs.YtcdcpnhlmgmnkaaDoor.Podu
end
