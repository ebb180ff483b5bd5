/- Joined by a program of this session (pack.py) out of: BaseCt Cgt Clkg Clko WalkClockGoes -/
import Derived.ArgAppend
import Derived.Below
import Derived.BigQuiet
import Derived.ChangeAlike
import Derived.Deep.AppendLies
import Derived.Deep.CutBlock
import Derived.Deep.DeepCutAuto
import Derived.Deep.Draws
import Derived.Deep.LoopGhost
import Derived.Deep.OwnRows
import Derived.Deep.QuietTactic
import Derived.Deep.RegionHeld3
import Derived.KernelRfl
import Derived.Laws.BitsLemmas
import Derived.Laws.BytesArg
import Derived.Laws.IdiomCopy
import Derived.Laws.MakeOwn
import Derived.Laws.OwnMore
import Derived.Laws.Rows
import Derived.Laws.Slices
import Derived.Lib.AppendStr
import Derived.Lib.ConvBytes
import Derived.Maps.AppendAt
import Derived.OrdersHeld
import Derived.OwnWalk
import Derived.RegionTactic
import Derived.RowKit
import Derived.RowKit3
import Derived.Tactics
import Derived.Test.YtcdcpnhlmgmnkaaDoorProg
import Derived.WalkKit
import Derived.WideLaws
import Derived.Test.YtcdcpnhlmgmnkaaDoorKcgo1
import Derived.Test.YtcdcpnhlmgmnkaaDoorKcgo2
import Derived.Test.YtcdcpnhlmgmnkaaDoorKcgo5
import Derived.Test.YtcdcpnhlmgmnkaaDoorKcgo8
import Derived.Test.YtcdcpnhlmgmnkaaDoorKcgo11
section
/- What the statements of the clock take as given: the clock's own functions, the reference's, the examples. -/
namespace Go.Proofs.YtcdcpnhlmgmnkaaDoor.Base
open Go.RowKit
def clk_lives.f : Option Bool := some true
theorem clk_lives.calls (r : Bool) (w : World) (hg_ : GoodW w) (h : clk_lives.f = some r) : Calls Tryd.prog 27 #[] w fun e w' => e = .returned (.bool r) ∧ Below w.heap.size w w' := by
  obtain rfl := Option.some.inj h
  exact Clk.lives_calls w hg_
end Go.Proofs.YtcdcpnhlmgmnkaaDoor.Base
end
section
-- made for this claim by a program of this session (mkpp.py)
namespace Go.Proofs.YtcdcpnhlmgmnkaaDoor.Cgt
open Go.RowKit Go.Proofs.YtcdcpnhlmgmnkaaDoor.Base Go.Proofs.YtcdcpnhlmgmnkaaDoorW.PrintWords Go.Proofs.YtcdcpnhlmgmnkaaDoorW.PrintLast Go.Proofs.YtcdcpnhlmgmnkaaDoorW.PrintMore
attribute [local go_sem] max2_int min2_int max_two min_two max_three min_three max_four min_four   -- for this text's walks alone
set_option linter.unusedVariables false
set_option linter.unusedSimpArgs false



def errW : Option Int → Value
  | none => .nilIface
  | some c => .iface 0 (.int .i64 c)
theorem errW_none : errW none = .nilIface := rfl
theorem errW_some (c : Int) : errW (some c) = .iface 0 (.int .i64 c) := rfl

-- the values' own types
/-! #### struct type 22 -/
structure S22 where
  f0 : Int
  f1 : Int
def z22 : S22 := ⟨(0 : Int), (0 : Int)⟩
def k22 : Kd S22 := Kd.iso (Kd.pair (Kd.int .i64) (Kd.int .i64)) (fun x : S22 => (x.f0, x.f1))
theorem k22_open {w : World} {x : S22} {cs : List Value} (h : k22.K w x cs) : cs = [.int .i64 x.f0, .int .i64 x.f1] := by
  obtain ⟨_, _, rfl, rfl, rfl⟩ := h
  exact rfl
theorem k22_openM {w : World} {base : Nat} {ok : Nat → Prop} {x : S22} {cs : List Value} (h : k22.M w base ok x cs) : cs = [.int .i64 x.f0, .int .i64 x.f1] := by
  obtain ⟨_, _, rfl, rfl, rfl⟩ := h
  exact rfl
theorem k22_mk (w : World) (x : S22)  : k22.K w x [.int .i64 x.f0, .int .i64 x.f1] := ⟨[.int .i64 x.f0], [.int .i64 x.f1], rfl, rfl, rfl⟩
theorem k22_mkM (w : World) (base : Nat) (ok : Nat → Prop) (x : S22)  : k22.M w base ok x [.int .i64 x.f0, .int .i64 x.f1] := ⟨[.int .i64 x.f0], [.int .i64 x.f1], rfl, rfl, rfl⟩
def rd_T22 (xs : List S22) (i : Int) : S22 := xs.getD i.toNat z22
theorem at_T22 {w : World} {A : Option Addr} {n : Nat} {xs : List S22} (h : Kd.C k22 w A n xs) (i : Int) (h0 : 0 ≤ i) (h1 : i < n) : ∃ ad , A = some ad ∧ w.cell? (ad.add (i.toNat * 2)) = some (.int .i64 (rd_T22 xs i).f0) ∧ w.cell? ⟨(ad.add (i.toNat * 2)).block, (ad.add (i.toNat * 2)).off + 1, none⟩ = some (.int .i64 (rd_T22 xs i).f1) := by
  obtain ⟨ad, c, e, _, hK, hc0⟩ := Kd.C_get h z22 i h0 h1
  have hc : ∀ j u, c[j]? = some u → w.cell? (ad.add (i.toNat * 2 + j)) = some u := hc0
  obtain rfl := k22_open hK
  exact ⟨ad, e, hc 0 _ rfl, by rw [← add_field _ _ 1 (by omega)]; exact hc 1 _ rfl⟩

/-! #### struct type 24 -/
structure S24 where
  f0 : S22
  f1 : Int
  f2 : Int
  f3 : Int
  f4 : Bool
  f5 : Int
  f6 : Int
def z24 : S24 := ⟨z22, (0 : Int), (0 : Int), (0 : Int), false, (0 : Int), (0 : Int)⟩
def k24 : Kd S24 := Kd.iso (Kd.pair k22 (Kd.pair (Kd.int .i64) (Kd.pair (Kd.int .i64) (Kd.pair (Kd.int .u8) (Kd.pair Kd.bool (Kd.pair (Kd.int .i64) (Kd.int .u8))))))) (fun x : S24 => (x.f0, x.f1, x.f2, x.f3, x.f4, x.f5, x.f6))
theorem k24_open {w : World} {x : S24} {cs : List Value} (h : k24.K w x cs) : cs = [.int .i64 x.f0.f0, .int .i64 x.f0.f1, .int .i64 x.f1, .int .i64 x.f2, .int .u8 x.f3, .bool x.f4, .int .i64 x.f5, .int .u8 x.f6] := by
  obtain ⟨_, _, rfl, s0, ⟨_, _, rfl, rfl, ⟨_, _, rfl, rfl, ⟨_, _, rfl, rfl, ⟨_, _, rfl, rfl, ⟨_, _, rfl, rfl, rfl⟩⟩⟩⟩⟩⟩ := h
  obtain rfl := k22_open s0
  exact rfl
theorem k24_openM {w : World} {base : Nat} {ok : Nat → Prop} {x : S24} {cs : List Value} (h : k24.M w base ok x cs) : cs = [.int .i64 x.f0.f0, .int .i64 x.f0.f1, .int .i64 x.f1, .int .i64 x.f2, .int .u8 x.f3, .bool x.f4, .int .i64 x.f5, .int .u8 x.f6] := by
  obtain ⟨_, _, rfl, s0, ⟨_, _, rfl, rfl, ⟨_, _, rfl, rfl, ⟨_, _, rfl, rfl, ⟨_, _, rfl, rfl, ⟨_, _, rfl, rfl, rfl⟩⟩⟩⟩⟩⟩ := h
  obtain rfl := k22_openM s0
  exact rfl
theorem k24_mk (w : World) (x : S24)  : k24.K w x [.int .i64 x.f0.f0, .int .i64 x.f0.f1, .int .i64 x.f1, .int .i64 x.f2, .int .u8 x.f3, .bool x.f4, .int .i64 x.f5, .int .u8 x.f6] := ⟨[.int .i64 x.f0.f0, .int .i64 x.f0.f1], [.int .i64 x.f1, .int .i64 x.f2, .int .u8 x.f3, .bool x.f4, .int .i64 x.f5, .int .u8 x.f6], rfl, (k22_mk w x.f0 ), ⟨[.int .i64 x.f1], [.int .i64 x.f2, .int .u8 x.f3, .bool x.f4, .int .i64 x.f5, .int .u8 x.f6], rfl, rfl, ⟨[.int .i64 x.f2], [.int .u8 x.f3, .bool x.f4, .int .i64 x.f5, .int .u8 x.f6], rfl, rfl, ⟨[.int .u8 x.f3], [.bool x.f4, .int .i64 x.f5, .int .u8 x.f6], rfl, rfl, ⟨[.bool x.f4], [.int .i64 x.f5, .int .u8 x.f6], rfl, rfl, ⟨[.int .i64 x.f5], [.int .u8 x.f6], rfl, rfl, rfl⟩⟩⟩⟩⟩⟩
theorem k24_mkM (w : World) (base : Nat) (ok : Nat → Prop) (x : S24)  : k24.M w base ok x [.int .i64 x.f0.f0, .int .i64 x.f0.f1, .int .i64 x.f1, .int .i64 x.f2, .int .u8 x.f3, .bool x.f4, .int .i64 x.f5, .int .u8 x.f6] := ⟨[.int .i64 x.f0.f0, .int .i64 x.f0.f1], [.int .i64 x.f1, .int .i64 x.f2, .int .u8 x.f3, .bool x.f4, .int .i64 x.f5, .int .u8 x.f6], rfl, (k22_mkM w base ok x.f0 ), ⟨[.int .i64 x.f1], [.int .i64 x.f2, .int .u8 x.f3, .bool x.f4, .int .i64 x.f5, .int .u8 x.f6], rfl, rfl, ⟨[.int .i64 x.f2], [.int .u8 x.f3, .bool x.f4, .int .i64 x.f5, .int .u8 x.f6], rfl, rfl, ⟨[.int .u8 x.f3], [.bool x.f4, .int .i64 x.f5, .int .u8 x.f6], rfl, rfl, ⟨[.bool x.f4], [.int .i64 x.f5, .int .u8 x.f6], rfl, rfl, ⟨[.int .i64 x.f5], [.int .u8 x.f6], rfl, rfl, rfl⟩⟩⟩⟩⟩⟩
def rd_T24 (xs : List S24) (i : Int) : S24 := xs.getD i.toNat z24
theorem at_T24 {w : World} {A : Option Addr} {n : Nat} {xs : List S24} (h : Kd.C k24 w A n xs) (i : Int) (h0 : 0 ≤ i) (h1 : i < n) : ∃ ad , A = some ad ∧ w.cell? (ad.add (i.toNat * 8)) = some (.int .i64 (rd_T24 xs i).f0.f0) ∧ w.cell? ⟨(ad.add (i.toNat * 8)).block, (ad.add (i.toNat * 8)).off + 1, none⟩ = some (.int .i64 (rd_T24 xs i).f0.f1) ∧ w.cell? ⟨(ad.add (i.toNat * 8)).block, (ad.add (i.toNat * 8)).off + 2, none⟩ = some (.int .i64 (rd_T24 xs i).f1) ∧ w.cell? ⟨(ad.add (i.toNat * 8)).block, (ad.add (i.toNat * 8)).off + 3, none⟩ = some (.int .i64 (rd_T24 xs i).f2) ∧ w.cell? ⟨(ad.add (i.toNat * 8)).block, (ad.add (i.toNat * 8)).off + 4, none⟩ = some (.int .u8 (rd_T24 xs i).f3) ∧ w.cell? ⟨(ad.add (i.toNat * 8)).block, (ad.add (i.toNat * 8)).off + 5, none⟩ = some (.bool (rd_T24 xs i).f4) ∧ w.cell? ⟨(ad.add (i.toNat * 8)).block, (ad.add (i.toNat * 8)).off + 6, none⟩ = some (.int .i64 (rd_T24 xs i).f5) ∧ w.cell? ⟨(ad.add (i.toNat * 8)).block, (ad.add (i.toNat * 8)).off + 7, none⟩ = some (.int .u8 (rd_T24 xs i).f6) := by
  obtain ⟨ad, c, e, _, hK, hc0⟩ := Kd.C_get h z24 i h0 h1
  have hc : ∀ j u, c[j]? = some u → w.cell? (ad.add (i.toNat * 8 + j)) = some u := hc0
  obtain rfl := k24_open hK
  exact ⟨ad, e, hc 0 _ rfl, by rw [← add_field _ _ 1 (by omega)]; exact hc 1 _ rfl, by rw [← add_field _ _ 2 (by omega)]; exact hc 2 _ rfl, by rw [← add_field _ _ 3 (by omega)]; exact hc 3 _ rfl, by rw [← add_field _ _ 4 (by omega)]; exact hc 4 _ rfl, by rw [← add_field _ _ 5 (by omega)]; exact hc 5 _ rfl, by rw [← add_field _ _ 6 (by omega)]; exact hc 6 _ rfl, by rw [← add_field _ _ 7 (by omega)]; exact hc 7 _ rfl⟩

/-! #### struct type 41 -/
structure S41 where
  f0 : Int
  f1 : Bool
  f2 : Int
def z41 : S41 := ⟨(0 : Int), false, (0 : Int)⟩
def k41 : Kd S41 := Kd.iso (Kd.pair (Kd.int .u8) (Kd.pair Kd.bool (Kd.int .i64))) (fun x : S41 => (x.f0, x.f1, x.f2))
theorem k41_open {w : World} {x : S41} {cs : List Value} (h : k41.K w x cs) : cs = [.int .u8 x.f0, .bool x.f1, .int .i64 x.f2] := by
  obtain ⟨_, _, rfl, rfl, ⟨_, _, rfl, rfl, rfl⟩⟩ := h
  exact rfl
def rd_T41 (xs : List S41) (i : Int) : S41 := xs.getD i.toNat z41
theorem at_T41 {w : World} {A : Option Addr} {n : Nat} {xs : List S41} (h : Kd.C k41 w A n xs) (i : Int) (h0 : 0 ≤ i) (h1 : i < n) : ∃ ad , A = some ad ∧ w.cell? (ad.add (i.toNat * 3)) = some (.int .u8 (rd_T41 xs i).f0) ∧ w.cell? ⟨(ad.add (i.toNat * 3)).block, (ad.add (i.toNat * 3)).off + 1, none⟩ = some (.bool (rd_T41 xs i).f1) ∧ w.cell? ⟨(ad.add (i.toNat * 3)).block, (ad.add (i.toNat * 3)).off + 2, none⟩ = some (.int .i64 (rd_T41 xs i).f2) := by
  obtain ⟨ad, c, e, _, hK, hc0⟩ := Kd.C_get h z41 i h0 h1
  have hc : ∀ j u, c[j]? = some u → w.cell? (ad.add (i.toNat * 3 + j)) = some u := hc0
  obtain rfl := k41_open hK
  exact ⟨ad, e, hc 0 _ rfl, by rw [← add_field _ _ 1 (by omega)]; exact hc 1 _ rfl, by rw [← add_field _ _ 2 (by omega)]; exact hc 2 _ rfl⟩

end Go.Proofs.YtcdcpnhlmgmnkaaDoor.Cgt
end
section
/- ClockGoes: what the statement's own text does, walked. -/
namespace Go.Proofs.YtcdcpnhlmgmnkaaDoor.Clk
open Go Go.RowKit Go.Proofs.YtcdcpnhlmgmnkaaDoor.Base Go.Proofs.YtcdcpnhlmgmnkaaDoor.Pclk Go.Proofs.YtcdcpnhlmgmnkaaDoor.Cgt Go.Proofs.YtcdcpnhlmgmnkaaDoorW.PrintWords Go.Proofs.YtcdcpnhlmgmnkaaDoorW.PrintLast Go.Proofs.YtcdcpnhlmgmnkaaDoorW.PrintMore
theorem eqA24 (d : Nat) (w : World) (x0 y0 : Int) (x1 y1 : Int) (x2 y2 : Int) (x3 y3 : Int) (x4 y4 : Int) (x5 y5 : Bool) (x6 y6 : Int) (x7 y7 : Int) :
    (Op.equalIn (d + 3) 24 (.agg #[.int .i64 x0, .int .i64 x1, .int .i64 x2, .int .i64 x3, .int .u8 x4, .bool x5, .int .i64 x6, .int .u8 x7]) (.agg #[.int .i64 y0, .int .i64 y1, .int .i64 y2, .int .i64 y3, .int .u8 y4, .bool y5, .int .i64 y6, .int .u8 y7])).run Tryd.prog w = .ok ((x0 == y0 && (x1 == y1)) && (x2 == y2 && (x3 == y3 && (x4 == y4 && (x5 == y5 && (x6 == y6 && (x7 == y7))))))) w := by
  refine eqA_of Tryd.underlying24 (by kernel_rfl) ?_
  refine eqf_cons (by rfl) (by go_simp) (by go_simp) (eqA22 (d + 0) w _ _ _ _) ?_
  refine eqf_cons (by rfl) (by go_simp; rfl) (by go_simp; rfl) (by go_simp) ?_
  refine eqf_cons (by rfl) (by go_simp; rfl) (by go_simp; rfl) (by go_simp) ?_
  refine eqf_cons (by rfl) (by go_simp; rfl) (by go_simp; rfl) (by go_simp) ?_
  refine eqf_cons (by rfl) (by go_simp; rfl) (by go_simp; rfl) (by go_simp) ?_
  refine eqf_cons (by rfl) (by go_simp; rfl) (by go_simp; rfl) (by go_simp) ?_
  exact eqf_last (by rfl) (by go_simp; rfl) (by go_simp; rfl) (by go_simp)
attribute [local go_sem high] eqA22 eqA24
attribute [local go_sem] max2_int min2_int max_two min_two
theorem cell_keepG {W w1 : World} {a : Addr} {v : Value} (hb : Below W.heap.size W w1) (h : W.cell? a = some v) : w1.cell? a = some v := (hb.cell (p := a) (World.block_lt_of_cell? W _ h)).trans h
def Z8 : Array Value := #[.int .i64 0, .int .i64 0, .int .i64 0, .int .i64 0, .int .u8 0, .bool false, .int .i64 0, .int .u8 0]
/-- Where the walk stands about a call of Start: the clock, what was used, the clock as it was, what was read, the new block. -/
structure Sg (w0 : World) (gc gw : Nat) (C U : Array Value) (q : Addr) (v : Value) (s : Option Nat) (w : World) : Prop where
  c : Blk w gc 24 C
  u : Blk w (gc + 1) 22 U
  p : Blk w gw 24 C
  b : Below w0.heap.size w0 w
  d : w.cell? q = some v
  x : ∀ r, s = some r → gw < r ∧ Blk w r 24 Z8
theorem Sg.call {w0 : World} {gc gw : Nat} {C U : Array Value} {q : Addr} {v : Value} {s : Option Nat} {w w' : World} (h : Sg w0 gc gw C U q v s w) (k : Below w.heap.size w w') : Sg w0 gc gw C U q v s w' :=
  ⟨h.c.after k, h.u.after k, h.p.after k, bstep h.b k, cell_keepG k h.d, fun r e => ⟨(h.x r e).1, (h.x r e).2.after k⟩⟩
theorem Sg.new {w0 : World} {gc gw : Nat} {C U : Array Value} {q : Addr} {v : Value} {w : World} (h : Sg w0 gc gw C U q v none w) : Sg w0 gc gw C U q v (some w.heap.size) (w.alloc (.cells Z8 24)) :=
  ⟨h.c.alloc _, h.u.alloc _, h.p.alloc _, balloc h.b _, cell_keepG (balloc (Below.refl _ _) _) h.d, fun r e => by cases e; exact ⟨h.p.lt, Blk.new _ _ _⟩⟩
theorem Sg.less {w0 : World} {gc gw : Nat} {C U : Array Value} {q : Addr} {v : Value} {s : Option Nat} {w : World} (h : Sg w0 gc gw C U q v s w) : Sg w0 gc gw C U q v none w :=
  ⟨h.c, h.u, h.p, h.b, h.d, fun r e => by cases e⟩
theorem far8c {W : World} {p : Addr} {b : Nat} {v0 v1 v2 v3 v4 v5 v6 v7 : Value} (hn : p.block ≠ b) : ((((((((W.setCell ⟨b, 0, none⟩ v0).setCell ⟨b, 1, none⟩ v1).setCell ⟨b, 2, none⟩ v2).setCell ⟨b, 3, none⟩ v3).setCell ⟨b, 4, none⟩ v4).setCell ⟨b, 5, none⟩ v5).setCell ⟨b, 6, none⟩ v6).setCell ⟨b, 7, none⟩ v7).cell? p = W.cell? p := by
  have h : b ≠ p.block := fun e => hn e.symm
  rw [World.cell?_setCell_far _ _ _ _ h, World.cell?_setCell_far _ _ _ _ h, World.cell?_setCell_far _ _ _ _ h, World.cell?_setCell_far _ _ _ _ h, World.cell?_setCell_far _ _ _ _ h, World.cell?_setCell_far _ _ _ _ h, World.cell?_setCell_far _ _ _ _ h, World.cell?_setCell_far _ _ _ _ h]
theorem start_err (l0 l1 more cap who : Int) (on : Bool) (since fell p now : Int) (h : MayP l0 l1 more cap who on since fell) (h1 : since ≤ now) (h0 : 0 ≤ now) (h2 : now ≤ 1073741824) (hf0 : 0 ≤ fell) (hf1 : fell ≤ 255) (hp : p < 2) (hs : on = true ∨ fell ≠ 2) :
    clock_Start.f 3 l0 l1 more cap who on since fell p now = some (0, 0, 0, 0, 0, false, 0, 0, 11) := start_state 0 l0 l1 more cap who on since fell p now hf0 hf1 ⟨h, ⟨h0, h2⟩, h1⟩ hp hs
theorem rd_mem41 (l : List S41) (k : Nat) (h : k < l.length) : rd_T41 l (k : Int) ∈ l := by
  unfold rd_T41
  rw [Int.toNat_natCast, List.getD_eq_getElem?_getD, List.getElem?_eq_getElem h]
  exact List.getElem_mem h
set_option linter.unusedSimpArgs false
theorem on8 {W : World} {b : Nat} {t : TypeId} {u0 u1 u2 u3 u4 u5 u6 u7 v0 v1 v2 v3 v4 v5 v6 v7 : Value} (h : Blk W b t #[u0, u1, u2, u3, u4, u5, u6, u7]) : Blk ((((((((W.setCell ⟨b, 0, none⟩ v0).setCell ⟨b, 1, none⟩ v1).setCell ⟨b, 2, none⟩ v2).setCell ⟨b, 3, none⟩ v3).setCell ⟨b, 4, none⟩ v4).setCell ⟨b, 5, none⟩ v5).setCell ⟨b, 6, none⟩ v6).setCell ⟨b, 7, none⟩ v7) b t #[v0, v1, v2, v3, v4, v5, v6, v7] :=
  ((((((((h.set_ 0 v0).set_ 1 v1).set_ 2 v2).set_ 3 v3).set_ 4 v4).set_ 5 v5).set_ 6 v6).set_ 7 v7).to (by simp only [List.setIfInBounds_toArray, List.set_cons_zero, List.set_cons_succ])
theorem far8 {W : World} {g : Nat} {t : TypeId} {cs : Array Value} {b : Nat} {v0 v1 v2 v3 v4 v5 v6 v7 : Value} (h : Blk W g t cs) (hn : g ≠ b) : Blk ((((((((W.setCell ⟨b, 0, none⟩ v0).setCell ⟨b, 1, none⟩ v1).setCell ⟨b, 2, none⟩ v2).setCell ⟨b, 3, none⟩ v3).setCell ⟨b, 4, none⟩ v4).setCell ⟨b, 5, none⟩ v5).setCell ⟨b, 6, none⟩ v6).setCell ⟨b, 7, none⟩ v7) g t cs :=
  (((((((h.far (p := ⟨b, 0, none⟩) hn v0).far (p := ⟨b, 1, none⟩) hn v1).far (p := ⟨b, 2, none⟩) hn v2).far (p := ⟨b, 3, none⟩) hn v3).far (p := ⟨b, 4, none⟩) hn v4).far (p := ⟨b, 5, none⟩) hn v5).far (p := ⟨b, 6, none⟩) hn v6).far (p := ⟨b, 7, none⟩) hn v7
theorem below8 {w W : World} {b : Nat} {v0 v1 v2 v3 v4 v5 v6 v7 : Value} (h : Below w.heap.size w W) (hb : w.heap.size ≤ b) : Below w.heap.size w ((((((((W.setCell ⟨b, 0, none⟩ v0).setCell ⟨b, 1, none⟩ v1).setCell ⟨b, 2, none⟩ v2).setCell ⟨b, 3, none⟩ v3).setCell ⟨b, 4, none⟩ v4).setCell ⟨b, 5, none⟩ v5).setCell ⟨b, 6, none⟩ v6).setCell ⟨b, 7, none⟩ v7) :=
  bset (bset (bset (bset (bset (bset (bset (bset h hb) hb) hb) hb) hb) hb) hb) hb
theorem bdrewG {w W : World} (h : Below w.heap.size w W) : Below w.heap.size w W.drew := ⟨h.os, h.tape, h.output, h.size, h.block⟩
theorem stop_off (l0 l1 more cap who since fell now : Int) (h : MayP l0 l1 more cap who false since fell) (h1 : since ≤ now) (h0 : 0 ≤ now) (h2 : now ≤ 1073741824) (hf0 : 0 ≤ fell) (hf1 : fell ≤ 255) : clock_Stop.f 3 l0 l1 more cap who false since fell now = some (0, 0, 0, 0, 0, false, 0, 0, false, 11) := by
  unfold clock_Stop.f
  rw [cmay_f 0 _ _ _ _ _ _ _ _ _ hf0 hf1, decide_eq_true ⟨h, ⟨h0, h2⟩, h1⟩]
  rfl
set_option maxRecDepth 100000
set_option maxHeartbeats 8000000
/-- A base that may not be. -/
theorem goes_bad (base more cap : Int) (A : Option Addr) (c : Nat) (l : List S41) (w : World) (hg_ : GoodW w) (h : clock_New.f 3 base more cap = some (0, 0, 0, 0, 0, false, 0, 0, 2)) :
    Calls Tryd.prog 4 #[.int .i64 base, .int .i64 more, .int .i64 cap, .slice A l.length c] w fun e w' => e = .returned (.bool true) ∧ Below w.heap.size w w' := by
  have HG0 := Lib.hid hg_
  clear hg_
  go_enter Tryd.func4, Tryd.ntmps4
  go_wp2_with fail
  refine (clock_New.calls 3 base more cap _ _ _ _ _ _ _ _ _ _ h).mono ?_
  rintro e w1 ⟨rfl, hb⟩
  have HB1 := Lib.hid hb
  have Bc1 := Lib.hid (Blk.new w1 24 #[.int .i64 0, .int .i64 0, .int .i64 0, .int .i64 0, .int .u8 0, .bool false, .int .i64 0, .int .u8 0])
  have HG1 := Lib.hid ((HG0.out.below hb).alloc (.cells #[.int .i64 0, .int .i64 0, .int .i64 0, .int .i64 0, .int .u8 0, .bool false, .int .i64 0, .int .u8 0] 24))
  clear hb
  obtain ⟨gc, hgc⟩ : ∃ g, w1.heap.size = g := ⟨_, rfl⟩
  go_wp2_with fail
  refine (lives_calls _ HG1.out).mono ?_
  rintro e w2 ⟨rfl, hb⟩
  have HB2 := Lib.hid (bstep (balloc HB1.out _) hb)
  clear hb
  go_wp2_with fail
  go_ret
  exact ⟨rfl, HB2.out⟩

theorem goes_main (base more cap : Int) (A : Option Addr) (c : Nat) (l : List S41) (w : World) (hg_ : GoodW w) (hr : Kd.C k41 w A l.length l) (hl : l.length < 4611686018427387904) (hw : ∀ x ∈ l, 0 ≤ x.f0 ∧ x.f0 ≤ 255) (hM : MayP base base more cap 0 false 0 2) (h : clock_New.f 3 base more cap = some (base, base, more, cap, 0, false, 0, 2, 0)) :
    Calls Tryd.prog 4 #[.int .i64 base, .int .i64 more, .int .i64 cap, .slice A l.length c] w fun e w' => e = .returned (.bool true) ∧ Below w.heap.size w w' := by
  have HG := Lib.hid hg_
  have HR := Lib.hid hr
  have HL := Lib.hid hl
  have HW := Lib.hid hw
  have HM := Lib.hid hM
  clear hg_ hr hl hw hM
  go_enter Tryd.func4, Tryd.ntmps4
  go_wp2_with fail
  refine (clock_New.calls 3 base more cap _ _ _ _ _ _ _ _ _ _ h).mono ?_
  rintro e w1 ⟨rfl, hb⟩
  clear h
  have hB1 := Blk.new w1 24 #[.int .i64 base, .int .i64 base, .int .i64 more, .int .i64 cap, .int .u8 0, .bool false, .int .i64 0, .int .u8 2]
  have hb2 := balloc hb (.cells #[.int .i64 base, .int .i64 base, .int .i64 more, .int .i64 cap, .int .u8 0, .bool false, .int .i64 0, .int .u8 2] 24)
  have hgcw : w.heap.size ≤ w1.heap.size := hb.size
  have hu := Blk.new (w1.alloc (.cells #[.int .i64 base, .int .i64 base, .int .i64 more, .int .i64 cap, .int .u8 0, .bool false, .int .i64 0, .int .u8 2] 24)) 22 #[.int .i64 0, .int .i64 0]
  have hc2 := hB1.alloc (.cells #[.int .i64 0, .int .i64 0] 22)
  have hb3 := balloc hb2 (.cells #[.int .i64 0, .int .i64 0] 22)
  simp only [World.size_alloc] at hu
  go_wp2_with fail
  obtain ⟨gc, hgc⟩ : ∃ g, w1.heap.size = g := ⟨_, rfl⟩
  rw [hgc] at hgcw hu hc2 ⊢
  have HU := Lib.hid hu
  have HC := Lib.hid hc2
  have HB := Lib.hid hb3
  have HGC := Lib.hid hgcw
  have EGC := Lib.hid hgc
  clear hu hc2 hb3 hb hb2 hgcw hB1 hgc
  go_loopg [12, 13] l.length (fun gg s12 s13 wr => ∃ (kk : Nat) (now l0 l1 who : Int) (on : Bool) (since fell x0 x1 : Int), kk ≤ l.length ∧ l.length - kk ≤ gg ∧ s12 = .int .i64 now ∧ s13 = .int .i64 kk ∧ Aside0 (Blk wr gc 24 #[.int .i64 l0, .int .i64 l1, .int .i64 more, .int .i64 cap, .int .u8 who, .bool on, .int .i64 since, .int .u8 fell]) ∧ Aside0 (Blk wr (gc + 1) 22 #[.int .i64 x0, .int .i64 x1]) ∧ Aside0 (Below w.heap.size w wr) ∧ Aside0 (Inv base more cap l0 l1 who on since fell now x0 x1))
  case atStart => exact ⟨0, 0, base, base, 0, false, 0, 2, 0, 0, Nat.zero_le _, by omega, rfl, rfl, ⟨HC.out⟩, ⟨HU.out⟩, ⟨HB.out⟩, ⟨inv_new HM.out⟩⟩
  case round =>
    clear HU HC HB HM EGC
    obtain ⟨kk, now, l0, l1, who, on, since, fell, x0, x1, hkk, hgg, rfl, rfl, BC, BU, HB, HI⟩ := hrel
    by_cases hlt : kk < l.length ∧ kk < 200
    rotate_left
    · by_cases h1 : kk < l.length
      · have h2 : ¬ kk < 200 := fun h2 => hlt ⟨h1, h2⟩
        have h3 : (kk < l.length) = True := eq_true h1
        have h4 : (kk < 200) = False := eq_false h2
        have e2 : decide ((kk : Int) < 200) = false := decide_eq_false (by omega)
        clear hlt h1 h2
        go_wp2_with (go_at_call 27; refine (lives_calls _ (HG.out.below HB.out)).mono ?_; rintro e w2 ⟨rfl, hb⟩)
        go_ret
        exact ⟨rfl, bstep HB.out hb⟩
      · have h3 : (kk < l.length) = False := eq_false h1
        clear hlt h1
        go_wp2_with (go_at_call 27; refine (lives_calls _ (HG.out.below HB.out)).mono ?_; rintro e w2 ⟨rfl, hb⟩)
        go_ret
        exact ⟨rfl, bstep HB.out hb⟩
    · obtain ⟨hlt1, hlt2⟩ := hlt
      have e1 : (kk < l.length) = True := eq_true hlt1
      have e2 : decide ((kk : Int) < 200) = true := decide_eq_true (by omega)
      have e3 : (kk < 200) = True := eq_true hlt2
      have hk0 : (0 : Int) ≤ (kk : Int) := Int.natCast_nonneg _
      obtain ⟨ad, rfl, d0, d1, d2⟩ := at_T41 (Kd.C_below HR.out HB.out) (kk : Int) hk0 (Int.ofNat_lt.2 hlt1)
      simp only [Int.toNat_natCast] at d0 d1 d2
      obtain ⟨y0, hy0⟩ : ∃ y, (rd_T41 l (kk : Int)).f0 = y := ⟨_, rfl⟩
      obtain ⟨y1, hy1⟩ : ∃ y, (rd_T41 l (kk : Int)).f1 = y := ⟨_, rfl⟩
      obtain ⟨y2, hy2⟩ : ∃ y, (rd_T41 l (kk : Int)).f2 = y := ⟨_, rfl⟩
      rw [hy0] at d0
      rw [hy1] at d1
      rw [hy2] at d2
      have hy01 : 0 ≤ y0 ∧ y0 ≤ 255 := by rw [← hy0]; exact HW.out _ (rd_mem41 l kk hlt1)
      have HY01 := Lib.hid hy01
      clear hy01
      clear hy0 hy1 hy2
      have c_c := BC.out.cell
      go_upto_region 11 with (fail)
      have hN := new_now (now := now) (x := y2) (by have := HI.out.n0; have := HI.out.may.2.2.2.2.2.2.1.1; omega) HI.out.n1
      unfold mn mx at hN
      generalize (if 1048576 < y2 then 1048576 else y2) = n1 at hN ⊢
      generalize (if n1 < 0 then 0 else n1) = n2 at hN ⊢
      generalize (if 1073741824 < wrap64 (now + n2) then 1073741824 else wrap64 (now + n2)) = N at hN ⊢
      obtain ⟨hN1, hN2⟩ := hN
      have hI := HI.out.later hN1 hN2
      have bc := BC.out.alloc (.cells #[.int .i64 l0, .int .i64 l1, .int .i64 more, .int .i64 cap, .int .u8 who, .bool on, .int .i64 since, .int .u8 fell] 24)
      have bu := BU.out.alloc (.cells #[.int .i64 l0, .int .i64 l1, .int .i64 more, .int .i64 cap, .int .u8 who, .bool on, .int .i64 since, .int .u8 fell] 24)
      have bw := Blk.new wr 24 #[.int .i64 l0, .int .i64 l1, .int .i64 more, .int .i64 cap, .int .u8 who, .bool on, .int .i64 since, .int .u8 fell]
      have hb := balloc HB.out (.cells #[.int .i64 l0, .int .i64 l1, .int .i64 more, .int .i64 cap, .int .u8 who, .bool on, .int .i64 since, .int .u8 fell] 24)
      have hcw : gc + 1 < wr.heap.size := BU.out.lt
      obtain ⟨gw, hgw⟩ : ∃ g, wr.heap.size = g := ⟨_, rfl⟩
      rw [hgw] at bw hcw ⊢
      have hcell : ∀ p : Addr, p.block < gw → (wr.alloc (.cells #[.int .i64 l0, .int .i64 l1, .int .i64 more, .int .i64 cap, .int .u8 who, .bool on, .int .i64 since, .int .u8 fell] 24)).cell? p = wr.cell? p := fun p hp => by rw [← hgw] at hp; exact (balloc (Below.refl wr.heap.size wr) (.cells #[.int .i64 l0, .int .i64 l1, .int .i64 more, .int .i64 cap, .int .u8 who, .bool on, .int .i64 since, .int .u8 fell] 24)).cell hp
      have hd0 : (ad.add (kk * 3)).block < gw := by rw [← hgw]; exact World.block_lt_of_cell? wr _ d0
      replace d0 := (hcell _ hd0).trans d0
      replace d1 := (hcell ⟨(ad.add (kk * 3)).block, (ad.add (kk * 3)).off + 1, none⟩ hd0).trans d1
      generalize wr.alloc (.cells #[.int .i64 l0, .int .i64 l1, .int .i64 more, .int .i64 cap, .int .u8 who, .bool on, .int .i64 since, .int .u8 fell] 24) = W1 at bc bu bw hb d0 d1 ⊢
      have BC1 := Lib.hid bc
      have BU1 := Lib.hid bu
      have BW1 := Lib.hid bw
      have HB1 := Lib.hid hb
      have HI1 := Lib.hid hI
      have HCW := Lib.hid hcw
      have HD0 := Lib.hid hd0
      have hn0 : 0 ≤ N := by have := HI.out.n0; have := HI.out.may.2.2.2.2.2.2.1.1; omega
      have HN0 := Lib.hid hn0
      have HN2 := Lib.hid hN2
      clear hn0 bc bu bw hb hI hcw hN1 hN2 c_c d2 hcell hd0 BC BU HB HI e1 e2 e3 hgw
      go_upto_if 62 with (fail)
      have D0 := Lib.hid d0
      clear d0 d1
      go_cut [16, 17, 19] (fun v16 v17 v19 wc => ∃ (m0 m1 mw : Int) (mo : Bool) (ms mf z0 z1 : Int), Aside0 (Blk wc gc 24 #[.int .i64 m0, .int .i64 m1, .int .i64 more, .int .i64 cap, .int .u8 mw, .bool mo, .int .i64 ms, .int .u8 mf]) ∧ Aside0 (Blk wc (gc + 1) 22 #[.int .i64 z0, .int .i64 z1]) ∧ Aside0 (Blk wc gw 24 #[.int .i64 l0, .int .i64 l1, .int .i64 more, .int .i64 cap, .int .u8 who, .bool on, .int .i64 since, .int .u8 fell]) ∧ Aside0 (Below w.heap.size w wc) ∧ Aside0 (Inv base more cap m0 m1 mw mo ms mf N z0 z1) ∧ Aside0 (fell ≠ 2 → m0 = l0 ∧ m1 = l1 ∧ mw = who ∧ mo = on ∧ ms = since ∧ mf = fell))
      case first =>
        cases y1 with
        | true =>
          cases on with
          | true =>
            have hf2 := may_on HI1.out.may
            subst hf2
            rcases may_who HI1.out.may HI1.out.w0 with rfl | rfl
            · by_cases hfl : N - since > roomI (ofWho l0 l1 0) cap
              · have hS : clock_Stop.f 3 l0 l1 more cap 0 true since 2 N = some (0, l1, more, cap, 0, false, N, 0, false, 0) := by
                  rw [stop_f 0 l0 l1 more cap 0 since 2 N HI1.out.may (by decide) HI1.out.n0 HN2.out (by decide) (by decide), if_pos hfl]; rfl
                have hI2 := Lib.hid (Inv.stop0a HI1.out)
                have eS : wrap64 (N - since) = N - since := wrap_id (by have := HI1.out.n0; have := HN2.out; omega) (by have := HN2.out; have := HI1.out.may.2.2.2.2.2.2.1.1; omega)
                have eU : wrap64 (x0 + (N - since)) = x0 + (N - since) := wrap_id (by have := hI2.out.a0; have := hI2.out.b0; omega) (by have := hI2.out.a1; have := hI2.out.b1; have := HN2.out; omega)
                clear hfl
                have c_c := BC1.out.cell
                have f_c := BC1.out.frozen
                have q_c := BC1.out.lt
                go_wp2_with fail
                refine (clock_Stop.calls 3 l0 l1 more cap 0 true since 2 N _ _ _ _ _ _ _ _ _ _ _ hS).mono ?_
                rintro e w2 ⟨rfl, hb⟩
                clear c_c f_c q_c hS
                have BC2 := Lib.hid (BC1.out.after hb)
                have BU2 := Lib.hid (BU1.out.after hb)
                have BW2 := Lib.hid (BW1.out.after hb)
                have HB2 := Lib.hid (bstep HB1.out hb)
                clear hb
                have c_c := BC2.out.cell
                have f_c := BC2.out.frozen
                have q_c := BC2.out.lt
                have c_u := BU2.out.cell
                have f_u := BU2.out.frozen
                have q_u := BU2.out.lt
                have c_w := BW2.out.cell
                have f_w := BW2.out.frozen
                have q_w := BW2.out.lt
                go_upto_region 16 with (fail)
                have bc := BC2.out.alloc (.cells #[.int .i64 0, .int .i64 l1, .int .i64 more, .int .i64 cap, .int .u8 0, .bool false, .int .i64 N, .int .u8 0] 24)
                have bu := BU2.out.alloc (.cells #[.int .i64 0, .int .i64 l1, .int .i64 more, .int .i64 cap, .int .u8 0, .bool false, .int .i64 N, .int .u8 0] 24)
                have bw := BW2.out.alloc (.cells #[.int .i64 0, .int .i64 l1, .int .i64 more, .int .i64 cap, .int .u8 0, .bool false, .int .i64 N, .int .u8 0] 24)
                have bx := Blk.new w2 24 #[.int .i64 0, .int .i64 l1, .int .i64 more, .int .i64 cap, .int .u8 0, .bool false, .int .i64 N, .int .u8 0]
                have hb := balloc HB2.out (.cells #[.int .i64 0, .int .i64 l1, .int .i64 more, .int .i64 cap, .int .u8 0, .bool false, .int .i64 N, .int .u8 0] 24)
                have hwx : gw < w2.heap.size := BW2.out.lt
                clear c_c f_c q_c c_u f_u q_u c_w f_w q_w
                generalize w2.alloc (.cells #[.int .i64 0, .int .i64 l1, .int .i64 more, .int .i64 cap, .int .u8 0, .bool false, .int .i64 N, .int .u8 0] 24) = w3 at bc bu bw bx hb ⊢
                obtain ⟨gx, hgx⟩ : ∃ g, w2.heap.size = g := ⟨_, rfl⟩
                rw [hgx] at bx hwx ⊢
                have BC3 := Lib.hid bc
                have BU3 := Lib.hid bu
                have BW3 := Lib.hid bw
                have BX3 := Lib.hid bx
                have HB3 := Lib.hid hb
                have HWX := Lib.hid hwx
                clear bc bu bw bx hb hwx hgx
                have c_c := BC3.out.cell
                have f_c := BC3.out.frozen
                have q_c := BC3.out.lt
                have c_u := BU3.out.cell
                have f_u := BU3.out.frozen
                have q_u := BU3.out.lt
                have k4 : w3.cell? ⟨gc, 4, none⟩ = some (.int .u8 0) := (BC3.out.cell 4).trans rfl
                have k6 : w3.cell? ⟨gc, 6, none⟩ = some (.int .i64 since) := (BC3.out.cell 6).trans rfl
                have ku : w3.cell? ⟨gc + 1, 0, none⟩ = some (.int .i64 x0) := (BU3.out.cell 0).trans rfl
                refine start_ (n := 11) (S := (fun w' => w'.cell? ⟨gc, 4, none⟩ = some (.int .u8 0) ∧ w'.cell? ⟨gc, 6, none⟩ = some (.int .i64 since) ∧ w'.cell? ⟨gc + 1, 0, none⟩ = some (.int .i64 x0))) (ds := [10]) #[false, false, false, false, false, false, false, false, false, false, false] (by kernel_rfl) rfl (by kernel_rfl) ⟨k4, k6, ku⟩ (fun hHeld => ?_)
                refine pure_ (i := 0) (N := some 77) (v := ?_) (a' := ?_) #[true, false, false, false, false, false, false, false, false, false, false] rfl rfl (by kernel_rfl) (fun _ _ _ h => h) (Or.inl ⟨by rfl, ?_⟩) ?_ ?_
                rotate_left
                · intro w'
                  go_simp
                  with_reducible rfl
                rotate_left
                · simp only [Act.put, List.setIfInBounds_toArray, List.set_cons_zero, List.set_cons_succ]
                  rfl
                refine pure_ (i := 4) (N := some 81) (v := ?_) (a' := ?_) #[true, false, false, false, true, false, false, false, false, false, false] rfl rfl (by kernel_rfl) (fun _ _ _ h => h) (Or.inl ⟨by rfl, ?_⟩) ?_ ?_
                rotate_left
                · intro w'
                  go_simp
                  with_reducible rfl
                rotate_left
                · simp only [Act.put, List.setIfInBounds_toArray, List.set_cons_zero, List.set_cons_succ]
                  rfl
                refine pure_ (i := 5) (N := some 82) (v := ?_) (a' := ?_) #[true, false, false, false, true, true, false, false, false, false, false] rfl rfl (by kernel_rfl) (fun _ _ _ h => h) (Or.inl ⟨by rfl, ?_⟩) ?_ ?_
                rotate_left
                · intro w'
                  go_simp
                  with_reducible rfl
                rotate_left
                · simp only [Act.put, List.setIfInBounds_toArray, List.set_cons_zero, List.set_cons_succ]
                  rfl
                refine take_ (i := 1) (N := some 78) (v := ?_) (a' := ?_) #[true, true, false, false, true, true, false, false, false, false, false] rfl rfl (by kernel_rfl) (fun _ _ _ h => h) (Or.inl ⟨by rfl, ?_⟩) hHeld ?_ ?_
                rotate_left
                · rintro w' ⟨s0, s1, s2⟩
                  go_simp
                  with_reducible rfl
                rotate_left
                · simp only [Act.put, List.setIfInBounds_toArray, List.set_cons_zero, List.set_cons_succ]
                  rfl
                refine take_ (i := 6) (N := some 83) (v := ?_) (a' := ?_) #[true, true, false, false, true, true, true, false, false, false, false] rfl rfl (by kernel_rfl) (fun _ _ _ h => h) (Or.inl ⟨by rfl, ?_⟩) hHeld ?_ ?_
                rotate_left
                · rintro w' ⟨s0, s1, s2⟩
                  go_simp
                  with_reducible rfl
                rotate_left
                · simp only [Act.put, List.setIfInBounds_toArray, List.set_cons_zero, List.set_cons_succ]
                  rfl
                refine pure_ (i := 2) (N := some 79) (v := ?_) (a' := ?_) #[true, true, true, false, true, true, true, false, false, false, false] rfl rfl (by kernel_rfl) (fun _ _ _ h => h) (Or.inl ⟨by rfl, ?_⟩) ?_ ?_
                rotate_left
                · intro w'
                  go_simp
                  with_reducible rfl
                rotate_left
                · simp only [Act.put, List.setIfInBounds_toArray, List.set_cons_zero, List.set_cons_succ]
                  rfl
                refine take_ (i := 3) (N := some 80) (v := ?_) (a' := ?_) #[true, true, true, true, true, true, true, false, false, false, false] rfl rfl (by kernel_rfl) (fun _ _ _ h => h) (Or.inl ⟨by rfl, ?_⟩) hHeld ?_ ?_
                rotate_left
                · rintro w' ⟨s0, s1, s2⟩
                  go_simp
                  with_reducible rfl
                rotate_left
                · simp only [Act.put, List.setIfInBounds_toArray, List.set_cons_zero, List.set_cons_succ]
                  rfl
                refine pure_ (i := 7) (N := some 84) (v := ?_) (a' := ?_) #[true, true, true, true, true, true, true, true, false, false, false] rfl rfl (by kernel_rfl) (fun _ _ _ h => h) (Or.inl ⟨by rfl, ?_⟩) ?_ ?_
                rotate_left
                · intro w'
                  go_simp
                  with_reducible rfl
                rotate_left
                · simp only [Act.put, List.setIfInBounds_toArray, List.set_cons_zero, List.set_cons_succ]
                  rfl
                refine pure_ (i := 8) (N := some 85) (v := ?_) (a' := ?_) #[true, true, true, true, true, true, true, true, true, false, false] rfl rfl (by kernel_rfl) (fun _ _ _ h => h) (Or.inl ⟨by rfl, ?_⟩) ?_ ?_
                rotate_left
                · intro w'
                  go_simp
                  with_reducible rfl
                rotate_left
                · simp only [Act.put, List.setIfInBounds_toArray, List.set_cons_zero, List.set_cons_succ]
                  rfl
                refine pure_ (i := 9) (N := some 86) (v := ?_) (a' := ?_) #[true, true, true, true, true, true, true, true, true, true, false] rfl rfl (by kernel_rfl) (fun _ _ _ h => h) (Or.inl ⟨by rfl, ?_⟩) ?_ ?_
                rotate_left
                · intro w'
                  go_simp
                  with_reducible rfl
                rotate_left
                · simp only [Act.put, List.setIfInBounds_toArray, List.set_cons_zero, List.set_cons_succ]
                  rfl
                refine last_ (i := 10) (N := none) #[true, true, true, true, true, true, true, true, true, true, true] rfl rfl (by kernel_rfl) (by simp) (fun K hK => ?_)
                rw [if_pos (by rfl)]
                go_simp
                refine hK.out _ _ ?_
                clear hK K hHeld
                refine done_ (by kernel_rfl) ?_
                rw [(i64_w (N - since)).trans eS, (i64_w (x0 + (N - since))).trans eU]
                have hcw := HCW.out
                have hwx := HWX.out
                have hgc0 := HGC.out
                have bc := (BC3.out.far (p := ⟨gc + 1, 0, none⟩) (show gc ≠ gc + 1 by omega) (.int .i64 (x0 + (N - since)))).drew
                have bu := ((BU3.out.set_ 0 (.int .i64 (x0 + (N - since)))).to (show _ = #[.int .i64 (x0 + (N - since)), .int .i64 x1] from rfl)).drew
                have bw := (BW3.out.far (p := ⟨gc + 1, 0, none⟩) (show gw ≠ gc + 1 by omega) (.int .i64 (x0 + (N - since)))).drew
                have bx := (BX3.out.far (p := ⟨gc + 1, 0, none⟩) (show gx ≠ gc + 1 by omega) (.int .i64 (x0 + (N - since)))).drew
                have hb := bdrewG (bset (g := gc + 1) (j := 0) (v := (.int .i64 (x0 + (N - since)))) HB3.out (by omega))
                clear k4 k6 ku c_c f_c q_c c_u f_u q_u
                generalize (w3.setCell ⟨gc + 1, 0, none⟩ (.int .i64 (x0 + (N - since)))).drew = w4 at bc bu bw bx hb ⊢
                have BC4 := Lib.hid bc
                have BU4 := Lib.hid bu
                have BW4 := Lib.hid bw
                have BX4 := Lib.hid bx
                have HB4 := Lib.hid hb
                clear bc bu bw bx hb
                have c_c := BC4.out.cell
                have f_c := BC4.out.frozen
                have q_c := BC4.out.lt
                have c_x := BX4.out.cell
                have f_x := BX4.out.frozen
                have q_x := BX4.out.lt
                go_upto_region 18 with (fail)
                have bc := on8 (v0 := .int .i64 0) (v1 := .int .i64 l1) (v2 := .int .i64 more) (v3 := .int .i64 cap) (v4 := .int .u8 0) (v5 := .bool false) (v6 := .int .i64 N) (v7 := .int .u8 0) BC4.out
                have bu := far8 (v0 := .int .i64 0) (v1 := .int .i64 l1) (v2 := .int .i64 more) (v3 := .int .i64 cap) (v4 := .int .u8 0) (v5 := .bool false) (v6 := .int .i64 N) (v7 := .int .u8 0) BU4.out (show gc + 1 ≠ gc by omega)
                have bw := far8 (v0 := .int .i64 0) (v1 := .int .i64 l1) (v2 := .int .i64 more) (v3 := .int .i64 cap) (v4 := .int .u8 0) (v5 := .bool false) (v6 := .int .i64 N) (v7 := .int .u8 0) BW4.out (show gw ≠ gc by omega)
                have hb := below8 (v0 := .int .i64 0) (v1 := .int .i64 l1) (v2 := .int .i64 more) (v3 := .int .i64 cap) (v4 := .int .u8 0) (v5 := .bool false) (v6 := .int .i64 N) (v7 := .int .u8 0) HB4.out hgc0
                clear c_c f_c q_c c_x f_x q_x
                generalize World.setCell _ _ _ = w5 at bc bu bw hb ⊢
                have BC5 := Lib.hid bc
                have BU5 := Lib.hid bu
                have BW5 := Lib.hid bw
                have HB5 := Lib.hid hb
                clear bc bu bw hb
                have c_c := BC5.out.cell
                have f_c := BC5.out.frozen
                have q_c := BC5.out.lt
                have c_w := BW5.out.cell
                have f_w := BW5.out.frozen
                have q_w := BW5.out.lt
                go_wp2_with fail
                clear c_c f_c q_c c_w f_w q_w hcw hwx hgc0
                go_meet
                case rel => exact ⟨(0), (l1), 0, false, N, 0, _, _, ⟨BC5.out⟩, ⟨BU5.out⟩, ⟨BW5.out⟩, ⟨HB5.out⟩, ⟨hI2.out⟩, ⟨fun h => absurd rfl h⟩⟩
              · have hS : clock_Stop.f 3 l0 l1 more cap 0 true since 2 N = some ((leftI l0 more (N - since)), l1, more, cap, 0, false, N, 2, true, 0) := by
                  rw [stop_f 0 l0 l1 more cap 0 since 2 N HI1.out.may (by decide) HI1.out.n0 HN2.out (by decide) (by decide), if_neg hfl]; rfl
                have hI2 := Lib.hid (Inv.stop0b HI1.out)
                have eS : wrap64 (N - since) = N - since := wrap_id (by have := HI1.out.n0; have := HN2.out; omega) (by have := HN2.out; have := HI1.out.may.2.2.2.2.2.2.1.1; omega)
                have eU : wrap64 (x0 + (N - since)) = x0 + (N - since) := wrap_id (by have := hI2.out.a0; have := hI2.out.b0; omega) (by have := hI2.out.a1; have := hI2.out.b1; have := HN2.out; omega)
                clear hfl
                have c_c := BC1.out.cell
                have f_c := BC1.out.frozen
                have q_c := BC1.out.lt
                go_wp2_with fail
                refine (clock_Stop.calls 3 l0 l1 more cap 0 true since 2 N _ _ _ _ _ _ _ _ _ _ _ hS).mono ?_
                rintro e w2 ⟨rfl, hb⟩
                clear c_c f_c q_c hS
                have BC2 := Lib.hid (BC1.out.after hb)
                have BU2 := Lib.hid (BU1.out.after hb)
                have BW2 := Lib.hid (BW1.out.after hb)
                have HB2 := Lib.hid (bstep HB1.out hb)
                clear hb
                have c_c := BC2.out.cell
                have f_c := BC2.out.frozen
                have q_c := BC2.out.lt
                have c_u := BU2.out.cell
                have f_u := BU2.out.frozen
                have q_u := BU2.out.lt
                have c_w := BW2.out.cell
                have f_w := BW2.out.frozen
                have q_w := BW2.out.lt
                go_upto_region 16 with (fail)
                have bc := BC2.out.alloc (.cells #[.int .i64 (leftI l0 more (N - since)), .int .i64 l1, .int .i64 more, .int .i64 cap, .int .u8 0, .bool false, .int .i64 N, .int .u8 2] 24)
                have bu := BU2.out.alloc (.cells #[.int .i64 (leftI l0 more (N - since)), .int .i64 l1, .int .i64 more, .int .i64 cap, .int .u8 0, .bool false, .int .i64 N, .int .u8 2] 24)
                have bw := BW2.out.alloc (.cells #[.int .i64 (leftI l0 more (N - since)), .int .i64 l1, .int .i64 more, .int .i64 cap, .int .u8 0, .bool false, .int .i64 N, .int .u8 2] 24)
                have bx := Blk.new w2 24 #[.int .i64 (leftI l0 more (N - since)), .int .i64 l1, .int .i64 more, .int .i64 cap, .int .u8 0, .bool false, .int .i64 N, .int .u8 2]
                have hb := balloc HB2.out (.cells #[.int .i64 (leftI l0 more (N - since)), .int .i64 l1, .int .i64 more, .int .i64 cap, .int .u8 0, .bool false, .int .i64 N, .int .u8 2] 24)
                have hwx : gw < w2.heap.size := BW2.out.lt
                clear c_c f_c q_c c_u f_u q_u c_w f_w q_w
                generalize w2.alloc (.cells #[.int .i64 (leftI l0 more (N - since)), .int .i64 l1, .int .i64 more, .int .i64 cap, .int .u8 0, .bool false, .int .i64 N, .int .u8 2] 24) = w3 at bc bu bw bx hb ⊢
                obtain ⟨gx, hgx⟩ : ∃ g, w2.heap.size = g := ⟨_, rfl⟩
                rw [hgx] at bx hwx ⊢
                have BC3 := Lib.hid bc
                have BU3 := Lib.hid bu
                have BW3 := Lib.hid bw
                have BX3 := Lib.hid bx
                have HB3 := Lib.hid hb
                have HWX := Lib.hid hwx
                clear bc bu bw bx hb hwx hgx
                have c_c := BC3.out.cell
                have f_c := BC3.out.frozen
                have q_c := BC3.out.lt
                have c_u := BU3.out.cell
                have f_u := BU3.out.frozen
                have q_u := BU3.out.lt
                have k4 : w3.cell? ⟨gc, 4, none⟩ = some (.int .u8 0) := (BC3.out.cell 4).trans rfl
                have k6 : w3.cell? ⟨gc, 6, none⟩ = some (.int .i64 since) := (BC3.out.cell 6).trans rfl
                have ku : w3.cell? ⟨gc + 1, 0, none⟩ = some (.int .i64 x0) := (BU3.out.cell 0).trans rfl
                refine start_ (n := 11) (S := (fun w' => w'.cell? ⟨gc, 4, none⟩ = some (.int .u8 0) ∧ w'.cell? ⟨gc, 6, none⟩ = some (.int .i64 since) ∧ w'.cell? ⟨gc + 1, 0, none⟩ = some (.int .i64 x0))) (ds := [10]) #[false, false, false, false, false, false, false, false, false, false, false] (by kernel_rfl) rfl (by kernel_rfl) ⟨k4, k6, ku⟩ (fun hHeld => ?_)
                refine pure_ (i := 0) (N := some 77) (v := ?_) (a' := ?_) #[true, false, false, false, false, false, false, false, false, false, false] rfl rfl (by kernel_rfl) (fun _ _ _ h => h) (Or.inl ⟨by rfl, ?_⟩) ?_ ?_
                rotate_left
                · intro w'
                  go_simp
                  with_reducible rfl
                rotate_left
                · simp only [Act.put, List.setIfInBounds_toArray, List.set_cons_zero, List.set_cons_succ]
                  rfl
                refine pure_ (i := 4) (N := some 81) (v := ?_) (a' := ?_) #[true, false, false, false, true, false, false, false, false, false, false] rfl rfl (by kernel_rfl) (fun _ _ _ h => h) (Or.inl ⟨by rfl, ?_⟩) ?_ ?_
                rotate_left
                · intro w'
                  go_simp
                  with_reducible rfl
                rotate_left
                · simp only [Act.put, List.setIfInBounds_toArray, List.set_cons_zero, List.set_cons_succ]
                  rfl
                refine pure_ (i := 5) (N := some 82) (v := ?_) (a' := ?_) #[true, false, false, false, true, true, false, false, false, false, false] rfl rfl (by kernel_rfl) (fun _ _ _ h => h) (Or.inl ⟨by rfl, ?_⟩) ?_ ?_
                rotate_left
                · intro w'
                  go_simp
                  with_reducible rfl
                rotate_left
                · simp only [Act.put, List.setIfInBounds_toArray, List.set_cons_zero, List.set_cons_succ]
                  rfl
                refine take_ (i := 1) (N := some 78) (v := ?_) (a' := ?_) #[true, true, false, false, true, true, false, false, false, false, false] rfl rfl (by kernel_rfl) (fun _ _ _ h => h) (Or.inl ⟨by rfl, ?_⟩) hHeld ?_ ?_
                rotate_left
                · rintro w' ⟨s0, s1, s2⟩
                  go_simp
                  with_reducible rfl
                rotate_left
                · simp only [Act.put, List.setIfInBounds_toArray, List.set_cons_zero, List.set_cons_succ]
                  rfl
                refine take_ (i := 6) (N := some 83) (v := ?_) (a' := ?_) #[true, true, false, false, true, true, true, false, false, false, false] rfl rfl (by kernel_rfl) (fun _ _ _ h => h) (Or.inl ⟨by rfl, ?_⟩) hHeld ?_ ?_
                rotate_left
                · rintro w' ⟨s0, s1, s2⟩
                  go_simp
                  with_reducible rfl
                rotate_left
                · simp only [Act.put, List.setIfInBounds_toArray, List.set_cons_zero, List.set_cons_succ]
                  rfl
                refine pure_ (i := 2) (N := some 79) (v := ?_) (a' := ?_) #[true, true, true, false, true, true, true, false, false, false, false] rfl rfl (by kernel_rfl) (fun _ _ _ h => h) (Or.inl ⟨by rfl, ?_⟩) ?_ ?_
                rotate_left
                · intro w'
                  go_simp
                  with_reducible rfl
                rotate_left
                · simp only [Act.put, List.setIfInBounds_toArray, List.set_cons_zero, List.set_cons_succ]
                  rfl
                refine take_ (i := 3) (N := some 80) (v := ?_) (a' := ?_) #[true, true, true, true, true, true, true, false, false, false, false] rfl rfl (by kernel_rfl) (fun _ _ _ h => h) (Or.inl ⟨by rfl, ?_⟩) hHeld ?_ ?_
                rotate_left
                · rintro w' ⟨s0, s1, s2⟩
                  go_simp
                  with_reducible rfl
                rotate_left
                · simp only [Act.put, List.setIfInBounds_toArray, List.set_cons_zero, List.set_cons_succ]
                  rfl
                refine pure_ (i := 7) (N := some 84) (v := ?_) (a' := ?_) #[true, true, true, true, true, true, true, true, false, false, false] rfl rfl (by kernel_rfl) (fun _ _ _ h => h) (Or.inl ⟨by rfl, ?_⟩) ?_ ?_
                rotate_left
                · intro w'
                  go_simp
                  with_reducible rfl
                rotate_left
                · simp only [Act.put, List.setIfInBounds_toArray, List.set_cons_zero, List.set_cons_succ]
                  rfl
                refine pure_ (i := 8) (N := some 85) (v := ?_) (a' := ?_) #[true, true, true, true, true, true, true, true, true, false, false] rfl rfl (by kernel_rfl) (fun _ _ _ h => h) (Or.inl ⟨by rfl, ?_⟩) ?_ ?_
                rotate_left
                · intro w'
                  go_simp
                  with_reducible rfl
                rotate_left
                · simp only [Act.put, List.setIfInBounds_toArray, List.set_cons_zero, List.set_cons_succ]
                  rfl
                refine pure_ (i := 9) (N := some 86) (v := ?_) (a' := ?_) #[true, true, true, true, true, true, true, true, true, true, false] rfl rfl (by kernel_rfl) (fun _ _ _ h => h) (Or.inl ⟨by rfl, ?_⟩) ?_ ?_
                rotate_left
                · intro w'
                  go_simp
                  with_reducible rfl
                rotate_left
                · simp only [Act.put, List.setIfInBounds_toArray, List.set_cons_zero, List.set_cons_succ]
                  rfl
                refine last_ (i := 10) (N := none) #[true, true, true, true, true, true, true, true, true, true, true] rfl rfl (by kernel_rfl) (by simp) (fun K hK => ?_)
                rw [if_pos (by rfl)]
                go_simp
                refine hK.out _ _ ?_
                clear hK K hHeld
                refine done_ (by kernel_rfl) ?_
                rw [(i64_w (N - since)).trans eS, (i64_w (x0 + (N - since))).trans eU]
                have hcw := HCW.out
                have hwx := HWX.out
                have hgc0 := HGC.out
                have bc := (BC3.out.far (p := ⟨gc + 1, 0, none⟩) (show gc ≠ gc + 1 by omega) (.int .i64 (x0 + (N - since)))).drew
                have bu := ((BU3.out.set_ 0 (.int .i64 (x0 + (N - since)))).to (show _ = #[.int .i64 (x0 + (N - since)), .int .i64 x1] from rfl)).drew
                have bw := (BW3.out.far (p := ⟨gc + 1, 0, none⟩) (show gw ≠ gc + 1 by omega) (.int .i64 (x0 + (N - since)))).drew
                have bx := (BX3.out.far (p := ⟨gc + 1, 0, none⟩) (show gx ≠ gc + 1 by omega) (.int .i64 (x0 + (N - since)))).drew
                have hb := bdrewG (bset (g := gc + 1) (j := 0) (v := (.int .i64 (x0 + (N - since)))) HB3.out (by omega))
                clear k4 k6 ku c_c f_c q_c c_u f_u q_u
                generalize (w3.setCell ⟨gc + 1, 0, none⟩ (.int .i64 (x0 + (N - since)))).drew = w4 at bc bu bw bx hb ⊢
                have BC4 := Lib.hid bc
                have BU4 := Lib.hid bu
                have BW4 := Lib.hid bw
                have BX4 := Lib.hid bx
                have HB4 := Lib.hid hb
                clear bc bu bw bx hb
                have c_c := BC4.out.cell
                have f_c := BC4.out.frozen
                have q_c := BC4.out.lt
                have c_x := BX4.out.cell
                have f_x := BX4.out.frozen
                have q_x := BX4.out.lt
                go_upto_region 18 with (fail)
                have bc := on8 (v0 := .int .i64 (leftI l0 more (N - since))) (v1 := .int .i64 l1) (v2 := .int .i64 more) (v3 := .int .i64 cap) (v4 := .int .u8 0) (v5 := .bool false) (v6 := .int .i64 N) (v7 := .int .u8 2) BC4.out
                have bu := far8 (v0 := .int .i64 (leftI l0 more (N - since))) (v1 := .int .i64 l1) (v2 := .int .i64 more) (v3 := .int .i64 cap) (v4 := .int .u8 0) (v5 := .bool false) (v6 := .int .i64 N) (v7 := .int .u8 2) BU4.out (show gc + 1 ≠ gc by omega)
                have bw := far8 (v0 := .int .i64 (leftI l0 more (N - since))) (v1 := .int .i64 l1) (v2 := .int .i64 more) (v3 := .int .i64 cap) (v4 := .int .u8 0) (v5 := .bool false) (v6 := .int .i64 N) (v7 := .int .u8 2) BW4.out (show gw ≠ gc by omega)
                have hb := below8 (v0 := .int .i64 (leftI l0 more (N - since))) (v1 := .int .i64 l1) (v2 := .int .i64 more) (v3 := .int .i64 cap) (v4 := .int .u8 0) (v5 := .bool false) (v6 := .int .i64 N) (v7 := .int .u8 2) HB4.out hgc0
                clear c_c f_c q_c c_x f_x q_x
                generalize World.setCell _ _ _ = w5 at bc bu bw hb ⊢
                have BC5 := Lib.hid bc
                have BU5 := Lib.hid bu
                have BW5 := Lib.hid bw
                have HB5 := Lib.hid hb
                clear bc bu bw hb
                have c_c := BC5.out.cell
                have f_c := BC5.out.frozen
                have q_c := BC5.out.lt
                have c_w := BW5.out.cell
                have f_w := BW5.out.frozen
                have q_w := BW5.out.lt
                go_wp2_with fail
                clear c_c f_c q_c c_w f_w q_w hcw hwx hgc0
                go_meet
                case rel => exact ⟨(leftI l0 more (N - since)), (l1), 0, false, N, 2, _, _, ⟨BC5.out⟩, ⟨BU5.out⟩, ⟨BW5.out⟩, ⟨HB5.out⟩, ⟨hI2.out⟩, ⟨fun h => absurd rfl h⟩⟩
            · by_cases hfl : N - since > roomI (ofWho l0 l1 1) cap
              · have hS : clock_Stop.f 3 l0 l1 more cap 1 true since 2 N = some (l0, 0, more, cap, 1, false, N, 1, false, 0) := by
                  rw [stop_f 0 l0 l1 more cap 1 since 2 N HI1.out.may (by decide) HI1.out.n0 HN2.out (by decide) (by decide), if_pos hfl]; rfl
                have hI2 := Lib.hid (Inv.stop1a HI1.out)
                have eS : wrap64 (N - since) = N - since := wrap_id (by have := HI1.out.n0; have := HN2.out; omega) (by have := HN2.out; have := HI1.out.may.2.2.2.2.2.2.1.1; omega)
                have eU : wrap64 (x1 + (N - since)) = x1 + (N - since) := wrap_id (by have := hI2.out.a0; have := hI2.out.b0; omega) (by have := hI2.out.a1; have := hI2.out.b1; have := HN2.out; omega)
                clear hfl
                have c_c := BC1.out.cell
                have f_c := BC1.out.frozen
                have q_c := BC1.out.lt
                go_wp2_with fail
                refine (clock_Stop.calls 3 l0 l1 more cap 1 true since 2 N _ _ _ _ _ _ _ _ _ _ _ hS).mono ?_
                rintro e w2 ⟨rfl, hb⟩
                clear c_c f_c q_c hS
                have BC2 := Lib.hid (BC1.out.after hb)
                have BU2 := Lib.hid (BU1.out.after hb)
                have BW2 := Lib.hid (BW1.out.after hb)
                have HB2 := Lib.hid (bstep HB1.out hb)
                clear hb
                have c_c := BC2.out.cell
                have f_c := BC2.out.frozen
                have q_c := BC2.out.lt
                have c_u := BU2.out.cell
                have f_u := BU2.out.frozen
                have q_u := BU2.out.lt
                have c_w := BW2.out.cell
                have f_w := BW2.out.frozen
                have q_w := BW2.out.lt
                go_upto_region 16 with (fail)
                have bc := BC2.out.alloc (.cells #[.int .i64 l0, .int .i64 0, .int .i64 more, .int .i64 cap, .int .u8 1, .bool false, .int .i64 N, .int .u8 1] 24)
                have bu := BU2.out.alloc (.cells #[.int .i64 l0, .int .i64 0, .int .i64 more, .int .i64 cap, .int .u8 1, .bool false, .int .i64 N, .int .u8 1] 24)
                have bw := BW2.out.alloc (.cells #[.int .i64 l0, .int .i64 0, .int .i64 more, .int .i64 cap, .int .u8 1, .bool false, .int .i64 N, .int .u8 1] 24)
                have bx := Blk.new w2 24 #[.int .i64 l0, .int .i64 0, .int .i64 more, .int .i64 cap, .int .u8 1, .bool false, .int .i64 N, .int .u8 1]
                have hb := balloc HB2.out (.cells #[.int .i64 l0, .int .i64 0, .int .i64 more, .int .i64 cap, .int .u8 1, .bool false, .int .i64 N, .int .u8 1] 24)
                have hwx : gw < w2.heap.size := BW2.out.lt
                clear c_c f_c q_c c_u f_u q_u c_w f_w q_w
                generalize w2.alloc (.cells #[.int .i64 l0, .int .i64 0, .int .i64 more, .int .i64 cap, .int .u8 1, .bool false, .int .i64 N, .int .u8 1] 24) = w3 at bc bu bw bx hb ⊢
                obtain ⟨gx, hgx⟩ : ∃ g, w2.heap.size = g := ⟨_, rfl⟩
                rw [hgx] at bx hwx ⊢
                have BC3 := Lib.hid bc
                have BU3 := Lib.hid bu
                have BW3 := Lib.hid bw
                have BX3 := Lib.hid bx
                have HB3 := Lib.hid hb
                have HWX := Lib.hid hwx
                clear bc bu bw bx hb hwx hgx
                have c_c := BC3.out.cell
                have f_c := BC3.out.frozen
                have q_c := BC3.out.lt
                have c_u := BU3.out.cell
                have f_u := BU3.out.frozen
                have q_u := BU3.out.lt
                have k4 : w3.cell? ⟨gc, 4, none⟩ = some (.int .u8 1) := (BC3.out.cell 4).trans rfl
                have k6 : w3.cell? ⟨gc, 6, none⟩ = some (.int .i64 since) := (BC3.out.cell 6).trans rfl
                have ku : w3.cell? ⟨gc + 1, 1, none⟩ = some (.int .i64 x1) := (BU3.out.cell 1).trans rfl
                refine start_ (n := 11) (S := (fun w' => w'.cell? ⟨gc, 4, none⟩ = some (.int .u8 1) ∧ w'.cell? ⟨gc, 6, none⟩ = some (.int .i64 since) ∧ w'.cell? ⟨gc + 1, 1, none⟩ = some (.int .i64 x1))) (ds := [10]) #[false, false, false, false, false, false, false, false, false, false, false] (by kernel_rfl) rfl (by kernel_rfl) ⟨k4, k6, ku⟩ (fun hHeld => ?_)
                refine pure_ (i := 0) (N := some 77) (v := ?_) (a' := ?_) #[true, false, false, false, false, false, false, false, false, false, false] rfl rfl (by kernel_rfl) (fun _ _ _ h => h) (Or.inl ⟨by rfl, ?_⟩) ?_ ?_
                rotate_left
                · intro w'
                  go_simp
                  with_reducible rfl
                rotate_left
                · simp only [Act.put, List.setIfInBounds_toArray, List.set_cons_zero, List.set_cons_succ]
                  rfl
                refine pure_ (i := 4) (N := some 81) (v := ?_) (a' := ?_) #[true, false, false, false, true, false, false, false, false, false, false] rfl rfl (by kernel_rfl) (fun _ _ _ h => h) (Or.inl ⟨by rfl, ?_⟩) ?_ ?_
                rotate_left
                · intro w'
                  go_simp
                  with_reducible rfl
                rotate_left
                · simp only [Act.put, List.setIfInBounds_toArray, List.set_cons_zero, List.set_cons_succ]
                  rfl
                refine pure_ (i := 5) (N := some 82) (v := ?_) (a' := ?_) #[true, false, false, false, true, true, false, false, false, false, false] rfl rfl (by kernel_rfl) (fun _ _ _ h => h) (Or.inl ⟨by rfl, ?_⟩) ?_ ?_
                rotate_left
                · intro w'
                  go_simp
                  with_reducible rfl
                rotate_left
                · simp only [Act.put, List.setIfInBounds_toArray, List.set_cons_zero, List.set_cons_succ]
                  rfl
                refine take_ (i := 1) (N := some 78) (v := ?_) (a' := ?_) #[true, true, false, false, true, true, false, false, false, false, false] rfl rfl (by kernel_rfl) (fun _ _ _ h => h) (Or.inl ⟨by rfl, ?_⟩) hHeld ?_ ?_
                rotate_left
                · rintro w' ⟨s0, s1, s2⟩
                  go_simp
                  with_reducible rfl
                rotate_left
                · simp only [Act.put, List.setIfInBounds_toArray, List.set_cons_zero, List.set_cons_succ]
                  rfl
                refine take_ (i := 6) (N := some 83) (v := ?_) (a' := ?_) #[true, true, false, false, true, true, true, false, false, false, false] rfl rfl (by kernel_rfl) (fun _ _ _ h => h) (Or.inl ⟨by rfl, ?_⟩) hHeld ?_ ?_
                rotate_left
                · rintro w' ⟨s0, s1, s2⟩
                  go_simp
                  with_reducible rfl
                rotate_left
                · simp only [Act.put, List.setIfInBounds_toArray, List.set_cons_zero, List.set_cons_succ]
                  rfl
                refine pure_ (i := 2) (N := some 79) (v := ?_) (a' := ?_) #[true, true, true, false, true, true, true, false, false, false, false] rfl rfl (by kernel_rfl) (fun _ _ _ h => h) (Or.inl ⟨by rfl, ?_⟩) ?_ ?_
                rotate_left
                · intro w'
                  go_simp
                  with_reducible rfl
                rotate_left
                · simp only [Act.put, List.setIfInBounds_toArray, List.set_cons_zero, List.set_cons_succ]
                  rfl
                refine take_ (i := 3) (N := some 80) (v := ?_) (a' := ?_) #[true, true, true, true, true, true, true, false, false, false, false] rfl rfl (by kernel_rfl) (fun _ _ _ h => h) (Or.inl ⟨by rfl, ?_⟩) hHeld ?_ ?_
                rotate_left
                · rintro w' ⟨s0, s1, s2⟩
                  go_simp
                  with_reducible rfl
                rotate_left
                · simp only [Act.put, List.setIfInBounds_toArray, List.set_cons_zero, List.set_cons_succ]
                  rfl
                refine pure_ (i := 7) (N := some 84) (v := ?_) (a' := ?_) #[true, true, true, true, true, true, true, true, false, false, false] rfl rfl (by kernel_rfl) (fun _ _ _ h => h) (Or.inl ⟨by rfl, ?_⟩) ?_ ?_
                rotate_left
                · intro w'
                  go_simp
                  with_reducible rfl
                rotate_left
                · simp only [Act.put, List.setIfInBounds_toArray, List.set_cons_zero, List.set_cons_succ]
                  rfl
                refine pure_ (i := 8) (N := some 85) (v := ?_) (a' := ?_) #[true, true, true, true, true, true, true, true, true, false, false] rfl rfl (by kernel_rfl) (fun _ _ _ h => h) (Or.inl ⟨by rfl, ?_⟩) ?_ ?_
                rotate_left
                · intro w'
                  go_simp
                  with_reducible rfl
                rotate_left
                · simp only [Act.put, List.setIfInBounds_toArray, List.set_cons_zero, List.set_cons_succ]
                  rfl
                refine pure_ (i := 9) (N := some 86) (v := ?_) (a' := ?_) #[true, true, true, true, true, true, true, true, true, true, false] rfl rfl (by kernel_rfl) (fun _ _ _ h => h) (Or.inl ⟨by rfl, ?_⟩) ?_ ?_
                rotate_left
                · intro w'
                  go_simp
                  with_reducible rfl
                rotate_left
                · simp only [Act.put, List.setIfInBounds_toArray, List.set_cons_zero, List.set_cons_succ]
                  rfl
                refine last_ (i := 10) (N := none) #[true, true, true, true, true, true, true, true, true, true, true] rfl rfl (by kernel_rfl) (by simp) (fun K hK => ?_)
                rw [if_pos (by rfl)]
                go_simp
                refine hK.out _ _ ?_
                clear hK K hHeld
                refine done_ (by kernel_rfl) ?_
                rw [(i64_w (N - since)).trans eS, (i64_w (x1 + (N - since))).trans eU]
                have hcw := HCW.out
                have hwx := HWX.out
                have hgc0 := HGC.out
                have bc := (BC3.out.far (p := ⟨gc + 1, 1, none⟩) (show gc ≠ gc + 1 by omega) (.int .i64 (x1 + (N - since)))).drew
                have bu := ((BU3.out.set_ 1 (.int .i64 (x1 + (N - since)))).to (show _ = #[.int .i64 x0, .int .i64 (x1 + (N - since))] from rfl)).drew
                have bw := (BW3.out.far (p := ⟨gc + 1, 1, none⟩) (show gw ≠ gc + 1 by omega) (.int .i64 (x1 + (N - since)))).drew
                have bx := (BX3.out.far (p := ⟨gc + 1, 1, none⟩) (show gx ≠ gc + 1 by omega) (.int .i64 (x1 + (N - since)))).drew
                have hb := bdrewG (bset (g := gc + 1) (j := 1) (v := (.int .i64 (x1 + (N - since)))) HB3.out (by omega))
                clear k4 k6 ku c_c f_c q_c c_u f_u q_u
                generalize (w3.setCell ⟨gc + 1, 1, none⟩ (.int .i64 (x1 + (N - since)))).drew = w4 at bc bu bw bx hb ⊢
                have BC4 := Lib.hid bc
                have BU4 := Lib.hid bu
                have BW4 := Lib.hid bw
                have BX4 := Lib.hid bx
                have HB4 := Lib.hid hb
                clear bc bu bw bx hb
                have c_c := BC4.out.cell
                have f_c := BC4.out.frozen
                have q_c := BC4.out.lt
                have c_x := BX4.out.cell
                have f_x := BX4.out.frozen
                have q_x := BX4.out.lt
                go_upto_region 18 with (fail)
                have bc := on8 (v0 := .int .i64 l0) (v1 := .int .i64 0) (v2 := .int .i64 more) (v3 := .int .i64 cap) (v4 := .int .u8 1) (v5 := .bool false) (v6 := .int .i64 N) (v7 := .int .u8 1) BC4.out
                have bu := far8 (v0 := .int .i64 l0) (v1 := .int .i64 0) (v2 := .int .i64 more) (v3 := .int .i64 cap) (v4 := .int .u8 1) (v5 := .bool false) (v6 := .int .i64 N) (v7 := .int .u8 1) BU4.out (show gc + 1 ≠ gc by omega)
                have bw := far8 (v0 := .int .i64 l0) (v1 := .int .i64 0) (v2 := .int .i64 more) (v3 := .int .i64 cap) (v4 := .int .u8 1) (v5 := .bool false) (v6 := .int .i64 N) (v7 := .int .u8 1) BW4.out (show gw ≠ gc by omega)
                have hb := below8 (v0 := .int .i64 l0) (v1 := .int .i64 0) (v2 := .int .i64 more) (v3 := .int .i64 cap) (v4 := .int .u8 1) (v5 := .bool false) (v6 := .int .i64 N) (v7 := .int .u8 1) HB4.out hgc0
                clear c_c f_c q_c c_x f_x q_x
                generalize World.setCell _ _ _ = w5 at bc bu bw hb ⊢
                have BC5 := Lib.hid bc
                have BU5 := Lib.hid bu
                have BW5 := Lib.hid bw
                have HB5 := Lib.hid hb
                clear bc bu bw hb
                have c_c := BC5.out.cell
                have f_c := BC5.out.frozen
                have q_c := BC5.out.lt
                have c_w := BW5.out.cell
                have f_w := BW5.out.frozen
                have q_w := BW5.out.lt
                go_wp2_with fail
                clear c_c f_c q_c c_w f_w q_w hcw hwx hgc0
                go_meet
                case rel => exact ⟨(l0), (0), 1, false, N, 1, _, _, ⟨BC5.out⟩, ⟨BU5.out⟩, ⟨BW5.out⟩, ⟨HB5.out⟩, ⟨hI2.out⟩, ⟨fun h => absurd rfl h⟩⟩
              · have hS : clock_Stop.f 3 l0 l1 more cap 1 true since 2 N = some (l0, (leftI l1 more (N - since)), more, cap, 1, false, N, 2, true, 0) := by
                  rw [stop_f 0 l0 l1 more cap 1 since 2 N HI1.out.may (by decide) HI1.out.n0 HN2.out (by decide) (by decide), if_neg hfl]; rfl
                have hI2 := Lib.hid (Inv.stop1b HI1.out)
                have eS : wrap64 (N - since) = N - since := wrap_id (by have := HI1.out.n0; have := HN2.out; omega) (by have := HN2.out; have := HI1.out.may.2.2.2.2.2.2.1.1; omega)
                have eU : wrap64 (x1 + (N - since)) = x1 + (N - since) := wrap_id (by have := hI2.out.a0; have := hI2.out.b0; omega) (by have := hI2.out.a1; have := hI2.out.b1; have := HN2.out; omega)
                clear hfl
                have c_c := BC1.out.cell
                have f_c := BC1.out.frozen
                have q_c := BC1.out.lt
                go_wp2_with fail
                refine (clock_Stop.calls 3 l0 l1 more cap 1 true since 2 N _ _ _ _ _ _ _ _ _ _ _ hS).mono ?_
                rintro e w2 ⟨rfl, hb⟩
                clear c_c f_c q_c hS
                have BC2 := Lib.hid (BC1.out.after hb)
                have BU2 := Lib.hid (BU1.out.after hb)
                have BW2 := Lib.hid (BW1.out.after hb)
                have HB2 := Lib.hid (bstep HB1.out hb)
                clear hb
                have c_c := BC2.out.cell
                have f_c := BC2.out.frozen
                have q_c := BC2.out.lt
                have c_u := BU2.out.cell
                have f_u := BU2.out.frozen
                have q_u := BU2.out.lt
                have c_w := BW2.out.cell
                have f_w := BW2.out.frozen
                have q_w := BW2.out.lt
                go_upto_region 16 with (fail)
                have bc := BC2.out.alloc (.cells #[.int .i64 l0, .int .i64 (leftI l1 more (N - since)), .int .i64 more, .int .i64 cap, .int .u8 1, .bool false, .int .i64 N, .int .u8 2] 24)
                have bu := BU2.out.alloc (.cells #[.int .i64 l0, .int .i64 (leftI l1 more (N - since)), .int .i64 more, .int .i64 cap, .int .u8 1, .bool false, .int .i64 N, .int .u8 2] 24)
                have bw := BW2.out.alloc (.cells #[.int .i64 l0, .int .i64 (leftI l1 more (N - since)), .int .i64 more, .int .i64 cap, .int .u8 1, .bool false, .int .i64 N, .int .u8 2] 24)
                have bx := Blk.new w2 24 #[.int .i64 l0, .int .i64 (leftI l1 more (N - since)), .int .i64 more, .int .i64 cap, .int .u8 1, .bool false, .int .i64 N, .int .u8 2]
                have hb := balloc HB2.out (.cells #[.int .i64 l0, .int .i64 (leftI l1 more (N - since)), .int .i64 more, .int .i64 cap, .int .u8 1, .bool false, .int .i64 N, .int .u8 2] 24)
                have hwx : gw < w2.heap.size := BW2.out.lt
                clear c_c f_c q_c c_u f_u q_u c_w f_w q_w
                generalize w2.alloc (.cells #[.int .i64 l0, .int .i64 (leftI l1 more (N - since)), .int .i64 more, .int .i64 cap, .int .u8 1, .bool false, .int .i64 N, .int .u8 2] 24) = w3 at bc bu bw bx hb ⊢
                obtain ⟨gx, hgx⟩ : ∃ g, w2.heap.size = g := ⟨_, rfl⟩
                rw [hgx] at bx hwx ⊢
                have BC3 := Lib.hid bc
                have BU3 := Lib.hid bu
                have BW3 := Lib.hid bw
                have BX3 := Lib.hid bx
                have HB3 := Lib.hid hb
                have HWX := Lib.hid hwx
                clear bc bu bw bx hb hwx hgx
                have c_c := BC3.out.cell
                have f_c := BC3.out.frozen
                have q_c := BC3.out.lt
                have c_u := BU3.out.cell
                have f_u := BU3.out.frozen
                have q_u := BU3.out.lt
                have k4 : w3.cell? ⟨gc, 4, none⟩ = some (.int .u8 1) := (BC3.out.cell 4).trans rfl
                have k6 : w3.cell? ⟨gc, 6, none⟩ = some (.int .i64 since) := (BC3.out.cell 6).trans rfl
                have ku : w3.cell? ⟨gc + 1, 1, none⟩ = some (.int .i64 x1) := (BU3.out.cell 1).trans rfl
                refine start_ (n := 11) (S := (fun w' => w'.cell? ⟨gc, 4, none⟩ = some (.int .u8 1) ∧ w'.cell? ⟨gc, 6, none⟩ = some (.int .i64 since) ∧ w'.cell? ⟨gc + 1, 1, none⟩ = some (.int .i64 x1))) (ds := [10]) #[false, false, false, false, false, false, false, false, false, false, false] (by kernel_rfl) rfl (by kernel_rfl) ⟨k4, k6, ku⟩ (fun hHeld => ?_)
                refine pure_ (i := 0) (N := some 77) (v := ?_) (a' := ?_) #[true, false, false, false, false, false, false, false, false, false, false] rfl rfl (by kernel_rfl) (fun _ _ _ h => h) (Or.inl ⟨by rfl, ?_⟩) ?_ ?_
                rotate_left
                · intro w'
                  go_simp
                  with_reducible rfl
                rotate_left
                · simp only [Act.put, List.setIfInBounds_toArray, List.set_cons_zero, List.set_cons_succ]
                  rfl
                refine pure_ (i := 4) (N := some 81) (v := ?_) (a' := ?_) #[true, false, false, false, true, false, false, false, false, false, false] rfl rfl (by kernel_rfl) (fun _ _ _ h => h) (Or.inl ⟨by rfl, ?_⟩) ?_ ?_
                rotate_left
                · intro w'
                  go_simp
                  with_reducible rfl
                rotate_left
                · simp only [Act.put, List.setIfInBounds_toArray, List.set_cons_zero, List.set_cons_succ]
                  rfl
                refine pure_ (i := 5) (N := some 82) (v := ?_) (a' := ?_) #[true, false, false, false, true, true, false, false, false, false, false] rfl rfl (by kernel_rfl) (fun _ _ _ h => h) (Or.inl ⟨by rfl, ?_⟩) ?_ ?_
                rotate_left
                · intro w'
                  go_simp
                  with_reducible rfl
                rotate_left
                · simp only [Act.put, List.setIfInBounds_toArray, List.set_cons_zero, List.set_cons_succ]
                  rfl
                refine take_ (i := 1) (N := some 78) (v := ?_) (a' := ?_) #[true, true, false, false, true, true, false, false, false, false, false] rfl rfl (by kernel_rfl) (fun _ _ _ h => h) (Or.inl ⟨by rfl, ?_⟩) hHeld ?_ ?_
                rotate_left
                · rintro w' ⟨s0, s1, s2⟩
                  go_simp
                  with_reducible rfl
                rotate_left
                · simp only [Act.put, List.setIfInBounds_toArray, List.set_cons_zero, List.set_cons_succ]
                  rfl
                refine take_ (i := 6) (N := some 83) (v := ?_) (a' := ?_) #[true, true, false, false, true, true, true, false, false, false, false] rfl rfl (by kernel_rfl) (fun _ _ _ h => h) (Or.inl ⟨by rfl, ?_⟩) hHeld ?_ ?_
                rotate_left
                · rintro w' ⟨s0, s1, s2⟩
                  go_simp
                  with_reducible rfl
                rotate_left
                · simp only [Act.put, List.setIfInBounds_toArray, List.set_cons_zero, List.set_cons_succ]
                  rfl
                refine pure_ (i := 2) (N := some 79) (v := ?_) (a' := ?_) #[true, true, true, false, true, true, true, false, false, false, false] rfl rfl (by kernel_rfl) (fun _ _ _ h => h) (Or.inl ⟨by rfl, ?_⟩) ?_ ?_
                rotate_left
                · intro w'
                  go_simp
                  with_reducible rfl
                rotate_left
                · simp only [Act.put, List.setIfInBounds_toArray, List.set_cons_zero, List.set_cons_succ]
                  rfl
                refine take_ (i := 3) (N := some 80) (v := ?_) (a' := ?_) #[true, true, true, true, true, true, true, false, false, false, false] rfl rfl (by kernel_rfl) (fun _ _ _ h => h) (Or.inl ⟨by rfl, ?_⟩) hHeld ?_ ?_
                rotate_left
                · rintro w' ⟨s0, s1, s2⟩
                  go_simp
                  with_reducible rfl
                rotate_left
                · simp only [Act.put, List.setIfInBounds_toArray, List.set_cons_zero, List.set_cons_succ]
                  rfl
                refine pure_ (i := 7) (N := some 84) (v := ?_) (a' := ?_) #[true, true, true, true, true, true, true, true, false, false, false] rfl rfl (by kernel_rfl) (fun _ _ _ h => h) (Or.inl ⟨by rfl, ?_⟩) ?_ ?_
                rotate_left
                · intro w'
                  go_simp
                  with_reducible rfl
                rotate_left
                · simp only [Act.put, List.setIfInBounds_toArray, List.set_cons_zero, List.set_cons_succ]
                  rfl
                refine pure_ (i := 8) (N := some 85) (v := ?_) (a' := ?_) #[true, true, true, true, true, true, true, true, true, false, false] rfl rfl (by kernel_rfl) (fun _ _ _ h => h) (Or.inl ⟨by rfl, ?_⟩) ?_ ?_
                rotate_left
                · intro w'
                  go_simp
                  with_reducible rfl
                rotate_left
                · simp only [Act.put, List.setIfInBounds_toArray, List.set_cons_zero, List.set_cons_succ]
                  rfl
                refine pure_ (i := 9) (N := some 86) (v := ?_) (a' := ?_) #[true, true, true, true, true, true, true, true, true, true, false] rfl rfl (by kernel_rfl) (fun _ _ _ h => h) (Or.inl ⟨by rfl, ?_⟩) ?_ ?_
                rotate_left
                · intro w'
                  go_simp
                  with_reducible rfl
                rotate_left
                · simp only [Act.put, List.setIfInBounds_toArray, List.set_cons_zero, List.set_cons_succ]
                  rfl
                refine last_ (i := 10) (N := none) #[true, true, true, true, true, true, true, true, true, true, true] rfl rfl (by kernel_rfl) (by simp) (fun K hK => ?_)
                rw [if_pos (by rfl)]
                go_simp
                refine hK.out _ _ ?_
                clear hK K hHeld
                refine done_ (by kernel_rfl) ?_
                rw [(i64_w (N - since)).trans eS, (i64_w (x1 + (N - since))).trans eU]
                have hcw := HCW.out
                have hwx := HWX.out
                have hgc0 := HGC.out
                have bc := (BC3.out.far (p := ⟨gc + 1, 1, none⟩) (show gc ≠ gc + 1 by omega) (.int .i64 (x1 + (N - since)))).drew
                have bu := ((BU3.out.set_ 1 (.int .i64 (x1 + (N - since)))).to (show _ = #[.int .i64 x0, .int .i64 (x1 + (N - since))] from rfl)).drew
                have bw := (BW3.out.far (p := ⟨gc + 1, 1, none⟩) (show gw ≠ gc + 1 by omega) (.int .i64 (x1 + (N - since)))).drew
                have bx := (BX3.out.far (p := ⟨gc + 1, 1, none⟩) (show gx ≠ gc + 1 by omega) (.int .i64 (x1 + (N - since)))).drew
                have hb := bdrewG (bset (g := gc + 1) (j := 1) (v := (.int .i64 (x1 + (N - since)))) HB3.out (by omega))
                clear k4 k6 ku c_c f_c q_c c_u f_u q_u
                generalize (w3.setCell ⟨gc + 1, 1, none⟩ (.int .i64 (x1 + (N - since)))).drew = w4 at bc bu bw bx hb ⊢
                have BC4 := Lib.hid bc
                have BU4 := Lib.hid bu
                have BW4 := Lib.hid bw
                have BX4 := Lib.hid bx
                have HB4 := Lib.hid hb
                clear bc bu bw bx hb
                have c_c := BC4.out.cell
                have f_c := BC4.out.frozen
                have q_c := BC4.out.lt
                have c_x := BX4.out.cell
                have f_x := BX4.out.frozen
                have q_x := BX4.out.lt
                go_upto_region 18 with (fail)
                have bc := on8 (v0 := .int .i64 l0) (v1 := .int .i64 (leftI l1 more (N - since))) (v2 := .int .i64 more) (v3 := .int .i64 cap) (v4 := .int .u8 1) (v5 := .bool false) (v6 := .int .i64 N) (v7 := .int .u8 2) BC4.out
                have bu := far8 (v0 := .int .i64 l0) (v1 := .int .i64 (leftI l1 more (N - since))) (v2 := .int .i64 more) (v3 := .int .i64 cap) (v4 := .int .u8 1) (v5 := .bool false) (v6 := .int .i64 N) (v7 := .int .u8 2) BU4.out (show gc + 1 ≠ gc by omega)
                have bw := far8 (v0 := .int .i64 l0) (v1 := .int .i64 (leftI l1 more (N - since))) (v2 := .int .i64 more) (v3 := .int .i64 cap) (v4 := .int .u8 1) (v5 := .bool false) (v6 := .int .i64 N) (v7 := .int .u8 2) BW4.out (show gw ≠ gc by omega)
                have hb := below8 (v0 := .int .i64 l0) (v1 := .int .i64 (leftI l1 more (N - since))) (v2 := .int .i64 more) (v3 := .int .i64 cap) (v4 := .int .u8 1) (v5 := .bool false) (v6 := .int .i64 N) (v7 := .int .u8 2) HB4.out hgc0
                clear c_c f_c q_c c_x f_x q_x
                generalize World.setCell _ _ _ = w5 at bc bu bw hb ⊢
                have BC5 := Lib.hid bc
                have BU5 := Lib.hid bu
                have BW5 := Lib.hid bw
                have HB5 := Lib.hid hb
                clear bc bu bw hb
                have c_c := BC5.out.cell
                have f_c := BC5.out.frozen
                have q_c := BC5.out.lt
                have c_w := BW5.out.cell
                have f_w := BW5.out.frozen
                have q_w := BW5.out.lt
                go_wp2_with fail
                clear c_c f_c q_c c_w f_w q_w hcw hwx hgc0
                go_meet
                case rel => exact ⟨(l0), (leftI l1 more (N - since)), 1, false, N, 2, _, _, ⟨BC5.out⟩, ⟨BU5.out⟩, ⟨BW5.out⟩, ⟨HB5.out⟩, ⟨hI2.out⟩, ⟨fun h => absurd rfl h⟩⟩
          | false =>
            have hS := stop_off l0 l1 more cap who since fell N HI1.out.may HI1.out.n0 HN0.out HN2.out HI1.out.f0 (by rcases HI1.out.may.2.2.2.2.2.2.2.2 with h | h <;> omega)
            have c_c := BC1.out.cell
            have f_c := BC1.out.frozen
            have q_c := BC1.out.lt
            go_wp2_with fail
            refine (clock_Stop.calls 3 l0 l1 more cap who false since fell N _ _ _ _ _ _ _ _ _ _ _ hS).mono ?_
            rintro e w2 ⟨rfl, hb⟩
            clear c_c f_c q_c hS
            have BC2 := Lib.hid ((BC1.out.after hb).alloc (.cells #[.int .i64 0, .int .i64 0, .int .i64 0, .int .i64 0, .int .u8 0, .bool false, .int .i64 0, .int .u8 0] 24))
            have BU2 := Lib.hid ((BU1.out.after hb).alloc (.cells #[.int .i64 0, .int .i64 0, .int .i64 0, .int .i64 0, .int .u8 0, .bool false, .int .i64 0, .int .u8 0] 24))
            have BW2 := Lib.hid ((BW1.out.after hb).alloc (.cells #[.int .i64 0, .int .i64 0, .int .i64 0, .int .i64 0, .int .u8 0, .bool false, .int .i64 0, .int .u8 0] 24))
            have HB2 := Lib.hid (balloc (bstep HB1.out hb) (.cells #[.int .i64 0, .int .i64 0, .int .i64 0, .int .i64 0, .int .u8 0, .bool false, .int .i64 0, .int .u8 0] 24))
            have BC0 := Lib.hid (BC1.out.after hb)
            clear hb
            have c_c := BC0.out.cell
            have f_c := BC0.out.frozen
            have q_c := BC0.out.lt
            go_wp2_with fail
            clear c_c f_c q_c
            go_meet
            case rel => exact ⟨l0, l1, who, false, since, fell, _, _, ⟨BC2.out⟩, ⟨BU2.out⟩, ⟨BW2.out⟩, ⟨HB2.out⟩, ⟨HI1.out⟩, ⟨fun _ => ⟨rfl, rfl, rfl, rfl, rfl, rfl⟩⟩⟩
        | false =>
          have hy01 := HY01.out
          obtain ⟨p, hp⟩ : ∃ p, Int.tmod y0 2 = p := ⟨_, rfl⟩
          have hp01 : 0 ≤ p ∧ p < 2 := by rw [← hp, Int.tmod_eq_emod_of_nonneg hy01.1]; omega
          have HP0 := Lib.hid hp01.1
          have HP1 := Lib.hid hp01.2
          have EP := Lib.hid hp
          clear hp hp01 hy01
          cases on with
          | true =>
            have hf2 := may_on HI1.out.may
            subst hf2
            have hS := start_err l0 l1 more cap who true since 2 p N HI1.out.may HI1.out.n0 HN0.out HN2.out HI1.out.f0 (by rcases HI1.out.may.2.2.2.2.2.2.2.2 with h | h <;> omega) HP1.out (.inl rfl)
            have HS := Lib.hid hS
            clear hS
            have hsg : Sg w gc gw #[.int .i64 l0, .int .i64 l1, .int .i64 more, .int .i64 cap, .int .u8 who, .bool true, .int .i64 since, .int .u8 2] #[.int .i64 x0, .int .i64 x1] (ad.add (kk * 3)) (.int .u8 y0) none W1 := ⟨BC1.out, BU1.out, BW1.out, HB1.out, D0.out, fun r e => by cases e⟩
            go_upto_region 20 with (fail)
            refine start_ (n := 15) (S := (fun w' => Sg w gc gw #[.int .i64 l0, .int .i64 l1, .int .i64 more, .int .i64 cap, .int .u8 who, .bool true, .int .i64 since, .int .u8 2] #[.int .i64 x0, .int .i64 x1] (ad.add (kk * 3)) (.int .u8 y0) none w')) (ds := []) #[false, false, false, false, false, false, false, false, false, false, false, false, false, false, false] (by kernel_rfl) rfl (by kernel_rfl) ⟨hsg.c, hsg.u, hsg.p, bdrewG hsg.b, hsg.d, fun r e => by cases e⟩ (fun hHeld => ?_)
            refine pure_ (i := 1) (N := some 106) (v := ?_) (a' := ?_) #[false, true, false, false, false, false, false, false, false, false, false, false, false, false, false] rfl rfl (by kernel_rfl) (fun _ _ _ h => h) (Or.inl ⟨by rfl, ?_⟩) ?_ ?_
            rotate_left
            · intro w'
              go_simp
              with_reducible rfl
            rotate_left
            · simp only [Act.put, List.setIfInBounds_toArray, List.set_cons_zero, List.set_cons_succ]
              rfl
            refine pure_ (i := 2) (N := some 107) (v := ?_) (a' := ?_) #[false, true, true, false, false, false, false, false, false, false, false, false, false, false, false] rfl rfl (by kernel_rfl) (fun _ _ _ h => h) (Or.inl ⟨by rfl, ?_⟩) ?_ ?_
            rotate_left
            · intro w'
              go_simp
              with_reducible rfl
            rotate_left
            · simp only [Act.put, List.setIfInBounds_toArray, List.set_cons_zero, List.set_cons_succ]
              rfl
            refine pure_ (i := 7) (N := some 112) (v := ?_) (a' := ?_) #[false, true, true, false, false, false, false, true, false, false, false, false, false, false, false] rfl rfl (by kernel_rfl) (fun _ _ _ h => h) (Or.inl ⟨by rfl, ?_⟩) ?_ ?_
            rotate_left
            · intro w'
              go_simp
              with_reducible rfl
            rotate_left
            · simp only [Act.put, List.setIfInBounds_toArray, List.set_cons_zero, List.set_cons_succ]
              rfl
            refine pure_ (i := 3) (N := some 108) (v := ?_) (a' := ?_) #[false, true, true, true, false, false, false, true, false, false, false, false, false, false, false] rfl rfl (by kernel_rfl) (fun _ _ _ h => h) (Or.inl ⟨by rfl, ?_⟩) ?_ ?_
            rotate_left
            · intro w'
              go_simp
              with_reducible rfl
            rotate_left
            · simp only [Act.put, List.setIfInBounds_toArray, List.set_cons_zero, List.set_cons_succ]
              rfl
            refine pure_ (i := 4) (N := some 109) (v := ?_) (a' := ?_) #[false, true, true, true, true, false, false, true, false, false, false, false, false, false, false] rfl rfl (by kernel_rfl) (fun _ _ _ h => h) (Or.inl ⟨by rfl, ?_⟩) ?_ ?_
            rotate_left
            · intro w'
              go_simp
              with_reducible rfl
            rotate_left
            · simp only [Act.put, List.setIfInBounds_toArray, List.set_cons_zero, List.set_cons_succ]
              rfl
            refine take_ (i := 0) (N := some 105) (v := ?_) (a' := ?_) #[true, true, true, true, true, false, false, true, false, false, false, false, false, false, false] rfl rfl (by kernel_rfl) (fun _ _ _ h => h) (Or.inl ⟨by rfl, ?_⟩) hHeld ?_ ?_
            rotate_left
            · intro w' hs
              have c_c := hs.c.cell
              go_simp
              with_reducible rfl
            rotate_left
            · simp only [Act.put, List.setIfInBounds_toArray, List.set_cons_zero, List.set_cons_succ]
              rfl
            refine take_ (i := 5) (N := some 110) (v := ?_) (a' := ?_) #[true, true, true, true, true, true, false, true, false, false, false, false, false, false, false] rfl rfl (by kernel_rfl) (fun _ _ _ h => h) (Or.inl ⟨by rfl, ?_⟩) hHeld ?_ ?_
            rotate_left
            · intro w' hs
              have d0 := hs.d
              go_simp
              with_reducible rfl
            rotate_left
            · simp only [Act.put, List.setIfInBounds_toArray, List.set_cons_zero, List.set_cons_succ]
              rfl
            refine pure_ (i := 6) (N := some 111) (v := ?_) (a' := ?_) #[true, true, true, true, true, true, true, true, false, false, false, false, false, false, false] rfl rfl (by kernel_rfl) (fun _ _ _ h => h) (Or.inl ⟨by rfl, ?_⟩) ?_ ?_
            rotate_left
            · intro w'
              go_simp
              with_reducible rfl
            rotate_left
            · simp only [Act.put, List.setIfInBounds_toArray, List.set_cons_zero, List.set_cons_succ]
              rfl
            clear hsg
            have hS0 : Sg w gc gw #[.int .i64 l0, .int .i64 l1, .int .i64 more, .int .i64 cap, .int .u8 who, .bool true, .int .i64 since, .int .u8 2] #[.int .i64 x0, .int .i64 x1] (ad.add (kk * 3)) (.int .u8 y0) none W1.drew := hHeld
            clear hHeld
            generalize W1.drew = v0 at hS0 ⊢
            rw [EP.out]
            refine join_ (σ := Nat) 2 #[true, true, true, true, true, true, true, true, true, true, true, true, true, false, false] (fun s => [(113, .tuple #[.agg #[.int .i64 0, .int .i64 0, .int .i64 0, .int .i64 0, .int .u8 0, .bool false, .int .i64 0, .int .u8 0], .int .i64 11]), (104, .tuple #[.agg #[.int .i64 0, .int .i64 0, .int .i64 0, .int .i64 0, .int .u8 0, .bool false, .int .i64 0, .int .u8 0], .int .i64 11]), (114, .agg #[.int .i64 0, .int .i64 0, .int .i64 0, .int .i64 0, .int .u8 0, .bool false, .int .i64 0, .int .u8 0]), (115, .int .i64 11), (18, .pointer (some ⟨s, 0, none⟩))]) (fun s w' => Sg w gc gw #[.int .i64 l0, .int .i64 l1, .int .i64 more, .int .i64 cap, .int .u8 who, .bool true, .int .i64 since, .int .u8 2] #[.int .i64 x0, .int .i64 x1] (ad.add (kk * 3)) (.int .u8 y0) (some s) w') ?_ (fun hjoin => ?_)
            rotate_left
            · refine two_ (i := 8) (j := 12) (Ni := some 113) (Nj := some 18) #[true, true, true, true, true, true, true, true, true, false, false, false, false, false, false] #[true, true, true, true, true, true, true, true, false, false, false, false, true, false, false] rfl rfl rfl rfl (by kernel_rfl) (by simp) (by simp) (fun K hK => ?_) (fun K hK => ?_)
              · refine goes_ Tryd.func19 (by kernel_rfl) rfl #[.agg #[.int .i64 l0, .int .i64 l1, .int .i64 more, .int .i64 cap, .int .u8 who, .bool true, .int .i64 since, .int .u8 2], .int .u8 p, .int .i64 N] (by rfl) rfl rfl (by (try simp only [List.map_toArray, List.map_cons, List.map_nil]); rfl) ?_
                refine (clock_Start.calls 3 l0 l1 more cap who true since 2 p N _ _ _ _ _ _ _ _ _ _ HS.out).mono ?_
                rintro e v1 ⟨rfl, hb⟩
                have hS1 := hS0.call hb
                refine ⟨_, rfl, ?_⟩
                refine hK.out _ _ hS1.less (fun _ => ?_)
                clear hK K hb
                refine norm_ (a' := ?_) ?_ ?_
                rotate_left
                · try simp only [Act.put, List.setIfInBounds_toArray, List.set_cons_zero, List.set_cons_succ]
                  rfl
                refine pure_ (i := 9) (N := some 104) (v := ?_) (a' := ?_) #[true, true, true, true, true, true, true, true, true, true, false, false, false, false, false] rfl rfl (by kernel_rfl) (fun _ _ _ h => h) (Or.inl ⟨by rfl, ?_⟩) ?_ ?_
                rotate_left
                · intro w'
                  go_simp
                  with_reducible rfl
                rotate_left
                · simp only [Act.put, List.setIfInBounds_toArray, List.set_cons_zero, List.set_cons_succ]
                  rfl
                refine pure_ (i := 10) (N := some 114) (v := ?_) (a' := ?_) #[true, true, true, true, true, true, true, true, true, true, true, false, false, false, false] rfl rfl (by kernel_rfl) (fun _ _ _ h => h) (Or.inl ⟨by rfl, ?_⟩) ?_ ?_
                rotate_left
                · intro w'
                  go_simp
                  with_reducible rfl
                rotate_left
                · simp only [Act.put, List.setIfInBounds_toArray, List.set_cons_zero, List.set_cons_succ]
                  rfl
                refine pure_ (i := 11) (N := some 115) (v := ?_) (a' := ?_) #[true, true, true, true, true, true, true, true, true, true, true, true, false, false, false] rfl rfl (by kernel_rfl) (fun _ _ _ h => h) (Or.inl ⟨by rfl, ?_⟩) ?_ ?_
                rotate_left
                · intro w'
                  go_simp
                  with_reducible rfl
                rotate_left
                · simp only [Act.put, List.setIfInBounds_toArray, List.set_cons_zero, List.set_cons_succ]
                  rfl
                refine one_ (i := 12) (N := some 18) #[true, true, true, true, true, true, true, true, true, true, true, true, true, false, false] rfl rfl (by kernel_rfl) (by simp) (fun K hK => ?_)
                rw [if_pos (by rfl)]
                go_simp
                have hS2 := hS1.new
                unfold Z8 at hS2
                refine hK.out _ _ hS2.less (fun _ => ?_)
                clear hK K
                generalize World.alloc v1 (.cells #[.int .i64 0, .int .i64 0, .int .i64 0, .int .i64 0, .int .u8 0, .bool false, .int .i64 0, .int .u8 0] 24) = v2 at hS2 ⊢
                generalize v1.heap.size = r1 at hS2 ⊢
                refine norm_ (a' := ?_) ?_ ?_
                rotate_left
                · try simp only [Act.put, List.setIfInBounds_toArray, List.set_cons_zero, List.set_cons_succ]
                  rfl
                exact hjoin r1 _ hS2
              · rw [if_pos (by rfl)]
                go_simp
                have hS3 := hS0.new
                unfold Z8 at hS3
                refine hK.out _ _ hS3.less (fun _ => ?_)
                clear hK K
                generalize World.alloc v0 (.cells #[.int .i64 0, .int .i64 0, .int .i64 0, .int .i64 0, .int .u8 0, .bool false, .int .i64 0, .int .u8 0] 24) = v3 at hS3 ⊢
                generalize v0.heap.size = r2 at hS3 ⊢
                refine norm_ (a' := ?_) ?_ ?_
                rotate_left
                · try simp only [Act.put, List.setIfInBounds_toArray, List.set_cons_zero, List.set_cons_succ]
                  rfl
                refine one_ (i := 8) (N := some 113) #[true, true, true, true, true, true, true, true, true, false, false, false, true, false, false] rfl rfl (by kernel_rfl) (by simp) (fun K hK => ?_)
                refine goes_ Tryd.func19 (by kernel_rfl) rfl #[.agg #[.int .i64 l0, .int .i64 l1, .int .i64 more, .int .i64 cap, .int .u8 who, .bool true, .int .i64 since, .int .u8 2], .int .u8 p, .int .i64 N] (by rfl) rfl rfl (by (try simp only [List.map_toArray, List.map_cons, List.map_nil]); rfl) ?_
                refine (clock_Start.calls 3 l0 l1 more cap who true since 2 p N _ _ _ _ _ _ _ _ _ _ HS.out).mono ?_
                rintro e v4 ⟨rfl, hb⟩
                have hS4 := hS3.call hb
                refine ⟨_, rfl, ?_⟩
                refine hK.out _ _ hS4.less (fun _ => ?_)
                clear hK K hb
                refine norm_ (a' := ?_) ?_ ?_
                rotate_left
                · try simp only [Act.put, List.setIfInBounds_toArray, List.set_cons_zero, List.set_cons_succ]
                  rfl
                refine pure_ (i := 9) (N := some 104) (v := ?_) (a' := ?_) #[true, true, true, true, true, true, true, true, true, true, false, false, true, false, false] rfl rfl (by kernel_rfl) (fun _ _ _ h => h) (Or.inl ⟨by rfl, ?_⟩) ?_ ?_
                rotate_left
                · intro w'
                  go_simp
                  with_reducible rfl
                rotate_left
                · simp only [Act.put, List.setIfInBounds_toArray, List.set_cons_zero, List.set_cons_succ]
                  rfl
                refine pure_ (i := 10) (N := some 114) (v := ?_) (a' := ?_) #[true, true, true, true, true, true, true, true, true, true, true, false, true, false, false] rfl rfl (by kernel_rfl) (fun _ _ _ h => h) (Or.inl ⟨by rfl, ?_⟩) ?_ ?_
                rotate_left
                · intro w'
                  go_simp
                  with_reducible rfl
                rotate_left
                · simp only [Act.put, List.setIfInBounds_toArray, List.set_cons_zero, List.set_cons_succ]
                  rfl
                refine pure_ (i := 11) (N := some 115) (v := ?_) (a' := ?_) #[true, true, true, true, true, true, true, true, true, true, true, true, true, false, false] rfl rfl (by kernel_rfl) (fun _ _ _ h => h) (Or.inl ⟨by rfl, ?_⟩) ?_ ?_
                rotate_left
                · intro w'
                  go_simp
                  with_reducible rfl
                rotate_left
                · simp only [Act.put, List.setIfInBounds_toArray, List.set_cons_zero, List.set_cons_succ]
                  rfl
                exact hjoin r2 _ hS4
            rintro gx v hSg
            simp only [putAll]
            refine norm_ (a' := ?_) ?_ ?_
            rotate_left
            · simp only [Act.put, List.setIfInBounds_toArray, List.set_cons_zero, List.set_cons_succ]
              rfl
            have hgx := (hSg.x gx rfl).1
            have bx := (hSg.x gx rfl).2
            have bc := hSg.c
            have bu := hSg.u
            have bw := hSg.p
            have hb := hSg.b
            have hSgd := hSg.d
            unfold Z8 at bx
            clear hSg hS0
            have hcw := HCW.out
            have hgc0 := HGC.out
            have c_x := bx.cell
            have f_x := bx.frozen
            have q_x := bx.lt
            refine one_ (i := 13) (N := none) #[true, true, true, true, true, true, true, true, true, true, true, true, true, true, false] rfl rfl (by kernel_rfl) (by simp) (fun K hK => ?_)
            rw [if_pos (by rfl)]
            go_simp
            have bx2 := on8 (v0 := .int .i64 0) (v1 := .int .i64 0) (v2 := .int .i64 0) (v3 := .int .i64 0) (v4 := .int .u8 0) (v5 := .bool false) (v6 := .int .i64 0) (v7 := .int .u8 0) bx
            have bc2 := far8 (v0 := .int .i64 0) (v1 := .int .i64 0) (v2 := .int .i64 0) (v3 := .int .i64 0) (v4 := .int .u8 0) (v5 := .bool false) (v6 := .int .i64 0) (v7 := .int .u8 0) bc (show gc ≠ gx by omega)
            have bu2 := far8 (v0 := .int .i64 0) (v1 := .int .i64 0) (v2 := .int .i64 0) (v3 := .int .i64 0) (v4 := .int .u8 0) (v5 := .bool false) (v6 := .int .i64 0) (v7 := .int .u8 0) bu (show gc + 1 ≠ gx by omega)
            have bw2 := far8 (v0 := .int .i64 0) (v1 := .int .i64 0) (v2 := .int .i64 0) (v3 := .int .i64 0) (v4 := .int .u8 0) (v5 := .bool false) (v6 := .int .i64 0) (v7 := .int .u8 0) bw (show gw ≠ gx by omega)
            have hb2 := below8 (v0 := .int .i64 0) (v1 := .int .i64 0) (v2 := .int .i64 0) (v3 := .int .i64 0) (v4 := .int .u8 0) (v5 := .bool false) (v6 := .int .i64 0) (v7 := .int .u8 0) hb (show w.heap.size ≤ gx by omega)
            have hd2 := hSgd
            refine hK.out _ _ ⟨bc2, bu2, bw2, hb2, ?_, fun r e => by cases e⟩ (fun _ => ?_)
            · exact (far8c (show (ad.add (kk * 3)).block ≠ gx from Nat.ne_of_lt (Nat.lt_trans HD0.out hgx))).trans hd2
            clear hK K c_x f_x q_x bx bc bu bw hb hd2 hSgd
            generalize World.setCell _ _ _ = w4 at bx2 bc2 bu2 bw2 hb2 ⊢
            refine pure_ (i := 14) (N := some 19) (v := ?_) (a' := ?_) #[true, true, true, true, true, true, true, true, true, true, true, true, true, true, true] rfl rfl (by kernel_rfl) (fun _ _ _ h => h) (Or.inl ⟨by rfl, ?_⟩) ?_ ?_
            rotate_left
            · intro w'
              go_simp
              with_reducible rfl
            rotate_left
            · simp only [Act.put, List.setIfInBounds_toArray, List.set_cons_zero, List.set_cons_succ]
              rfl
            refine done_ (by kernel_rfl) ?_
            have BC4 := Lib.hid bc2
            have BU4 := Lib.hid bu2
            have BW4 := Lib.hid bw2
            have BX4 := Lib.hid bx2
            have HB4 := Lib.hid hb2
            clear bc2 bu2 bw2 bx2 hb2
            have c_c := BC4.out.cell
            have f_c := BC4.out.frozen
            have q_c := BC4.out.lt
            have c_x := BX4.out.cell
            have f_x := BX4.out.frozen
            have q_x := BX4.out.lt
            go_wp2_with fail
            clear c_c f_c q_c c_x f_x q_x
            go_meet
            case rel => exact ⟨l0, l1, who, true, since, 2, _, _, ⟨BC4.out⟩, ⟨BU4.out⟩, ⟨BW4.out⟩, ⟨HB4.out⟩, ⟨HI1.out⟩, ⟨fun _ => ⟨rfl, rfl, rfl, rfl, rfl, rfl⟩⟩⟩
          | false =>
            by_cases hf2 : fell = 2
            · subst hf2
              have hS : clock_Start.f 3 l0 l1 more cap who false since 2 p N = some (l0, l1, more, cap, p, true, N, 2, 0) := start_ok 0 l0 l1 more cap who since p N ⟨HI1.out.may, ⟨HN0.out, HN2.out⟩, HI1.out.n0⟩ HP1.out
              have HS := Lib.hid hS
              clear hS
              have hsg : Sg w gc gw #[.int .i64 l0, .int .i64 l1, .int .i64 more, .int .i64 cap, .int .u8 who, .bool false, .int .i64 since, .int .u8 2] #[.int .i64 x0, .int .i64 x1] (ad.add (kk * 3)) (.int .u8 y0) none W1 := ⟨BC1.out, BU1.out, BW1.out, HB1.out, D0.out, fun r e => by cases e⟩
              go_upto_region 20 with (fail)
              refine start_ (n := 15) (S := (fun w' => Sg w gc gw #[.int .i64 l0, .int .i64 l1, .int .i64 more, .int .i64 cap, .int .u8 who, .bool false, .int .i64 since, .int .u8 2] #[.int .i64 x0, .int .i64 x1] (ad.add (kk * 3)) (.int .u8 y0) none w')) (ds := []) #[false, false, false, false, false, false, false, false, false, false, false, false, false, false, false] (by kernel_rfl) rfl (by kernel_rfl) ⟨hsg.c, hsg.u, hsg.p, bdrewG hsg.b, hsg.d, fun r e => by cases e⟩ (fun hHeld => ?_)
              refine pure_ (i := 1) (N := some 106) (v := ?_) (a' := ?_) #[false, true, false, false, false, false, false, false, false, false, false, false, false, false, false] rfl rfl (by kernel_rfl) (fun _ _ _ h => h) (Or.inl ⟨by rfl, ?_⟩) ?_ ?_
              rotate_left
              · intro w'
                go_simp
                with_reducible rfl
              rotate_left
              · simp only [Act.put, List.setIfInBounds_toArray, List.set_cons_zero, List.set_cons_succ]
                rfl
              refine pure_ (i := 2) (N := some 107) (v := ?_) (a' := ?_) #[false, true, true, false, false, false, false, false, false, false, false, false, false, false, false] rfl rfl (by kernel_rfl) (fun _ _ _ h => h) (Or.inl ⟨by rfl, ?_⟩) ?_ ?_
              rotate_left
              · intro w'
                go_simp
                with_reducible rfl
              rotate_left
              · simp only [Act.put, List.setIfInBounds_toArray, List.set_cons_zero, List.set_cons_succ]
                rfl
              refine pure_ (i := 7) (N := some 112) (v := ?_) (a' := ?_) #[false, true, true, false, false, false, false, true, false, false, false, false, false, false, false] rfl rfl (by kernel_rfl) (fun _ _ _ h => h) (Or.inl ⟨by rfl, ?_⟩) ?_ ?_
              rotate_left
              · intro w'
                go_simp
                with_reducible rfl
              rotate_left
              · simp only [Act.put, List.setIfInBounds_toArray, List.set_cons_zero, List.set_cons_succ]
                rfl
              refine pure_ (i := 3) (N := some 108) (v := ?_) (a' := ?_) #[false, true, true, true, false, false, false, true, false, false, false, false, false, false, false] rfl rfl (by kernel_rfl) (fun _ _ _ h => h) (Or.inl ⟨by rfl, ?_⟩) ?_ ?_
              rotate_left
              · intro w'
                go_simp
                with_reducible rfl
              rotate_left
              · simp only [Act.put, List.setIfInBounds_toArray, List.set_cons_zero, List.set_cons_succ]
                rfl
              refine pure_ (i := 4) (N := some 109) (v := ?_) (a' := ?_) #[false, true, true, true, true, false, false, true, false, false, false, false, false, false, false] rfl rfl (by kernel_rfl) (fun _ _ _ h => h) (Or.inl ⟨by rfl, ?_⟩) ?_ ?_
              rotate_left
              · intro w'
                go_simp
                with_reducible rfl
              rotate_left
              · simp only [Act.put, List.setIfInBounds_toArray, List.set_cons_zero, List.set_cons_succ]
                rfl
              refine take_ (i := 0) (N := some 105) (v := ?_) (a' := ?_) #[true, true, true, true, true, false, false, true, false, false, false, false, false, false, false] rfl rfl (by kernel_rfl) (fun _ _ _ h => h) (Or.inl ⟨by rfl, ?_⟩) hHeld ?_ ?_
              rotate_left
              · intro w' hs
                have c_c := hs.c.cell
                go_simp
                with_reducible rfl
              rotate_left
              · simp only [Act.put, List.setIfInBounds_toArray, List.set_cons_zero, List.set_cons_succ]
                rfl
              refine take_ (i := 5) (N := some 110) (v := ?_) (a' := ?_) #[true, true, true, true, true, true, false, true, false, false, false, false, false, false, false] rfl rfl (by kernel_rfl) (fun _ _ _ h => h) (Or.inl ⟨by rfl, ?_⟩) hHeld ?_ ?_
              rotate_left
              · intro w' hs
                have d0 := hs.d
                go_simp
                with_reducible rfl
              rotate_left
              · simp only [Act.put, List.setIfInBounds_toArray, List.set_cons_zero, List.set_cons_succ]
                rfl
              refine pure_ (i := 6) (N := some 111) (v := ?_) (a' := ?_) #[true, true, true, true, true, true, true, true, false, false, false, false, false, false, false] rfl rfl (by kernel_rfl) (fun _ _ _ h => h) (Or.inl ⟨by rfl, ?_⟩) ?_ ?_
              rotate_left
              · intro w'
                go_simp
                with_reducible rfl
              rotate_left
              · simp only [Act.put, List.setIfInBounds_toArray, List.set_cons_zero, List.set_cons_succ]
                rfl
              clear hsg
              have hS0 : Sg w gc gw #[.int .i64 l0, .int .i64 l1, .int .i64 more, .int .i64 cap, .int .u8 who, .bool false, .int .i64 since, .int .u8 2] #[.int .i64 x0, .int .i64 x1] (ad.add (kk * 3)) (.int .u8 y0) none W1.drew := hHeld
              clear hHeld
              generalize W1.drew = v0 at hS0 ⊢
              rw [EP.out]
              refine join_ (σ := Nat) 2 #[true, true, true, true, true, true, true, true, true, true, true, true, true, false, false] (fun s => [(113, .tuple #[.agg #[.int .i64 l0, .int .i64 l1, .int .i64 more, .int .i64 cap, .int .u8 p, .bool true, .int .i64 N, .int .u8 2], .int .i64 0]), (104, .tuple #[.agg #[.int .i64 l0, .int .i64 l1, .int .i64 more, .int .i64 cap, .int .u8 p, .bool true, .int .i64 N, .int .u8 2], .int .i64 0]), (114, .agg #[.int .i64 l0, .int .i64 l1, .int .i64 more, .int .i64 cap, .int .u8 p, .bool true, .int .i64 N, .int .u8 2]), (115, .int .i64 0), (18, .pointer (some ⟨s, 0, none⟩))]) (fun s w' => Sg w gc gw #[.int .i64 l0, .int .i64 l1, .int .i64 more, .int .i64 cap, .int .u8 who, .bool false, .int .i64 since, .int .u8 2] #[.int .i64 x0, .int .i64 x1] (ad.add (kk * 3)) (.int .u8 y0) (some s) w') ?_ (fun hjoin => ?_)
              rotate_left
              · refine two_ (i := 8) (j := 12) (Ni := some 113) (Nj := some 18) #[true, true, true, true, true, true, true, true, true, false, false, false, false, false, false] #[true, true, true, true, true, true, true, true, false, false, false, false, true, false, false] rfl rfl rfl rfl (by kernel_rfl) (by simp) (by simp) (fun K hK => ?_) (fun K hK => ?_)
                · refine goes_ Tryd.func19 (by kernel_rfl) rfl #[.agg #[.int .i64 l0, .int .i64 l1, .int .i64 more, .int .i64 cap, .int .u8 who, .bool false, .int .i64 since, .int .u8 2], .int .u8 p, .int .i64 N] (by rfl) rfl rfl (by (try simp only [List.map_toArray, List.map_cons, List.map_nil]); rfl) ?_
                  refine (clock_Start.calls 3 l0 l1 more cap who false since 2 p N _ _ _ _ _ _ _ _ _ _ HS.out).mono ?_
                  rintro e v1 ⟨rfl, hb⟩
                  have hS1 := hS0.call hb
                  refine ⟨_, rfl, ?_⟩
                  refine hK.out _ _ hS1.less (fun _ => ?_)
                  clear hK K hb
                  refine norm_ (a' := ?_) ?_ ?_
                  rotate_left
                  · try simp only [Act.put, List.setIfInBounds_toArray, List.set_cons_zero, List.set_cons_succ]
                    rfl
                  refine pure_ (i := 9) (N := some 104) (v := ?_) (a' := ?_) #[true, true, true, true, true, true, true, true, true, true, false, false, false, false, false] rfl rfl (by kernel_rfl) (fun _ _ _ h => h) (Or.inl ⟨by rfl, ?_⟩) ?_ ?_
                  rotate_left
                  · intro w'
                    go_simp
                    with_reducible rfl
                  rotate_left
                  · simp only [Act.put, List.setIfInBounds_toArray, List.set_cons_zero, List.set_cons_succ]
                    rfl
                  refine pure_ (i := 10) (N := some 114) (v := ?_) (a' := ?_) #[true, true, true, true, true, true, true, true, true, true, true, false, false, false, false] rfl rfl (by kernel_rfl) (fun _ _ _ h => h) (Or.inl ⟨by rfl, ?_⟩) ?_ ?_
                  rotate_left
                  · intro w'
                    go_simp
                    with_reducible rfl
                  rotate_left
                  · simp only [Act.put, List.setIfInBounds_toArray, List.set_cons_zero, List.set_cons_succ]
                    rfl
                  refine pure_ (i := 11) (N := some 115) (v := ?_) (a' := ?_) #[true, true, true, true, true, true, true, true, true, true, true, true, false, false, false] rfl rfl (by kernel_rfl) (fun _ _ _ h => h) (Or.inl ⟨by rfl, ?_⟩) ?_ ?_
                  rotate_left
                  · intro w'
                    go_simp
                    with_reducible rfl
                  rotate_left
                  · simp only [Act.put, List.setIfInBounds_toArray, List.set_cons_zero, List.set_cons_succ]
                    rfl
                  refine one_ (i := 12) (N := some 18) #[true, true, true, true, true, true, true, true, true, true, true, true, true, false, false] rfl rfl (by kernel_rfl) (by simp) (fun K hK => ?_)
                  rw [if_pos (by rfl)]
                  go_simp
                  have hS2 := hS1.new
                  unfold Z8 at hS2
                  refine hK.out _ _ hS2.less (fun _ => ?_)
                  clear hK K
                  generalize World.alloc v1 (.cells #[.int .i64 0, .int .i64 0, .int .i64 0, .int .i64 0, .int .u8 0, .bool false, .int .i64 0, .int .u8 0] 24) = v2 at hS2 ⊢
                  generalize v1.heap.size = r1 at hS2 ⊢
                  refine norm_ (a' := ?_) ?_ ?_
                  rotate_left
                  · try simp only [Act.put, List.setIfInBounds_toArray, List.set_cons_zero, List.set_cons_succ]
                    rfl
                  exact hjoin r1 _ hS2
                · rw [if_pos (by rfl)]
                  go_simp
                  have hS3 := hS0.new
                  unfold Z8 at hS3
                  refine hK.out _ _ hS3.less (fun _ => ?_)
                  clear hK K
                  generalize World.alloc v0 (.cells #[.int .i64 0, .int .i64 0, .int .i64 0, .int .i64 0, .int .u8 0, .bool false, .int .i64 0, .int .u8 0] 24) = v3 at hS3 ⊢
                  generalize v0.heap.size = r2 at hS3 ⊢
                  refine norm_ (a' := ?_) ?_ ?_
                  rotate_left
                  · try simp only [Act.put, List.setIfInBounds_toArray, List.set_cons_zero, List.set_cons_succ]
                    rfl
                  refine one_ (i := 8) (N := some 113) #[true, true, true, true, true, true, true, true, true, false, false, false, true, false, false] rfl rfl (by kernel_rfl) (by simp) (fun K hK => ?_)
                  refine goes_ Tryd.func19 (by kernel_rfl) rfl #[.agg #[.int .i64 l0, .int .i64 l1, .int .i64 more, .int .i64 cap, .int .u8 who, .bool false, .int .i64 since, .int .u8 2], .int .u8 p, .int .i64 N] (by rfl) rfl rfl (by (try simp only [List.map_toArray, List.map_cons, List.map_nil]); rfl) ?_
                  refine (clock_Start.calls 3 l0 l1 more cap who false since 2 p N _ _ _ _ _ _ _ _ _ _ HS.out).mono ?_
                  rintro e v4 ⟨rfl, hb⟩
                  have hS4 := hS3.call hb
                  refine ⟨_, rfl, ?_⟩
                  refine hK.out _ _ hS4.less (fun _ => ?_)
                  clear hK K hb
                  refine norm_ (a' := ?_) ?_ ?_
                  rotate_left
                  · try simp only [Act.put, List.setIfInBounds_toArray, List.set_cons_zero, List.set_cons_succ]
                    rfl
                  refine pure_ (i := 9) (N := some 104) (v := ?_) (a' := ?_) #[true, true, true, true, true, true, true, true, true, true, false, false, true, false, false] rfl rfl (by kernel_rfl) (fun _ _ _ h => h) (Or.inl ⟨by rfl, ?_⟩) ?_ ?_
                  rotate_left
                  · intro w'
                    go_simp
                    with_reducible rfl
                  rotate_left
                  · simp only [Act.put, List.setIfInBounds_toArray, List.set_cons_zero, List.set_cons_succ]
                    rfl
                  refine pure_ (i := 10) (N := some 114) (v := ?_) (a' := ?_) #[true, true, true, true, true, true, true, true, true, true, true, false, true, false, false] rfl rfl (by kernel_rfl) (fun _ _ _ h => h) (Or.inl ⟨by rfl, ?_⟩) ?_ ?_
                  rotate_left
                  · intro w'
                    go_simp
                    with_reducible rfl
                  rotate_left
                  · simp only [Act.put, List.setIfInBounds_toArray, List.set_cons_zero, List.set_cons_succ]
                    rfl
                  refine pure_ (i := 11) (N := some 115) (v := ?_) (a' := ?_) #[true, true, true, true, true, true, true, true, true, true, true, true, true, false, false] rfl rfl (by kernel_rfl) (fun _ _ _ h => h) (Or.inl ⟨by rfl, ?_⟩) ?_ ?_
                  rotate_left
                  · intro w'
                    go_simp
                    with_reducible rfl
                  rotate_left
                  · simp only [Act.put, List.setIfInBounds_toArray, List.set_cons_zero, List.set_cons_succ]
                    rfl
                  exact hjoin r2 _ hS4
              rintro gx v hSg
              simp only [putAll]
              refine norm_ (a' := ?_) ?_ ?_
              rotate_left
              · simp only [Act.put, List.setIfInBounds_toArray, List.set_cons_zero, List.set_cons_succ]
                rfl
              have hgx := (hSg.x gx rfl).1
              have bx := (hSg.x gx rfl).2
              have bc := hSg.c
              have bu := hSg.u
              have bw := hSg.p
              have hb := hSg.b
              have hSgd := hSg.d
              unfold Z8 at bx
              clear hSg hS0
              have hcw := HCW.out
              have hgc0 := HGC.out
              have c_x := bx.cell
              have f_x := bx.frozen
              have q_x := bx.lt
              refine one_ (i := 13) (N := none) #[true, true, true, true, true, true, true, true, true, true, true, true, true, true, false] rfl rfl (by kernel_rfl) (by simp) (fun K hK => ?_)
              rw [if_pos (by rfl)]
              go_simp
              have bx2 := on8 (v0 := .int .i64 l0) (v1 := .int .i64 l1) (v2 := .int .i64 more) (v3 := .int .i64 cap) (v4 := .int .u8 p) (v5 := .bool true) (v6 := .int .i64 N) (v7 := .int .u8 2) bx
              have bc2 := far8 (v0 := .int .i64 l0) (v1 := .int .i64 l1) (v2 := .int .i64 more) (v3 := .int .i64 cap) (v4 := .int .u8 p) (v5 := .bool true) (v6 := .int .i64 N) (v7 := .int .u8 2) bc (show gc ≠ gx by omega)
              have bu2 := far8 (v0 := .int .i64 l0) (v1 := .int .i64 l1) (v2 := .int .i64 more) (v3 := .int .i64 cap) (v4 := .int .u8 p) (v5 := .bool true) (v6 := .int .i64 N) (v7 := .int .u8 2) bu (show gc + 1 ≠ gx by omega)
              have bw2 := far8 (v0 := .int .i64 l0) (v1 := .int .i64 l1) (v2 := .int .i64 more) (v3 := .int .i64 cap) (v4 := .int .u8 p) (v5 := .bool true) (v6 := .int .i64 N) (v7 := .int .u8 2) bw (show gw ≠ gx by omega)
              have hb2 := below8 (v0 := .int .i64 l0) (v1 := .int .i64 l1) (v2 := .int .i64 more) (v3 := .int .i64 cap) (v4 := .int .u8 p) (v5 := .bool true) (v6 := .int .i64 N) (v7 := .int .u8 2) hb (show w.heap.size ≤ gx by omega)
              have hd2 := hSgd
              refine hK.out _ _ ⟨bc2, bu2, bw2, hb2, ?_, fun r e => by cases e⟩ (fun _ => ?_)
              · exact (far8c (show (ad.add (kk * 3)).block ≠ gx from Nat.ne_of_lt (Nat.lt_trans HD0.out hgx))).trans hd2
              clear hK K c_x f_x q_x bx bc bu bw hb hd2 hSgd
              generalize World.setCell _ _ _ = w4 at bx2 bc2 bu2 bw2 hb2 ⊢
              refine pure_ (i := 14) (N := some 19) (v := ?_) (a' := ?_) #[true, true, true, true, true, true, true, true, true, true, true, true, true, true, true] rfl rfl (by kernel_rfl) (fun _ _ _ h => h) (Or.inl ⟨by rfl, ?_⟩) ?_ ?_
              rotate_left
              · intro w'
                go_simp
                with_reducible rfl
              rotate_left
              · simp only [Act.put, List.setIfInBounds_toArray, List.set_cons_zero, List.set_cons_succ]
                rfl
              refine done_ (by kernel_rfl) ?_
              have BC4 := Lib.hid bc2
              have BU4 := Lib.hid bu2
              have BW4 := Lib.hid bw2
              have BX4 := Lib.hid bx2
              have HB4 := Lib.hid hb2
              clear bc2 bu2 bw2 bx2 hb2
              have c_c := BC4.out.cell
              have f_c := BC4.out.frozen
              have q_c := BC4.out.lt
              have c_x := BX4.out.cell
              have f_x := BX4.out.frozen
              have q_x := BX4.out.lt
              go_wp2_with fail
              have bc := on8 (v0 := .int .i64 l0) (v1 := .int .i64 l1) (v2 := .int .i64 more) (v3 := .int .i64 cap) (v4 := .int .u8 p) (v5 := .bool true) (v6 := .int .i64 N) (v7 := .int .u8 2) BC4.out
              have bu := far8 (v0 := .int .i64 l0) (v1 := .int .i64 l1) (v2 := .int .i64 more) (v3 := .int .i64 cap) (v4 := .int .u8 p) (v5 := .bool true) (v6 := .int .i64 N) (v7 := .int .u8 2) BU4.out (show gc + 1 ≠ gc by omega)
              have bw := far8 (v0 := .int .i64 l0) (v1 := .int .i64 l1) (v2 := .int .i64 more) (v3 := .int .i64 cap) (v4 := .int .u8 p) (v5 := .bool true) (v6 := .int .i64 N) (v7 := .int .u8 2) BW4.out (show gw ≠ gc by omega)
              have hb := below8 (v0 := .int .i64 l0) (v1 := .int .i64 l1) (v2 := .int .i64 more) (v3 := .int .i64 cap) (v4 := .int .u8 p) (v5 := .bool true) (v6 := .int .i64 N) (v7 := .int .u8 2) HB4.out hgc0
              clear c_c f_c q_c c_x f_x q_x
              go_meet
              case rel => exact ⟨l0, l1, p, true, N, 2, _, _, ⟨bc⟩, ⟨bu⟩, ⟨bw⟩, ⟨hb⟩, ⟨HI1.out.start HP0.out HP1.out⟩, ⟨fun h => absurd rfl h⟩⟩
            · have hS := start_err l0 l1 more cap who false since fell p N HI1.out.may HI1.out.n0 HN0.out HN2.out HI1.out.f0 (by rcases HI1.out.may.2.2.2.2.2.2.2.2 with h | h <;> omega) HP1.out (.inr hf2)
              have HS := Lib.hid hS
              clear hS
              have hsg : Sg w gc gw #[.int .i64 l0, .int .i64 l1, .int .i64 more, .int .i64 cap, .int .u8 who, .bool false, .int .i64 since, .int .u8 fell] #[.int .i64 x0, .int .i64 x1] (ad.add (kk * 3)) (.int .u8 y0) none W1 := ⟨BC1.out, BU1.out, BW1.out, HB1.out, D0.out, fun r e => by cases e⟩
              go_upto_region 20 with (fail)
              refine start_ (n := 15) (S := (fun w' => Sg w gc gw #[.int .i64 l0, .int .i64 l1, .int .i64 more, .int .i64 cap, .int .u8 who, .bool false, .int .i64 since, .int .u8 fell] #[.int .i64 x0, .int .i64 x1] (ad.add (kk * 3)) (.int .u8 y0) none w')) (ds := []) #[false, false, false, false, false, false, false, false, false, false, false, false, false, false, false] (by kernel_rfl) rfl (by kernel_rfl) ⟨hsg.c, hsg.u, hsg.p, bdrewG hsg.b, hsg.d, fun r e => by cases e⟩ (fun hHeld => ?_)
              refine pure_ (i := 1) (N := some 106) (v := ?_) (a' := ?_) #[false, true, false, false, false, false, false, false, false, false, false, false, false, false, false] rfl rfl (by kernel_rfl) (fun _ _ _ h => h) (Or.inl ⟨by rfl, ?_⟩) ?_ ?_
              rotate_left
              · intro w'
                go_simp
                with_reducible rfl
              rotate_left
              · simp only [Act.put, List.setIfInBounds_toArray, List.set_cons_zero, List.set_cons_succ]
                rfl
              refine pure_ (i := 2) (N := some 107) (v := ?_) (a' := ?_) #[false, true, true, false, false, false, false, false, false, false, false, false, false, false, false] rfl rfl (by kernel_rfl) (fun _ _ _ h => h) (Or.inl ⟨by rfl, ?_⟩) ?_ ?_
              rotate_left
              · intro w'
                go_simp
                with_reducible rfl
              rotate_left
              · simp only [Act.put, List.setIfInBounds_toArray, List.set_cons_zero, List.set_cons_succ]
                rfl
              refine pure_ (i := 7) (N := some 112) (v := ?_) (a' := ?_) #[false, true, true, false, false, false, false, true, false, false, false, false, false, false, false] rfl rfl (by kernel_rfl) (fun _ _ _ h => h) (Or.inl ⟨by rfl, ?_⟩) ?_ ?_
              rotate_left
              · intro w'
                go_simp
                with_reducible rfl
              rotate_left
              · simp only [Act.put, List.setIfInBounds_toArray, List.set_cons_zero, List.set_cons_succ]
                rfl
              refine pure_ (i := 3) (N := some 108) (v := ?_) (a' := ?_) #[false, true, true, true, false, false, false, true, false, false, false, false, false, false, false] rfl rfl (by kernel_rfl) (fun _ _ _ h => h) (Or.inl ⟨by rfl, ?_⟩) ?_ ?_
              rotate_left
              · intro w'
                go_simp
                with_reducible rfl
              rotate_left
              · simp only [Act.put, List.setIfInBounds_toArray, List.set_cons_zero, List.set_cons_succ]
                rfl
              refine pure_ (i := 4) (N := some 109) (v := ?_) (a' := ?_) #[false, true, true, true, true, false, false, true, false, false, false, false, false, false, false] rfl rfl (by kernel_rfl) (fun _ _ _ h => h) (Or.inl ⟨by rfl, ?_⟩) ?_ ?_
              rotate_left
              · intro w'
                go_simp
                with_reducible rfl
              rotate_left
              · simp only [Act.put, List.setIfInBounds_toArray, List.set_cons_zero, List.set_cons_succ]
                rfl
              refine take_ (i := 0) (N := some 105) (v := ?_) (a' := ?_) #[true, true, true, true, true, false, false, true, false, false, false, false, false, false, false] rfl rfl (by kernel_rfl) (fun _ _ _ h => h) (Or.inl ⟨by rfl, ?_⟩) hHeld ?_ ?_
              rotate_left
              · intro w' hs
                have c_c := hs.c.cell
                go_simp
                with_reducible rfl
              rotate_left
              · simp only [Act.put, List.setIfInBounds_toArray, List.set_cons_zero, List.set_cons_succ]
                rfl
              refine take_ (i := 5) (N := some 110) (v := ?_) (a' := ?_) #[true, true, true, true, true, true, false, true, false, false, false, false, false, false, false] rfl rfl (by kernel_rfl) (fun _ _ _ h => h) (Or.inl ⟨by rfl, ?_⟩) hHeld ?_ ?_
              rotate_left
              · intro w' hs
                have d0 := hs.d
                go_simp
                with_reducible rfl
              rotate_left
              · simp only [Act.put, List.setIfInBounds_toArray, List.set_cons_zero, List.set_cons_succ]
                rfl
              refine pure_ (i := 6) (N := some 111) (v := ?_) (a' := ?_) #[true, true, true, true, true, true, true, true, false, false, false, false, false, false, false] rfl rfl (by kernel_rfl) (fun _ _ _ h => h) (Or.inl ⟨by rfl, ?_⟩) ?_ ?_
              rotate_left
              · intro w'
                go_simp
                with_reducible rfl
              rotate_left
              · simp only [Act.put, List.setIfInBounds_toArray, List.set_cons_zero, List.set_cons_succ]
                rfl
              clear hsg
              have hS0 : Sg w gc gw #[.int .i64 l0, .int .i64 l1, .int .i64 more, .int .i64 cap, .int .u8 who, .bool false, .int .i64 since, .int .u8 fell] #[.int .i64 x0, .int .i64 x1] (ad.add (kk * 3)) (.int .u8 y0) none W1.drew := hHeld
              clear hHeld
              generalize W1.drew = v0 at hS0 ⊢
              rw [EP.out]
              refine join_ (σ := Nat) 2 #[true, true, true, true, true, true, true, true, true, true, true, true, true, false, false] (fun s => [(113, .tuple #[.agg #[.int .i64 0, .int .i64 0, .int .i64 0, .int .i64 0, .int .u8 0, .bool false, .int .i64 0, .int .u8 0], .int .i64 11]), (104, .tuple #[.agg #[.int .i64 0, .int .i64 0, .int .i64 0, .int .i64 0, .int .u8 0, .bool false, .int .i64 0, .int .u8 0], .int .i64 11]), (114, .agg #[.int .i64 0, .int .i64 0, .int .i64 0, .int .i64 0, .int .u8 0, .bool false, .int .i64 0, .int .u8 0]), (115, .int .i64 11), (18, .pointer (some ⟨s, 0, none⟩))]) (fun s w' => Sg w gc gw #[.int .i64 l0, .int .i64 l1, .int .i64 more, .int .i64 cap, .int .u8 who, .bool false, .int .i64 since, .int .u8 fell] #[.int .i64 x0, .int .i64 x1] (ad.add (kk * 3)) (.int .u8 y0) (some s) w') ?_ (fun hjoin => ?_)
              rotate_left
              · refine two_ (i := 8) (j := 12) (Ni := some 113) (Nj := some 18) #[true, true, true, true, true, true, true, true, true, false, false, false, false, false, false] #[true, true, true, true, true, true, true, true, false, false, false, false, true, false, false] rfl rfl rfl rfl (by kernel_rfl) (by simp) (by simp) (fun K hK => ?_) (fun K hK => ?_)
                · refine goes_ Tryd.func19 (by kernel_rfl) rfl #[.agg #[.int .i64 l0, .int .i64 l1, .int .i64 more, .int .i64 cap, .int .u8 who, .bool false, .int .i64 since, .int .u8 fell], .int .u8 p, .int .i64 N] (by rfl) rfl rfl (by (try simp only [List.map_toArray, List.map_cons, List.map_nil]); rfl) ?_
                  refine (clock_Start.calls 3 l0 l1 more cap who false since fell p N _ _ _ _ _ _ _ _ _ _ HS.out).mono ?_
                  rintro e v1 ⟨rfl, hb⟩
                  have hS1 := hS0.call hb
                  refine ⟨_, rfl, ?_⟩
                  refine hK.out _ _ hS1.less (fun _ => ?_)
                  clear hK K hb
                  refine norm_ (a' := ?_) ?_ ?_
                  rotate_left
                  · try simp only [Act.put, List.setIfInBounds_toArray, List.set_cons_zero, List.set_cons_succ]
                    rfl
                  refine pure_ (i := 9) (N := some 104) (v := ?_) (a' := ?_) #[true, true, true, true, true, true, true, true, true, true, false, false, false, false, false] rfl rfl (by kernel_rfl) (fun _ _ _ h => h) (Or.inl ⟨by rfl, ?_⟩) ?_ ?_
                  rotate_left
                  · intro w'
                    go_simp
                    with_reducible rfl
                  rotate_left
                  · simp only [Act.put, List.setIfInBounds_toArray, List.set_cons_zero, List.set_cons_succ]
                    rfl
                  refine pure_ (i := 10) (N := some 114) (v := ?_) (a' := ?_) #[true, true, true, true, true, true, true, true, true, true, true, false, false, false, false] rfl rfl (by kernel_rfl) (fun _ _ _ h => h) (Or.inl ⟨by rfl, ?_⟩) ?_ ?_
                  rotate_left
                  · intro w'
                    go_simp
                    with_reducible rfl
                  rotate_left
                  · simp only [Act.put, List.setIfInBounds_toArray, List.set_cons_zero, List.set_cons_succ]
                    rfl
                  refine pure_ (i := 11) (N := some 115) (v := ?_) (a' := ?_) #[true, true, true, true, true, true, true, true, true, true, true, true, false, false, false] rfl rfl (by kernel_rfl) (fun _ _ _ h => h) (Or.inl ⟨by rfl, ?_⟩) ?_ ?_
                  rotate_left
                  · intro w'
                    go_simp
                    with_reducible rfl
                  rotate_left
                  · simp only [Act.put, List.setIfInBounds_toArray, List.set_cons_zero, List.set_cons_succ]
                    rfl
                  refine one_ (i := 12) (N := some 18) #[true, true, true, true, true, true, true, true, true, true, true, true, true, false, false] rfl rfl (by kernel_rfl) (by simp) (fun K hK => ?_)
                  rw [if_pos (by rfl)]
                  go_simp
                  have hS2 := hS1.new
                  unfold Z8 at hS2
                  refine hK.out _ _ hS2.less (fun _ => ?_)
                  clear hK K
                  generalize World.alloc v1 (.cells #[.int .i64 0, .int .i64 0, .int .i64 0, .int .i64 0, .int .u8 0, .bool false, .int .i64 0, .int .u8 0] 24) = v2 at hS2 ⊢
                  generalize v1.heap.size = r1 at hS2 ⊢
                  refine norm_ (a' := ?_) ?_ ?_
                  rotate_left
                  · try simp only [Act.put, List.setIfInBounds_toArray, List.set_cons_zero, List.set_cons_succ]
                    rfl
                  exact hjoin r1 _ hS2
                · rw [if_pos (by rfl)]
                  go_simp
                  have hS3 := hS0.new
                  unfold Z8 at hS3
                  refine hK.out _ _ hS3.less (fun _ => ?_)
                  clear hK K
                  generalize World.alloc v0 (.cells #[.int .i64 0, .int .i64 0, .int .i64 0, .int .i64 0, .int .u8 0, .bool false, .int .i64 0, .int .u8 0] 24) = v3 at hS3 ⊢
                  generalize v0.heap.size = r2 at hS3 ⊢
                  refine norm_ (a' := ?_) ?_ ?_
                  rotate_left
                  · try simp only [Act.put, List.setIfInBounds_toArray, List.set_cons_zero, List.set_cons_succ]
                    rfl
                  refine one_ (i := 8) (N := some 113) #[true, true, true, true, true, true, true, true, true, false, false, false, true, false, false] rfl rfl (by kernel_rfl) (by simp) (fun K hK => ?_)
                  refine goes_ Tryd.func19 (by kernel_rfl) rfl #[.agg #[.int .i64 l0, .int .i64 l1, .int .i64 more, .int .i64 cap, .int .u8 who, .bool false, .int .i64 since, .int .u8 fell], .int .u8 p, .int .i64 N] (by rfl) rfl rfl (by (try simp only [List.map_toArray, List.map_cons, List.map_nil]); rfl) ?_
                  refine (clock_Start.calls 3 l0 l1 more cap who false since fell p N _ _ _ _ _ _ _ _ _ _ HS.out).mono ?_
                  rintro e v4 ⟨rfl, hb⟩
                  have hS4 := hS3.call hb
                  refine ⟨_, rfl, ?_⟩
                  refine hK.out _ _ hS4.less (fun _ => ?_)
                  clear hK K hb
                  refine norm_ (a' := ?_) ?_ ?_
                  rotate_left
                  · try simp only [Act.put, List.setIfInBounds_toArray, List.set_cons_zero, List.set_cons_succ]
                    rfl
                  refine pure_ (i := 9) (N := some 104) (v := ?_) (a' := ?_) #[true, true, true, true, true, true, true, true, true, true, false, false, true, false, false] rfl rfl (by kernel_rfl) (fun _ _ _ h => h) (Or.inl ⟨by rfl, ?_⟩) ?_ ?_
                  rotate_left
                  · intro w'
                    go_simp
                    with_reducible rfl
                  rotate_left
                  · simp only [Act.put, List.setIfInBounds_toArray, List.set_cons_zero, List.set_cons_succ]
                    rfl
                  refine pure_ (i := 10) (N := some 114) (v := ?_) (a' := ?_) #[true, true, true, true, true, true, true, true, true, true, true, false, true, false, false] rfl rfl (by kernel_rfl) (fun _ _ _ h => h) (Or.inl ⟨by rfl, ?_⟩) ?_ ?_
                  rotate_left
                  · intro w'
                    go_simp
                    with_reducible rfl
                  rotate_left
                  · simp only [Act.put, List.setIfInBounds_toArray, List.set_cons_zero, List.set_cons_succ]
                    rfl
                  refine pure_ (i := 11) (N := some 115) (v := ?_) (a' := ?_) #[true, true, true, true, true, true, true, true, true, true, true, true, true, false, false] rfl rfl (by kernel_rfl) (fun _ _ _ h => h) (Or.inl ⟨by rfl, ?_⟩) ?_ ?_
                  rotate_left
                  · intro w'
                    go_simp
                    with_reducible rfl
                  rotate_left
                  · simp only [Act.put, List.setIfInBounds_toArray, List.set_cons_zero, List.set_cons_succ]
                    rfl
                  exact hjoin r2 _ hS4
              rintro gx v hSg
              simp only [putAll]
              refine norm_ (a' := ?_) ?_ ?_
              rotate_left
              · simp only [Act.put, List.setIfInBounds_toArray, List.set_cons_zero, List.set_cons_succ]
                rfl
              have hgx := (hSg.x gx rfl).1
              have bx := (hSg.x gx rfl).2
              have bc := hSg.c
              have bu := hSg.u
              have bw := hSg.p
              have hb := hSg.b
              have hSgd := hSg.d
              unfold Z8 at bx
              clear hSg hS0
              have hcw := HCW.out
              have hgc0 := HGC.out
              have c_x := bx.cell
              have f_x := bx.frozen
              have q_x := bx.lt
              refine one_ (i := 13) (N := none) #[true, true, true, true, true, true, true, true, true, true, true, true, true, true, false] rfl rfl (by kernel_rfl) (by simp) (fun K hK => ?_)
              rw [if_pos (by rfl)]
              go_simp
              have bx2 := on8 (v0 := .int .i64 0) (v1 := .int .i64 0) (v2 := .int .i64 0) (v3 := .int .i64 0) (v4 := .int .u8 0) (v5 := .bool false) (v6 := .int .i64 0) (v7 := .int .u8 0) bx
              have bc2 := far8 (v0 := .int .i64 0) (v1 := .int .i64 0) (v2 := .int .i64 0) (v3 := .int .i64 0) (v4 := .int .u8 0) (v5 := .bool false) (v6 := .int .i64 0) (v7 := .int .u8 0) bc (show gc ≠ gx by omega)
              have bu2 := far8 (v0 := .int .i64 0) (v1 := .int .i64 0) (v2 := .int .i64 0) (v3 := .int .i64 0) (v4 := .int .u8 0) (v5 := .bool false) (v6 := .int .i64 0) (v7 := .int .u8 0) bu (show gc + 1 ≠ gx by omega)
              have bw2 := far8 (v0 := .int .i64 0) (v1 := .int .i64 0) (v2 := .int .i64 0) (v3 := .int .i64 0) (v4 := .int .u8 0) (v5 := .bool false) (v6 := .int .i64 0) (v7 := .int .u8 0) bw (show gw ≠ gx by omega)
              have hb2 := below8 (v0 := .int .i64 0) (v1 := .int .i64 0) (v2 := .int .i64 0) (v3 := .int .i64 0) (v4 := .int .u8 0) (v5 := .bool false) (v6 := .int .i64 0) (v7 := .int .u8 0) hb (show w.heap.size ≤ gx by omega)
              have hd2 := hSgd
              refine hK.out _ _ ⟨bc2, bu2, bw2, hb2, ?_, fun r e => by cases e⟩ (fun _ => ?_)
              · exact (far8c (show (ad.add (kk * 3)).block ≠ gx from Nat.ne_of_lt (Nat.lt_trans HD0.out hgx))).trans hd2
              clear hK K c_x f_x q_x bx bc bu bw hb hd2 hSgd
              generalize World.setCell _ _ _ = w4 at bx2 bc2 bu2 bw2 hb2 ⊢
              refine pure_ (i := 14) (N := some 19) (v := ?_) (a' := ?_) #[true, true, true, true, true, true, true, true, true, true, true, true, true, true, true] rfl rfl (by kernel_rfl) (fun _ _ _ h => h) (Or.inl ⟨by rfl, ?_⟩) ?_ ?_
              rotate_left
              · intro w'
                go_simp
                with_reducible rfl
              rotate_left
              · simp only [Act.put, List.setIfInBounds_toArray, List.set_cons_zero, List.set_cons_succ]
                rfl
              refine done_ (by kernel_rfl) ?_
              have BC4 := Lib.hid bc2
              have BU4 := Lib.hid bu2
              have BW4 := Lib.hid bw2
              have BX4 := Lib.hid bx2
              have HB4 := Lib.hid hb2
              clear bc2 bu2 bw2 bx2 hb2
              have c_c := BC4.out.cell
              have f_c := BC4.out.frozen
              have q_c := BC4.out.lt
              have c_x := BX4.out.cell
              have f_x := BX4.out.frozen
              have q_x := BX4.out.lt
              have e2 : (fell == 2) = false := beq_eq_false_iff_ne.2 hf2
              go_wp2_with fail
              clear c_c f_c q_c c_x f_x q_x
              go_meet
              case rel => exact ⟨l0, l1, who, false, since, fell, _, _, ⟨BC4.out⟩, ⟨BU4.out⟩, ⟨BW4.out⟩, ⟨HB4.out⟩, ⟨HI1.out⟩, ⟨fun _ => ⟨rfl, rfl, rfl, rfl, rfl, rfl⟩⟩⟩
      case rest =>
        obtain ⟨m0, m1, mw, mo, ms, mf, z0, z1, BC, BU, BW, HB, HI, HEQ⟩ := hcut
        clear BC1 BU1 BW1 HB1 D0 HD0
        have hMay : clock_May.f 3 m0 m1 more cap mw mo ms mf = some true := by rw [may_f 0 m0 m1 more cap mw mo ms mf HI.out.f0 (by rcases HI.out.may.2.2.2.2.2.2.2.2 with h | h <;> omega), decide_eq_true HI.out.may]
        have HMay := Lib.hid hMay
        clear hMay
        go_upto_region 25 with (fail)
        go_cut [142] (fun v142 wc => v142 = .bool false ∧ Aside0 (Blk wc gc 24 #[.int .i64 m0, .int .i64 m1, .int .i64 more, .int .i64 cap, .int .u8 mw, .bool mo, .int .i64 ms, .int .u8 mf]) ∧ Aside0 (Blk wc (gc + 1) 22 #[.int .i64 z0, .int .i64 z1]) ∧ Aside0 (Below w.heap.size w wc))
        case first =>
          have c_c := BC.out.cell
          have f_c := BC.out.frozen
          have q_c := BC.out.lt
          go_wp2_with fail
          refine (clock_May.calls 3 m0 m1 more cap mw mo ms mf true _ HMay.out).mono ?_
          rintro e w2 ⟨rfl, hb⟩
          clear c_c f_c q_c
          have BC2 := Lib.hid (BC.out.after hb)
          have BU2 := Lib.hid (BU.out.after hb)
          have BW2 := Lib.hid (BW.out.after hb)
          have HB2 := Lib.hid (bstep HB.out hb)
          clear hb
          have c_c := BC2.out.cell
          have f_c := BC2.out.frozen
          have q_c := BC2.out.lt
          have c_w := BW2.out.cell
          have f_w := BW2.out.frozen
          have q_w := BW2.out.lt
          by_cases hf : fell = 2
          · subst hf
            go_wp2_with fail
            clear c_c f_c q_c c_w f_w q_w
            go_meet
            case rel => exact ⟨rfl, ⟨BC2.out⟩, ⟨BU2.out⟩, ⟨HB2.out⟩⟩
          · obtain ⟨r1, r2, r3, r4, r5, r6⟩ := HEQ.out hf
            clear HEQ
            subst r1 r2 r3 r4 r5 r6
            have e2 : (mf == 2) = false := beq_eq_false_iff_ne.2 hf
            have e3 : (mf != 2) = true := bne_iff_ne.2 hf
            go_wp2_with fail
            clear c_c f_c q_c c_w f_w q_w
            go_meet
            case rel => exact ⟨rfl, ⟨BC2.out⟩, ⟨BU2.out⟩, ⟨HB2.out⟩⟩
        case rest =>
          obtain ⟨rfl, BC2, BU2, HB2⟩ := hcut
          clear BC BU BW HB HEQ HMay
          go_wp2_with fail
          go_loopg [143] 2 (fun g2 s143 wq => ∃ q : Nat, q ≤ 2 ∧ 2 - q ≤ g2 ∧ s143 = .int .i64 q ∧ Aside0 (Blk wq gc 24 #[.int .i64 m0, .int .i64 m1, .int .i64 more, .int .i64 cap, .int .u8 mw, .bool mo, .int .i64 ms, .int .u8 mf]) ∧ Aside0 (Blk wq (gc + 1) 22 #[.int .i64 z0, .int .i64 z1]) ∧ Aside0 (Below w.heap.size w wq))
          case atStart => exact ⟨0, by omega, by omega, rfl, ⟨BC2.out⟩, ⟨BU2.out⟩, ⟨HB2.out⟩⟩
          case round =>
            clear BC2 BU2 HB2
            obtain ⟨q, hq, hqg, rfl, BC3, BU3, HB3⟩ := hrel
            by_cases hq2 : q < 2
            · have eN : wrap64 ((q : Int) + 1) = ((q + 1 : Nat) : Int) := by unfold wrap64; omega
              have hqq : q = 0 ∨ q = 1 := by omega
              rcases hqq with rfl | rfl
              · by_cases hm : more = 0
                · have hmb : (more == 0) = true := beq_iff_eq.2 hm
                  have ew : wrap64 mf = mf := wrap_id (by have := HI.out.f0; omega) (by have := HI.out.f0; rcases HI.out.may.2.2.2.2.2.2.2.2 with h | h <;> omega)
                  have EW := Lib.hid ew
                  clear ew
                  by_cases hf : mf = 0
                  · have ef : (mf == 0) = true := beq_iff_eq.2 hf
                    have ef2 : (mf != 0) = false := by rw [hf]; rfl
                    clear hm hf
                    have b0 : wr.cell? ⟨gc, 0, none⟩ = some (.int .i64 m0) := (BC3.out.cell 0).trans rfl
                    have b7 : wr.cell? ⟨gc, 7, none⟩ = some (.int .u8 mf) := (BC3.out.cell 7).trans rfl
                    have bu : wr.cell? ⟨gc + 1, 0, none⟩ = some (.int .i64 z0) := (BU3.out.cell 0).trans rfl
                    go_upto_region 30 with (fail)
                    refine start_ (n := 22) (S := (fun w' => w'.cell? ⟨gc, 0, none⟩ = some (.int .i64 m0) ∧ w'.cell? ⟨gc, 7, none⟩ = some (.int .u8 mf) ∧ w'.cell? ⟨gc + 1, 0, none⟩ = some (.int .i64 z0))) (ds := []) #[false, false, false, false, false, false, false, false, false, false, false, false, false, false, false, false, false, false, false, false, false, false] (by kernel_rfl) rfl (by kernel_rfl) ⟨b0, b7, bu⟩ (fun hHeld => ?_)
                    refine pure_ (i := 0) (N := some 146) (v := ?_) (a' := ?_) #[true, false, false, false, false, false, false, false, false, false, false, false, false, false, false, false, false, false, false, false, false, false] rfl rfl (by kernel_rfl) (fun _ _ _ h => h) (Or.inl ⟨by rfl, ?_⟩) ?_ ?_
                    rotate_left
                    · intro w'
                      go_simp
                      with_reducible rfl
                    rotate_left
                    · simp only [Act.put, List.setIfInBounds_toArray, List.set_cons_zero, List.set_cons_succ]
                      rfl
                    refine pure_ (i := 1) (N := some 147) (v := ?_) (a' := ?_) #[true, true, false, false, false, false, false, false, false, false, false, false, false, false, false, false, false, false, false, false, false, false] rfl rfl (by kernel_rfl) (fun _ _ _ h => h) (Or.inl ⟨by rfl, ?_⟩) ?_ ?_
                    rotate_left
                    · intro w'
                      go_simp
                      with_reducible rfl
                    rotate_left
                    · simp only [Act.put, List.setIfInBounds_toArray, List.set_cons_zero, List.set_cons_succ]
                      rfl
                    refine pure_ (i := 2) (N := some 148) (v := ?_) (a' := ?_) #[true, true, true, false, false, false, false, false, false, false, false, false, false, false, false, false, false, false, false, false, false, false] rfl rfl (by kernel_rfl) (fun _ _ _ h => h) (Or.inl ⟨by rfl, ?_⟩) ?_ ?_
                    rotate_left
                    · intro w'
                      go_simp
                      with_reducible rfl
                    rotate_left
                    · simp only [Act.put, List.setIfInBounds_toArray, List.set_cons_zero, List.set_cons_succ]
                      rfl
                    refine pure_ (i := 3) (N := some 149) (v := ?_) (a' := ?_) #[true, true, true, true, false, false, false, false, false, false, false, false, false, false, false, false, false, false, false, false, false, false] rfl rfl (by kernel_rfl) (fun _ _ _ h => h) (Or.inl ⟨by rfl, ?_⟩) ?_ ?_
                    rotate_left
                    · intro w'
                      go_simp
                      with_reducible rfl
                    rotate_left
                    · simp only [Act.put, List.setIfInBounds_toArray, List.set_cons_zero, List.set_cons_succ]
                      rfl
                    refine take_ (i := 4) (N := some 150) (v := ?_) (a' := ?_) #[true, true, true, true, true, false, false, false, false, false, false, false, false, false, false, false, false, false, false, false, false, false] rfl rfl (by kernel_rfl) (fun _ _ _ h => h) (Or.inl ⟨by rfl, ?_⟩) hHeld ?_ ?_
                    rotate_left
                    · rintro w' ⟨s0, s1, s2⟩
                      go_simp
                      with_reducible rfl
                    rotate_left
                    · simp only [Act.put, List.setIfInBounds_toArray, List.set_cons_zero, List.set_cons_succ]
                      rfl
                    refine pure_ (i := 5) (N := some 151) (v := ?_) (a' := ?_) #[true, true, true, true, true, true, false, false, false, false, false, false, false, false, false, false, false, false, false, false, false, false] rfl rfl (by kernel_rfl) (fun _ _ _ h => h) (Or.inl ⟨by rfl, ?_⟩) ?_ ?_
                    rotate_left
                    · intro w'
                      go_simp
                      with_reducible rfl
                    rotate_left
                    · simp only [Act.put, List.setIfInBounds_toArray, List.set_cons_zero, List.set_cons_succ]
                      rfl
                    (try rw [(i64_w mf).trans EW.out])
                    refine pure_ (i := 6) (N := some 152) (v := ?_) (a' := ?_) #[true, true, true, true, true, true, true, false, false, false, false, false, false, false, false, false, false, false, false, false, false, false] rfl rfl (by kernel_rfl) (fun _ _ _ h => h) (Or.inl ⟨by rfl, ?_⟩) ?_ ?_
                    rotate_left
                    · intro w'
                      go_simp
                      with_reducible rfl
                    rotate_left
                    · simp only [Act.put, List.setIfInBounds_toArray, List.set_cons_zero, List.set_cons_succ]
                      rfl
                    refine pure_ (i := 7) (N := some 153) (v := ?_) (a' := ?_) #[true, true, true, true, true, true, true, true, false, false, false, false, false, false, false, false, false, false, false, false, false, false] rfl rfl (by kernel_rfl) (fun _ _ _ h => h) (Or.inl ⟨by rfl, ?_⟩) ?_ ?_
                    rotate_left
                    · intro w'
                      go_simp
                      with_reducible rfl
                    rotate_left
                    · simp only [Act.put, List.setIfInBounds_toArray, List.set_cons_zero, List.set_cons_succ]
                      rfl
                    refine pure_ (i := 8) (N := some 154) (v := ?_) (a' := ?_) #[true, true, true, true, true, true, true, true, true, false, false, false, false, false, false, false, false, false, false, false, false, false] rfl rfl (by kernel_rfl) (fun _ _ _ h => h) (Or.inl ⟨by rfl, ?_⟩) ?_ ?_
                    rotate_left
                    · intro w'
                      go_simp
                      with_reducible rfl
                    rotate_left
                    · simp only [Act.put, List.setIfInBounds_toArray, List.set_cons_zero, List.set_cons_succ]
                      rfl
                    refine pure_ (i := 9) (N := some 155) (v := ?_) (a' := ?_) #[true, true, true, true, true, true, true, true, true, true, false, false, false, false, false, false, false, false, false, false, false, false] rfl rfl (by kernel_rfl) (fun _ _ _ h => h) (Or.inl ⟨by rfl, ?_⟩) ?_ ?_
                    rotate_left
                    · intro w'
                      go_simp
                      with_reducible rfl
                    rotate_left
                    · simp only [Act.put, List.setIfInBounds_toArray, List.set_cons_zero, List.set_cons_succ]
                      rfl
                    refine pure_ (i := 10) (N := some 156) (v := undef) (a' := _) #[true, true, true, true, true, true, true, true, true, true, true, false, false, false, false, false, false, false, false, false, false, false] rfl rfl (by kernel_rfl) (fun _ _ _ h => h) (Or.inr ⟨by rfl, rfl⟩) rfl ?_
                    refine norm_ (a' := ?_) ?_ ?_
                    rotate_left
                    · simp only [Act.put, List.setIfInBounds_toArray, List.set_cons_zero, List.set_cons_succ]
                      rfl
                    refine pure_ (i := 11) (N := some 157) (v := undef) (a' := _) #[true, true, true, true, true, true, true, true, true, true, true, true, false, false, false, false, false, false, false, false, false, false] rfl rfl (by kernel_rfl) (fun _ _ _ h => h) (Or.inr ⟨by rfl, rfl⟩) rfl ?_
                    refine norm_ (a' := ?_) ?_ ?_
                    rotate_left
                    · simp only [Act.put, List.setIfInBounds_toArray, List.set_cons_zero, List.set_cons_succ]
                      rfl
                    refine pure_ (i := 12) (N := some 158) (v := undef) (a' := _) #[true, true, true, true, true, true, true, true, true, true, true, true, true, false, false, false, false, false, false, false, false, false] rfl rfl (by kernel_rfl) (fun _ _ _ h => h) (Or.inr ⟨by rfl, rfl⟩) rfl ?_
                    refine norm_ (a' := ?_) ?_ ?_
                    rotate_left
                    · simp only [Act.put, List.setIfInBounds_toArray, List.set_cons_zero, List.set_cons_succ]
                      rfl
                    refine pure_ (i := 13) (N := some 159) (v := undef) (a' := _) #[true, true, true, true, true, true, true, true, true, true, true, true, true, true, false, false, false, false, false, false, false, false] rfl rfl (by kernel_rfl) (fun _ _ _ h => h) (Or.inr ⟨by rfl, rfl⟩) rfl ?_
                    refine norm_ (a' := ?_) ?_ ?_
                    rotate_left
                    · simp only [Act.put, List.setIfInBounds_toArray, List.set_cons_zero, List.set_cons_succ]
                      rfl
                    refine pure_ (i := 14) (N := some 160) (v := undef) (a' := _) #[true, true, true, true, true, true, true, true, true, true, true, true, true, true, true, false, false, false, false, false, false, false] rfl rfl (by kernel_rfl) (fun _ _ _ h => h) (Or.inr ⟨by rfl, rfl⟩) rfl ?_
                    refine norm_ (a' := ?_) ?_ ?_
                    rotate_left
                    · simp only [Act.put, List.setIfInBounds_toArray, List.set_cons_zero, List.set_cons_succ]
                      rfl
                    refine pure_ (i := 15) (N := some 161) (v := undef) (a' := _) #[true, true, true, true, true, true, true, true, true, true, true, true, true, true, true, true, false, false, false, false, false, false] rfl rfl (by kernel_rfl) (fun _ _ _ h => h) (Or.inr ⟨by rfl, rfl⟩) rfl ?_
                    refine norm_ (a' := ?_) ?_ ?_
                    rotate_left
                    · simp only [Act.put, List.setIfInBounds_toArray, List.set_cons_zero, List.set_cons_succ]
                      rfl
                    refine pure_ (i := 16) (N := some 162) (v := undef) (a' := _) #[true, true, true, true, true, true, true, true, true, true, true, true, true, true, true, true, true, false, false, false, false, false] rfl rfl (by kernel_rfl) (fun _ _ _ h => h) (Or.inr ⟨by rfl, rfl⟩) rfl ?_
                    refine norm_ (a' := ?_) ?_ ?_
                    rotate_left
                    · simp only [Act.put, List.setIfInBounds_toArray, List.set_cons_zero, List.set_cons_succ]
                      rfl
                    refine pure_ (i := 17) (N := some 163) (v := undef) (a' := _) #[true, true, true, true, true, true, true, true, true, true, true, true, true, true, true, true, true, true, false, false, false, false] rfl rfl (by kernel_rfl) (fun _ _ _ h => h) (Or.inr ⟨by rfl, rfl⟩) rfl ?_
                    refine norm_ (a' := ?_) ?_ ?_
                    rotate_left
                    · simp only [Act.put, List.setIfInBounds_toArray, List.set_cons_zero, List.set_cons_succ]
                      rfl
                    refine pure_ (i := 18) (N := some 164) (v := undef) (a' := _) #[true, true, true, true, true, true, true, true, true, true, true, true, true, true, true, true, true, true, true, false, false, false] rfl rfl (by kernel_rfl) (fun _ _ _ h => h) (Or.inr ⟨by rfl, rfl⟩) rfl ?_
                    refine norm_ (a' := ?_) ?_ ?_
                    rotate_left
                    · simp only [Act.put, List.setIfInBounds_toArray, List.set_cons_zero, List.set_cons_succ]
                      rfl
                    refine pure_ (i := 19) (N := some 165) (v := undef) (a' := _) #[true, true, true, true, true, true, true, true, true, true, true, true, true, true, true, true, true, true, true, true, false, false] rfl rfl (by kernel_rfl) (fun _ _ _ h => h) (Or.inr ⟨by rfl, rfl⟩) rfl ?_
                    refine norm_ (a' := ?_) ?_ ?_
                    rotate_left
                    · simp only [Act.put, List.setIfInBounds_toArray, List.set_cons_zero, List.set_cons_succ]
                      rfl
                    refine pure_ (i := 20) (N := some 166) (v := undef) (a' := _) #[true, true, true, true, true, true, true, true, true, true, true, true, true, true, true, true, true, true, true, true, true, false] rfl rfl (by kernel_rfl) (fun _ _ _ h => h) (Or.inr ⟨by rfl, rfl⟩) rfl ?_
                    refine norm_ (a' := ?_) ?_ ?_
                    rotate_left
                    · simp only [Act.put, List.setIfInBounds_toArray, List.set_cons_zero, List.set_cons_succ]
                      rfl
                    refine pure_ (i := 21) (N := some 167) (v := ?_) (a' := ?_) #[true, true, true, true, true, true, true, true, true, true, true, true, true, true, true, true, true, true, true, true, true, true] rfl rfl (by kernel_rfl) (fun _ _ _ h => h) (Or.inl ⟨by rfl, ?_⟩) ?_ ?_
                    rotate_left
                    · intro w'
                      go_simp
                      with_reducible rfl
                    rotate_left
                    · simp only [Act.put, List.setIfInBounds_toArray, List.set_cons_zero, List.set_cons_succ]
                      rfl
                    refine done_ (by kernel_rfl) ?_
                    clear hHeld b0 b7 bu
                    have BC6 := Lib.hid (Blk.drew BC3.out)
                    have BU6 := Lib.hid (Blk.drew BU3.out)
                    have HB6 := Lib.hid (bdrewG HB3.out)
                    generalize wr.drew = w6 at BC6 BU6 HB6 ⊢
                    go_wp2_with fail
                    go_roundg (2 - (0 + 1))
                    case measure => omega
                    case rel => exact ⟨1, by omega, by omega, rfl, ⟨BC6.out⟩, ⟨BU6.out⟩, ⟨HB6.out⟩⟩
                  · have ef : (mf == 0) = false := beq_eq_false_iff_ne.2 hf
                    have ef2 : (mf != 0) = true := bne_iff_ne.2 hf
                    have eb : wrap64 (base - z0) = base - z0 := wrap_id (by have := HI.out.s0; have := HI.out.n1; have := HI.out.n0; have := HI.out.a1; omega) (by have := HI.out.s1; have := HI.out.a0; omega)
                    have ek : m0 = if base - z0 < 1 then 1 else base - z0 := HI.out.k0 hm hf
                    have EB := Lib.hid eb
                    have EK := Lib.hid ek
                    clear eb ek hm hf
                    have b0 : wr.cell? ⟨gc, 0, none⟩ = some (.int .i64 m0) := (BC3.out.cell 0).trans rfl
                    have b7 : wr.cell? ⟨gc, 7, none⟩ = some (.int .u8 mf) := (BC3.out.cell 7).trans rfl
                    have bu : wr.cell? ⟨gc + 1, 0, none⟩ = some (.int .i64 z0) := (BU3.out.cell 0).trans rfl
                    go_upto_region 30 with (fail)
                    refine start_ (n := 22) (S := (fun w' => w'.cell? ⟨gc, 0, none⟩ = some (.int .i64 m0) ∧ w'.cell? ⟨gc, 7, none⟩ = some (.int .u8 mf) ∧ w'.cell? ⟨gc + 1, 0, none⟩ = some (.int .i64 z0))) (ds := []) #[false, false, false, false, false, false, false, false, false, false, false, false, false, false, false, false, false, false, false, false, false, false] (by kernel_rfl) rfl (by kernel_rfl) ⟨b0, b7, bu⟩ (fun hHeld => ?_)
                    refine pure_ (i := 0) (N := some 146) (v := ?_) (a' := ?_) #[true, false, false, false, false, false, false, false, false, false, false, false, false, false, false, false, false, false, false, false, false, false] rfl rfl (by kernel_rfl) (fun _ _ _ h => h) (Or.inl ⟨by rfl, ?_⟩) ?_ ?_
                    rotate_left
                    · intro w'
                      go_simp
                      with_reducible rfl
                    rotate_left
                    · simp only [Act.put, List.setIfInBounds_toArray, List.set_cons_zero, List.set_cons_succ]
                      rfl
                    refine pure_ (i := 1) (N := some 147) (v := ?_) (a' := ?_) #[true, true, false, false, false, false, false, false, false, false, false, false, false, false, false, false, false, false, false, false, false, false] rfl rfl (by kernel_rfl) (fun _ _ _ h => h) (Or.inl ⟨by rfl, ?_⟩) ?_ ?_
                    rotate_left
                    · intro w'
                      go_simp
                      with_reducible rfl
                    rotate_left
                    · simp only [Act.put, List.setIfInBounds_toArray, List.set_cons_zero, List.set_cons_succ]
                      rfl
                    refine pure_ (i := 2) (N := some 148) (v := ?_) (a' := ?_) #[true, true, true, false, false, false, false, false, false, false, false, false, false, false, false, false, false, false, false, false, false, false] rfl rfl (by kernel_rfl) (fun _ _ _ h => h) (Or.inl ⟨by rfl, ?_⟩) ?_ ?_
                    rotate_left
                    · intro w'
                      go_simp
                      with_reducible rfl
                    rotate_left
                    · simp only [Act.put, List.setIfInBounds_toArray, List.set_cons_zero, List.set_cons_succ]
                      rfl
                    refine pure_ (i := 3) (N := some 149) (v := ?_) (a' := ?_) #[true, true, true, true, false, false, false, false, false, false, false, false, false, false, false, false, false, false, false, false, false, false] rfl rfl (by kernel_rfl) (fun _ _ _ h => h) (Or.inl ⟨by rfl, ?_⟩) ?_ ?_
                    rotate_left
                    · intro w'
                      go_simp
                      with_reducible rfl
                    rotate_left
                    · simp only [Act.put, List.setIfInBounds_toArray, List.set_cons_zero, List.set_cons_succ]
                      rfl
                    refine take_ (i := 4) (N := some 150) (v := ?_) (a' := ?_) #[true, true, true, true, true, false, false, false, false, false, false, false, false, false, false, false, false, false, false, false, false, false] rfl rfl (by kernel_rfl) (fun _ _ _ h => h) (Or.inl ⟨by rfl, ?_⟩) hHeld ?_ ?_
                    rotate_left
                    · rintro w' ⟨s0, s1, s2⟩
                      go_simp
                      with_reducible rfl
                    rotate_left
                    · simp only [Act.put, List.setIfInBounds_toArray, List.set_cons_zero, List.set_cons_succ]
                      rfl
                    refine pure_ (i := 5) (N := some 151) (v := ?_) (a' := ?_) #[true, true, true, true, true, true, false, false, false, false, false, false, false, false, false, false, false, false, false, false, false, false] rfl rfl (by kernel_rfl) (fun _ _ _ h => h) (Or.inl ⟨by rfl, ?_⟩) ?_ ?_
                    rotate_left
                    · intro w'
                      go_simp
                      with_reducible rfl
                    rotate_left
                    · simp only [Act.put, List.setIfInBounds_toArray, List.set_cons_zero, List.set_cons_succ]
                      rfl
                    (try rw [(i64_w mf).trans EW.out])
                    refine pure_ (i := 6) (N := some 152) (v := ?_) (a' := ?_) #[true, true, true, true, true, true, true, false, false, false, false, false, false, false, false, false, false, false, false, false, false, false] rfl rfl (by kernel_rfl) (fun _ _ _ h => h) (Or.inl ⟨by rfl, ?_⟩) ?_ ?_
                    rotate_left
                    · intro w'
                      go_simp
                      with_reducible rfl
                    rotate_left
                    · simp only [Act.put, List.setIfInBounds_toArray, List.set_cons_zero, List.set_cons_succ]
                      rfl
                    refine pure_ (i := 7) (N := some 153) (v := ?_) (a' := ?_) #[true, true, true, true, true, true, true, true, false, false, false, false, false, false, false, false, false, false, false, false, false, false] rfl rfl (by kernel_rfl) (fun _ _ _ h => h) (Or.inl ⟨by rfl, ?_⟩) ?_ ?_
                    rotate_left
                    · intro w'
                      go_simp
                      with_reducible rfl
                    rotate_left
                    · simp only [Act.put, List.setIfInBounds_toArray, List.set_cons_zero, List.set_cons_succ]
                      rfl
                    refine pure_ (i := 8) (N := some 154) (v := ?_) (a' := ?_) #[true, true, true, true, true, true, true, true, true, false, false, false, false, false, false, false, false, false, false, false, false, false] rfl rfl (by kernel_rfl) (fun _ _ _ h => h) (Or.inl ⟨by rfl, ?_⟩) ?_ ?_
                    rotate_left
                    · intro w'
                      go_simp
                      with_reducible rfl
                    rotate_left
                    · simp only [Act.put, List.setIfInBounds_toArray, List.set_cons_zero, List.set_cons_succ]
                      rfl
                    refine pure_ (i := 9) (N := some 155) (v := ?_) (a' := ?_) #[true, true, true, true, true, true, true, true, true, true, false, false, false, false, false, false, false, false, false, false, false, false] rfl rfl (by kernel_rfl) (fun _ _ _ h => h) (Or.inl ⟨by rfl, ?_⟩) ?_ ?_
                    rotate_left
                    · intro w'
                      go_simp
                      with_reducible rfl
                    rotate_left
                    · simp only [Act.put, List.setIfInBounds_toArray, List.set_cons_zero, List.set_cons_succ]
                      rfl
                    refine pure_ (i := 10) (N := some 156) (v := ?_) (a' := ?_) #[true, true, true, true, true, true, true, true, true, true, true, false, false, false, false, false, false, false, false, false, false, false] rfl rfl (by kernel_rfl) (fun _ _ _ h => h) (Or.inl ⟨by rfl, ?_⟩) ?_ ?_
                    rotate_left
                    · intro w'
                      go_simp
                      with_reducible rfl
                    rotate_left
                    · simp only [Act.put, List.setIfInBounds_toArray, List.set_cons_zero, List.set_cons_succ]
                      rfl
                    refine pure_ (i := 11) (N := some 157) (v := ?_) (a' := ?_) #[true, true, true, true, true, true, true, true, true, true, true, true, false, false, false, false, false, false, false, false, false, false] rfl rfl (by kernel_rfl) (fun _ _ _ h => h) (Or.inl ⟨by rfl, ?_⟩) ?_ ?_
                    rotate_left
                    · intro w'
                      go_simp
                      with_reducible rfl
                    rotate_left
                    · simp only [Act.put, List.setIfInBounds_toArray, List.set_cons_zero, List.set_cons_succ]
                      rfl
                    refine pure_ (i := 12) (N := some 158) (v := ?_) (a' := ?_) #[true, true, true, true, true, true, true, true, true, true, true, true, true, false, false, false, false, false, false, false, false, false] rfl rfl (by kernel_rfl) (fun _ _ _ h => h) (Or.inl ⟨by rfl, ?_⟩) ?_ ?_
                    rotate_left
                    · intro w'
                      go_simp
                      with_reducible rfl
                    rotate_left
                    · simp only [Act.put, List.setIfInBounds_toArray, List.set_cons_zero, List.set_cons_succ]
                      rfl
                    refine take_ (i := 13) (N := some 159) (v := ?_) (a' := ?_) #[true, true, true, true, true, true, true, true, true, true, true, true, true, true, false, false, false, false, false, false, false, false] rfl rfl (by kernel_rfl) (fun _ _ _ h => h) (Or.inl ⟨by rfl, ?_⟩) hHeld ?_ ?_
                    rotate_left
                    · rintro w' ⟨s0, s1, s2⟩
                      go_simp
                      with_reducible rfl
                    rotate_left
                    · simp only [Act.put, List.setIfInBounds_toArray, List.set_cons_zero, List.set_cons_succ]
                      rfl
                    refine pure_ (i := 14) (N := some 160) (v := ?_) (a' := ?_) #[true, true, true, true, true, true, true, true, true, true, true, true, true, true, true, false, false, false, false, false, false, false] rfl rfl (by kernel_rfl) (fun _ _ _ h => h) (Or.inl ⟨by rfl, ?_⟩) ?_ ?_
                    rotate_left
                    · intro w'
                      go_simp
                      with_reducible rfl
                    rotate_left
                    · simp only [Act.put, List.setIfInBounds_toArray, List.set_cons_zero, List.set_cons_succ]
                      rfl
                    refine pure_ (i := 15) (N := some 161) (v := ?_) (a' := ?_) #[true, true, true, true, true, true, true, true, true, true, true, true, true, true, true, true, false, false, false, false, false, false] rfl rfl (by kernel_rfl) (fun _ _ _ h => h) (Or.inl ⟨by rfl, ?_⟩) ?_ ?_
                    rotate_left
                    · intro w'
                      go_simp
                      with_reducible rfl
                    rotate_left
                    · simp only [Act.put, List.setIfInBounds_toArray, List.set_cons_zero, List.set_cons_succ]
                      rfl
                    refine pure_ (i := 16) (N := some 162) (v := ?_) (a' := ?_) #[true, true, true, true, true, true, true, true, true, true, true, true, true, true, true, true, true, false, false, false, false, false] rfl rfl (by kernel_rfl) (fun _ _ _ h => h) (Or.inl ⟨by rfl, ?_⟩) ?_ ?_
                    rotate_left
                    · intro w'
                      go_simp
                      with_reducible rfl
                    rotate_left
                    · simp only [Act.put, List.setIfInBounds_toArray, List.set_cons_zero, List.set_cons_succ]
                      rfl
                    refine take_ (i := 17) (N := some 163) (v := ?_) (a' := ?_) #[true, true, true, true, true, true, true, true, true, true, true, true, true, true, true, true, true, true, false, false, false, false] rfl rfl (by kernel_rfl) (fun _ _ _ h => h) (Or.inl ⟨by rfl, ?_⟩) hHeld ?_ ?_
                    rotate_left
                    · rintro w' ⟨s0, s1, s2⟩
                      go_simp
                      with_reducible rfl
                    rotate_left
                    · simp only [Act.put, List.setIfInBounds_toArray, List.set_cons_zero, List.set_cons_succ]
                      rfl
                    refine pure_ (i := 18) (N := some 164) (v := ?_) (a' := ?_) #[true, true, true, true, true, true, true, true, true, true, true, true, true, true, true, true, true, true, true, false, false, false] rfl rfl (by kernel_rfl) (fun _ _ _ h => h) (Or.inl ⟨by rfl, ?_⟩) ?_ ?_
                    rotate_left
                    · intro w'
                      go_simp
                      with_reducible rfl
                    rotate_left
                    · simp only [Act.put, List.setIfInBounds_toArray, List.set_cons_zero, List.set_cons_succ]
                      rfl
                    rw [(i64_w (base - z0)).trans EB.out]
                    refine pure_ (i := 19) (N := some 165) (v := ?_) (a' := ?_) #[true, true, true, true, true, true, true, true, true, true, true, true, true, true, true, true, true, true, true, true, false, false] rfl rfl (by kernel_rfl) (fun _ _ _ h => h) (Or.inl ⟨by rfl, ?_⟩) ?_ ?_
                    rotate_left
                    · intro w'
                      go_simp
                      with_reducible rfl
                    rotate_left
                    · simp only [Act.put, List.setIfInBounds_toArray, List.set_cons_zero, List.set_cons_succ]
                      rfl
                    rw [← EK.out]
                    refine pure_ (i := 20) (N := some 166) (v := ?_) (a' := ?_) #[true, true, true, true, true, true, true, true, true, true, true, true, true, true, true, true, true, true, true, true, true, false] rfl rfl (by kernel_rfl) (fun _ _ _ h => h) (Or.inl ⟨by rfl, ?_⟩) ?_ ?_
                    rotate_left
                    · intro w'
                      go_simp
                      with_reducible rfl
                    rotate_left
                    · simp only [Act.put, List.setIfInBounds_toArray, List.set_cons_zero, List.set_cons_succ]
                      rfl
                    refine pure_ (i := 21) (N := some 167) (v := ?_) (a' := ?_) #[true, true, true, true, true, true, true, true, true, true, true, true, true, true, true, true, true, true, true, true, true, true] rfl rfl (by kernel_rfl) (fun _ _ _ h => h) (Or.inl ⟨by rfl, ?_⟩) ?_ ?_
                    rotate_left
                    · intro w'
                      go_simp
                      with_reducible rfl
                    rotate_left
                    · simp only [Act.put, List.setIfInBounds_toArray, List.set_cons_zero, List.set_cons_succ]
                      rfl
                    refine done_ (by kernel_rfl) ?_
                    clear hHeld b0 b7 bu
                    have BC6 := Lib.hid (Blk.drew BC3.out)
                    have BU6 := Lib.hid (Blk.drew BU3.out)
                    have HB6 := Lib.hid (bdrewG HB3.out)
                    generalize wr.drew = w6 at BC6 BU6 HB6 ⊢
                    go_wp2_with fail
                    go_roundg (2 - (0 + 1))
                    case measure => omega
                    case rel => exact ⟨1, by omega, by omega, rfl, ⟨BC6.out⟩, ⟨BU6.out⟩, ⟨HB6.out⟩⟩
                · have hmb : (more == 0) = false := beq_eq_false_iff_ne.2 hm
                  clear hm
                  have b0 : wr.cell? ⟨gc, 0, none⟩ = some (.int .i64 m0) := (BC3.out.cell 0).trans rfl
                  have b7 : wr.cell? ⟨gc, 7, none⟩ = some (.int .u8 mf) := (BC3.out.cell 7).trans rfl
                  have bu : wr.cell? ⟨gc + 1, 0, none⟩ = some (.int .i64 z0) := (BU3.out.cell 0).trans rfl
                  go_upto_region 30 with (fail)
                  refine start_ (n := 22) (S := (fun w' => w'.cell? ⟨gc, 0, none⟩ = some (.int .i64 m0) ∧ w'.cell? ⟨gc, 7, none⟩ = some (.int .u8 mf) ∧ w'.cell? ⟨gc + 1, 0, none⟩ = some (.int .i64 z0))) (ds := []) #[false, false, false, false, false, false, false, false, false, false, false, false, false, false, false, false, false, false, false, false, false, false] (by kernel_rfl) rfl (by kernel_rfl) ⟨b0, b7, bu⟩ (fun hHeld => ?_)
                  refine pure_ (i := 0) (N := some 146) (v := ?_) (a' := ?_) #[true, false, false, false, false, false, false, false, false, false, false, false, false, false, false, false, false, false, false, false, false, false] rfl rfl (by kernel_rfl) (fun _ _ _ h => h) (Or.inl ⟨by rfl, ?_⟩) ?_ ?_
                  rotate_left
                  · intro w'
                    go_simp
                    with_reducible rfl
                  rotate_left
                  · simp only [Act.put, List.setIfInBounds_toArray, List.set_cons_zero, List.set_cons_succ]
                    rfl
                  refine pure_ (i := 1) (N := some 147) (v := ?_) (a' := ?_) #[true, true, false, false, false, false, false, false, false, false, false, false, false, false, false, false, false, false, false, false, false, false] rfl rfl (by kernel_rfl) (fun _ _ _ h => h) (Or.inl ⟨by rfl, ?_⟩) ?_ ?_
                  rotate_left
                  · intro w'
                    go_simp
                    with_reducible rfl
                  rotate_left
                  · simp only [Act.put, List.setIfInBounds_toArray, List.set_cons_zero, List.set_cons_succ]
                    rfl
                  refine pure_ (i := 2) (N := some 148) (v := ?_) (a' := ?_) #[true, true, true, false, false, false, false, false, false, false, false, false, false, false, false, false, false, false, false, false, false, false] rfl rfl (by kernel_rfl) (fun _ _ _ h => h) (Or.inl ⟨by rfl, ?_⟩) ?_ ?_
                  rotate_left
                  · intro w'
                    go_simp
                    with_reducible rfl
                  rotate_left
                  · simp only [Act.put, List.setIfInBounds_toArray, List.set_cons_zero, List.set_cons_succ]
                    rfl
                  refine pure_ (i := 3) (N := some 149) (v := undef) (a' := _) #[true, true, true, true, false, false, false, false, false, false, false, false, false, false, false, false, false, false, false, false, false, false] rfl rfl (by kernel_rfl) (fun _ _ _ h => h) (Or.inr ⟨by rfl, rfl⟩) rfl ?_
                  refine norm_ (a' := ?_) ?_ ?_
                  rotate_left
                  · simp only [Act.put, List.setIfInBounds_toArray, List.set_cons_zero, List.set_cons_succ]
                    rfl
                  refine pure_ (i := 4) (N := some 150) (v := undef) (a' := _) #[true, true, true, true, true, false, false, false, false, false, false, false, false, false, false, false, false, false, false, false, false, false] rfl rfl (by kernel_rfl) (fun _ _ _ h => h) (Or.inr ⟨by rfl, rfl⟩) rfl ?_
                  refine norm_ (a' := ?_) ?_ ?_
                  rotate_left
                  · simp only [Act.put, List.setIfInBounds_toArray, List.set_cons_zero, List.set_cons_succ]
                    rfl
                  refine pure_ (i := 5) (N := some 151) (v := undef) (a' := _) #[true, true, true, true, true, true, false, false, false, false, false, false, false, false, false, false, false, false, false, false, false, false] rfl rfl (by kernel_rfl) (fun _ _ _ h => h) (Or.inr ⟨by rfl, rfl⟩) rfl ?_
                  refine norm_ (a' := ?_) ?_ ?_
                  rotate_left
                  · simp only [Act.put, List.setIfInBounds_toArray, List.set_cons_zero, List.set_cons_succ]
                    rfl
                  refine pure_ (i := 6) (N := some 152) (v := undef) (a' := _) #[true, true, true, true, true, true, true, false, false, false, false, false, false, false, false, false, false, false, false, false, false, false] rfl rfl (by kernel_rfl) (fun _ _ _ h => h) (Or.inr ⟨by rfl, rfl⟩) rfl ?_
                  refine norm_ (a' := ?_) ?_ ?_
                  rotate_left
                  · simp only [Act.put, List.setIfInBounds_toArray, List.set_cons_zero, List.set_cons_succ]
                    rfl
                  refine pure_ (i := 7) (N := some 153) (v := undef) (a' := _) #[true, true, true, true, true, true, true, true, false, false, false, false, false, false, false, false, false, false, false, false, false, false] rfl rfl (by kernel_rfl) (fun _ _ _ h => h) (Or.inr ⟨by rfl, rfl⟩) rfl ?_
                  refine norm_ (a' := ?_) ?_ ?_
                  rotate_left
                  · simp only [Act.put, List.setIfInBounds_toArray, List.set_cons_zero, List.set_cons_succ]
                    rfl
                  refine pure_ (i := 8) (N := some 154) (v := ?_) (a' := ?_) #[true, true, true, true, true, true, true, true, true, false, false, false, false, false, false, false, false, false, false, false, false, false] rfl rfl (by kernel_rfl) (fun _ _ _ h => h) (Or.inl ⟨by rfl, ?_⟩) ?_ ?_
                  rotate_left
                  · intro w'
                    go_simp
                    with_reducible rfl
                  rotate_left
                  · simp only [Act.put, List.setIfInBounds_toArray, List.set_cons_zero, List.set_cons_succ]
                    rfl
                  refine pure_ (i := 9) (N := some 155) (v := ?_) (a' := ?_) #[true, true, true, true, true, true, true, true, true, true, false, false, false, false, false, false, false, false, false, false, false, false] rfl rfl (by kernel_rfl) (fun _ _ _ h => h) (Or.inl ⟨by rfl, ?_⟩) ?_ ?_
                  rotate_left
                  · intro w'
                    go_simp
                    with_reducible rfl
                  rotate_left
                  · simp only [Act.put, List.setIfInBounds_toArray, List.set_cons_zero, List.set_cons_succ]
                    rfl
                  refine pure_ (i := 10) (N := some 156) (v := undef) (a' := _) #[true, true, true, true, true, true, true, true, true, true, true, false, false, false, false, false, false, false, false, false, false, false] rfl rfl (by kernel_rfl) (fun _ _ _ h => h) (Or.inr ⟨by rfl, rfl⟩) rfl ?_
                  refine norm_ (a' := ?_) ?_ ?_
                  rotate_left
                  · simp only [Act.put, List.setIfInBounds_toArray, List.set_cons_zero, List.set_cons_succ]
                    rfl
                  refine pure_ (i := 11) (N := some 157) (v := undef) (a' := _) #[true, true, true, true, true, true, true, true, true, true, true, true, false, false, false, false, false, false, false, false, false, false] rfl rfl (by kernel_rfl) (fun _ _ _ h => h) (Or.inr ⟨by rfl, rfl⟩) rfl ?_
                  refine norm_ (a' := ?_) ?_ ?_
                  rotate_left
                  · simp only [Act.put, List.setIfInBounds_toArray, List.set_cons_zero, List.set_cons_succ]
                    rfl
                  refine pure_ (i := 12) (N := some 158) (v := undef) (a' := _) #[true, true, true, true, true, true, true, true, true, true, true, true, true, false, false, false, false, false, false, false, false, false] rfl rfl (by kernel_rfl) (fun _ _ _ h => h) (Or.inr ⟨by rfl, rfl⟩) rfl ?_
                  refine norm_ (a' := ?_) ?_ ?_
                  rotate_left
                  · simp only [Act.put, List.setIfInBounds_toArray, List.set_cons_zero, List.set_cons_succ]
                    rfl
                  refine pure_ (i := 13) (N := some 159) (v := undef) (a' := _) #[true, true, true, true, true, true, true, true, true, true, true, true, true, true, false, false, false, false, false, false, false, false] rfl rfl (by kernel_rfl) (fun _ _ _ h => h) (Or.inr ⟨by rfl, rfl⟩) rfl ?_
                  refine norm_ (a' := ?_) ?_ ?_
                  rotate_left
                  · simp only [Act.put, List.setIfInBounds_toArray, List.set_cons_zero, List.set_cons_succ]
                    rfl
                  refine pure_ (i := 14) (N := some 160) (v := undef) (a' := _) #[true, true, true, true, true, true, true, true, true, true, true, true, true, true, true, false, false, false, false, false, false, false] rfl rfl (by kernel_rfl) (fun _ _ _ h => h) (Or.inr ⟨by rfl, rfl⟩) rfl ?_
                  refine norm_ (a' := ?_) ?_ ?_
                  rotate_left
                  · simp only [Act.put, List.setIfInBounds_toArray, List.set_cons_zero, List.set_cons_succ]
                    rfl
                  refine pure_ (i := 15) (N := some 161) (v := undef) (a' := _) #[true, true, true, true, true, true, true, true, true, true, true, true, true, true, true, true, false, false, false, false, false, false] rfl rfl (by kernel_rfl) (fun _ _ _ h => h) (Or.inr ⟨by rfl, rfl⟩) rfl ?_
                  refine norm_ (a' := ?_) ?_ ?_
                  rotate_left
                  · simp only [Act.put, List.setIfInBounds_toArray, List.set_cons_zero, List.set_cons_succ]
                    rfl
                  refine pure_ (i := 16) (N := some 162) (v := undef) (a' := _) #[true, true, true, true, true, true, true, true, true, true, true, true, true, true, true, true, true, false, false, false, false, false] rfl rfl (by kernel_rfl) (fun _ _ _ h => h) (Or.inr ⟨by rfl, rfl⟩) rfl ?_
                  refine norm_ (a' := ?_) ?_ ?_
                  rotate_left
                  · simp only [Act.put, List.setIfInBounds_toArray, List.set_cons_zero, List.set_cons_succ]
                    rfl
                  refine pure_ (i := 17) (N := some 163) (v := undef) (a' := _) #[true, true, true, true, true, true, true, true, true, true, true, true, true, true, true, true, true, true, false, false, false, false] rfl rfl (by kernel_rfl) (fun _ _ _ h => h) (Or.inr ⟨by rfl, rfl⟩) rfl ?_
                  refine norm_ (a' := ?_) ?_ ?_
                  rotate_left
                  · simp only [Act.put, List.setIfInBounds_toArray, List.set_cons_zero, List.set_cons_succ]
                    rfl
                  refine pure_ (i := 18) (N := some 164) (v := undef) (a' := _) #[true, true, true, true, true, true, true, true, true, true, true, true, true, true, true, true, true, true, true, false, false, false] rfl rfl (by kernel_rfl) (fun _ _ _ h => h) (Or.inr ⟨by rfl, rfl⟩) rfl ?_
                  refine norm_ (a' := ?_) ?_ ?_
                  rotate_left
                  · simp only [Act.put, List.setIfInBounds_toArray, List.set_cons_zero, List.set_cons_succ]
                    rfl
                  refine pure_ (i := 19) (N := some 165) (v := undef) (a' := _) #[true, true, true, true, true, true, true, true, true, true, true, true, true, true, true, true, true, true, true, true, false, false] rfl rfl (by kernel_rfl) (fun _ _ _ h => h) (Or.inr ⟨by rfl, rfl⟩) rfl ?_
                  refine norm_ (a' := ?_) ?_ ?_
                  rotate_left
                  · simp only [Act.put, List.setIfInBounds_toArray, List.set_cons_zero, List.set_cons_succ]
                    rfl
                  refine pure_ (i := 20) (N := some 166) (v := undef) (a' := _) #[true, true, true, true, true, true, true, true, true, true, true, true, true, true, true, true, true, true, true, true, true, false] rfl rfl (by kernel_rfl) (fun _ _ _ h => h) (Or.inr ⟨by rfl, rfl⟩) rfl ?_
                  refine norm_ (a' := ?_) ?_ ?_
                  rotate_left
                  · simp only [Act.put, List.setIfInBounds_toArray, List.set_cons_zero, List.set_cons_succ]
                    rfl
                  refine pure_ (i := 21) (N := some 167) (v := ?_) (a' := ?_) #[true, true, true, true, true, true, true, true, true, true, true, true, true, true, true, true, true, true, true, true, true, true] rfl rfl (by kernel_rfl) (fun _ _ _ h => h) (Or.inl ⟨by rfl, ?_⟩) ?_ ?_
                  rotate_left
                  · intro w'
                    go_simp
                    with_reducible rfl
                  rotate_left
                  · simp only [Act.put, List.setIfInBounds_toArray, List.set_cons_zero, List.set_cons_succ]
                    rfl
                  refine done_ (by kernel_rfl) ?_
                  clear hHeld b0 b7 bu
                  have BC6 := Lib.hid (Blk.drew BC3.out)
                  have BU6 := Lib.hid (Blk.drew BU3.out)
                  have HB6 := Lib.hid (bdrewG HB3.out)
                  generalize wr.drew = w6 at BC6 BU6 HB6 ⊢
                  go_wp2_with fail
                  go_roundg (2 - (0 + 1))
                  case measure => omega
                  case rel => exact ⟨1, by omega, by omega, rfl, ⟨BC6.out⟩, ⟨BU6.out⟩, ⟨HB6.out⟩⟩
              · by_cases hm : more = 0
                · have hmb : (more == 0) = true := beq_iff_eq.2 hm
                  have ew : wrap64 mf = mf := wrap_id (by have := HI.out.f0; omega) (by have := HI.out.f0; rcases HI.out.may.2.2.2.2.2.2.2.2 with h | h <;> omega)
                  have EW := Lib.hid ew
                  clear ew
                  by_cases hf : mf = 1
                  · have ef : (mf == 1) = true := beq_iff_eq.2 hf
                    have ef2 : (mf != 1) = false := by rw [hf]; rfl
                    clear hm hf
                    have b0 : wr.cell? ⟨gc, 1, none⟩ = some (.int .i64 m1) := (BC3.out.cell 1).trans rfl
                    have b7 : wr.cell? ⟨gc, 7, none⟩ = some (.int .u8 mf) := (BC3.out.cell 7).trans rfl
                    have bu : wr.cell? ⟨gc + 1, 1, none⟩ = some (.int .i64 z1) := (BU3.out.cell 1).trans rfl
                    go_upto_region 30 with (fail)
                    refine start_ (n := 22) (S := (fun w' => w'.cell? ⟨gc, 1, none⟩ = some (.int .i64 m1) ∧ w'.cell? ⟨gc, 7, none⟩ = some (.int .u8 mf) ∧ w'.cell? ⟨gc + 1, 1, none⟩ = some (.int .i64 z1))) (ds := []) #[false, false, false, false, false, false, false, false, false, false, false, false, false, false, false, false, false, false, false, false, false, false] (by kernel_rfl) rfl (by kernel_rfl) ⟨b0, b7, bu⟩ (fun hHeld => ?_)
                    refine pure_ (i := 0) (N := some 146) (v := ?_) (a' := ?_) #[true, false, false, false, false, false, false, false, false, false, false, false, false, false, false, false, false, false, false, false, false, false] rfl rfl (by kernel_rfl) (fun _ _ _ h => h) (Or.inl ⟨by rfl, ?_⟩) ?_ ?_
                    rotate_left
                    · intro w'
                      go_simp
                      with_reducible rfl
                    rotate_left
                    · simp only [Act.put, List.setIfInBounds_toArray, List.set_cons_zero, List.set_cons_succ]
                      rfl
                    refine pure_ (i := 1) (N := some 147) (v := ?_) (a' := ?_) #[true, true, false, false, false, false, false, false, false, false, false, false, false, false, false, false, false, false, false, false, false, false] rfl rfl (by kernel_rfl) (fun _ _ _ h => h) (Or.inl ⟨by rfl, ?_⟩) ?_ ?_
                    rotate_left
                    · intro w'
                      go_simp
                      with_reducible rfl
                    rotate_left
                    · simp only [Act.put, List.setIfInBounds_toArray, List.set_cons_zero, List.set_cons_succ]
                      rfl
                    refine pure_ (i := 2) (N := some 148) (v := ?_) (a' := ?_) #[true, true, true, false, false, false, false, false, false, false, false, false, false, false, false, false, false, false, false, false, false, false] rfl rfl (by kernel_rfl) (fun _ _ _ h => h) (Or.inl ⟨by rfl, ?_⟩) ?_ ?_
                    rotate_left
                    · intro w'
                      go_simp
                      with_reducible rfl
                    rotate_left
                    · simp only [Act.put, List.setIfInBounds_toArray, List.set_cons_zero, List.set_cons_succ]
                      rfl
                    refine pure_ (i := 3) (N := some 149) (v := ?_) (a' := ?_) #[true, true, true, true, false, false, false, false, false, false, false, false, false, false, false, false, false, false, false, false, false, false] rfl rfl (by kernel_rfl) (fun _ _ _ h => h) (Or.inl ⟨by rfl, ?_⟩) ?_ ?_
                    rotate_left
                    · intro w'
                      go_simp
                      with_reducible rfl
                    rotate_left
                    · simp only [Act.put, List.setIfInBounds_toArray, List.set_cons_zero, List.set_cons_succ]
                      rfl
                    refine take_ (i := 4) (N := some 150) (v := ?_) (a' := ?_) #[true, true, true, true, true, false, false, false, false, false, false, false, false, false, false, false, false, false, false, false, false, false] rfl rfl (by kernel_rfl) (fun _ _ _ h => h) (Or.inl ⟨by rfl, ?_⟩) hHeld ?_ ?_
                    rotate_left
                    · rintro w' ⟨s0, s1, s2⟩
                      go_simp
                      with_reducible rfl
                    rotate_left
                    · simp only [Act.put, List.setIfInBounds_toArray, List.set_cons_zero, List.set_cons_succ]
                      rfl
                    refine pure_ (i := 5) (N := some 151) (v := ?_) (a' := ?_) #[true, true, true, true, true, true, false, false, false, false, false, false, false, false, false, false, false, false, false, false, false, false] rfl rfl (by kernel_rfl) (fun _ _ _ h => h) (Or.inl ⟨by rfl, ?_⟩) ?_ ?_
                    rotate_left
                    · intro w'
                      go_simp
                      with_reducible rfl
                    rotate_left
                    · simp only [Act.put, List.setIfInBounds_toArray, List.set_cons_zero, List.set_cons_succ]
                      rfl
                    (try rw [(i64_w mf).trans EW.out])
                    refine pure_ (i := 6) (N := some 152) (v := ?_) (a' := ?_) #[true, true, true, true, true, true, true, false, false, false, false, false, false, false, false, false, false, false, false, false, false, false] rfl rfl (by kernel_rfl) (fun _ _ _ h => h) (Or.inl ⟨by rfl, ?_⟩) ?_ ?_
                    rotate_left
                    · intro w'
                      go_simp
                      with_reducible rfl
                    rotate_left
                    · simp only [Act.put, List.setIfInBounds_toArray, List.set_cons_zero, List.set_cons_succ]
                      rfl
                    refine pure_ (i := 7) (N := some 153) (v := ?_) (a' := ?_) #[true, true, true, true, true, true, true, true, false, false, false, false, false, false, false, false, false, false, false, false, false, false] rfl rfl (by kernel_rfl) (fun _ _ _ h => h) (Or.inl ⟨by rfl, ?_⟩) ?_ ?_
                    rotate_left
                    · intro w'
                      go_simp
                      with_reducible rfl
                    rotate_left
                    · simp only [Act.put, List.setIfInBounds_toArray, List.set_cons_zero, List.set_cons_succ]
                      rfl
                    refine pure_ (i := 8) (N := some 154) (v := ?_) (a' := ?_) #[true, true, true, true, true, true, true, true, true, false, false, false, false, false, false, false, false, false, false, false, false, false] rfl rfl (by kernel_rfl) (fun _ _ _ h => h) (Or.inl ⟨by rfl, ?_⟩) ?_ ?_
                    rotate_left
                    · intro w'
                      go_simp
                      with_reducible rfl
                    rotate_left
                    · simp only [Act.put, List.setIfInBounds_toArray, List.set_cons_zero, List.set_cons_succ]
                      rfl
                    refine pure_ (i := 9) (N := some 155) (v := ?_) (a' := ?_) #[true, true, true, true, true, true, true, true, true, true, false, false, false, false, false, false, false, false, false, false, false, false] rfl rfl (by kernel_rfl) (fun _ _ _ h => h) (Or.inl ⟨by rfl, ?_⟩) ?_ ?_
                    rotate_left
                    · intro w'
                      go_simp
                      with_reducible rfl
                    rotate_left
                    · simp only [Act.put, List.setIfInBounds_toArray, List.set_cons_zero, List.set_cons_succ]
                      rfl
                    refine pure_ (i := 10) (N := some 156) (v := undef) (a' := _) #[true, true, true, true, true, true, true, true, true, true, true, false, false, false, false, false, false, false, false, false, false, false] rfl rfl (by kernel_rfl) (fun _ _ _ h => h) (Or.inr ⟨by rfl, rfl⟩) rfl ?_
                    refine norm_ (a' := ?_) ?_ ?_
                    rotate_left
                    · simp only [Act.put, List.setIfInBounds_toArray, List.set_cons_zero, List.set_cons_succ]
                      rfl
                    refine pure_ (i := 11) (N := some 157) (v := undef) (a' := _) #[true, true, true, true, true, true, true, true, true, true, true, true, false, false, false, false, false, false, false, false, false, false] rfl rfl (by kernel_rfl) (fun _ _ _ h => h) (Or.inr ⟨by rfl, rfl⟩) rfl ?_
                    refine norm_ (a' := ?_) ?_ ?_
                    rotate_left
                    · simp only [Act.put, List.setIfInBounds_toArray, List.set_cons_zero, List.set_cons_succ]
                      rfl
                    refine pure_ (i := 12) (N := some 158) (v := undef) (a' := _) #[true, true, true, true, true, true, true, true, true, true, true, true, true, false, false, false, false, false, false, false, false, false] rfl rfl (by kernel_rfl) (fun _ _ _ h => h) (Or.inr ⟨by rfl, rfl⟩) rfl ?_
                    refine norm_ (a' := ?_) ?_ ?_
                    rotate_left
                    · simp only [Act.put, List.setIfInBounds_toArray, List.set_cons_zero, List.set_cons_succ]
                      rfl
                    refine pure_ (i := 13) (N := some 159) (v := undef) (a' := _) #[true, true, true, true, true, true, true, true, true, true, true, true, true, true, false, false, false, false, false, false, false, false] rfl rfl (by kernel_rfl) (fun _ _ _ h => h) (Or.inr ⟨by rfl, rfl⟩) rfl ?_
                    refine norm_ (a' := ?_) ?_ ?_
                    rotate_left
                    · simp only [Act.put, List.setIfInBounds_toArray, List.set_cons_zero, List.set_cons_succ]
                      rfl
                    refine pure_ (i := 14) (N := some 160) (v := undef) (a' := _) #[true, true, true, true, true, true, true, true, true, true, true, true, true, true, true, false, false, false, false, false, false, false] rfl rfl (by kernel_rfl) (fun _ _ _ h => h) (Or.inr ⟨by rfl, rfl⟩) rfl ?_
                    refine norm_ (a' := ?_) ?_ ?_
                    rotate_left
                    · simp only [Act.put, List.setIfInBounds_toArray, List.set_cons_zero, List.set_cons_succ]
                      rfl
                    refine pure_ (i := 15) (N := some 161) (v := undef) (a' := _) #[true, true, true, true, true, true, true, true, true, true, true, true, true, true, true, true, false, false, false, false, false, false] rfl rfl (by kernel_rfl) (fun _ _ _ h => h) (Or.inr ⟨by rfl, rfl⟩) rfl ?_
                    refine norm_ (a' := ?_) ?_ ?_
                    rotate_left
                    · simp only [Act.put, List.setIfInBounds_toArray, List.set_cons_zero, List.set_cons_succ]
                      rfl
                    refine pure_ (i := 16) (N := some 162) (v := undef) (a' := _) #[true, true, true, true, true, true, true, true, true, true, true, true, true, true, true, true, true, false, false, false, false, false] rfl rfl (by kernel_rfl) (fun _ _ _ h => h) (Or.inr ⟨by rfl, rfl⟩) rfl ?_
                    refine norm_ (a' := ?_) ?_ ?_
                    rotate_left
                    · simp only [Act.put, List.setIfInBounds_toArray, List.set_cons_zero, List.set_cons_succ]
                      rfl
                    refine pure_ (i := 17) (N := some 163) (v := undef) (a' := _) #[true, true, true, true, true, true, true, true, true, true, true, true, true, true, true, true, true, true, false, false, false, false] rfl rfl (by kernel_rfl) (fun _ _ _ h => h) (Or.inr ⟨by rfl, rfl⟩) rfl ?_
                    refine norm_ (a' := ?_) ?_ ?_
                    rotate_left
                    · simp only [Act.put, List.setIfInBounds_toArray, List.set_cons_zero, List.set_cons_succ]
                      rfl
                    refine pure_ (i := 18) (N := some 164) (v := undef) (a' := _) #[true, true, true, true, true, true, true, true, true, true, true, true, true, true, true, true, true, true, true, false, false, false] rfl rfl (by kernel_rfl) (fun _ _ _ h => h) (Or.inr ⟨by rfl, rfl⟩) rfl ?_
                    refine norm_ (a' := ?_) ?_ ?_
                    rotate_left
                    · simp only [Act.put, List.setIfInBounds_toArray, List.set_cons_zero, List.set_cons_succ]
                      rfl
                    refine pure_ (i := 19) (N := some 165) (v := undef) (a' := _) #[true, true, true, true, true, true, true, true, true, true, true, true, true, true, true, true, true, true, true, true, false, false] rfl rfl (by kernel_rfl) (fun _ _ _ h => h) (Or.inr ⟨by rfl, rfl⟩) rfl ?_
                    refine norm_ (a' := ?_) ?_ ?_
                    rotate_left
                    · simp only [Act.put, List.setIfInBounds_toArray, List.set_cons_zero, List.set_cons_succ]
                      rfl
                    refine pure_ (i := 20) (N := some 166) (v := undef) (a' := _) #[true, true, true, true, true, true, true, true, true, true, true, true, true, true, true, true, true, true, true, true, true, false] rfl rfl (by kernel_rfl) (fun _ _ _ h => h) (Or.inr ⟨by rfl, rfl⟩) rfl ?_
                    refine norm_ (a' := ?_) ?_ ?_
                    rotate_left
                    · simp only [Act.put, List.setIfInBounds_toArray, List.set_cons_zero, List.set_cons_succ]
                      rfl
                    refine pure_ (i := 21) (N := some 167) (v := ?_) (a' := ?_) #[true, true, true, true, true, true, true, true, true, true, true, true, true, true, true, true, true, true, true, true, true, true] rfl rfl (by kernel_rfl) (fun _ _ _ h => h) (Or.inl ⟨by rfl, ?_⟩) ?_ ?_
                    rotate_left
                    · intro w'
                      go_simp
                      with_reducible rfl
                    rotate_left
                    · simp only [Act.put, List.setIfInBounds_toArray, List.set_cons_zero, List.set_cons_succ]
                      rfl
                    refine done_ (by kernel_rfl) ?_
                    clear hHeld b0 b7 bu
                    have BC6 := Lib.hid (Blk.drew BC3.out)
                    have BU6 := Lib.hid (Blk.drew BU3.out)
                    have HB6 := Lib.hid (bdrewG HB3.out)
                    generalize wr.drew = w6 at BC6 BU6 HB6 ⊢
                    go_wp2_with fail
                    go_roundg (2 - (1 + 1))
                    case measure => omega
                    case rel => exact ⟨2, by omega, by omega, rfl, ⟨BC6.out⟩, ⟨BU6.out⟩, ⟨HB6.out⟩⟩
                  · have ef : (mf == 1) = false := beq_eq_false_iff_ne.2 hf
                    have ef2 : (mf != 1) = true := bne_iff_ne.2 hf
                    have eb : wrap64 (base - z1) = base - z1 := wrap_id (by have := HI.out.s0; have := HI.out.n1; have := HI.out.n0; have := HI.out.b1; omega) (by have := HI.out.s1; have := HI.out.b0; omega)
                    have ek : m1 = if base - z1 < 1 then 1 else base - z1 := HI.out.k1 hm hf
                    have EB := Lib.hid eb
                    have EK := Lib.hid ek
                    clear eb ek hm hf
                    have b0 : wr.cell? ⟨gc, 1, none⟩ = some (.int .i64 m1) := (BC3.out.cell 1).trans rfl
                    have b7 : wr.cell? ⟨gc, 7, none⟩ = some (.int .u8 mf) := (BC3.out.cell 7).trans rfl
                    have bu : wr.cell? ⟨gc + 1, 1, none⟩ = some (.int .i64 z1) := (BU3.out.cell 1).trans rfl
                    go_upto_region 30 with (fail)
                    refine start_ (n := 22) (S := (fun w' => w'.cell? ⟨gc, 1, none⟩ = some (.int .i64 m1) ∧ w'.cell? ⟨gc, 7, none⟩ = some (.int .u8 mf) ∧ w'.cell? ⟨gc + 1, 1, none⟩ = some (.int .i64 z1))) (ds := []) #[false, false, false, false, false, false, false, false, false, false, false, false, false, false, false, false, false, false, false, false, false, false] (by kernel_rfl) rfl (by kernel_rfl) ⟨b0, b7, bu⟩ (fun hHeld => ?_)
                    refine pure_ (i := 0) (N := some 146) (v := ?_) (a' := ?_) #[true, false, false, false, false, false, false, false, false, false, false, false, false, false, false, false, false, false, false, false, false, false] rfl rfl (by kernel_rfl) (fun _ _ _ h => h) (Or.inl ⟨by rfl, ?_⟩) ?_ ?_
                    rotate_left
                    · intro w'
                      go_simp
                      with_reducible rfl
                    rotate_left
                    · simp only [Act.put, List.setIfInBounds_toArray, List.set_cons_zero, List.set_cons_succ]
                      rfl
                    refine pure_ (i := 1) (N := some 147) (v := ?_) (a' := ?_) #[true, true, false, false, false, false, false, false, false, false, false, false, false, false, false, false, false, false, false, false, false, false] rfl rfl (by kernel_rfl) (fun _ _ _ h => h) (Or.inl ⟨by rfl, ?_⟩) ?_ ?_
                    rotate_left
                    · intro w'
                      go_simp
                      with_reducible rfl
                    rotate_left
                    · simp only [Act.put, List.setIfInBounds_toArray, List.set_cons_zero, List.set_cons_succ]
                      rfl
                    refine pure_ (i := 2) (N := some 148) (v := ?_) (a' := ?_) #[true, true, true, false, false, false, false, false, false, false, false, false, false, false, false, false, false, false, false, false, false, false] rfl rfl (by kernel_rfl) (fun _ _ _ h => h) (Or.inl ⟨by rfl, ?_⟩) ?_ ?_
                    rotate_left
                    · intro w'
                      go_simp
                      with_reducible rfl
                    rotate_left
                    · simp only [Act.put, List.setIfInBounds_toArray, List.set_cons_zero, List.set_cons_succ]
                      rfl
                    refine pure_ (i := 3) (N := some 149) (v := ?_) (a' := ?_) #[true, true, true, true, false, false, false, false, false, false, false, false, false, false, false, false, false, false, false, false, false, false] rfl rfl (by kernel_rfl) (fun _ _ _ h => h) (Or.inl ⟨by rfl, ?_⟩) ?_ ?_
                    rotate_left
                    · intro w'
                      go_simp
                      with_reducible rfl
                    rotate_left
                    · simp only [Act.put, List.setIfInBounds_toArray, List.set_cons_zero, List.set_cons_succ]
                      rfl
                    refine take_ (i := 4) (N := some 150) (v := ?_) (a' := ?_) #[true, true, true, true, true, false, false, false, false, false, false, false, false, false, false, false, false, false, false, false, false, false] rfl rfl (by kernel_rfl) (fun _ _ _ h => h) (Or.inl ⟨by rfl, ?_⟩) hHeld ?_ ?_
                    rotate_left
                    · rintro w' ⟨s0, s1, s2⟩
                      go_simp
                      with_reducible rfl
                    rotate_left
                    · simp only [Act.put, List.setIfInBounds_toArray, List.set_cons_zero, List.set_cons_succ]
                      rfl
                    refine pure_ (i := 5) (N := some 151) (v := ?_) (a' := ?_) #[true, true, true, true, true, true, false, false, false, false, false, false, false, false, false, false, false, false, false, false, false, false] rfl rfl (by kernel_rfl) (fun _ _ _ h => h) (Or.inl ⟨by rfl, ?_⟩) ?_ ?_
                    rotate_left
                    · intro w'
                      go_simp
                      with_reducible rfl
                    rotate_left
                    · simp only [Act.put, List.setIfInBounds_toArray, List.set_cons_zero, List.set_cons_succ]
                      rfl
                    (try rw [(i64_w mf).trans EW.out])
                    refine pure_ (i := 6) (N := some 152) (v := ?_) (a' := ?_) #[true, true, true, true, true, true, true, false, false, false, false, false, false, false, false, false, false, false, false, false, false, false] rfl rfl (by kernel_rfl) (fun _ _ _ h => h) (Or.inl ⟨by rfl, ?_⟩) ?_ ?_
                    rotate_left
                    · intro w'
                      go_simp
                      with_reducible rfl
                    rotate_left
                    · simp only [Act.put, List.setIfInBounds_toArray, List.set_cons_zero, List.set_cons_succ]
                      rfl
                    refine pure_ (i := 7) (N := some 153) (v := ?_) (a' := ?_) #[true, true, true, true, true, true, true, true, false, false, false, false, false, false, false, false, false, false, false, false, false, false] rfl rfl (by kernel_rfl) (fun _ _ _ h => h) (Or.inl ⟨by rfl, ?_⟩) ?_ ?_
                    rotate_left
                    · intro w'
                      go_simp
                      with_reducible rfl
                    rotate_left
                    · simp only [Act.put, List.setIfInBounds_toArray, List.set_cons_zero, List.set_cons_succ]
                      rfl
                    refine pure_ (i := 8) (N := some 154) (v := ?_) (a' := ?_) #[true, true, true, true, true, true, true, true, true, false, false, false, false, false, false, false, false, false, false, false, false, false] rfl rfl (by kernel_rfl) (fun _ _ _ h => h) (Or.inl ⟨by rfl, ?_⟩) ?_ ?_
                    rotate_left
                    · intro w'
                      go_simp
                      with_reducible rfl
                    rotate_left
                    · simp only [Act.put, List.setIfInBounds_toArray, List.set_cons_zero, List.set_cons_succ]
                      rfl
                    refine pure_ (i := 9) (N := some 155) (v := ?_) (a' := ?_) #[true, true, true, true, true, true, true, true, true, true, false, false, false, false, false, false, false, false, false, false, false, false] rfl rfl (by kernel_rfl) (fun _ _ _ h => h) (Or.inl ⟨by rfl, ?_⟩) ?_ ?_
                    rotate_left
                    · intro w'
                      go_simp
                      with_reducible rfl
                    rotate_left
                    · simp only [Act.put, List.setIfInBounds_toArray, List.set_cons_zero, List.set_cons_succ]
                      rfl
                    refine pure_ (i := 10) (N := some 156) (v := ?_) (a' := ?_) #[true, true, true, true, true, true, true, true, true, true, true, false, false, false, false, false, false, false, false, false, false, false] rfl rfl (by kernel_rfl) (fun _ _ _ h => h) (Or.inl ⟨by rfl, ?_⟩) ?_ ?_
                    rotate_left
                    · intro w'
                      go_simp
                      with_reducible rfl
                    rotate_left
                    · simp only [Act.put, List.setIfInBounds_toArray, List.set_cons_zero, List.set_cons_succ]
                      rfl
                    refine pure_ (i := 11) (N := some 157) (v := ?_) (a' := ?_) #[true, true, true, true, true, true, true, true, true, true, true, true, false, false, false, false, false, false, false, false, false, false] rfl rfl (by kernel_rfl) (fun _ _ _ h => h) (Or.inl ⟨by rfl, ?_⟩) ?_ ?_
                    rotate_left
                    · intro w'
                      go_simp
                      with_reducible rfl
                    rotate_left
                    · simp only [Act.put, List.setIfInBounds_toArray, List.set_cons_zero, List.set_cons_succ]
                      rfl
                    refine pure_ (i := 12) (N := some 158) (v := ?_) (a' := ?_) #[true, true, true, true, true, true, true, true, true, true, true, true, true, false, false, false, false, false, false, false, false, false] rfl rfl (by kernel_rfl) (fun _ _ _ h => h) (Or.inl ⟨by rfl, ?_⟩) ?_ ?_
                    rotate_left
                    · intro w'
                      go_simp
                      with_reducible rfl
                    rotate_left
                    · simp only [Act.put, List.setIfInBounds_toArray, List.set_cons_zero, List.set_cons_succ]
                      rfl
                    refine take_ (i := 13) (N := some 159) (v := ?_) (a' := ?_) #[true, true, true, true, true, true, true, true, true, true, true, true, true, true, false, false, false, false, false, false, false, false] rfl rfl (by kernel_rfl) (fun _ _ _ h => h) (Or.inl ⟨by rfl, ?_⟩) hHeld ?_ ?_
                    rotate_left
                    · rintro w' ⟨s0, s1, s2⟩
                      go_simp
                      with_reducible rfl
                    rotate_left
                    · simp only [Act.put, List.setIfInBounds_toArray, List.set_cons_zero, List.set_cons_succ]
                      rfl
                    refine pure_ (i := 14) (N := some 160) (v := ?_) (a' := ?_) #[true, true, true, true, true, true, true, true, true, true, true, true, true, true, true, false, false, false, false, false, false, false] rfl rfl (by kernel_rfl) (fun _ _ _ h => h) (Or.inl ⟨by rfl, ?_⟩) ?_ ?_
                    rotate_left
                    · intro w'
                      go_simp
                      with_reducible rfl
                    rotate_left
                    · simp only [Act.put, List.setIfInBounds_toArray, List.set_cons_zero, List.set_cons_succ]
                      rfl
                    refine pure_ (i := 15) (N := some 161) (v := ?_) (a' := ?_) #[true, true, true, true, true, true, true, true, true, true, true, true, true, true, true, true, false, false, false, false, false, false] rfl rfl (by kernel_rfl) (fun _ _ _ h => h) (Or.inl ⟨by rfl, ?_⟩) ?_ ?_
                    rotate_left
                    · intro w'
                      go_simp
                      with_reducible rfl
                    rotate_left
                    · simp only [Act.put, List.setIfInBounds_toArray, List.set_cons_zero, List.set_cons_succ]
                      rfl
                    refine pure_ (i := 16) (N := some 162) (v := ?_) (a' := ?_) #[true, true, true, true, true, true, true, true, true, true, true, true, true, true, true, true, true, false, false, false, false, false] rfl rfl (by kernel_rfl) (fun _ _ _ h => h) (Or.inl ⟨by rfl, ?_⟩) ?_ ?_
                    rotate_left
                    · intro w'
                      go_simp
                      with_reducible rfl
                    rotate_left
                    · simp only [Act.put, List.setIfInBounds_toArray, List.set_cons_zero, List.set_cons_succ]
                      rfl
                    refine take_ (i := 17) (N := some 163) (v := ?_) (a' := ?_) #[true, true, true, true, true, true, true, true, true, true, true, true, true, true, true, true, true, true, false, false, false, false] rfl rfl (by kernel_rfl) (fun _ _ _ h => h) (Or.inl ⟨by rfl, ?_⟩) hHeld ?_ ?_
                    rotate_left
                    · rintro w' ⟨s0, s1, s2⟩
                      go_simp
                      with_reducible rfl
                    rotate_left
                    · simp only [Act.put, List.setIfInBounds_toArray, List.set_cons_zero, List.set_cons_succ]
                      rfl
                    refine pure_ (i := 18) (N := some 164) (v := ?_) (a' := ?_) #[true, true, true, true, true, true, true, true, true, true, true, true, true, true, true, true, true, true, true, false, false, false] rfl rfl (by kernel_rfl) (fun _ _ _ h => h) (Or.inl ⟨by rfl, ?_⟩) ?_ ?_
                    rotate_left
                    · intro w'
                      go_simp
                      with_reducible rfl
                    rotate_left
                    · simp only [Act.put, List.setIfInBounds_toArray, List.set_cons_zero, List.set_cons_succ]
                      rfl
                    rw [(i64_w (base - z1)).trans EB.out]
                    refine pure_ (i := 19) (N := some 165) (v := ?_) (a' := ?_) #[true, true, true, true, true, true, true, true, true, true, true, true, true, true, true, true, true, true, true, true, false, false] rfl rfl (by kernel_rfl) (fun _ _ _ h => h) (Or.inl ⟨by rfl, ?_⟩) ?_ ?_
                    rotate_left
                    · intro w'
                      go_simp
                      with_reducible rfl
                    rotate_left
                    · simp only [Act.put, List.setIfInBounds_toArray, List.set_cons_zero, List.set_cons_succ]
                      rfl
                    rw [← EK.out]
                    refine pure_ (i := 20) (N := some 166) (v := ?_) (a' := ?_) #[true, true, true, true, true, true, true, true, true, true, true, true, true, true, true, true, true, true, true, true, true, false] rfl rfl (by kernel_rfl) (fun _ _ _ h => h) (Or.inl ⟨by rfl, ?_⟩) ?_ ?_
                    rotate_left
                    · intro w'
                      go_simp
                      with_reducible rfl
                    rotate_left
                    · simp only [Act.put, List.setIfInBounds_toArray, List.set_cons_zero, List.set_cons_succ]
                      rfl
                    refine pure_ (i := 21) (N := some 167) (v := ?_) (a' := ?_) #[true, true, true, true, true, true, true, true, true, true, true, true, true, true, true, true, true, true, true, true, true, true] rfl rfl (by kernel_rfl) (fun _ _ _ h => h) (Or.inl ⟨by rfl, ?_⟩) ?_ ?_
                    rotate_left
                    · intro w'
                      go_simp
                      with_reducible rfl
                    rotate_left
                    · simp only [Act.put, List.setIfInBounds_toArray, List.set_cons_zero, List.set_cons_succ]
                      rfl
                    refine done_ (by kernel_rfl) ?_
                    clear hHeld b0 b7 bu
                    have BC6 := Lib.hid (Blk.drew BC3.out)
                    have BU6 := Lib.hid (Blk.drew BU3.out)
                    have HB6 := Lib.hid (bdrewG HB3.out)
                    generalize wr.drew = w6 at BC6 BU6 HB6 ⊢
                    go_wp2_with fail
                    go_roundg (2 - (1 + 1))
                    case measure => omega
                    case rel => exact ⟨2, by omega, by omega, rfl, ⟨BC6.out⟩, ⟨BU6.out⟩, ⟨HB6.out⟩⟩
                · have hmb : (more == 0) = false := beq_eq_false_iff_ne.2 hm
                  clear hm
                  have b0 : wr.cell? ⟨gc, 1, none⟩ = some (.int .i64 m1) := (BC3.out.cell 1).trans rfl
                  have b7 : wr.cell? ⟨gc, 7, none⟩ = some (.int .u8 mf) := (BC3.out.cell 7).trans rfl
                  have bu : wr.cell? ⟨gc + 1, 1, none⟩ = some (.int .i64 z1) := (BU3.out.cell 1).trans rfl
                  go_upto_region 30 with (fail)
                  refine start_ (n := 22) (S := (fun w' => w'.cell? ⟨gc, 1, none⟩ = some (.int .i64 m1) ∧ w'.cell? ⟨gc, 7, none⟩ = some (.int .u8 mf) ∧ w'.cell? ⟨gc + 1, 1, none⟩ = some (.int .i64 z1))) (ds := []) #[false, false, false, false, false, false, false, false, false, false, false, false, false, false, false, false, false, false, false, false, false, false] (by kernel_rfl) rfl (by kernel_rfl) ⟨b0, b7, bu⟩ (fun hHeld => ?_)
                  refine pure_ (i := 0) (N := some 146) (v := ?_) (a' := ?_) #[true, false, false, false, false, false, false, false, false, false, false, false, false, false, false, false, false, false, false, false, false, false] rfl rfl (by kernel_rfl) (fun _ _ _ h => h) (Or.inl ⟨by rfl, ?_⟩) ?_ ?_
                  rotate_left
                  · intro w'
                    go_simp
                    with_reducible rfl
                  rotate_left
                  · simp only [Act.put, List.setIfInBounds_toArray, List.set_cons_zero, List.set_cons_succ]
                    rfl
                  refine pure_ (i := 1) (N := some 147) (v := ?_) (a' := ?_) #[true, true, false, false, false, false, false, false, false, false, false, false, false, false, false, false, false, false, false, false, false, false] rfl rfl (by kernel_rfl) (fun _ _ _ h => h) (Or.inl ⟨by rfl, ?_⟩) ?_ ?_
                  rotate_left
                  · intro w'
                    go_simp
                    with_reducible rfl
                  rotate_left
                  · simp only [Act.put, List.setIfInBounds_toArray, List.set_cons_zero, List.set_cons_succ]
                    rfl
                  refine pure_ (i := 2) (N := some 148) (v := ?_) (a' := ?_) #[true, true, true, false, false, false, false, false, false, false, false, false, false, false, false, false, false, false, false, false, false, false] rfl rfl (by kernel_rfl) (fun _ _ _ h => h) (Or.inl ⟨by rfl, ?_⟩) ?_ ?_
                  rotate_left
                  · intro w'
                    go_simp
                    with_reducible rfl
                  rotate_left
                  · simp only [Act.put, List.setIfInBounds_toArray, List.set_cons_zero, List.set_cons_succ]
                    rfl
                  refine pure_ (i := 3) (N := some 149) (v := undef) (a' := _) #[true, true, true, true, false, false, false, false, false, false, false, false, false, false, false, false, false, false, false, false, false, false] rfl rfl (by kernel_rfl) (fun _ _ _ h => h) (Or.inr ⟨by rfl, rfl⟩) rfl ?_
                  refine norm_ (a' := ?_) ?_ ?_
                  rotate_left
                  · simp only [Act.put, List.setIfInBounds_toArray, List.set_cons_zero, List.set_cons_succ]
                    rfl
                  refine pure_ (i := 4) (N := some 150) (v := undef) (a' := _) #[true, true, true, true, true, false, false, false, false, false, false, false, false, false, false, false, false, false, false, false, false, false] rfl rfl (by kernel_rfl) (fun _ _ _ h => h) (Or.inr ⟨by rfl, rfl⟩) rfl ?_
                  refine norm_ (a' := ?_) ?_ ?_
                  rotate_left
                  · simp only [Act.put, List.setIfInBounds_toArray, List.set_cons_zero, List.set_cons_succ]
                    rfl
                  refine pure_ (i := 5) (N := some 151) (v := undef) (a' := _) #[true, true, true, true, true, true, false, false, false, false, false, false, false, false, false, false, false, false, false, false, false, false] rfl rfl (by kernel_rfl) (fun _ _ _ h => h) (Or.inr ⟨by rfl, rfl⟩) rfl ?_
                  refine norm_ (a' := ?_) ?_ ?_
                  rotate_left
                  · simp only [Act.put, List.setIfInBounds_toArray, List.set_cons_zero, List.set_cons_succ]
                    rfl
                  refine pure_ (i := 6) (N := some 152) (v := undef) (a' := _) #[true, true, true, true, true, true, true, false, false, false, false, false, false, false, false, false, false, false, false, false, false, false] rfl rfl (by kernel_rfl) (fun _ _ _ h => h) (Or.inr ⟨by rfl, rfl⟩) rfl ?_
                  refine norm_ (a' := ?_) ?_ ?_
                  rotate_left
                  · simp only [Act.put, List.setIfInBounds_toArray, List.set_cons_zero, List.set_cons_succ]
                    rfl
                  refine pure_ (i := 7) (N := some 153) (v := undef) (a' := _) #[true, true, true, true, true, true, true, true, false, false, false, false, false, false, false, false, false, false, false, false, false, false] rfl rfl (by kernel_rfl) (fun _ _ _ h => h) (Or.inr ⟨by rfl, rfl⟩) rfl ?_
                  refine norm_ (a' := ?_) ?_ ?_
                  rotate_left
                  · simp only [Act.put, List.setIfInBounds_toArray, List.set_cons_zero, List.set_cons_succ]
                    rfl
                  refine pure_ (i := 8) (N := some 154) (v := ?_) (a' := ?_) #[true, true, true, true, true, true, true, true, true, false, false, false, false, false, false, false, false, false, false, false, false, false] rfl rfl (by kernel_rfl) (fun _ _ _ h => h) (Or.inl ⟨by rfl, ?_⟩) ?_ ?_
                  rotate_left
                  · intro w'
                    go_simp
                    with_reducible rfl
                  rotate_left
                  · simp only [Act.put, List.setIfInBounds_toArray, List.set_cons_zero, List.set_cons_succ]
                    rfl
                  refine pure_ (i := 9) (N := some 155) (v := ?_) (a' := ?_) #[true, true, true, true, true, true, true, true, true, true, false, false, false, false, false, false, false, false, false, false, false, false] rfl rfl (by kernel_rfl) (fun _ _ _ h => h) (Or.inl ⟨by rfl, ?_⟩) ?_ ?_
                  rotate_left
                  · intro w'
                    go_simp
                    with_reducible rfl
                  rotate_left
                  · simp only [Act.put, List.setIfInBounds_toArray, List.set_cons_zero, List.set_cons_succ]
                    rfl
                  refine pure_ (i := 10) (N := some 156) (v := undef) (a' := _) #[true, true, true, true, true, true, true, true, true, true, true, false, false, false, false, false, false, false, false, false, false, false] rfl rfl (by kernel_rfl) (fun _ _ _ h => h) (Or.inr ⟨by rfl, rfl⟩) rfl ?_
                  refine norm_ (a' := ?_) ?_ ?_
                  rotate_left
                  · simp only [Act.put, List.setIfInBounds_toArray, List.set_cons_zero, List.set_cons_succ]
                    rfl
                  refine pure_ (i := 11) (N := some 157) (v := undef) (a' := _) #[true, true, true, true, true, true, true, true, true, true, true, true, false, false, false, false, false, false, false, false, false, false] rfl rfl (by kernel_rfl) (fun _ _ _ h => h) (Or.inr ⟨by rfl, rfl⟩) rfl ?_
                  refine norm_ (a' := ?_) ?_ ?_
                  rotate_left
                  · simp only [Act.put, List.setIfInBounds_toArray, List.set_cons_zero, List.set_cons_succ]
                    rfl
                  refine pure_ (i := 12) (N := some 158) (v := undef) (a' := _) #[true, true, true, true, true, true, true, true, true, true, true, true, true, false, false, false, false, false, false, false, false, false] rfl rfl (by kernel_rfl) (fun _ _ _ h => h) (Or.inr ⟨by rfl, rfl⟩) rfl ?_
                  refine norm_ (a' := ?_) ?_ ?_
                  rotate_left
                  · simp only [Act.put, List.setIfInBounds_toArray, List.set_cons_zero, List.set_cons_succ]
                    rfl
                  refine pure_ (i := 13) (N := some 159) (v := undef) (a' := _) #[true, true, true, true, true, true, true, true, true, true, true, true, true, true, false, false, false, false, false, false, false, false] rfl rfl (by kernel_rfl) (fun _ _ _ h => h) (Or.inr ⟨by rfl, rfl⟩) rfl ?_
                  refine norm_ (a' := ?_) ?_ ?_
                  rotate_left
                  · simp only [Act.put, List.setIfInBounds_toArray, List.set_cons_zero, List.set_cons_succ]
                    rfl
                  refine pure_ (i := 14) (N := some 160) (v := undef) (a' := _) #[true, true, true, true, true, true, true, true, true, true, true, true, true, true, true, false, false, false, false, false, false, false] rfl rfl (by kernel_rfl) (fun _ _ _ h => h) (Or.inr ⟨by rfl, rfl⟩) rfl ?_
                  refine norm_ (a' := ?_) ?_ ?_
                  rotate_left
                  · simp only [Act.put, List.setIfInBounds_toArray, List.set_cons_zero, List.set_cons_succ]
                    rfl
                  refine pure_ (i := 15) (N := some 161) (v := undef) (a' := _) #[true, true, true, true, true, true, true, true, true, true, true, true, true, true, true, true, false, false, false, false, false, false] rfl rfl (by kernel_rfl) (fun _ _ _ h => h) (Or.inr ⟨by rfl, rfl⟩) rfl ?_
                  refine norm_ (a' := ?_) ?_ ?_
                  rotate_left
                  · simp only [Act.put, List.setIfInBounds_toArray, List.set_cons_zero, List.set_cons_succ]
                    rfl
                  refine pure_ (i := 16) (N := some 162) (v := undef) (a' := _) #[true, true, true, true, true, true, true, true, true, true, true, true, true, true, true, true, true, false, false, false, false, false] rfl rfl (by kernel_rfl) (fun _ _ _ h => h) (Or.inr ⟨by rfl, rfl⟩) rfl ?_
                  refine norm_ (a' := ?_) ?_ ?_
                  rotate_left
                  · simp only [Act.put, List.setIfInBounds_toArray, List.set_cons_zero, List.set_cons_succ]
                    rfl
                  refine pure_ (i := 17) (N := some 163) (v := undef) (a' := _) #[true, true, true, true, true, true, true, true, true, true, true, true, true, true, true, true, true, true, false, false, false, false] rfl rfl (by kernel_rfl) (fun _ _ _ h => h) (Or.inr ⟨by rfl, rfl⟩) rfl ?_
                  refine norm_ (a' := ?_) ?_ ?_
                  rotate_left
                  · simp only [Act.put, List.setIfInBounds_toArray, List.set_cons_zero, List.set_cons_succ]
                    rfl
                  refine pure_ (i := 18) (N := some 164) (v := undef) (a' := _) #[true, true, true, true, true, true, true, true, true, true, true, true, true, true, true, true, true, true, true, false, false, false] rfl rfl (by kernel_rfl) (fun _ _ _ h => h) (Or.inr ⟨by rfl, rfl⟩) rfl ?_
                  refine norm_ (a' := ?_) ?_ ?_
                  rotate_left
                  · simp only [Act.put, List.setIfInBounds_toArray, List.set_cons_zero, List.set_cons_succ]
                    rfl
                  refine pure_ (i := 19) (N := some 165) (v := undef) (a' := _) #[true, true, true, true, true, true, true, true, true, true, true, true, true, true, true, true, true, true, true, true, false, false] rfl rfl (by kernel_rfl) (fun _ _ _ h => h) (Or.inr ⟨by rfl, rfl⟩) rfl ?_
                  refine norm_ (a' := ?_) ?_ ?_
                  rotate_left
                  · simp only [Act.put, List.setIfInBounds_toArray, List.set_cons_zero, List.set_cons_succ]
                    rfl
                  refine pure_ (i := 20) (N := some 166) (v := undef) (a' := _) #[true, true, true, true, true, true, true, true, true, true, true, true, true, true, true, true, true, true, true, true, true, false] rfl rfl (by kernel_rfl) (fun _ _ _ h => h) (Or.inr ⟨by rfl, rfl⟩) rfl ?_
                  refine norm_ (a' := ?_) ?_ ?_
                  rotate_left
                  · simp only [Act.put, List.setIfInBounds_toArray, List.set_cons_zero, List.set_cons_succ]
                    rfl
                  refine pure_ (i := 21) (N := some 167) (v := ?_) (a' := ?_) #[true, true, true, true, true, true, true, true, true, true, true, true, true, true, true, true, true, true, true, true, true, true] rfl rfl (by kernel_rfl) (fun _ _ _ h => h) (Or.inl ⟨by rfl, ?_⟩) ?_ ?_
                  rotate_left
                  · intro w'
                    go_simp
                    with_reducible rfl
                  rotate_left
                  · simp only [Act.put, List.setIfInBounds_toArray, List.set_cons_zero, List.set_cons_succ]
                    rfl
                  refine done_ (by kernel_rfl) ?_
                  clear hHeld b0 b7 bu
                  have BC6 := Lib.hid (Blk.drew BC3.out)
                  have BU6 := Lib.hid (Blk.drew BU3.out)
                  have HB6 := Lib.hid (bdrewG HB3.out)
                  generalize wr.drew = w6 at BC6 BU6 HB6 ⊢
                  go_wp2_with fail
                  go_roundg (2 - (1 + 1))
                  case measure => omega
                  case rel => exact ⟨2, by omega, by omega, rfl, ⟨BC6.out⟩, ⟨BU6.out⟩, ⟨HB6.out⟩⟩
            · have hq3 : q = 2 := by omega
              subst hq3
              clear hq2
              go_wp2_with fail
              go_roundg (l.length - (kk + 1))
              case measure => omega
              have eN : wrap64 ((kk : Int) + 1) = ((kk + 1 : Nat) : Int) := by have := HL.out; unfold wrap64; omega
              case rel => exact ⟨kk + 1, N, m0, m1, mw, mo, ms, mf, z0, z1, by omega, by omega, rfl, (by first | exact congrArg (Value.int .i64) eN | exact congrArg (Value.int .i64) (by omega)), ⟨BC3.out⟩, ⟨BU3.out⟩, ⟨HB3.out⟩, ⟨HI.out⟩⟩
end Go.Proofs.YtcdcpnhlmgmnkaaDoor.Clk
end
section
/- How arguments of struct types read: for the rows. -/
namespace Go.Proofs.YtcdcpnhlmgmnkaaDoor.Opens
open Go.ChangeShapes Go.WideShapes Go.Deep Go.RowKit Go.Proofs.YtcdcpnhlmgmnkaaDoorW.PrintWords Go.Proofs.YtcdcpnhlmgmnkaaDoor.Cgt
set_option maxRecDepth 100000
def ok41 (x : S41) : Prop := ((Lit.int .u8 x.f0).wf = true) ∧ True ∧ ((Lit.int .i64 x.f2).wf = true)
theorem opens41 : Opens Tryd.prog 41 k41 ok41 := by
  have h : Opens Tryd.prog 41 (Kd.iso _ (fun x : S41 => (x.f0, x.f1, x.f2))) _ := Opens.struct Tryd.underlying41 (by kernel_rfl) (fun x : S41 => (x.f0, x.f1, x.f2)) (fun p => ⟨p.1, p.2.1, p.2.2⟩) (fun _ => rfl) (fun m => (fs_cons ((Opens.int Tryd.underlying5) m) (by rfl) (by kernel_rfl) (by kernel_rfl) (fs_cons ((Opens.bool Tryd.underlying4) m) (by rfl) (by kernel_rfl) (by kernel_rfl) (fs_last ((Opens.int Tryd.underlying3) m) (by rfl) (by kernel_rfl)))))
  exact h
end Go.Proofs.YtcdcpnhlmgmnkaaDoor.Opens
end
section
/- ClockGoes: the walk, whatever base, more, most and acts. -/
namespace Go.Proofs.YtcdcpnhlmgmnkaaDoor.Pure
open Go.RowKit Go.Proofs.YtcdcpnhlmgmnkaaDoor.Base Go.Proofs.YtcdcpnhlmgmnkaaDoor.Pclk Go.Proofs.YtcdcpnhlmgmnkaaDoor.Cgt Go.Proofs.YtcdcpnhlmgmnkaaDoor.Clk Go.Proofs.YtcdcpnhlmgmnkaaDoorW.PrintWords
set_option linter.unusedVariables false
theorem ClockGoes_walk (base more cap : Int) (A : Option Addr) (c : Nat) (l : List S41) (W : World)
    (h1 : (Lit.int .i64 base).wf = true) (h2 : (Lit.int .i64 more).wf = true) (h3 : (Lit.int .i64 cap).wf = true) (hc : l.length ≤ c) (hr : Kd.C k41 W A l.length l) (hw : l.length * Tryd.prog.bytesOf 41 ≤ reachBytes ∧ l.length ≤ maxLen ∧ ∀ y ∈ l, Opens.ok41 y) (hg_ : GoodW W) :
    Calls Tryd.prog 4 #[.int .i64 base, .int .i64 more, .int .i64 cap, .slice A l.length c] W fun e w' => e = .returned (.bool true) ∧ Below W.heap.size W w' := by
  have hN : clock_New.f 3 base more cap = (some (decide (MayP base base more cap 0 false 0 2))).bind fun t109 => (if t109 = true then (some (base, base, more, cap, 0, false, 0, 2, 0)) else (some (0, 0, 0, 0, 0, false, 0, 0, 2))) := by
    unfold clock_New.f
    rw [may_f 0 base base more cap 0 false 0 2 (by decide) (by decide)]
  have hlen : l.length < 4611686018427387904 := by
    have h8 := Nat.mul_le_mul_left l.length (of_decide_eq_true (by kernel_rfl) : 8 ≤ Tryd.prog.bytesOf 41)
    have h9 := hw.1
    unfold reachBytes at h9
    omega
  by_cases hM : MayP base base more cap 0 false 0 2
  · rw [decide_eq_true hM] at hN
    exact goes_main base more cap A c l W hg_ hr hlen (fun x hx => by
      have := (hw.2.2 x hx).1
      simpa [Lit.wf, IntKind.min, IntKind.max, IntKind.signed, IntKind.bits] using this) hM hN
  · rw [decide_eq_false hM] at hN
    exact goes_bad base more cap A c l W hg_ hN
end Go.Proofs.YtcdcpnhlmgmnkaaDoor.Pure
end
