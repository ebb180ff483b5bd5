/- Joined by a program of this session (pack.py) out of: Pcrtx0 Pcrtx2 -/
import Derived.ArgAppend
import Derived.Below
import Derived.BigQuiet
import Derived.Deep.AppendLies
import Derived.Deep.CutBlock
import Derived.Deep.DeepCutAuto
import Derived.Deep.Draws
import Derived.Deep.LoopGhost
import Derived.Deep.OwnRows
import Derived.Deep.QuietTactic
import Derived.Deep.RegionHeld3
import Derived.KernelRfl
import Derived.Laws.BitsLemmas
import Derived.Laws.BytesArg
import Derived.Laws.IdiomCopy
import Derived.Laws.MakeOwn
import Derived.Laws.OwnMore
import Derived.Laws.Rows
import Derived.Laws.Slices
import Derived.Lib.AppendStr
import Derived.Lib.ConvBytes
import Derived.Maps.AppendAt
import Derived.OrdersHeld
import Derived.OwnWalk
import Derived.RowKit
import Derived.RowKit3
import Derived.Tactics
import Derived.Test.YtcdcpnhlmgmnkaaDoorProg
import Derived.WalkKit
import Derived.WideLaws
import Derived.Test.YtcdcpnhlmgmnkaaDoorKctl1
import Derived.Test.YtcdcpnhlmgmnkaaDoorKctl5
import Derived.Test.YtcdcpnhlmgmnkaaDoorKctl11
section
namespace Go.Proofs.YtcdcpnhlmgmnkaaDoor.Pcrt
open Go.RowKit Go.Proofs.YtcdcpnhlmgmnkaaDoor.Base Go.Proofs.YtcdcpnhlmgmnkaaDoorW.PrintWords Go.Proofs.YtcdcpnhlmgmnkaaDoorW.PrintLast Go.Proofs.YtcdcpnhlmgmnkaaDoorW.PrintMore
attribute [local go_sem] max2_int min2_int max_two min_two max_three min_three max_four min_four   -- for this text's walks alone
set_option linter.unusedVariables false
set_option linter.unusedSimpArgs false
def errW : Option Int → Value
  | none => .nilIface
  | some c => .iface 0 (.int .i64 c)
theorem errW_none : errW none = .nilIface := rfl
theorem errW_some (c : Int) : errW (some c) = .iface 0 (.int .i64 c) := rfl
structure S22 where
  f0 : Int
  f1 : Int
def z22 : S22 := ⟨(0 : Int), (0 : Int)⟩
def k22 : Kd S22 := Kd.iso (Kd.pair (Kd.int .i64) (Kd.int .i64)) (fun x : S22 => (x.f0, x.f1))
theorem k22_open {w : World} {x : S22} {cs : List Value} (h : k22.K w x cs) : cs = [.int .i64 x.f0, .int .i64 x.f1] := by
  obtain ⟨_, _, rfl, rfl, rfl⟩ := h
  exact rfl
theorem k22_openM {w : World} {base : Nat} {ok : Nat → Prop} {x : S22} {cs : List Value} (h : k22.M w base ok x cs) : cs = [.int .i64 x.f0, .int .i64 x.f1] := by
  obtain ⟨_, _, rfl, rfl, rfl⟩ := h
  exact rfl
theorem k22_mk (w : World) (x : S22)  : k22.K w x [.int .i64 x.f0, .int .i64 x.f1] := ⟨[.int .i64 x.f0], [.int .i64 x.f1], rfl, rfl, rfl⟩
theorem k22_mkM (w : World) (base : Nat) (ok : Nat → Prop) (x : S22)  : k22.M w base ok x [.int .i64 x.f0, .int .i64 x.f1] := ⟨[.int .i64 x.f0], [.int .i64 x.f1], rfl, rfl, rfl⟩
def rd_T22 (xs : List S22) (i : Int) : S22 := xs.getD i.toNat z22
theorem at_T22 {w : World} {A : Option Addr} {n : Nat} {xs : List S22} (h : Kd.C k22 w A n xs) (i : Int) (h0 : 0 ≤ i) (h1 : i < n) : ∃ ad , A = some ad ∧ w.cell? (ad.add (i.toNat * 2)) = some (.int .i64 (rd_T22 xs i).f0) ∧ w.cell? ⟨(ad.add (i.toNat * 2)).block, (ad.add (i.toNat * 2)).off + 1, none⟩ = some (.int .i64 (rd_T22 xs i).f1) := by
  obtain ⟨ad, c, e, _, hK, hc0⟩ := Kd.C_get h z22 i h0 h1
  have hc : ∀ j u, c[j]? = some u → w.cell? (ad.add (i.toNat * 2 + j)) = some u := hc0
  obtain rfl := k22_open hK
  exact ⟨ad, e, hc 0 _ rfl, by rw [← add_field _ _ 1 (by omega)]; exact hc 1 _ rfl⟩
structure S24 where
  f0 : S22
  f1 : Int
  f2 : Int
  f3 : Int
  f4 : Bool
  f5 : Int
  f6 : Int
def z24 : S24 := ⟨z22, (0 : Int), (0 : Int), (0 : Int), false, (0 : Int), (0 : Int)⟩
def k24 : Kd S24 := Kd.iso (Kd.pair k22 (Kd.pair (Kd.int .i64) (Kd.pair (Kd.int .i64) (Kd.pair (Kd.int .u8) (Kd.pair Kd.bool (Kd.pair (Kd.int .i64) (Kd.int .u8))))))) (fun x : S24 => (x.f0, x.f1, x.f2, x.f3, x.f4, x.f5, x.f6))
theorem k24_open {w : World} {x : S24} {cs : List Value} (h : k24.K w x cs) : cs = [.int .i64 x.f0.f0, .int .i64 x.f0.f1, .int .i64 x.f1, .int .i64 x.f2, .int .u8 x.f3, .bool x.f4, .int .i64 x.f5, .int .u8 x.f6] := by
  obtain ⟨_, _, rfl, s0, ⟨_, _, rfl, rfl, ⟨_, _, rfl, rfl, ⟨_, _, rfl, rfl, ⟨_, _, rfl, rfl, ⟨_, _, rfl, rfl, rfl⟩⟩⟩⟩⟩⟩ := h
  obtain rfl := k22_open s0
  exact rfl
theorem k24_openM {w : World} {base : Nat} {ok : Nat → Prop} {x : S24} {cs : List Value} (h : k24.M w base ok x cs) : cs = [.int .i64 x.f0.f0, .int .i64 x.f0.f1, .int .i64 x.f1, .int .i64 x.f2, .int .u8 x.f3, .bool x.f4, .int .i64 x.f5, .int .u8 x.f6] := by
  obtain ⟨_, _, rfl, s0, ⟨_, _, rfl, rfl, ⟨_, _, rfl, rfl, ⟨_, _, rfl, rfl, ⟨_, _, rfl, rfl, ⟨_, _, rfl, rfl, rfl⟩⟩⟩⟩⟩⟩ := h
  obtain rfl := k22_openM s0
  exact rfl
theorem k24_mk (w : World) (x : S24)  : k24.K w x [.int .i64 x.f0.f0, .int .i64 x.f0.f1, .int .i64 x.f1, .int .i64 x.f2, .int .u8 x.f3, .bool x.f4, .int .i64 x.f5, .int .u8 x.f6] := ⟨[.int .i64 x.f0.f0, .int .i64 x.f0.f1], [.int .i64 x.f1, .int .i64 x.f2, .int .u8 x.f3, .bool x.f4, .int .i64 x.f5, .int .u8 x.f6], rfl, (k22_mk w x.f0 ), ⟨[.int .i64 x.f1], [.int .i64 x.f2, .int .u8 x.f3, .bool x.f4, .int .i64 x.f5, .int .u8 x.f6], rfl, rfl, ⟨[.int .i64 x.f2], [.int .u8 x.f3, .bool x.f4, .int .i64 x.f5, .int .u8 x.f6], rfl, rfl, ⟨[.int .u8 x.f3], [.bool x.f4, .int .i64 x.f5, .int .u8 x.f6], rfl, rfl, ⟨[.bool x.f4], [.int .i64 x.f5, .int .u8 x.f6], rfl, rfl, ⟨[.int .i64 x.f5], [.int .u8 x.f6], rfl, rfl, rfl⟩⟩⟩⟩⟩⟩
theorem k24_mkM (w : World) (base : Nat) (ok : Nat → Prop) (x : S24)  : k24.M w base ok x [.int .i64 x.f0.f0, .int .i64 x.f0.f1, .int .i64 x.f1, .int .i64 x.f2, .int .u8 x.f3, .bool x.f4, .int .i64 x.f5, .int .u8 x.f6] := ⟨[.int .i64 x.f0.f0, .int .i64 x.f0.f1], [.int .i64 x.f1, .int .i64 x.f2, .int .u8 x.f3, .bool x.f4, .int .i64 x.f5, .int .u8 x.f6], rfl, (k22_mkM w base ok x.f0 ), ⟨[.int .i64 x.f1], [.int .i64 x.f2, .int .u8 x.f3, .bool x.f4, .int .i64 x.f5, .int .u8 x.f6], rfl, rfl, ⟨[.int .i64 x.f2], [.int .u8 x.f3, .bool x.f4, .int .i64 x.f5, .int .u8 x.f6], rfl, rfl, ⟨[.int .u8 x.f3], [.bool x.f4, .int .i64 x.f5, .int .u8 x.f6], rfl, rfl, ⟨[.bool x.f4], [.int .i64 x.f5, .int .u8 x.f6], rfl, rfl, ⟨[.int .i64 x.f5], [.int .u8 x.f6], rfl, rfl, rfl⟩⟩⟩⟩⟩⟩
def rd_T24 (xs : List S24) (i : Int) : S24 := xs.getD i.toNat z24
theorem at_T24 {w : World} {A : Option Addr} {n : Nat} {xs : List S24} (h : Kd.C k24 w A n xs) (i : Int) (h0 : 0 ≤ i) (h1 : i < n) : ∃ ad , A = some ad ∧ w.cell? (ad.add (i.toNat * 8)) = some (.int .i64 (rd_T24 xs i).f0.f0) ∧ w.cell? ⟨(ad.add (i.toNat * 8)).block, (ad.add (i.toNat * 8)).off + 1, none⟩ = some (.int .i64 (rd_T24 xs i).f0.f1) ∧ w.cell? ⟨(ad.add (i.toNat * 8)).block, (ad.add (i.toNat * 8)).off + 2, none⟩ = some (.int .i64 (rd_T24 xs i).f1) ∧ w.cell? ⟨(ad.add (i.toNat * 8)).block, (ad.add (i.toNat * 8)).off + 3, none⟩ = some (.int .i64 (rd_T24 xs i).f2) ∧ w.cell? ⟨(ad.add (i.toNat * 8)).block, (ad.add (i.toNat * 8)).off + 4, none⟩ = some (.int .u8 (rd_T24 xs i).f3) ∧ w.cell? ⟨(ad.add (i.toNat * 8)).block, (ad.add (i.toNat * 8)).off + 5, none⟩ = some (.bool (rd_T24 xs i).f4) ∧ w.cell? ⟨(ad.add (i.toNat * 8)).block, (ad.add (i.toNat * 8)).off + 6, none⟩ = some (.int .i64 (rd_T24 xs i).f5) ∧ w.cell? ⟨(ad.add (i.toNat * 8)).block, (ad.add (i.toNat * 8)).off + 7, none⟩ = some (.int .u8 (rd_T24 xs i).f6) := by
  obtain ⟨ad, c, e, _, hK, hc0⟩ := Kd.C_get h z24 i h0 h1
  have hc : ∀ j u, c[j]? = some u → w.cell? (ad.add (i.toNat * 8 + j)) = some u := hc0
  obtain rfl := k24_open hK
  exact ⟨ad, e, hc 0 _ rfl, by rw [← add_field _ _ 1 (by omega)]; exact hc 1 _ rfl, by rw [← add_field _ _ 2 (by omega)]; exact hc 2 _ rfl, by rw [← add_field _ _ 3 (by omega)]; exact hc 3 _ rfl, by rw [← add_field _ _ 4 (by omega)]; exact hc 4 _ rfl, by rw [← add_field _ _ 5 (by omega)]; exact hc 5 _ rfl, by rw [← add_field _ _ 6 (by omega)]; exact hc 6 _ rfl, by rw [← add_field _ _ 7 (by omega)]; exact hc 7 _ rfl⟩
end Go.Proofs.YtcdcpnhlmgmnkaaDoor.Pcrt
end
section
namespace Go.Proofs.YtcdcpnhlmgmnkaaDoor.Pcrt
open Go.RowKit Go.Proofs.YtcdcpnhlmgmnkaaDoor.Base Go.Proofs.YtcdcpnhlmgmnkaaDoorW.PrintWords Go.Proofs.YtcdcpnhlmgmnkaaDoorW.PrintLast Go.Proofs.YtcdcpnhlmgmnkaaDoorW.PrintMore
attribute [local go_sem] max2_int min2_int max_two min_two max_three min_three max_four min_four   -- for this text's walks alone
set_option linter.unusedVariables false
set_option linter.unusedSimpArgs false
mutual
def joustref28_Text.l0 : Nat → Bool → ByteArray → Int → Int → Int → Int → Int → Int → Bool → Int → Int → Int → Int → Option (ByteArray)
 | 0, _, _, _, _, _, _, _, _, _, _, _, _, _ => none
 | k + 1, x6, x8, x9, x102000, x102001, x102002, x102003, x102004, x102005, x102006, x102007, x107000, x107001 => if x9 < 2 then (if x9 = 1 then (if x8.size + 1 ≤ 9223372036854775807 then (joustref28_Text.j1 k x6 (x8 ++ (⟨#[32]⟩ : ByteArray)) x9 x102000 x102001 x102002 x102003 x102004 x102005 x102006 x102007 x107000 x107001) else (none)) else (joustref28_Text.j1 k x6 x8 x9 x102000 x102001 x102002 x102003 x102004 x102005 x102006 x102007 x107000 x107001)) else (some x8)
def joustref28_Text.j1 : Nat → Bool → ByteArray → Int → Int → Int → Int → Int → Int → Bool → Int → Int → Int → Int → Option (ByteArray)
 | 0, _, _, _, _, _, _, _, _, _, _, _, _, _ => none
 | k + 1, x6, x8, x9, x102000, x102001, x102002, x102003, x102004, x102005, x102006, x102007, x107000, x107001 => if x9 = 0 then ((joustref28_digits.f (wrap64 (Int.tdiv x107000 60))).bind fun t107 => (if t107.size + 1 ≤ 9223372036854775807 then ((joustref28_digits.f (wrap64 (100 + (Int.tmod x107000 60)))).bind fun t108 => (if 1 ≤ (t108.size : Int) then (if (t107 ++ (⟨#[58]⟩ : ByteArray)).size + (t108.extract 1 t108.size).size ≤ 9223372036854775807 then (if x8.size + ((t107 ++ (⟨#[58]⟩ : ByteArray)) ++ (t108.extract 1 t108.size)).size ≤ 9223372036854775807 then (if x102005 = true then (joustref28_Text.j2 k x6 (x8 ++ ((t107 ++ (⟨#[58]⟩ : ByteArray)) ++ (t108.extract 1 t108.size))) x9 ((wrap64 (x102004)) == x9) x102000 x102001 x102002 x102003 x102004 x102005 x102006 x102007 x107000 x107001) else (joustref28_Text.j2 k x6 (x8 ++ ((t107 ++ (⟨#[58]⟩ : ByteArray)) ++ (t108.extract 1 t108.size))) x9 false x102000 x102001 x102002 x102003 x102004 x102005 x102006 x102007 x107000 x107001)) else (none)) else (none)) else (none))) else (none))) else (if x9 = 1 then ((joustref28_digits.f (wrap64 (Int.tdiv x107001 60))).bind fun t109 => (if t109.size + 1 ≤ 9223372036854775807 then ((joustref28_digits.f (wrap64 (100 + (Int.tmod x107001 60)))).bind fun t110 => (if 1 ≤ (t110.size : Int) then (if (t109 ++ (⟨#[58]⟩ : ByteArray)).size + (t110.extract 1 t110.size).size ≤ 9223372036854775807 then (if x8.size + ((t109 ++ (⟨#[58]⟩ : ByteArray)) ++ (t110.extract 1 t110.size)).size ≤ 9223372036854775807 then (if x102005 = true then (joustref28_Text.j4 k x6 (x8 ++ ((t109 ++ (⟨#[58]⟩ : ByteArray)) ++ (t110.extract 1 t110.size))) x9 ((wrap64 (x102004)) == x9) x102000 x102001 x102002 x102003 x102004 x102005 x102006 x102007 x107000 x107001) else (joustref28_Text.j4 k x6 (x8 ++ ((t109 ++ (⟨#[58]⟩ : ByteArray)) ++ (t110.extract 1 t110.size))) x9 false x102000 x102001 x102002 x102003 x102004 x102005 x102006 x102007 x107000 x107001)) else (none)) else (none)) else (none))) else (none))) else (none))
def joustref28_Text.j2 : Nat → Bool → ByteArray → Int → Bool → Int → Int → Int → Int → Int → Bool → Int → Int → Int → Int → Option (ByteArray)
 | 0, _, _, _, _, _, _, _, _, _, _, _, _, _, _ => none
 | k + 1, x6, x8, x9, x10, x102000, x102001, x102002, x102003, x102004, x102005, x102006, x102007, x107000, x107001 => if (wrap64 (x102007)) = x9 then (joustref28_Text.j3 k x6 x8 x9 x10 true x102000 x102001 x102002 x102003 x102004 x102005 x102006 x102007 x107000 x107001) else (if x10 = true then (joustref28_Text.j3 k x6 x8 x9 x10 x6 x102000 x102001 x102002 x102003 x102004 x102005 x102006 x102007 x107000 x107001) else (joustref28_Text.j3 k x6 x8 x9 x10 false x102000 x102001 x102002 x102003 x102004 x102005 x102006 x102007 x107000 x107001))
def joustref28_Text.j3 : Nat → Bool → ByteArray → Int → Bool → Bool → Int → Int → Int → Int → Int → Bool → Int → Int → Int → Int → Option (ByteArray)
 | 0, _, _, _, _, _, _, _, _, _, _, _, _, _, _, _ => none
 | k + 1, x6, x8, x9, x10, x63, x102000, x102001, x102002, x102003, x102004, x102005, x102006, x102007, x107000, x107001 => if x63 = true then (if x8.size + 5 ≤ 9223372036854775807 then (joustref28_Text.l0 k x6 (x8 ++ (⟨#[32, 102, 101, 108, 108]⟩ : ByteArray)) (wrap64 (x9 + 1)) x102000 x102001 x102002 x102003 x102004 x102005 x102006 x102007 x107000 x107001) else (none)) else (if x10 = true then (if x8.size + 1 ≤ 9223372036854775807 then (joustref28_Text.l0 k x6 (x8 ++ (⟨#[42]⟩ : ByteArray)) (wrap64 (x9 + 1)) x102000 x102001 x102002 x102003 x102004 x102005 x102006 x102007 x107000 x107001) else (none)) else (joustref28_Text.l0 k x6 x8 (wrap64 (x9 + 1)) x102000 x102001 x102002 x102003 x102004 x102005 x102006 x102007 x107000 x107001))
def joustref28_Text.j4 : Nat → Bool → ByteArray → Int → Bool → Int → Int → Int → Int → Int → Bool → Int → Int → Int → Int → Option (ByteArray)
 | 0, _, _, _, _, _, _, _, _, _, _, _, _, _, _ => none
 | k + 1, x6, x8, x9, x10, x102000, x102001, x102002, x102003, x102004, x102005, x102006, x102007, x107000, x107001 => if (wrap64 (x102007)) = x9 then (joustref28_Text.j5 k x6 x8 x9 x10 true x102000 x102001 x102002 x102003 x102004 x102005 x102006 x102007 x107000 x107001) else (if x10 = true then (joustref28_Text.j5 k x6 x8 x9 x10 x6 x102000 x102001 x102002 x102003 x102004 x102005 x102006 x102007 x107000 x107001) else (joustref28_Text.j5 k x6 x8 x9 x10 false x102000 x102001 x102002 x102003 x102004 x102005 x102006 x102007 x107000 x107001))
def joustref28_Text.j5 : Nat → Bool → ByteArray → Int → Bool → Bool → Int → Int → Int → Int → Int → Bool → Int → Int → Int → Int → Option (ByteArray)
 | 0, _, _, _, _, _, _, _, _, _, _, _, _, _, _, _ => none
 | k + 1, x6, x8, x9, x10, x63, x102000, x102001, x102002, x102003, x102004, x102005, x102006, x102007, x107000, x107001 => if x63 = true then (if x8.size + 5 ≤ 9223372036854775807 then (joustref28_Text.l0 k x6 (x8 ++ (⟨#[32, 102, 101, 108, 108]⟩ : ByteArray)) (wrap64 (x9 + 1)) x102000 x102001 x102002 x102003 x102004 x102005 x102006 x102007 x107000 x107001) else (none)) else (if x10 = true then (if x8.size + 1 ≤ 9223372036854775807 then (joustref28_Text.l0 k x6 (x8 ++ (⟨#[42]⟩ : ByteArray)) (wrap64 (x9 + 1)) x102000 x102001 x102002 x102003 x102004 x102005 x102006 x102007 x107000 x107001) else (none)) else (joustref28_Text.l0 k x6 x8 (wrap64 (x9 + 1)) x102000 x102001 x102002 x102003 x102004 x102005 x102006 x102007 x107000 x107001))
end
def joustref28_Text.f (k : Nat) (a0_0 : Int) (a0_1 : Int) (a0_2 : Int) (a0_3 : Int) (a0_4 : Int) (a0_5 : Bool) (a0_6 : Int) (a0_7 : Int) (a1 : Int) : Option (ByteArray) := (Pcrf.joustref28_Look.f k a0_0 a0_1 a0_2 a0_3 a0_4 a0_5 a0_6 a0_7 a1).bind fun bt102 => (if bt102.2.2.2 = 0 then (joustref28_Text.l0 k bt102.2.2.1 (⟨#[]⟩ : ByteArray) 0 a0_0 a0_1 a0_2 a0_3 a0_4 a0_5 a0_6 a0_7 bt102.1 bt102.2.1) else (some (⟨#[]⟩ : ByteArray)))
def joustref28_Text.T10 : Bool × List (List Nat × List Nat) := (true, [([], []), ([], []), ([1], [1]), ([2], [2]), ([3], [3]), ([4], [4]), ([5], [5]), ([], []), ([7], [7]), ([8], [8]), ([9], [9]), ([10], [10]), ([11, 5], [11]), ([12], [12]), ([6, 13], [6, 13]), ([0, 14], [0, 14]), ([15, 12, 0, 1, 2, 3, 4, 5, 6, 7, 8, 9, 10, 11, 12, 13, 14, 15], [0, 15])])
def joustref28_Text.B10 : List Nat := [0, 0, 2, 6, 14, 30, 62, 0, 128, 384, 896, 1920, 4030, 8126, 16382, 32767, 65535]
theorem joustref28_Text.tab10 : rtab .any (opsOf Tryd.f18 10) = joustref28_Text.T10 := by kernel_rfl
theorem joustref28_Text.bits10 : waitsOk joustref28_Text.T10.2 joustref28_Text.B10 = true := by kernel_rfl
set_option maxHeartbeats 8000000 in
set_option maxRecDepth 100000 in
theorem joustref28_Text.calls (k : Nat) (a0_0 : Int) (a0_1 : Int) (a0_2 : Int) (a0_3 : Int) (a0_4 : Int) (a0_5 : Bool) (a0_6 : Int) (a0_7 : Int) (a1 : Int) (r : ByteArray) (w : World) (h : joustref28_Text.f k a0_0 a0_1 a0_2 a0_3 a0_4 a0_5 a0_6 a0_7 a1 = some r) :
  Calls Tryd.prog 18 #[.agg #[.int .i64 a0_0, .int .i64 a0_1, .int .i64 a0_2, .int .i64 a0_3, .int .u8 a0_4, .bool a0_5, .int .i64 a0_6, .int .u8 a0_7], .int .i64 a1] w fun e w' => e = .returned (.string r) ∧ Below w.heap.size w w' := by
 have hu24 := Tryd.underlying24
 have hu22 := Tryd.underlying22
 have HB := Az (Below.refl w.heap.size w)
 have H : ((Pcrf.joustref28_Look.f k a0_0 a0_1 a0_2 a0_3 a0_4 a0_5 a0_6 a0_7 a1).bind fun bt102 => (if bt102.2.2.2 = 0 then (joustref28_Text.l0 k bt102.2.2.1 (⟨#[]⟩ : ByteArray) 0 a0_0 a0_1 a0_2 a0_3 a0_4 a0_5 a0_6 a0_7 bt102.1 bt102.2.1) else (some (⟨#[]⟩ : ByteArray)))) = some r := h
 clear h
 replace H := Option.bind_eq_some_iff.mp H
 obtain ⟨⟨t102, t103, t104, t105⟩, A30, H⟩ := H
 replace H : (if t105 = 0 then (joustref28_Text.l0 k t104 (⟨#[]⟩ : ByteArray) 0 a0_0 a0_1 a0_2 a0_3 a0_4 a0_5 a0_6 a0_7 t102 t103) else (some (⟨#[]⟩ : ByteArray))) = some r := H
 have A3 := Az A30
 clear A30
 by_cases c4 : t105 = 0
 ·
  rw [if_pos c4] at H
  have c4b0 : (t105 == 0) = true := beq_iff_eq.mpr c4
  have c4b1 : (t105 != 0) = false := bne_eq_false_iff_eq.mpr c4
  clear c4
  have H' := Az H
  clear H
  go_enter Tryd.func18, Tryd.ntmps18
  go_wp2_with (first | ((with_reducible refine gate_dst (N := 2) rfl ?_); refine box_event ?hg (N := 2) ?hd (cs := #[.int .i64 a0_0, .int .i64 a0_1, .int .i64 a0_2, .int .i64 a0_3, .int .u8 a0_4, .bool a0_5, .int .i64 a0_6, .int .u8 a0_7]) (t := 24) ?hr ?_; (case hd => rfl); (case hg => rfl); (case hr => first | (go_simp; done) | (go_simp; rfl)); intro gb101 hg w5 hbox hb; have n0_ := Az (below_step (low HB) hb); have n1_ := Az (hbox); have n2_ := Az ((by rw [hg]; exact (below_size (low HB)) : w.heap.size ≤ gb101)); have n3_ := Az ((by rw [hg]; exact (below_size (low HB)) : w.heap.size ≤ gb101)); clear HB; have HB := n0_; have BK101 := n1_; have GW101 := n2_; have GE101 := n3_; clear n0_ n1_ n2_ n3_; clear hb hbox hg; obtain ⟨hcz6_0, hcz6_1, hcz6_2, hcz6_3, hcz6_4, hcz6_5, hcz6_6, hcz6_7, hfz6_0, hfz6_1, hfz6_2, hfz6_3, hfz6_4, hfz6_5, hfz6_6, hfz6_7⟩ := cells8 BK101.out) | ((with_reducible refine gate_callee (f := 24) rfl ?_); refine goesL_ (some 14) rfl rfl Tryd.func24 (by kernel_rfl) rfl #[.agg #[.int .i64 a0_0, .int .i64 a0_1, .int .i64 a0_2, .int .i64 a0_3, .int .u8 a0_4, .bool a0_5, .int .i64 a0_6, .int .u8 a0_7], .int .i64 a1] rfl mapx ?_; (with_reducible refine (Pcrf.joustref28_Look.calls k a0_0 a0_1 a0_2 a0_3 a0_4 a0_5 a0_6 a0_7 a1 t102 t103 t104 t105 _ A3.out).mono ?_); rintro e w7 ⟨rfl, hb⟩; refine ⟨_, rfl, ?_⟩; have n0_ := Az (blk_below (g := gb101) (o := .cells #[.int .i64 a0_0, .int .i64 a0_1, .int .i64 a0_2, .int .i64 a0_3, .int .u8 a0_4, .bool a0_5, .int .i64 a0_6, .int .u8 a0_7] 24 (0, 0)) of_lies hb); have n1_ := Az (below_step (low HB) hb); clear BK101; clear HB; have BK101 := n0_; have HB := n1_; clear n0_ n1_; (try clear hb); (try clear hb2); (try clear hk); (try clear hi)) | ((with_reducible refine gate_dst (N := 5) rfl ?_); refine box_event ?hg (N := 5) ?hd (cs := #[.int .i64 0, .int .i64 0]) (t := 22) ?hr ?_; (case hd => rfl); (case hg => rfl); (case hr => first | (go_simp; done) | (go_simp; rfl)); intro gb106 hg w8 hbox hb; have n0_ := Az (blk_below (g := gb101) (o := .cells #[.int .i64 a0_0, .int .i64 a0_1, .int .i64 a0_2, .int .i64 a0_3, .int .u8 a0_4, .bool a0_5, .int .i64 a0_6, .int .u8 a0_7] 24 (0, 0)) of_lies hb); have n1_ := Az (below_step (low HB) hb); have n2_ := Az (hbox); have n3_ := Az ((by rw [hg]; exact (below_size (low HB)) : w.heap.size ≤ gb106)); have n4_ := Az ((by rw [hg]; exact (below_size (low HB)) : w.heap.size ≤ gb106)); have n5_ := Az ((by rw [hg]; exact Nat.ne_of_lt (blk_lt (g := gb101) (o := .cells #[.int .i64 a0_0, .int .i64 a0_1, .int .i64 a0_2, .int .i64 a0_3, .int .u8 a0_4, .bool a0_5, .int .i64 a0_6, .int .u8 a0_7] 24 (0, 0)) of_lies) : gb101 ≠ gb106)); have n6_ := Az ((by rw [hg]; exact Nat.ne_of_gt (blk_lt (g := gb101) (o := .cells #[.int .i64 a0_0, .int .i64 a0_1, .int .i64 a0_2, .int .i64 a0_3, .int .u8 a0_4, .bool a0_5, .int .i64 a0_6, .int .u8 a0_7] 24 (0, 0)) of_lies) : gb106 ≠ gb101)); clear BK101; clear HB; have BK101 := n0_; have HB := n1_; have BK106 := n2_; have GW106 := n3_; have GE106 := n4_; have NB101_106 := n5_; have NB106_101 := n6_; clear n0_ n1_ n2_ n3_ n4_ n5_ n6_; clear hb hbox hg; have hnb9 := NB106_101.out; have hnc9 := NB101_106.out; obtain ⟨hcz10_0, hcz10_1, hfz10_0, hfz10_1⟩ := cells2 BK106.out))
  go_loopg [8, 9] k (fun kq v8 v9 w' => ∃ (x8_1 : ByteArray) (x9_1 : Int), v8 = .string x8_1 ∧ v9 = .int .i64 x9_1 ∧ Aside0 (joustref28_Text.l0 kq t104 x8_1 x9_1 a0_0 a0_1 a0_2 a0_3 a0_4 a0_5 a0_6 a0_7 t102 t103 = some r) ∧ Aside0 (kq ≤ k) ∧ Aside0 (w'.heap[gb101]? = some (.cells #[.int .i64 a0_0, .int .i64 a0_1, .int .i64 a0_2, .int .i64 a0_3, .int .u8 a0_4, .bool a0_5, .int .i64 a0_6, .int .u8 a0_7] 24 (0, 0))) ∧ Aside0 (w'.heap[gb106]? = some (.cells #[.int .i64 t102, .int .i64 t103] 22 (0, 0))) ∧ Aside0 (Below w.heap.size w w'))
  case atStart => exact ⟨((⟨#[]⟩ : ByteArray)), (0), eqx, eqx, H', ⟨Nat.le_refl _⟩, ⟨by (with_reducible repeat (first | refine bN ?_ _ | refine bD ?_ | refine bA ?_ _)); refine blk_far ?_ NB101_106.out _; (with_reducible repeat (first | refine bN ?_ _ | refine bD ?_ | refine bA ?_ _)); refine blk_far ?_ NB101_106.out _; exact of_lies⟩, ⟨by (with_reducible repeat (first | refine bN ?_ _ | refine bD ?_ | refine bA ?_ _)); refine blk_put (cs := #[.int .i64 t102, .int .i64 0]) ?_ 1 _ rfl; (with_reducible repeat (first | refine bN ?_ _ | refine bD ?_ | refine bA ?_ _)); refine blk_put (cs := #[.int .i64 0, .int .i64 0]) ?_ 0 _ rfl; exact of_lies⟩, ⟨low HB⟩⟩
  case round =>
   clear H'
   try clear c1
   try clear c2
   try clear p2
   try clear c4
   try clear c4b0
   try clear c4b1
   try clear c9
   try clear hcz10_0
   try clear hcz10_1
   try clear hcz6_0
   try clear hcz6_1
   try clear hcz6_2
   try clear hcz6_3
   try clear hcz6_4
   try clear hcz6_5
   try clear hcz6_6
   try clear hcz6_7
   try clear hfz10_0
   try clear hfz10_1
   try clear hfz6_0
   try clear hfz6_1
   try clear hfz6_2
   try clear hfz6_3
   try clear hfz6_4
   try clear hfz6_5
   try clear hfz6_6
   try clear hfz6_7
   obtain ⟨x8_1, x9_1, rfl, rfl, HA, HK1, BK101, BK106, HB⟩ := hrel
   cases gk with
   | zero => exact absurd HA.out (by simp [joustref28_Text.l0])
   | succ k1 =>
    have H := HA.out
    clear HA
    simp only [joustref28_Text.l0] at H
    by_cases c11 : x9_1 < 2
    ·
     rw [if_pos c11] at H
     have c11b0 : decide (x9_1 < 2) = true := decide_eq_true c11
     clear c11
     have HC12 := Az H
     clear H
     go_upto_if 25 with (fail)
     go_cut [8] (fun v8 wc => ∃ (kq : Nat) (x8_11 : ByteArray), v8 = .string x8_11 ∧ Aside0 (joustref28_Text.j1 kq t104 x8_11 x9_1 a0_0 a0_1 a0_2 a0_3 a0_4 a0_5 a0_6 a0_7 t102 t103 = some r) ∧ Aside0 (kq ≤ k1) ∧ Aside0 (wc.heap[gb101]? = some (.cells #[.int .i64 a0_0, .int .i64 a0_1, .int .i64 a0_2, .int .i64 a0_3, .int .u8 a0_4, .bool a0_5, .int .i64 a0_6, .int .u8 a0_7] 24 (0, 0))) ∧ Aside0 (wc.heap[gb106]? = some (.cells #[.int .i64 t102, .int .i64 t103] 22 (0, 0))) ∧ Aside0 (Below w.heap.size w wc))
     case first =>
      have H := HC12.out
      clear HC12
      by_cases c13 : x9_1 = 1
      ·
       rw [if_pos c13] at H
       have c13b0 : (x9_1 == 1) = true := beq_iff_eq.mpr c13
       have c13b1 : (x9_1 != 1) = false := bne_eq_false_iff_eq.mpr c13
       clear c13
       (first | rw [c13b0] | (simp only [i64_w, i32_w]; rw [c13b0]) | skip)
       by_cases c14 : x8_1.size + 1 ≤ 9223372036854775807
       ·
        rw [if_pos c14] at H
        have c14b0 := eq_true c14
        have c14b1 : decide (x8_1.size + 1 ≤ 9223372036854775807) = true := decide_eq_true c14
        try have c14b2 : (9223372036854775807 < x8_1.size + 1) = False := eq_false (Nat.not_lt.2 c14)
        have H' := Az H
        clear H
        go_wp2
        go_meet
        case rel => exact ⟨_, (x8_1 ++ (⟨#[32]⟩ : ByteArray)), eqx, H', ⟨by have := HK1.out; first | omega | exact Nat.le_refl _⟩, ⟨of_lies⟩, ⟨of_lies⟩, ⟨low HB⟩⟩
       ·
        rw [if_neg c14] at H
        exact absurd H (by simp)
      ·
       rw [if_neg c13] at H
       have c13b0 : (x9_1 == 1) = false := beq_eq_false_iff_ne.mpr c13
       have c13b1 : (x9_1 != 1) = true := bne_iff_ne.mpr c13
       (first | rw [c13b0] | (simp only [i64_w, i32_w]; rw [c13b0]) | skip)
       have H' := Az H
       clear H
       go_wp2
       go_meet
       case rel => exact ⟨_, (x8_1), eqx, H', ⟨by have := HK1.out; first | omega | exact Nat.le_refl _⟩, ⟨of_lies⟩, ⟨of_lies⟩, ⟨low HB⟩⟩
     case rest =>
      clear HC12
      try clear c1
      try clear c2
      try clear p2
      try clear c4
      try clear c4b0
      try clear c4b1
      try clear c9
      try clear c11
      try clear c11b0
      try clear c13
      try clear c13b0
      try clear c13b1
      try clear c14
      try clear c14b0
      try clear c14b1
      try clear c14b2
      try clear hcz10_0
      try clear hcz10_1
      try clear hcz6_0
      try clear hcz6_1
      try clear hcz6_2
      try clear hcz6_3
      try clear hcz6_4
      try clear hcz6_5
      try clear hcz6_6
      try clear hcz6_7
      try clear hfz10_0
      try clear hfz10_1
      try clear hfz6_0
      try clear hfz6_1
      try clear hfz6_2
      try clear hfz6_3
      try clear hfz6_4
      try clear hfz6_5
      try clear hfz6_6
      try clear hfz6_7
      try clear p2
      obtain ⟨kq, x8_11, rfl, HA, HJ11, BK101, BK106, HB⟩ := hcut
      cases kq with
      | zero => exact absurd HA.out (by simp [joustref28_Text.j1])
      | succ kj11 =>
       have H := HA.out
       clear HA
       simp only [joustref28_Text.j1] at H
       by_cases c15 : x9_1 = 0
       ·
        rw [if_pos c15] at H
        have c15b0 : (x9_1 == 0) = true := beq_iff_eq.mpr c15
        have c15b1 : (x9_1 != 0) = false := bne_eq_false_iff_eq.mpr c15
        clear c15
        have hix16 : ∀ (a_ : Addr) (W_ : World), (Instr.indexAt 22 (.pointer (some a_)) (.int .i64 x9_1)).run Tryd.prog W_ = .ok (.pointer (some (a_.add 0))) W_ := ix_any (c := 0) (by first | omega | exact beq_iff_eq.mp (by assumption) | exact eq_of_beq (by assumption)) (fun _ _ => by kernel_rfl)
        replace H := Option.bind_eq_some_iff.mp H
        obtain ⟨t107, A170, H⟩ := H
        replace H : (if t107.size + 1 ≤ 9223372036854775807 then ((joustref28_digits.f (wrap64 (100 + (Int.tmod t102 60)))).bind fun t108 => (if 1 ≤ (t108.size : Int) then (if (t107 ++ (⟨#[58]⟩ : ByteArray)).size + (t108.extract 1 t108.size).size ≤ 9223372036854775807 then (if x8_11.size + ((t107 ++ (⟨#[58]⟩ : ByteArray)) ++ (t108.extract 1 t108.size)).size ≤ 9223372036854775807 then (if a0_5 = true then (joustref28_Text.j2 kj11 t104 (x8_11 ++ ((t107 ++ (⟨#[58]⟩ : ByteArray)) ++ (t108.extract 1 t108.size))) x9_1 ((wrap64 (a0_4)) == x9_1) a0_0 a0_1 a0_2 a0_3 a0_4 a0_5 a0_6 a0_7 t102 t103) else (joustref28_Text.j2 kj11 t104 (x8_11 ++ ((t107 ++ (⟨#[58]⟩ : ByteArray)) ++ (t108.extract 1 t108.size))) x9_1 false a0_0 a0_1 a0_2 a0_3 a0_4 a0_5 a0_6 a0_7 t102 t103)) else (none)) else (none)) else (none))) else (none)) = some r := H
        have A17 := Az A170
        clear A170
        by_cases c18 : t107.size + 1 ≤ 9223372036854775807
        ·
         rw [if_pos c18] at H
         have c18b0 := eq_true c18
         have c18b1 : decide (t107.size + 1 ≤ 9223372036854775807) = true := decide_eq_true c18
         try have c18b2 : (9223372036854775807 < t107.size + 1) = False := eq_false (Nat.not_lt.2 c18)
         have hix19 : ∀ (a_ : Addr) (W_ : World), (Instr.indexAt 22 (.pointer (some a_)) (.int .i64 x9_1)).run Tryd.prog W_ = .ok (.pointer (some (a_.add 0))) W_ := ix_any (c := 0) (by first | omega | exact beq_iff_eq.mp (by assumption) | exact eq_of_beq (by assumption)) (fun _ _ => by kernel_rfl)
         replace H := Option.bind_eq_some_iff.mp H
         obtain ⟨t108, A200, H⟩ := H
         replace H : (if 1 ≤ (t108.size : Int) then (if (t107 ++ (⟨#[58]⟩ : ByteArray)).size + (t108.extract 1 t108.size).size ≤ 9223372036854775807 then (if x8_11.size + ((t107 ++ (⟨#[58]⟩ : ByteArray)) ++ (t108.extract 1 t108.size)).size ≤ 9223372036854775807 then (if a0_5 = true then (joustref28_Text.j2 kj11 t104 (x8_11 ++ ((t107 ++ (⟨#[58]⟩ : ByteArray)) ++ (t108.extract 1 t108.size))) x9_1 ((wrap64 (a0_4)) == x9_1) a0_0 a0_1 a0_2 a0_3 a0_4 a0_5 a0_6 a0_7 t102 t103) else (joustref28_Text.j2 kj11 t104 (x8_11 ++ ((t107 ++ (⟨#[58]⟩ : ByteArray)) ++ (t108.extract 1 t108.size))) x9_1 false a0_0 a0_1 a0_2 a0_3 a0_4 a0_5 a0_6 a0_7 t102 t103)) else (none)) else (none)) else (none)) = some r := H
         have A20 := Az A200
         clear A200
         by_cases c21 : 1 ≤ (t108.size : Int)
         ·
          rw [if_pos c21] at H
          have c21b0 := eq_true c21
          have c21b1 : decide (1 ≤ (t108.size : Int)) = true := decide_eq_true c21
          clear c21
          by_cases c22 : (t107 ++ (⟨#[58]⟩ : ByteArray)).size + (t108.extract 1 t108.size).size ≤ 9223372036854775807
          ·
           rw [if_pos c22] at H
           have c22b0 := eq_true c22
           have c22b1 : decide ((t107 ++ (⟨#[58]⟩ : ByteArray)).size + (t108.extract 1 t108.size).size ≤ 9223372036854775807) = true := decide_eq_true c22
           (try (have c22z := c22; simp only [ByteArray.size_append] at c22z; have c22b3 := eq_true c22z; have c22b4 := eq_false (Nat.not_lt.2 c22z); clear c22z))
           (try (have c22z := c22; simp only [ByteArray.size_append, ByteArray.size_extract, Nat.min_self, ba_size, List.length_cons, List.length_nil, Nat.reduceAdd] at c22z; have c22b5 := eq_true c22z; have c22b6 := eq_false (Nat.not_lt.2 c22z); clear c22z))
           try have c22b2 : (9223372036854775807 < (t107 ++ (⟨#[58]⟩ : ByteArray)).size + (t108.extract 1 t108.size).size) = False := eq_false (Nat.not_lt.2 c22)
           (try (have c22b8 : (9223372036854775807 < t107.size + 1 + (t108.size - 1)) = False := by rw [← c22b2]; simp <;> exact Iff.rfl))
           by_cases c23 : x8_11.size + ((t107 ++ (⟨#[58]⟩ : ByteArray)) ++ (t108.extract 1 t108.size)).size ≤ 9223372036854775807
           ·
            rw [if_pos c23] at H
            have c23b0 := eq_true c23
            have c23b1 : decide (x8_11.size + ((t107 ++ (⟨#[58]⟩ : ByteArray)) ++ (t108.extract 1 t108.size)).size ≤ 9223372036854775807) = true := decide_eq_true c23
            (try (have c23z := c23; simp only [ByteArray.size_append] at c23z; have c23b3 := eq_true c23z; have c23b4 := eq_false (Nat.not_lt.2 c23z); clear c23z))
            (try (have c23z := c23; simp only [ByteArray.size_append, ByteArray.size_extract, Nat.min_self, ba_size, List.length_cons, List.length_nil, Nat.reduceAdd] at c23z; have c23b5 := eq_true c23z; have c23b6 := eq_false (Nat.not_lt.2 c23z); clear c23z))
            try have c23b2 : (9223372036854775807 < x8_11.size + ((t107 ++ (⟨#[58]⟩ : ByteArray)) ++ (t108.extract 1 t108.size)).size) = False := eq_false (Nat.not_lt.2 c23)
            (try (have c23b8 : (9223372036854775807 < x8_11.size + (t107.size + 1 + (t108.size - 1))) = False := by rw [← c23b2]; simp <;> exact Iff.rfl))
            have HC24 := Az H
            clear H
            try go_wp2
            have n0_ := Az (blk_drew BK101.out)
            have n1_ := Az (blk_drew BK106.out)
            have n2_ := Az (below_drew1 HB.out)
            clear BK101
            clear BK106
            clear HB
            have BK101 := n0_
            have BK106 := n1_
            have HB := n2_
            clear n0_ n1_ n2_
            refine start_ (n := 17) (S := fun w' => w'.cell? ⟨gb106, 0, none⟩ = some (.int .i64 t102) ∧ w'.cell? ⟨gb106, 1, none⟩ = some (.int .i64 t103)) (ds := []) #[false, false, false, false, false, false, false, false, false, false, false, false, false, false, false, false, false] (by kernel_rfl) rfl rfl ⟨(blk_cell BK106.out 0).trans rfl, (blk_cell BK106.out 1).trans rfl⟩ (fun hHeld => ?_); refine with_tabW joustref28_Text.tab10 joustref28_Text.bits10 (fun HT_ HW_ => ?_)
            generalize wc.drew = w25 at BK101 BK106 HB hHeld ⊢
            refine pure_ (i := 0) (N := some 28) (v := ?_) (a' := ?_) #[true, false, false, false, false, false, false, false, false, false, false, false, false, false, false, false, false] rfl rfl (any_of HT_.out (by kernel_rfl)) (fun _ _ _ h => h) (Or.inl ⟨by rfl, ?_⟩) ?_ ?_
            rotate_left
            ·
             intro w'
             go_simp
             with_reducible rfl
            rotate_left
            ·
             simp only [Act.put, List.setIfInBounds_toArray, List.set_cons_zero, List.set_cons_succ, i64_w, i32_w]
             rfl
            refine pure_ (i := 1) (N := some 29) (v := ?_) (a' := ?_) #[true, true, false, false, false, false, false, false, false, false, false, false, false, false, false, false, false] rfl rfl (any_of HT_.out (by kernel_rfl)) (fun _ _ _ h => h) (Or.inl ⟨by rfl, ?_⟩) ?_ ?_
            rotate_left
            ·
             intro w'
             go_simp
             with_reducible rfl
            rotate_left
            ·
             simp only [Act.put, List.setIfInBounds_toArray, List.set_cons_zero, List.set_cons_succ, i64_w, i32_w]
             rfl
            refine pure_ (i := 2) (N := some 30) (v := ?_) (a' := ?_) #[true, true, true, false, false, false, false, false, false, false, false, false, false, false, false, false, false] rfl rfl (any_of HT_.out (by kernel_rfl)) (fun _ _ _ h => h) (Or.inl ⟨by rfl, ?_⟩) ?_ ?_
            rotate_left
            ·
             intro w'
             go_simp
             with_reducible rfl
            rotate_left
            ·
             simp only [Act.put, List.setIfInBounds_toArray, List.set_cons_zero, List.set_cons_succ, i64_w, i32_w]
             rfl
            refine pure_ (i := 7) (N := some 35) (v := ?_) (a' := ?_) #[true, true, true, false, false, false, false, true, false, false, false, false, false, false, false, false, false] rfl rfl (any_of HT_.out (by kernel_rfl)) (fun _ _ _ h => h) (Or.inl ⟨by rfl, ?_⟩) ?_ ?_
            rotate_left
            ·
             intro w'
             go_simp
             with_reducible rfl
            rotate_left
            ·
             simp only [Act.put, List.setIfInBounds_toArray, List.set_cons_zero, List.set_cons_succ, i64_w, i32_w]
             rfl
            refine pure_ (i := 8) (N := some 36) (v := ?_) (a' := ?_) #[true, true, true, false, false, false, false, true, true, false, false, false, false, false, false, false, false] rfl rfl (any_of HT_.out (by kernel_rfl)) (fun _ _ _ h => h) (Or.inl ⟨by rfl, ?_⟩) ?_ ?_
            rotate_left
            ·
             intro w'
             go_simp
             with_reducible rfl
            rotate_left
            ·
             simp only [Act.put, List.setIfInBounds_toArray, List.set_cons_zero, List.set_cons_succ, i64_w, i32_w]
             rfl
            refine take_ (i := 3) (N := some 31) (v := ?_) (a' := ?_) #[true, true, true, true, false, false, false, true, true, false, false, false, false, false, false, false, false] rfl rfl (take_ofW HT_.out HW_.out (by kernel_rfl)) (fun _ _ _ h => h) (Or.inl ⟨by rfl, ?_⟩) hHeld ?_ ?_
            rotate_left
            ·
             rintro w' ⟨s0, s1⟩
             go_simp
             with_reducible rfl
            rotate_left
            ·
             simp only [Act.put, List.setIfInBounds_toArray, List.set_cons_zero, List.set_cons_succ, i64_w, i32_w]
             rfl
            refine pure_ (i := 4) (N := some 32) (v := ?_) (a' := ?_) #[true, true, true, true, true, false, false, true, true, false, false, false, false, false, false, false, false] rfl rfl (any_of HT_.out (by kernel_rfl)) (fun _ _ _ h => h) (Or.inl ⟨by rfl, ?_⟩) ?_ ?_
            rotate_left
            ·
             intro w'
             go_simp
             with_reducible rfl
            rotate_left
            ·
             simp only [Act.put, List.setIfInBounds_toArray, List.set_cons_zero, List.set_cons_succ, i64_w, i32_w]
             rfl
            refine take_ (i := 9) (N := some 37) (v := ?_) (a' := ?_) #[true, true, true, true, true, false, false, true, true, true, false, false, false, false, false, false, false] rfl rfl (take_ofW HT_.out HW_.out (by kernel_rfl)) (fun _ _ _ h => h) (Or.inl ⟨by rfl, ?_⟩) hHeld ?_ ?_
            rotate_left
            ·
             rintro w' ⟨s0, s1⟩
             go_simp
             with_reducible rfl
            rotate_left
            ·
             simp only [Act.put, List.setIfInBounds_toArray, List.set_cons_zero, List.set_cons_succ, i64_w, i32_w]
             rfl
            refine pure_ (i := 10) (N := some 38) (v := ?_) (a' := ?_) #[true, true, true, true, true, false, false, true, true, true, true, false, false, false, false, false, false] rfl rfl (any_of HT_.out (by kernel_rfl)) (fun _ _ _ h => h) (Or.inl ⟨by rfl, ?_⟩) ?_ ?_
            rotate_left
            ·
             intro w'
             go_simp
             with_reducible rfl
            rotate_left
            ·
             simp only [Act.put, List.setIfInBounds_toArray, List.set_cons_zero, List.set_cons_succ, i64_w, i32_w]
             rfl
            refine pure_ (i := 11) (N := some 39) (v := ?_) (a' := ?_) #[true, true, true, true, true, false, false, true, true, true, true, true, false, false, false, false, false] rfl rfl (any_of HT_.out (by kernel_rfl)) (fun _ _ _ h => h) (Or.inl ⟨by rfl, ?_⟩) ?_ ?_
            rotate_left
            ·
             intro w'
             go_simp
             with_reducible rfl
            rotate_left
            ·
             simp only [Act.put, List.setIfInBounds_toArray, List.set_cons_zero, List.set_cons_succ, i64_w, i32_w]
             rfl
            refine one_ (i := 5) (N := some 33) #[true, true, true, true, true, true, false, true, true, true, true, true, false, false, false, false, false] rfl rfl (one_of HT_.out (by kernel_rfl)) (by decide) (fun K hK => ?_)
            refine goes_ Tryd.func52 (by kernel_rfl) rfl #[.int .i64 (wrap64 (Int.tdiv t102 60))] (by rfl) rfl rfl mapx ?_
            with_reducible refine (joustref28_digits.calls (wrap64 (Int.tdiv t102 60)) t107 _ A17.out).mono ?_
            rintro e w26 ⟨rfl, hb⟩
            refine ⟨_, rfl, ?_⟩
            have n0_ := Az (blk_below (g := gb101) (o := .cells #[.int .i64 a0_0, .int .i64 a0_1, .int .i64 a0_2, .int .i64 a0_3, .int .u8 a0_4, .bool a0_5, .int .i64 a0_6, .int .u8 a0_7] 24 (0, 0)) of_lies hb)
            have n1_ := Az (blk_below (g := gb106) (o := .cells #[.int .i64 t102, .int .i64 t103] 22 (0, 0)) of_lies hb)
            have n2_ := Az (below_step (low HB) hb)
            clear BK101
            clear BK106
            clear HB
            have BK101 := n0_
            have BK106 := n1_
            have HB := n2_
            clear n0_ n1_ n2_
            (try clear hb)
            (try clear hb2)
            (try clear hk)
            (try clear hi)
            refine hK.out _ _ ⟨(blk_cell BK106.out 0).trans rfl, (blk_cell BK106.out 1).trans rfl⟩ (fun hHeld => ?_)
            clear hK K
            refine norm_ (a' := ?_) ?_ ?_
            rotate_left
            ·
             show Act.put _ (some 33) _ = _
             simp only [Act.put, List.setIfInBounds_toArray, List.set_cons_zero, List.set_cons_succ, i64_w, i32_w]
             rfl
            refine pure_ (i := 6) (N := some 34) (v := ?_) (a' := ?_) #[true, true, true, true, true, true, true, true, true, true, true, true, false, false, false, false, false] rfl rfl (any_of HT_.out (by kernel_rfl)) (fun _ _ _ h => h) (Or.inl ⟨by rfl, ?_⟩) ?_ ?_
            rotate_left
            ·
             intro w'
             go_simp
             with_reducible rfl
            rotate_left
            ·
             simp only [Act.put, List.setIfInBounds_toArray, List.set_cons_zero, List.set_cons_succ, i64_w, i32_w]
             rfl
            refine one_ (i := 12) (N := some 40) #[true, true, true, true, true, true, true, true, true, true, true, true, true, false, false, false, false] rfl rfl (one_of HT_.out (by kernel_rfl)) (by decide) (fun K hK => ?_)
            refine goes_ Tryd.func52 (by kernel_rfl) rfl #[.int .i64 (wrap64 (100 + (Int.tmod t102 60)))] (by rfl) rfl rfl mapx ?_
            with_reducible refine (joustref28_digits.calls (wrap64 (100 + (Int.tmod t102 60))) t108 _ A20.out).mono ?_
            rintro e w27 ⟨rfl, hb⟩
            refine ⟨_, rfl, ?_⟩
            have n0_ := Az (blk_below (g := gb101) (o := .cells #[.int .i64 a0_0, .int .i64 a0_1, .int .i64 a0_2, .int .i64 a0_3, .int .u8 a0_4, .bool a0_5, .int .i64 a0_6, .int .u8 a0_7] 24 (0, 0)) of_lies hb)
            have n1_ := Az (blk_below (g := gb106) (o := .cells #[.int .i64 t102, .int .i64 t103] 22 (0, 0)) of_lies hb)
            have n2_ := Az (below_step (low HB) hb)
            clear BK101
            clear BK106
            clear HB
            have BK101 := n0_
            have BK106 := n1_
            have HB := n2_
            clear n0_ n1_ n2_
            (try clear hb)
            (try clear hb2)
            (try clear hk)
            (try clear hi)
            refine hK.out _ _ ⟨(blk_cell BK106.out 0).trans rfl, (blk_cell BK106.out 1).trans rfl⟩ (fun hHeld => ?_)
            clear hK K
            refine norm_ (a' := ?_) ?_ ?_
            rotate_left
            ·
             show Act.put _ (some 40) _ = _
             simp only [Act.put, List.setIfInBounds_toArray, List.set_cons_zero, List.set_cons_succ, i64_w, i32_w]
             rfl
            refine pure_ (i := 13) (N := some 41) (v := ?_) (a' := ?_) #[true, true, true, true, true, true, true, true, true, true, true, true, true, true, false, false, false] rfl rfl (any_of HT_.out (by kernel_rfl)) (fun _ _ _ h => h) (Or.inl ⟨by rfl, ?_⟩) ?_ ?_
            rotate_left
            ·
             intro w'
             go_simp
             with_reducible rfl
            rotate_left
            ·
             simp only [Act.put, List.setIfInBounds_toArray, List.set_cons_zero, List.set_cons_succ, i64_w, i32_w]
             rfl
            refine pure_ (i := 14) (N := some 42) (v := ?_) (a' := ?_) #[true, true, true, true, true, true, true, true, true, true, true, true, true, true, true, false, false] rfl rfl (any_of HT_.out (by kernel_rfl)) (fun _ _ _ h => h) (Or.inl ⟨by rfl, ?_⟩) ?_ ?_
            rotate_left
            ·
             intro w'
             go_simp
             with_reducible rfl
            rotate_left
            ·
             simp only [Act.put, List.setIfInBounds_toArray, List.set_cons_zero, List.set_cons_succ, i64_w, i32_w]
             rfl
            refine pure_ (i := 15) (N := some 43) (v := ?_) (a' := ?_) #[true, true, true, true, true, true, true, true, true, true, true, true, true, true, true, true, false] rfl rfl (any_of HT_.out (by kernel_rfl)) (fun _ _ _ h => h) (Or.inl ⟨by rfl, ?_⟩) ?_ ?_
            rotate_left
            ·
             intro w'
             go_simp
             with_reducible rfl
            rotate_left
            ·
             simp only [Act.put, List.setIfInBounds_toArray, List.set_cons_zero, List.set_cons_succ, i64_w, i32_w]
             rfl
            refine pure_ (i := 16) (N := some 8) (v := ?_) (a' := ?_) #[true, true, true, true, true, true, true, true, true, true, true, true, true, true, true, true, true] rfl rfl (any_of HT_.out (by kernel_rfl)) (fun _ _ _ h => h) (Or.inl ⟨by rfl, ?_⟩) ?_ ?_
            rotate_left
            ·
             intro w'
             go_simp
             with_reducible rfl
            rotate_left
            ·
             simp only [Act.put, List.setIfInBounds_toArray, List.set_cons_zero, List.set_cons_succ, i64_w, i32_w]
             rfl
            refine done_ (done_of HT_.out (by kernel_rfl)) ?_
            go_upto_region 11 with (fail)
            go_cut [10] (fun v10 wc => ∃ (kq : Nat) (x10_23 : Bool), v10 = .bool x10_23 ∧ Aside0 (joustref28_Text.j2 kq t104 (x8_11 ++ ((t107 ++ (⟨#[58]⟩ : ByteArray)) ++ (t108.extract 1 t108.size))) x9_1 x10_23 a0_0 a0_1 a0_2 a0_3 a0_4 a0_5 a0_6 a0_7 t102 t103 = some r) ∧ Aside0 (kq ≤ kj11) ∧ Aside0 (wc.heap[gb101]? = some (.cells #[.int .i64 a0_0, .int .i64 a0_1, .int .i64 a0_2, .int .i64 a0_3, .int .u8 a0_4, .bool a0_5, .int .i64 a0_6, .int .u8 a0_7] 24 (0, 0))) ∧ Aside0 (wc.heap[gb106]? = some (.cells #[.int .i64 t102, .int .i64 t103] 22 (0, 0))) ∧ Aside0 (Below w.heap.size w wc))
            case first =>
             have H := HC24.out
             clear HC24
             by_cases c28 : a0_5 = true
             ·
              subst c28
              have H1 : (joustref28_Text.j2 kj11 t104 (x8_11 ++ ((t107 ++ (⟨#[58]⟩ : ByteArray)) ++ (t108.extract 1 t108.size))) x9_1 ((wrap64 (a0_4)) == x9_1) a0_0 a0_1 a0_2 a0_3 a0_4 true a0_6 a0_7 t102 t103) = some r := by rw [if_pos rfl] at H; exact H
              clear H
              have H := H1
              clear H1
              have H' := Az H
              clear H
              have hnb29 := NB101_106.out
              have hnc29 := NB106_101.out
              have hcz30_0 : w27.cell? ⟨gb101, 0, none⟩ = some (.int .i64 a0_0) := (blk_cell BK101.out 0).trans rfl
              have hcz30_1 : w27.cell? ⟨gb101, 1, none⟩ = some (.int .i64 a0_1) := (blk_cell BK101.out 1).trans rfl
              have hcz30_2 : w27.cell? ⟨gb101, 2, none⟩ = some (.int .i64 a0_2) := (blk_cell BK101.out 2).trans rfl
              have hcz30_3 : w27.cell? ⟨gb101, 3, none⟩ = some (.int .i64 a0_3) := (blk_cell BK101.out 3).trans rfl
              have hcz30_4 : w27.cell? ⟨gb101, 4, none⟩ = some (.int .u8 a0_4) := (blk_cell BK101.out 4).trans rfl
              have hcz30_5 : w27.cell? ⟨gb101, 5, none⟩ = some (.bool true) := (blk_cell BK101.out 5).trans rfl
              have hcz30_6 : w27.cell? ⟨gb101, 6, none⟩ = some (.int .i64 a0_6) := (blk_cell BK101.out 6).trans rfl
              have hcz30_7 : w27.cell? ⟨gb101, 7, none⟩ = some (.int .u8 a0_7) := (blk_cell BK101.out 7).trans rfl
              have hfz30_0 := blk_frozen BK101.out 0
              have hfz30_1 := blk_frozen BK101.out 1
              have hfz30_2 := blk_frozen BK101.out 2
              have hfz30_3 := blk_frozen BK101.out 3
              have hfz30_4 := blk_frozen BK101.out 4
              have hfz30_5 := blk_frozen BK101.out 5
              have hfz30_6 := blk_frozen BK101.out 6
              have hfz30_7 := blk_frozen BK101.out 7
              go_wp2
              go_meet
              case rel => exact ⟨_, (((wrap64 (a0_4)) == x9_1)), eqx, H', ⟨by have := HK1.out; have := HJ11.out; first | omega | exact Nat.le_refl _⟩, ⟨of_lies⟩, ⟨of_lies⟩, ⟨low HB⟩⟩
             ·
              replace c28 := Bool.eq_false_iff.mpr c28
              subst c28
              have H1 : (joustref28_Text.j2 kj11 t104 (x8_11 ++ ((t107 ++ (⟨#[58]⟩ : ByteArray)) ++ (t108.extract 1 t108.size))) x9_1 false a0_0 a0_1 a0_2 a0_3 a0_4 false a0_6 a0_7 t102 t103) = some r := by rw [if_neg (show ¬ (false = true) by decide)] at H; exact H
              clear H
              have H := H1
              clear H1
              have H' := Az H
              clear H
              have hnb31 := NB101_106.out
              have hnc31 := NB106_101.out
              have hcz32_0 : w27.cell? ⟨gb101, 0, none⟩ = some (.int .i64 a0_0) := (blk_cell BK101.out 0).trans rfl
              have hcz32_1 : w27.cell? ⟨gb101, 1, none⟩ = some (.int .i64 a0_1) := (blk_cell BK101.out 1).trans rfl
              have hcz32_2 : w27.cell? ⟨gb101, 2, none⟩ = some (.int .i64 a0_2) := (blk_cell BK101.out 2).trans rfl
              have hcz32_3 : w27.cell? ⟨gb101, 3, none⟩ = some (.int .i64 a0_3) := (blk_cell BK101.out 3).trans rfl
              have hcz32_4 : w27.cell? ⟨gb101, 4, none⟩ = some (.int .u8 a0_4) := (blk_cell BK101.out 4).trans rfl
              have hcz32_5 : w27.cell? ⟨gb101, 5, none⟩ = some (.bool false) := (blk_cell BK101.out 5).trans rfl
              have hcz32_6 : w27.cell? ⟨gb101, 6, none⟩ = some (.int .i64 a0_6) := (blk_cell BK101.out 6).trans rfl
              have hcz32_7 : w27.cell? ⟨gb101, 7, none⟩ = some (.int .u8 a0_7) := (blk_cell BK101.out 7).trans rfl
              have hfz32_0 := blk_frozen BK101.out 0
              have hfz32_1 := blk_frozen BK101.out 1
              have hfz32_2 := blk_frozen BK101.out 2
              have hfz32_3 := blk_frozen BK101.out 3
              have hfz32_4 := blk_frozen BK101.out 4
              have hfz32_5 := blk_frozen BK101.out 5
              have hfz32_6 := blk_frozen BK101.out 6
              have hfz32_7 := blk_frozen BK101.out 7
              go_wp2
              go_meet
              case rel => exact ⟨_, (false), eqx, H', ⟨by have := HK1.out; have := HJ11.out; first | omega | exact Nat.le_refl _⟩, ⟨of_lies⟩, ⟨of_lies⟩, ⟨low HB⟩⟩
            case rest =>
             clear HC24
             try clear c1
             try clear c2
             try clear p2
             try clear c3
             try clear c4
             try clear c4b0
             try clear c4b1
             try clear c5
             try clear p6
             try clear c9
             try clear c11
             try clear c11b0
             try clear c13
             try clear c13b0
             try clear c13b1
             try clear c14
             try clear c14b0
             try clear c14b1
             try clear c14b2
             try clear c15
             try clear c15b0
             try clear c15b1
             try clear c18
             try clear c18b0
             try clear c18b1
             try clear c18b2
             try clear c21
             try clear c21b0
             try clear c21b1
             try clear c22
             try clear c22b0
             try clear c22b1
             try clear c22b2
             try clear c23
             try clear c23b0
             try clear c23b1
             try clear c23b2
             try clear c24
             try clear c28
             try clear c29
             try clear c31
             try clear hcz10_0
             try clear hcz10_1
             try clear hcz30_0
             try clear hcz30_1
             try clear hcz30_2
             try clear hcz30_3
             try clear hcz30_4
             try clear hcz30_5
             try clear hcz30_6
             try clear hcz30_7
             try clear hcz32_0
             try clear hcz32_1
             try clear hcz32_2
             try clear hcz32_3
             try clear hcz32_4
             try clear hcz32_5
             try clear hcz32_6
             try clear hcz32_7
             try clear hcz6_0
             try clear hcz6_1
             try clear hcz6_2
             try clear hcz6_3
             try clear hcz6_4
             try clear hcz6_5
             try clear hcz6_6
             try clear hcz6_7
             try clear hfz10_0
             try clear hfz10_1
             try clear hfz30_0
             try clear hfz30_1
             try clear hfz30_2
             try clear hfz30_3
             try clear hfz30_4
             try clear hfz30_5
             try clear hfz30_6
             try clear hfz30_7
             try clear hfz32_0
             try clear hfz32_1
             try clear hfz32_2
             try clear hfz32_3
             try clear hfz32_4
             try clear hfz32_5
             try clear hfz32_6
             try clear hfz32_7
             try clear hfz6_0
             try clear hfz6_1
             try clear hfz6_2
             try clear hfz6_3
             try clear hfz6_4
             try clear hfz6_5
             try clear hfz6_6
             try clear hfz6_7
             try clear p2
             obtain ⟨kq, x10_23, rfl, HA, HJ23, BK101, BK106, HB⟩ := hcut
             cases kq with
             | zero => exact absurd HA.out (by simp [joustref28_Text.j2])
             | succ kj23 =>
              have H := HA.out
              clear HA
              simp only [joustref28_Text.j2] at H
              have HC33 := Az H
              clear H
              go_upto_region 12 with (fail)
              go_cut [63] (fun v63 wc => ∃ (kq : Nat) (x63_32 : Bool), v63 = .bool x63_32 ∧ Aside0 (joustref28_Text.j3 kq t104 (x8_11 ++ ((t107 ++ (⟨#[58]⟩ : ByteArray)) ++ (t108.extract 1 t108.size))) x9_1 x10_23 x63_32 a0_0 a0_1 a0_2 a0_3 a0_4 a0_5 a0_6 a0_7 t102 t103 = some r) ∧ Aside0 (kq ≤ kj23) ∧ Aside0 (wc.heap[gb101]? = some (.cells #[.int .i64 a0_0, .int .i64 a0_1, .int .i64 a0_2, .int .i64 a0_3, .int .u8 a0_4, .bool a0_5, .int .i64 a0_6, .int .u8 a0_7] 24 (0, 0))) ∧ Aside0 (wc.heap[gb106]? = some (.cells #[.int .i64 t102, .int .i64 t103] 22 (0, 0))) ∧ Aside0 (Below w.heap.size w wc))
              case first =>
               have H := HC33.out
               clear HC33
               by_cases c34 : (wrap64 (a0_7)) = x9_1
               ·
                rw [if_pos c34] at H
                have c34b0 : ((wrap64 (a0_7)) == x9_1) = true := beq_iff_eq.mpr c34
                have c34b1 : ((wrap64 (a0_7)) != x9_1) = false := bne_eq_false_iff_eq.mpr c34
                clear c34
                (first | rw [c34b0] | (simp only [i64_w, i32_w]; rw [c34b0]) | skip)
                have H' := Az H
                clear H
                have hnb35 := NB101_106.out
                have hnc35 := NB106_101.out
                have hcz36_0 : wc.cell? ⟨gb101, 0, none⟩ = some (.int .i64 a0_0) := (blk_cell BK101.out 0).trans rfl
                have hcz36_1 : wc.cell? ⟨gb101, 1, none⟩ = some (.int .i64 a0_1) := (blk_cell BK101.out 1).trans rfl
                have hcz36_2 : wc.cell? ⟨gb101, 2, none⟩ = some (.int .i64 a0_2) := (blk_cell BK101.out 2).trans rfl
                have hcz36_3 : wc.cell? ⟨gb101, 3, none⟩ = some (.int .i64 a0_3) := (blk_cell BK101.out 3).trans rfl
                have hcz36_4 : wc.cell? ⟨gb101, 4, none⟩ = some (.int .u8 a0_4) := (blk_cell BK101.out 4).trans rfl
                have hcz36_5 : wc.cell? ⟨gb101, 5, none⟩ = some (.bool a0_5) := (blk_cell BK101.out 5).trans rfl
                have hcz36_6 : wc.cell? ⟨gb101, 6, none⟩ = some (.int .i64 a0_6) := (blk_cell BK101.out 6).trans rfl
                have hcz36_7 : wc.cell? ⟨gb101, 7, none⟩ = some (.int .u8 a0_7) := (blk_cell BK101.out 7).trans rfl
                have hfz36_0 := blk_frozen BK101.out 0
                have hfz36_1 := blk_frozen BK101.out 1
                have hfz36_2 := blk_frozen BK101.out 2
                have hfz36_3 := blk_frozen BK101.out 3
                have hfz36_4 := blk_frozen BK101.out 4
                have hfz36_5 := blk_frozen BK101.out 5
                have hfz36_6 := blk_frozen BK101.out 6
                have hfz36_7 := blk_frozen BK101.out 7
                go_wp2
                go_meet
                case rel => exact ⟨_, (true), eqx, H', ⟨by have := HK1.out; have := HJ11.out; have := HJ23.out; first | omega | exact Nat.le_refl _⟩, ⟨of_lies⟩, ⟨of_lies⟩, ⟨low HB⟩⟩
               ·
                rw [if_neg c34] at H
                have c34b0 : ((wrap64 (a0_7)) == x9_1) = false := beq_eq_false_iff_ne.mpr c34
                have c34b1 : ((wrap64 (a0_7)) != x9_1) = true := bne_iff_ne.mpr c34
                (first | rw [c34b0] | (simp only [i64_w, i32_w]; rw [c34b0]) | skip)
                by_cases c37 : x10_23 = true
                ·
                 subst c37
                 have H1 : (joustref28_Text.j3 kj23 t104 (x8_11 ++ ((t107 ++ (⟨#[58]⟩ : ByteArray)) ++ (t108.extract 1 t108.size))) x9_1 true t104 a0_0 a0_1 a0_2 a0_3 a0_4 a0_5 a0_6 a0_7 t102 t103) = some r := by rw [if_pos rfl] at H; exact H
                 clear H
                 have H := H1
                 clear H1
                 have H' := Az H
                 clear H
                 have hnb38 := NB101_106.out
                 have hnc38 := NB106_101.out
                 have hcz39_0 : wc.cell? ⟨gb101, 0, none⟩ = some (.int .i64 a0_0) := (blk_cell BK101.out 0).trans rfl
                 have hcz39_1 : wc.cell? ⟨gb101, 1, none⟩ = some (.int .i64 a0_1) := (blk_cell BK101.out 1).trans rfl
                 have hcz39_2 : wc.cell? ⟨gb101, 2, none⟩ = some (.int .i64 a0_2) := (blk_cell BK101.out 2).trans rfl
                 have hcz39_3 : wc.cell? ⟨gb101, 3, none⟩ = some (.int .i64 a0_3) := (blk_cell BK101.out 3).trans rfl
                 have hcz39_4 : wc.cell? ⟨gb101, 4, none⟩ = some (.int .u8 a0_4) := (blk_cell BK101.out 4).trans rfl
                 have hcz39_5 : wc.cell? ⟨gb101, 5, none⟩ = some (.bool a0_5) := (blk_cell BK101.out 5).trans rfl
                 have hcz39_6 : wc.cell? ⟨gb101, 6, none⟩ = some (.int .i64 a0_6) := (blk_cell BK101.out 6).trans rfl
                 have hcz39_7 : wc.cell? ⟨gb101, 7, none⟩ = some (.int .u8 a0_7) := (blk_cell BK101.out 7).trans rfl
                 have hfz39_0 := blk_frozen BK101.out 0
                 have hfz39_1 := blk_frozen BK101.out 1
                 have hfz39_2 := blk_frozen BK101.out 2
                 have hfz39_3 := blk_frozen BK101.out 3
                 have hfz39_4 := blk_frozen BK101.out 4
                 have hfz39_5 := blk_frozen BK101.out 5
                 have hfz39_6 := blk_frozen BK101.out 6
                 have hfz39_7 := blk_frozen BK101.out 7
                 go_wp2
                 go_meet
                 case rel => exact ⟨_, (t104), eqx, H', ⟨by have := HK1.out; have := HJ11.out; have := HJ23.out; first | omega | exact Nat.le_refl _⟩, ⟨of_lies⟩, ⟨of_lies⟩, ⟨low HB⟩⟩
                ·
                 replace c37 := Bool.eq_false_iff.mpr c37
                 subst c37
                 have H1 : (joustref28_Text.j3 kj23 t104 (x8_11 ++ ((t107 ++ (⟨#[58]⟩ : ByteArray)) ++ (t108.extract 1 t108.size))) x9_1 false false a0_0 a0_1 a0_2 a0_3 a0_4 a0_5 a0_6 a0_7 t102 t103) = some r := by rw [if_neg (show ¬ (false = true) by decide)] at H; exact H
                 clear H
                 have H := H1
                 clear H1
                 have H' := Az H
                 clear H
                 have hnb40 := NB101_106.out
                 have hnc40 := NB106_101.out
                 have hcz41_0 : wc.cell? ⟨gb101, 0, none⟩ = some (.int .i64 a0_0) := (blk_cell BK101.out 0).trans rfl
                 have hcz41_1 : wc.cell? ⟨gb101, 1, none⟩ = some (.int .i64 a0_1) := (blk_cell BK101.out 1).trans rfl
                 have hcz41_2 : wc.cell? ⟨gb101, 2, none⟩ = some (.int .i64 a0_2) := (blk_cell BK101.out 2).trans rfl
                 have hcz41_3 : wc.cell? ⟨gb101, 3, none⟩ = some (.int .i64 a0_3) := (blk_cell BK101.out 3).trans rfl
                 have hcz41_4 : wc.cell? ⟨gb101, 4, none⟩ = some (.int .u8 a0_4) := (blk_cell BK101.out 4).trans rfl
                 have hcz41_5 : wc.cell? ⟨gb101, 5, none⟩ = some (.bool a0_5) := (blk_cell BK101.out 5).trans rfl
                 have hcz41_6 : wc.cell? ⟨gb101, 6, none⟩ = some (.int .i64 a0_6) := (blk_cell BK101.out 6).trans rfl
                 have hcz41_7 : wc.cell? ⟨gb101, 7, none⟩ = some (.int .u8 a0_7) := (blk_cell BK101.out 7).trans rfl
                 have hfz41_0 := blk_frozen BK101.out 0
                 have hfz41_1 := blk_frozen BK101.out 1
                 have hfz41_2 := blk_frozen BK101.out 2
                 have hfz41_3 := blk_frozen BK101.out 3
                 have hfz41_4 := blk_frozen BK101.out 4
                 have hfz41_5 := blk_frozen BK101.out 5
                 have hfz41_6 := blk_frozen BK101.out 6
                 have hfz41_7 := blk_frozen BK101.out 7
                 go_wp2
                 go_meet
                 case rel => exact ⟨_, (false), eqx, H', ⟨by have := HK1.out; have := HJ11.out; have := HJ23.out; first | omega | exact Nat.le_refl _⟩, ⟨of_lies⟩, ⟨of_lies⟩, ⟨low HB⟩⟩
              case rest =>
               clear HC33
               try clear c1
               try clear c2
               try clear p2
               try clear c3
               try clear c4
               try clear c4b0
               try clear c4b1
               try clear c5
               try clear p6
               try clear c9
               try clear c11
               try clear c11b0
               try clear c13
               try clear c13b0
               try clear c13b1
               try clear c14
               try clear c14b0
               try clear c14b1
               try clear c14b2
               try clear c15
               try clear c15b0
               try clear c15b1
               try clear c18
               try clear c18b0
               try clear c18b1
               try clear c18b2
               try clear c21
               try clear c21b0
               try clear c21b1
               try clear c22
               try clear c22b0
               try clear c22b1
               try clear c22b2
               try clear c23
               try clear c23b0
               try clear c23b1
               try clear c23b2
               try clear c24
               try clear c28
               try clear c29
               try clear c31
               try clear c34
               try clear c34b0
               try clear c34b1
               try clear c35
               try clear c37
               try clear c38
               try clear c40
               try clear hcz10_0
               try clear hcz10_1
               try clear hcz30_0
               try clear hcz30_1
               try clear hcz30_2
               try clear hcz30_3
               try clear hcz30_4
               try clear hcz30_5
               try clear hcz30_6
               try clear hcz30_7
               try clear hcz32_0
               try clear hcz32_1
               try clear hcz32_2
               try clear hcz32_3
               try clear hcz32_4
               try clear hcz32_5
               try clear hcz32_6
               try clear hcz32_7
               try clear hcz36_0
               try clear hcz36_1
               try clear hcz36_2
               try clear hcz36_3
               try clear hcz36_4
               try clear hcz36_5
               try clear hcz36_6
               try clear hcz36_7
               try clear hcz39_0
               try clear hcz39_1
               try clear hcz39_2
               try clear hcz39_3
               try clear hcz39_4
               try clear hcz39_5
               try clear hcz39_6
               try clear hcz39_7
               try clear hcz41_0
               try clear hcz41_1
               try clear hcz41_2
               try clear hcz41_3
               try clear hcz41_4
               try clear hcz41_5
               try clear hcz41_6
               try clear hcz41_7
               try clear hcz6_0
               try clear hcz6_1
               try clear hcz6_2
               try clear hcz6_3
               try clear hcz6_4
               try clear hcz6_5
               try clear hcz6_6
               try clear hcz6_7
               try clear hfz10_0
               try clear hfz10_1
               try clear hfz30_0
               try clear hfz30_1
               try clear hfz30_2
               try clear hfz30_3
               try clear hfz30_4
               try clear hfz30_5
               try clear hfz30_6
               try clear hfz30_7
               try clear hfz32_0
               try clear hfz32_1
               try clear hfz32_2
               try clear hfz32_3
               try clear hfz32_4
               try clear hfz32_5
               try clear hfz32_6
               try clear hfz32_7
               try clear hfz36_0
               try clear hfz36_1
               try clear hfz36_2
               try clear hfz36_3
               try clear hfz36_4
               try clear hfz36_5
               try clear hfz36_6
               try clear hfz36_7
               try clear hfz39_0
               try clear hfz39_1
               try clear hfz39_2
               try clear hfz39_3
               try clear hfz39_4
               try clear hfz39_5
               try clear hfz39_6
               try clear hfz39_7
               try clear hfz41_0
               try clear hfz41_1
               try clear hfz41_2
               try clear hfz41_3
               try clear hfz41_4
               try clear hfz41_5
               try clear hfz41_6
               try clear hfz41_7
               try clear hfz6_0
               try clear hfz6_1
               try clear hfz6_2
               try clear hfz6_3
               try clear hfz6_4
               try clear hfz6_5
               try clear hfz6_6
               try clear hfz6_7
               try clear p2
               try clear p6
               obtain ⟨kq, x63_32, rfl, HA, HJ32, BK101, BK106, HB⟩ := hcut
               cases kq with
               | zero => exact absurd HA.out (by simp [joustref28_Text.j3])
               | succ kj32 =>
                have H := HA.out
                clear HA
                simp only [joustref28_Text.j3] at H
                by_cases c42 : x63_32 = true
                ·
                 subst c42
                 have H1 : (if (x8_11 ++ ((t107 ++ (⟨#[58]⟩ : ByteArray)) ++ (t108.extract 1 t108.size))).size + 5 ≤ 9223372036854775807 then (joustref28_Text.l0 kj32 t104 ((x8_11 ++ ((t107 ++ (⟨#[58]⟩ : ByteArray)) ++ (t108.extract 1 t108.size))) ++ (⟨#[32, 102, 101, 108, 108]⟩ : ByteArray)) (wrap64 (x9_1 + 1)) a0_0 a0_1 a0_2 a0_3 a0_4 a0_5 a0_6 a0_7 t102 t103) else (none)) = some r := by rw [if_pos rfl] at H; exact H
                 clear H
                 have H := H1
                 clear H1
                 by_cases c43 : (x8_11 ++ ((t107 ++ (⟨#[58]⟩ : ByteArray)) ++ (t108.extract 1 t108.size))).size + 5 ≤ 9223372036854775807
                 ·
                  rw [if_pos c43] at H
                  have c43b0 := eq_true c43
                  have c43b1 : decide ((x8_11 ++ ((t107 ++ (⟨#[58]⟩ : ByteArray)) ++ (t108.extract 1 t108.size))).size + 5 ≤ 9223372036854775807) = true := decide_eq_true c43
                  (try (have c43z := c43; simp only [ByteArray.size_append] at c43z; have c43b3 := eq_true c43z; have c43b4 := eq_false (Nat.not_lt.2 c43z); clear c43z))
                  (try (have c43z := c43; simp only [ByteArray.size_append, ByteArray.size_extract, Nat.min_self, ba_size, List.length_cons, List.length_nil, Nat.reduceAdd] at c43z; have c43b5 := eq_true c43z; have c43b6 := eq_false (Nat.not_lt.2 c43z); clear c43z))
                  try have c43b2 : (9223372036854775807 < (x8_11 ++ ((t107 ++ (⟨#[58]⟩ : ByteArray)) ++ (t108.extract 1 t108.size))).size + 5) = False := eq_false (Nat.not_lt.2 c43)
                  (try (have c43b8 : (9223372036854775807 < x8_11.size + (t107.size + 1 + (t108.size - 1)) + 5) = False := by rw [← c43b2]; simp <;> exact Iff.rfl))
                  have H' := Az H
                  clear H
                  go_wp2
                  go_roundg kj32
                  case measure => have := HK1.out; have := HJ11.out; have := HJ23.out; have := HJ32.out; omega
                  case rel => exact ⟨((x8_11 ++ ((t107 ++ (⟨#[58]⟩ : ByteArray)) ++ (t108.extract 1 t108.size))) ++ (⟨#[32, 102, 101, 108, 108]⟩ : ByteArray)), (wrap64 (x9_1 + 1)), eqx, eqx, H', ⟨by have := HK1.out; have := HJ11.out; have := HJ23.out; have := HJ32.out; omega⟩, ⟨of_lies⟩, ⟨of_lies⟩, ⟨low HB⟩⟩
                 ·
                  rw [if_neg c43] at H
                  exact absurd H (by simp)
                ·
                 replace c42 := Bool.eq_false_iff.mpr c42
                 subst c42
                 have H1 : (if x10_23 = true then (if (x8_11 ++ ((t107 ++ (⟨#[58]⟩ : ByteArray)) ++ (t108.extract 1 t108.size))).size + 1 ≤ 9223372036854775807 then (joustref28_Text.l0 kj32 t104 ((x8_11 ++ ((t107 ++ (⟨#[58]⟩ : ByteArray)) ++ (t108.extract 1 t108.size))) ++ (⟨#[42]⟩ : ByteArray)) (wrap64 (x9_1 + 1)) a0_0 a0_1 a0_2 a0_3 a0_4 a0_5 a0_6 a0_7 t102 t103) else (none)) else (joustref28_Text.l0 kj32 t104 (x8_11 ++ ((t107 ++ (⟨#[58]⟩ : ByteArray)) ++ (t108.extract 1 t108.size))) (wrap64 (x9_1 + 1)) a0_0 a0_1 a0_2 a0_3 a0_4 a0_5 a0_6 a0_7 t102 t103)) = some r := by rw [if_neg (show ¬ (false = true) by decide)] at H; exact H
                 clear H
                 have H := H1
                 clear H1
                 by_cases c44 : x10_23 = true
                 ·
                  subst c44
                  have H1 : (if (x8_11 ++ ((t107 ++ (⟨#[58]⟩ : ByteArray)) ++ (t108.extract 1 t108.size))).size + 1 ≤ 9223372036854775807 then (joustref28_Text.l0 kj32 t104 ((x8_11 ++ ((t107 ++ (⟨#[58]⟩ : ByteArray)) ++ (t108.extract 1 t108.size))) ++ (⟨#[42]⟩ : ByteArray)) (wrap64 (x9_1 + 1)) a0_0 a0_1 a0_2 a0_3 a0_4 a0_5 a0_6 a0_7 t102 t103) else (none)) = some r := by rw [if_pos rfl] at H; exact H
                  clear H
                  have H := H1
                  clear H1
                  by_cases c45 : (x8_11 ++ ((t107 ++ (⟨#[58]⟩ : ByteArray)) ++ (t108.extract 1 t108.size))).size + 1 ≤ 9223372036854775807
                  ·
                   rw [if_pos c45] at H
                   have c45b0 := eq_true c45
                   have c45b1 : decide ((x8_11 ++ ((t107 ++ (⟨#[58]⟩ : ByteArray)) ++ (t108.extract 1 t108.size))).size + 1 ≤ 9223372036854775807) = true := decide_eq_true c45
                   (try (have c45z := c45; simp only [ByteArray.size_append] at c45z; have c45b3 := eq_true c45z; have c45b4 := eq_false (Nat.not_lt.2 c45z); clear c45z))
                   (try (have c45z := c45; simp only [ByteArray.size_append, ByteArray.size_extract, Nat.min_self, ba_size, List.length_cons, List.length_nil, Nat.reduceAdd] at c45z; have c45b5 := eq_true c45z; have c45b6 := eq_false (Nat.not_lt.2 c45z); clear c45z))
                   try have c45b2 : (9223372036854775807 < (x8_11 ++ ((t107 ++ (⟨#[58]⟩ : ByteArray)) ++ (t108.extract 1 t108.size))).size + 1) = False := eq_false (Nat.not_lt.2 c45)
                   (try (have c45b8 : (9223372036854775807 < x8_11.size + (t107.size + 1 + (t108.size - 1)) + 1) = False := by rw [← c45b2]; simp <;> exact Iff.rfl))
                   have H' := Az H
                   clear H
                   go_wp2
                   go_roundg kj32
                   case measure => have := HK1.out; have := HJ11.out; have := HJ23.out; have := HJ32.out; omega
                   case rel => exact ⟨((x8_11 ++ ((t107 ++ (⟨#[58]⟩ : ByteArray)) ++ (t108.extract 1 t108.size))) ++ (⟨#[42]⟩ : ByteArray)), (wrap64 (x9_1 + 1)), eqx, eqx, H', ⟨by have := HK1.out; have := HJ11.out; have := HJ23.out; have := HJ32.out; omega⟩, ⟨of_lies⟩, ⟨of_lies⟩, ⟨low HB⟩⟩
                  ·
                   rw [if_neg c45] at H
                   exact absurd H (by simp)
                 ·
                  replace c44 := Bool.eq_false_iff.mpr c44
                  subst c44
                  have H1 : (joustref28_Text.l0 kj32 t104 (x8_11 ++ ((t107 ++ (⟨#[58]⟩ : ByteArray)) ++ (t108.extract 1 t108.size))) (wrap64 (x9_1 + 1)) a0_0 a0_1 a0_2 a0_3 a0_4 a0_5 a0_6 a0_7 t102 t103) = some r := by rw [if_neg (show ¬ (false = true) by decide)] at H; exact H
                  clear H
                  have H := H1
                  clear H1
                  have H' := Az H
                  clear H
                  go_wp2
                  go_roundg kj32
                  case measure => have := HK1.out; have := HJ11.out; have := HJ23.out; have := HJ32.out; omega
                  case rel => exact ⟨((x8_11 ++ ((t107 ++ (⟨#[58]⟩ : ByteArray)) ++ (t108.extract 1 t108.size)))), (wrap64 (x9_1 + 1)), eqx, eqx, H', ⟨by have := HK1.out; have := HJ11.out; have := HJ23.out; have := HJ32.out; omega⟩, ⟨of_lies⟩, ⟨of_lies⟩, ⟨low HB⟩⟩
           ·
            rw [if_neg c23] at H
            exact absurd H (by simp)
          ·
           rw [if_neg c22] at H
           exact absurd H (by simp)
         ·
          rw [if_neg c21] at H
          exact absurd H (by simp)
        ·
         rw [if_neg c18] at H
         exact absurd H (by simp)
       ·
        rw [if_neg c15] at H
        have c15b0 : (x9_1 == 0) = false := beq_eq_false_iff_ne.mpr c15
        have c15b1 : (x9_1 != 0) = true := bne_iff_ne.mpr c15
        by_cases c46 : x9_1 = 1
        ·
         rw [if_pos c46] at H
         have c46b0 : (x9_1 == 1) = true := beq_iff_eq.mpr c46
         have c46b1 : (x9_1 != 1) = false := bne_eq_false_iff_eq.mpr c46
         clear c46
         have hix47 : ∀ (a_ : Addr) (W_ : World), (Instr.indexAt 22 (.pointer (some a_)) (.int .i64 x9_1)).run Tryd.prog W_ = .ok (.pointer (some (a_.add 1))) W_ := ix_any (c := 1) (by first | omega | exact beq_iff_eq.mp (by assumption) | exact eq_of_beq (by assumption)) (fun _ _ => by kernel_rfl)
         replace H := Option.bind_eq_some_iff.mp H
         obtain ⟨t109, A480, H⟩ := H
         replace H : (if t109.size + 1 ≤ 9223372036854775807 then ((joustref28_digits.f (wrap64 (100 + (Int.tmod t103 60)))).bind fun t110 => (if 1 ≤ (t110.size : Int) then (if (t109 ++ (⟨#[58]⟩ : ByteArray)).size + (t110.extract 1 t110.size).size ≤ 9223372036854775807 then (if x8_11.size + ((t109 ++ (⟨#[58]⟩ : ByteArray)) ++ (t110.extract 1 t110.size)).size ≤ 9223372036854775807 then (if a0_5 = true then (joustref28_Text.j4 kj11 t104 (x8_11 ++ ((t109 ++ (⟨#[58]⟩ : ByteArray)) ++ (t110.extract 1 t110.size))) x9_1 ((wrap64 (a0_4)) == x9_1) a0_0 a0_1 a0_2 a0_3 a0_4 a0_5 a0_6 a0_7 t102 t103) else (joustref28_Text.j4 kj11 t104 (x8_11 ++ ((t109 ++ (⟨#[58]⟩ : ByteArray)) ++ (t110.extract 1 t110.size))) x9_1 false a0_0 a0_1 a0_2 a0_3 a0_4 a0_5 a0_6 a0_7 t102 t103)) else (none)) else (none)) else (none))) else (none)) = some r := H
         have A48 := Az A480
         clear A480
         by_cases c49 : t109.size + 1 ≤ 9223372036854775807
         ·
          rw [if_pos c49] at H
          have c49b0 := eq_true c49
          have c49b1 : decide (t109.size + 1 ≤ 9223372036854775807) = true := decide_eq_true c49
          try have c49b2 : (9223372036854775807 < t109.size + 1) = False := eq_false (Nat.not_lt.2 c49)
          have hix50 : ∀ (a_ : Addr) (W_ : World), (Instr.indexAt 22 (.pointer (some a_)) (.int .i64 x9_1)).run Tryd.prog W_ = .ok (.pointer (some (a_.add 1))) W_ := ix_any (c := 1) (by first | omega | exact beq_iff_eq.mp (by assumption) | exact eq_of_beq (by assumption)) (fun _ _ => by kernel_rfl)
          replace H := Option.bind_eq_some_iff.mp H
          obtain ⟨t110, A510, H⟩ := H
          replace H : (if 1 ≤ (t110.size : Int) then (if (t109 ++ (⟨#[58]⟩ : ByteArray)).size + (t110.extract 1 t110.size).size ≤ 9223372036854775807 then (if x8_11.size + ((t109 ++ (⟨#[58]⟩ : ByteArray)) ++ (t110.extract 1 t110.size)).size ≤ 9223372036854775807 then (if a0_5 = true then (joustref28_Text.j4 kj11 t104 (x8_11 ++ ((t109 ++ (⟨#[58]⟩ : ByteArray)) ++ (t110.extract 1 t110.size))) x9_1 ((wrap64 (a0_4)) == x9_1) a0_0 a0_1 a0_2 a0_3 a0_4 a0_5 a0_6 a0_7 t102 t103) else (joustref28_Text.j4 kj11 t104 (x8_11 ++ ((t109 ++ (⟨#[58]⟩ : ByteArray)) ++ (t110.extract 1 t110.size))) x9_1 false a0_0 a0_1 a0_2 a0_3 a0_4 a0_5 a0_6 a0_7 t102 t103)) else (none)) else (none)) else (none)) = some r := H
          have A51 := Az A510
          clear A510
          by_cases c52 : 1 ≤ (t110.size : Int)
          ·
           rw [if_pos c52] at H
           have c52b0 := eq_true c52
           have c52b1 : decide (1 ≤ (t110.size : Int)) = true := decide_eq_true c52
           clear c52
           by_cases c53 : (t109 ++ (⟨#[58]⟩ : ByteArray)).size + (t110.extract 1 t110.size).size ≤ 9223372036854775807
           ·
            rw [if_pos c53] at H
            have c53b0 := eq_true c53
            have c53b1 : decide ((t109 ++ (⟨#[58]⟩ : ByteArray)).size + (t110.extract 1 t110.size).size ≤ 9223372036854775807) = true := decide_eq_true c53
            (try (have c53z := c53; simp only [ByteArray.size_append] at c53z; have c53b3 := eq_true c53z; have c53b4 := eq_false (Nat.not_lt.2 c53z); clear c53z))
            (try (have c53z := c53; simp only [ByteArray.size_append, ByteArray.size_extract, Nat.min_self, ba_size, List.length_cons, List.length_nil, Nat.reduceAdd] at c53z; have c53b5 := eq_true c53z; have c53b6 := eq_false (Nat.not_lt.2 c53z); clear c53z))
            try have c53b2 : (9223372036854775807 < (t109 ++ (⟨#[58]⟩ : ByteArray)).size + (t110.extract 1 t110.size).size) = False := eq_false (Nat.not_lt.2 c53)
            (try (have c53b8 : (9223372036854775807 < t109.size + 1 + (t110.size - 1)) = False := by rw [← c53b2]; simp <;> exact Iff.rfl))
            by_cases c54 : x8_11.size + ((t109 ++ (⟨#[58]⟩ : ByteArray)) ++ (t110.extract 1 t110.size)).size ≤ 9223372036854775807
            ·
             rw [if_pos c54] at H
             have c54b0 := eq_true c54
             have c54b1 : decide (x8_11.size + ((t109 ++ (⟨#[58]⟩ : ByteArray)) ++ (t110.extract 1 t110.size)).size ≤ 9223372036854775807) = true := decide_eq_true c54
             (try (have c54z := c54; simp only [ByteArray.size_append] at c54z; have c54b3 := eq_true c54z; have c54b4 := eq_false (Nat.not_lt.2 c54z); clear c54z))
             (try (have c54z := c54; simp only [ByteArray.size_append, ByteArray.size_extract, Nat.min_self, ba_size, List.length_cons, List.length_nil, Nat.reduceAdd] at c54z; have c54b5 := eq_true c54z; have c54b6 := eq_false (Nat.not_lt.2 c54z); clear c54z))
             try have c54b2 : (9223372036854775807 < x8_11.size + ((t109 ++ (⟨#[58]⟩ : ByteArray)) ++ (t110.extract 1 t110.size)).size) = False := eq_false (Nat.not_lt.2 c54)
             (try (have c54b8 : (9223372036854775807 < x8_11.size + (t109.size + 1 + (t110.size - 1))) = False := by rw [← c54b2]; simp <;> exact Iff.rfl))
             have HC55 := Az H
             clear H
             try go_wp2
             have n0_ := Az (blk_drew BK101.out)
             have n1_ := Az (blk_drew BK106.out)
             have n2_ := Az (below_drew1 HB.out)
             clear BK101
             clear BK106
             clear HB
             have BK101 := n0_
             have BK106 := n1_
             have HB := n2_
             clear n0_ n1_ n2_
             refine start_ (n := 17) (S := fun w' => w'.cell? ⟨gb106, 0, none⟩ = some (.int .i64 t102) ∧ w'.cell? ⟨gb106, 1, none⟩ = some (.int .i64 t103)) (ds := []) #[false, false, false, false, false, false, false, false, false, false, false, false, false, false, false, false, false] (by kernel_rfl) rfl rfl ⟨(blk_cell BK106.out 0).trans rfl, (blk_cell BK106.out 1).trans rfl⟩ (fun hHeld => ?_); refine with_tabW joustref28_Text.tab10 joustref28_Text.bits10 (fun HT_ HW_ => ?_)
             generalize wc.drew = w56 at BK101 BK106 HB hHeld ⊢
             refine pure_ (i := 0) (N := some 28) (v := ?_) (a' := ?_) #[true, false, false, false, false, false, false, false, false, false, false, false, false, false, false, false, false] rfl rfl (any_of HT_.out (by kernel_rfl)) (fun _ _ _ h => h) (Or.inl ⟨by rfl, ?_⟩) ?_ ?_
             rotate_left
             ·
              intro w'
              go_simp
              with_reducible rfl
             rotate_left
             ·
              simp only [Act.put, List.setIfInBounds_toArray, List.set_cons_zero, List.set_cons_succ, i64_w, i32_w]
              rfl
             refine pure_ (i := 1) (N := some 29) (v := ?_) (a' := ?_) #[true, true, false, false, false, false, false, false, false, false, false, false, false, false, false, false, false] rfl rfl (any_of HT_.out (by kernel_rfl)) (fun _ _ _ h => h) (Or.inl ⟨by rfl, ?_⟩) ?_ ?_
             rotate_left
             ·
              intro w'
              go_simp
              with_reducible rfl
             rotate_left
             ·
              simp only [Act.put, List.setIfInBounds_toArray, List.set_cons_zero, List.set_cons_succ, i64_w, i32_w]
              rfl
             refine pure_ (i := 2) (N := some 30) (v := ?_) (a' := ?_) #[true, true, true, false, false, false, false, false, false, false, false, false, false, false, false, false, false] rfl rfl (any_of HT_.out (by kernel_rfl)) (fun _ _ _ h => h) (Or.inl ⟨by rfl, ?_⟩) ?_ ?_
             rotate_left
             ·
              intro w'
              go_simp
              with_reducible rfl
             rotate_left
             ·
              simp only [Act.put, List.setIfInBounds_toArray, List.set_cons_zero, List.set_cons_succ, i64_w, i32_w]
              rfl
             refine pure_ (i := 7) (N := some 35) (v := ?_) (a' := ?_) #[true, true, true, false, false, false, false, true, false, false, false, false, false, false, false, false, false] rfl rfl (any_of HT_.out (by kernel_rfl)) (fun _ _ _ h => h) (Or.inl ⟨by rfl, ?_⟩) ?_ ?_
             rotate_left
             ·
              intro w'
              go_simp
              with_reducible rfl
             rotate_left
             ·
              simp only [Act.put, List.setIfInBounds_toArray, List.set_cons_zero, List.set_cons_succ, i64_w, i32_w]
              rfl
             refine pure_ (i := 8) (N := some 36) (v := ?_) (a' := ?_) #[true, true, true, false, false, false, false, true, true, false, false, false, false, false, false, false, false] rfl rfl (any_of HT_.out (by kernel_rfl)) (fun _ _ _ h => h) (Or.inl ⟨by rfl, ?_⟩) ?_ ?_
             rotate_left
             ·
              intro w'
              go_simp
              with_reducible rfl
             rotate_left
             ·
              simp only [Act.put, List.setIfInBounds_toArray, List.set_cons_zero, List.set_cons_succ, i64_w, i32_w]
              rfl
             refine take_ (i := 3) (N := some 31) (v := ?_) (a' := ?_) #[true, true, true, true, false, false, false, true, true, false, false, false, false, false, false, false, false] rfl rfl (take_ofW HT_.out HW_.out (by kernel_rfl)) (fun _ _ _ h => h) (Or.inl ⟨by rfl, ?_⟩) hHeld ?_ ?_
             rotate_left
             ·
              rintro w' ⟨s0, s1⟩
              go_simp
              with_reducible rfl
             rotate_left
             ·
              simp only [Act.put, List.setIfInBounds_toArray, List.set_cons_zero, List.set_cons_succ, i64_w, i32_w]
              rfl
             refine pure_ (i := 4) (N := some 32) (v := ?_) (a' := ?_) #[true, true, true, true, true, false, false, true, true, false, false, false, false, false, false, false, false] rfl rfl (any_of HT_.out (by kernel_rfl)) (fun _ _ _ h => h) (Or.inl ⟨by rfl, ?_⟩) ?_ ?_
             rotate_left
             ·
              intro w'
              go_simp
              with_reducible rfl
             rotate_left
             ·
              simp only [Act.put, List.setIfInBounds_toArray, List.set_cons_zero, List.set_cons_succ, i64_w, i32_w]
              rfl
             refine take_ (i := 9) (N := some 37) (v := ?_) (a' := ?_) #[true, true, true, true, true, false, false, true, true, true, false, false, false, false, false, false, false] rfl rfl (take_ofW HT_.out HW_.out (by kernel_rfl)) (fun _ _ _ h => h) (Or.inl ⟨by rfl, ?_⟩) hHeld ?_ ?_
             rotate_left
             ·
              rintro w' ⟨s0, s1⟩
              go_simp
              with_reducible rfl
             rotate_left
             ·
              simp only [Act.put, List.setIfInBounds_toArray, List.set_cons_zero, List.set_cons_succ, i64_w, i32_w]
              rfl
             refine pure_ (i := 10) (N := some 38) (v := ?_) (a' := ?_) #[true, true, true, true, true, false, false, true, true, true, true, false, false, false, false, false, false] rfl rfl (any_of HT_.out (by kernel_rfl)) (fun _ _ _ h => h) (Or.inl ⟨by rfl, ?_⟩) ?_ ?_
             rotate_left
             ·
              intro w'
              go_simp
              with_reducible rfl
             rotate_left
             ·
              simp only [Act.put, List.setIfInBounds_toArray, List.set_cons_zero, List.set_cons_succ, i64_w, i32_w]
              rfl
             refine pure_ (i := 11) (N := some 39) (v := ?_) (a' := ?_) #[true, true, true, true, true, false, false, true, true, true, true, true, false, false, false, false, false] rfl rfl (any_of HT_.out (by kernel_rfl)) (fun _ _ _ h => h) (Or.inl ⟨by rfl, ?_⟩) ?_ ?_
             rotate_left
             ·
              intro w'
              go_simp
              with_reducible rfl
             rotate_left
             ·
              simp only [Act.put, List.setIfInBounds_toArray, List.set_cons_zero, List.set_cons_succ, i64_w, i32_w]
              rfl
             refine one_ (i := 5) (N := some 33) #[true, true, true, true, true, true, false, true, true, true, true, true, false, false, false, false, false] rfl rfl (one_of HT_.out (by kernel_rfl)) (by decide) (fun K hK => ?_)
             refine goes_ Tryd.func52 (by kernel_rfl) rfl #[.int .i64 (wrap64 (Int.tdiv t103 60))] (by rfl) rfl rfl mapx ?_
             with_reducible refine (joustref28_digits.calls (wrap64 (Int.tdiv t103 60)) t109 _ A48.out).mono ?_
             rintro e w57 ⟨rfl, hb⟩
             refine ⟨_, rfl, ?_⟩
             have n0_ := Az (blk_below (g := gb101) (o := .cells #[.int .i64 a0_0, .int .i64 a0_1, .int .i64 a0_2, .int .i64 a0_3, .int .u8 a0_4, .bool a0_5, .int .i64 a0_6, .int .u8 a0_7] 24 (0, 0)) of_lies hb)
             have n1_ := Az (blk_below (g := gb106) (o := .cells #[.int .i64 t102, .int .i64 t103] 22 (0, 0)) of_lies hb)
             have n2_ := Az (below_step (low HB) hb)
             clear BK101
             clear BK106
             clear HB
             have BK101 := n0_
             have BK106 := n1_
             have HB := n2_
             clear n0_ n1_ n2_
             (try clear hb)
             (try clear hb2)
             (try clear hk)
             (try clear hi)
             refine hK.out _ _ ⟨(blk_cell BK106.out 0).trans rfl, (blk_cell BK106.out 1).trans rfl⟩ (fun hHeld => ?_)
             clear hK K
             refine norm_ (a' := ?_) ?_ ?_
             rotate_left
             ·
              show Act.put _ (some 33) _ = _
              simp only [Act.put, List.setIfInBounds_toArray, List.set_cons_zero, List.set_cons_succ, i64_w, i32_w]
              rfl
             refine pure_ (i := 6) (N := some 34) (v := ?_) (a' := ?_) #[true, true, true, true, true, true, true, true, true, true, true, true, false, false, false, false, false] rfl rfl (any_of HT_.out (by kernel_rfl)) (fun _ _ _ h => h) (Or.inl ⟨by rfl, ?_⟩) ?_ ?_
             rotate_left
             ·
              intro w'
              go_simp
              with_reducible rfl
             rotate_left
             ·
              simp only [Act.put, List.setIfInBounds_toArray, List.set_cons_zero, List.set_cons_succ, i64_w, i32_w]
              rfl
             refine one_ (i := 12) (N := some 40) #[true, true, true, true, true, true, true, true, true, true, true, true, true, false, false, false, false] rfl rfl (one_of HT_.out (by kernel_rfl)) (by decide) (fun K hK => ?_)
             refine goes_ Tryd.func52 (by kernel_rfl) rfl #[.int .i64 (wrap64 (100 + (Int.tmod t103 60)))] (by rfl) rfl rfl mapx ?_
             with_reducible refine (joustref28_digits.calls (wrap64 (100 + (Int.tmod t103 60))) t110 _ A51.out).mono ?_
             rintro e w58 ⟨rfl, hb⟩
             refine ⟨_, rfl, ?_⟩
             have n0_ := Az (blk_below (g := gb101) (o := .cells #[.int .i64 a0_0, .int .i64 a0_1, .int .i64 a0_2, .int .i64 a0_3, .int .u8 a0_4, .bool a0_5, .int .i64 a0_6, .int .u8 a0_7] 24 (0, 0)) of_lies hb)
             have n1_ := Az (blk_below (g := gb106) (o := .cells #[.int .i64 t102, .int .i64 t103] 22 (0, 0)) of_lies hb)
             have n2_ := Az (below_step (low HB) hb)
             clear BK101
             clear BK106
             clear HB
             have BK101 := n0_
             have BK106 := n1_
             have HB := n2_
             clear n0_ n1_ n2_
             (try clear hb)
             (try clear hb2)
             (try clear hk)
             (try clear hi)
             refine hK.out _ _ ⟨(blk_cell BK106.out 0).trans rfl, (blk_cell BK106.out 1).trans rfl⟩ (fun hHeld => ?_)
             clear hK K
             refine norm_ (a' := ?_) ?_ ?_
             rotate_left
             ·
              show Act.put _ (some 40) _ = _
              simp only [Act.put, List.setIfInBounds_toArray, List.set_cons_zero, List.set_cons_succ, i64_w, i32_w]
              rfl
             refine pure_ (i := 13) (N := some 41) (v := ?_) (a' := ?_) #[true, true, true, true, true, true, true, true, true, true, true, true, true, true, false, false, false] rfl rfl (any_of HT_.out (by kernel_rfl)) (fun _ _ _ h => h) (Or.inl ⟨by rfl, ?_⟩) ?_ ?_
             rotate_left
             ·
              intro w'
              go_simp
              with_reducible rfl
             rotate_left
             ·
              simp only [Act.put, List.setIfInBounds_toArray, List.set_cons_zero, List.set_cons_succ, i64_w, i32_w]
              rfl
             refine pure_ (i := 14) (N := some 42) (v := ?_) (a' := ?_) #[true, true, true, true, true, true, true, true, true, true, true, true, true, true, true, false, false] rfl rfl (any_of HT_.out (by kernel_rfl)) (fun _ _ _ h => h) (Or.inl ⟨by rfl, ?_⟩) ?_ ?_
             rotate_left
             ·
              intro w'
              go_simp
              with_reducible rfl
             rotate_left
             ·
              simp only [Act.put, List.setIfInBounds_toArray, List.set_cons_zero, List.set_cons_succ, i64_w, i32_w]
              rfl
             refine pure_ (i := 15) (N := some 43) (v := ?_) (a' := ?_) #[true, true, true, true, true, true, true, true, true, true, true, true, true, true, true, true, false] rfl rfl (any_of HT_.out (by kernel_rfl)) (fun _ _ _ h => h) (Or.inl ⟨by rfl, ?_⟩) ?_ ?_
             rotate_left
             ·
              intro w'
              go_simp
              with_reducible rfl
             rotate_left
             ·
              simp only [Act.put, List.setIfInBounds_toArray, List.set_cons_zero, List.set_cons_succ, i64_w, i32_w]
              rfl
             refine pure_ (i := 16) (N := some 8) (v := ?_) (a' := ?_) #[true, true, true, true, true, true, true, true, true, true, true, true, true, true, true, true, true] rfl rfl (any_of HT_.out (by kernel_rfl)) (fun _ _ _ h => h) (Or.inl ⟨by rfl, ?_⟩) ?_ ?_
             rotate_left
             ·
              intro w'
              go_simp
              with_reducible rfl
             rotate_left
             ·
              simp only [Act.put, List.setIfInBounds_toArray, List.set_cons_zero, List.set_cons_succ, i64_w, i32_w]
              rfl
             refine done_ (done_of HT_.out (by kernel_rfl)) ?_
             go_upto_region 11 with (fail)
             go_cut [10] (fun v10 wc => ∃ (kq : Nat) (x10_54 : Bool), v10 = .bool x10_54 ∧ Aside0 (joustref28_Text.j4 kq t104 (x8_11 ++ ((t109 ++ (⟨#[58]⟩ : ByteArray)) ++ (t110.extract 1 t110.size))) x9_1 x10_54 a0_0 a0_1 a0_2 a0_3 a0_4 a0_5 a0_6 a0_7 t102 t103 = some r) ∧ Aside0 (kq ≤ kj11) ∧ Aside0 (wc.heap[gb101]? = some (.cells #[.int .i64 a0_0, .int .i64 a0_1, .int .i64 a0_2, .int .i64 a0_3, .int .u8 a0_4, .bool a0_5, .int .i64 a0_6, .int .u8 a0_7] 24 (0, 0))) ∧ Aside0 (wc.heap[gb106]? = some (.cells #[.int .i64 t102, .int .i64 t103] 22 (0, 0))) ∧ Aside0 (Below w.heap.size w wc))
             case first =>
              have H := HC55.out
              clear HC55
              by_cases c59 : a0_5 = true
              ·
               subst c59
               have H1 : (joustref28_Text.j4 kj11 t104 (x8_11 ++ ((t109 ++ (⟨#[58]⟩ : ByteArray)) ++ (t110.extract 1 t110.size))) x9_1 ((wrap64 (a0_4)) == x9_1) a0_0 a0_1 a0_2 a0_3 a0_4 true a0_6 a0_7 t102 t103) = some r := by rw [if_pos rfl] at H; exact H
               clear H
               have H := H1
               clear H1
               have H' := Az H
               clear H
               have hnb60 := NB101_106.out
               have hnc60 := NB106_101.out
               have hcz61_0 : w58.cell? ⟨gb101, 0, none⟩ = some (.int .i64 a0_0) := (blk_cell BK101.out 0).trans rfl
               have hcz61_1 : w58.cell? ⟨gb101, 1, none⟩ = some (.int .i64 a0_1) := (blk_cell BK101.out 1).trans rfl
               have hcz61_2 : w58.cell? ⟨gb101, 2, none⟩ = some (.int .i64 a0_2) := (blk_cell BK101.out 2).trans rfl
               have hcz61_3 : w58.cell? ⟨gb101, 3, none⟩ = some (.int .i64 a0_3) := (blk_cell BK101.out 3).trans rfl
               have hcz61_4 : w58.cell? ⟨gb101, 4, none⟩ = some (.int .u8 a0_4) := (blk_cell BK101.out 4).trans rfl
               have hcz61_5 : w58.cell? ⟨gb101, 5, none⟩ = some (.bool true) := (blk_cell BK101.out 5).trans rfl
               have hcz61_6 : w58.cell? ⟨gb101, 6, none⟩ = some (.int .i64 a0_6) := (blk_cell BK101.out 6).trans rfl
               have hcz61_7 : w58.cell? ⟨gb101, 7, none⟩ = some (.int .u8 a0_7) := (blk_cell BK101.out 7).trans rfl
               have hfz61_0 := blk_frozen BK101.out 0
               have hfz61_1 := blk_frozen BK101.out 1
               have hfz61_2 := blk_frozen BK101.out 2
               have hfz61_3 := blk_frozen BK101.out 3
               have hfz61_4 := blk_frozen BK101.out 4
               have hfz61_5 := blk_frozen BK101.out 5
               have hfz61_6 := blk_frozen BK101.out 6
               have hfz61_7 := blk_frozen BK101.out 7
               go_wp2
               go_meet
               case rel => exact ⟨_, (((wrap64 (a0_4)) == x9_1)), eqx, H', ⟨by have := HK1.out; have := HJ11.out; first | omega | exact Nat.le_refl _⟩, ⟨of_lies⟩, ⟨of_lies⟩, ⟨low HB⟩⟩
              ·
               replace c59 := Bool.eq_false_iff.mpr c59
               subst c59
               have H1 : (joustref28_Text.j4 kj11 t104 (x8_11 ++ ((t109 ++ (⟨#[58]⟩ : ByteArray)) ++ (t110.extract 1 t110.size))) x9_1 false a0_0 a0_1 a0_2 a0_3 a0_4 false a0_6 a0_7 t102 t103) = some r := by rw [if_neg (show ¬ (false = true) by decide)] at H; exact H
               clear H
               have H := H1
               clear H1
               have H' := Az H
               clear H
               have hnb62 := NB101_106.out
               have hnc62 := NB106_101.out
               have hcz63_0 : w58.cell? ⟨gb101, 0, none⟩ = some (.int .i64 a0_0) := (blk_cell BK101.out 0).trans rfl
               have hcz63_1 : w58.cell? ⟨gb101, 1, none⟩ = some (.int .i64 a0_1) := (blk_cell BK101.out 1).trans rfl
               have hcz63_2 : w58.cell? ⟨gb101, 2, none⟩ = some (.int .i64 a0_2) := (blk_cell BK101.out 2).trans rfl
               have hcz63_3 : w58.cell? ⟨gb101, 3, none⟩ = some (.int .i64 a0_3) := (blk_cell BK101.out 3).trans rfl
               have hcz63_4 : w58.cell? ⟨gb101, 4, none⟩ = some (.int .u8 a0_4) := (blk_cell BK101.out 4).trans rfl
               have hcz63_5 : w58.cell? ⟨gb101, 5, none⟩ = some (.bool false) := (blk_cell BK101.out 5).trans rfl
               have hcz63_6 : w58.cell? ⟨gb101, 6, none⟩ = some (.int .i64 a0_6) := (blk_cell BK101.out 6).trans rfl
               have hcz63_7 : w58.cell? ⟨gb101, 7, none⟩ = some (.int .u8 a0_7) := (blk_cell BK101.out 7).trans rfl
               have hfz63_0 := blk_frozen BK101.out 0
               have hfz63_1 := blk_frozen BK101.out 1
               have hfz63_2 := blk_frozen BK101.out 2
               have hfz63_3 := blk_frozen BK101.out 3
               have hfz63_4 := blk_frozen BK101.out 4
               have hfz63_5 := blk_frozen BK101.out 5
               have hfz63_6 := blk_frozen BK101.out 6
               have hfz63_7 := blk_frozen BK101.out 7
               go_wp2
               go_meet
               case rel => exact ⟨_, (false), eqx, H', ⟨by have := HK1.out; have := HJ11.out; first | omega | exact Nat.le_refl _⟩, ⟨of_lies⟩, ⟨of_lies⟩, ⟨low HB⟩⟩
             case rest =>
              clear HC55
              try clear c1
              try clear c2
              try clear p2
              try clear c3
              try clear c4
              try clear c4b0
              try clear c4b1
              try clear c5
              try clear c6
              try clear p6
              try clear c9
              try clear c11
              try clear c11b0
              try clear c13
              try clear c13b0
              try clear c13b1
              try clear c14
              try clear c14b0
              try clear c14b1
              try clear c14b2
              try clear c15
              try clear c15b0
              try clear c15b1
              try clear c18
              try clear c18b0
              try clear c18b1
              try clear c18b2
              try clear c21
              try clear c21b0
              try clear c21b1
              try clear c22
              try clear c22b0
              try clear c22b1
              try clear c22b2
              try clear c23
              try clear c23b0
              try clear c23b1
              try clear c23b2
              try clear c24
              try clear c28
              try clear c29
              try clear c31
              try clear c34
              try clear c34b0
              try clear c34b1
              try clear c35
              try clear c37
              try clear c38
              try clear c40
              try clear c42
              try clear c43
              try clear c43b0
              try clear c43b1
              try clear c43b2
              try clear c44
              try clear c45
              try clear c45b0
              try clear c45b1
              try clear c45b2
              try clear c46
              try clear c46b0
              try clear c46b1
              try clear c49
              try clear c49b0
              try clear c49b1
              try clear c49b2
              try clear c52
              try clear c52b0
              try clear c52b1
              try clear c53
              try clear c53b0
              try clear c53b1
              try clear c53b2
              try clear c54
              try clear c54b0
              try clear c54b1
              try clear c54b2
              try clear c59
              try clear c60
              try clear c62
              try clear hcz10_0
              try clear hcz10_1
              try clear hcz30_0
              try clear hcz30_1
              try clear hcz30_2
              try clear hcz30_3
              try clear hcz30_4
              try clear hcz30_5
              try clear hcz30_6
              try clear hcz30_7
              try clear hcz32_0
              try clear hcz32_1
              try clear hcz32_2
              try clear hcz32_3
              try clear hcz32_4
              try clear hcz32_5
              try clear hcz32_6
              try clear hcz32_7
              try clear hcz36_0
              try clear hcz36_1
              try clear hcz36_2
              try clear hcz36_3
              try clear hcz36_4
              try clear hcz36_5
              try clear hcz36_6
              try clear hcz36_7
              try clear hcz39_0
              try clear hcz39_1
              try clear hcz39_2
              try clear hcz39_3
              try clear hcz39_4
              try clear hcz39_5
              try clear hcz39_6
              try clear hcz39_7
              try clear hcz41_0
              try clear hcz41_1
              try clear hcz41_2
              try clear hcz41_3
              try clear hcz41_4
              try clear hcz41_5
              try clear hcz41_6
              try clear hcz41_7
              try clear hcz61_0
              try clear hcz61_1
              try clear hcz61_2
              try clear hcz61_3
              try clear hcz61_4
              try clear hcz61_5
              try clear hcz61_6
              try clear hcz61_7
              try clear hcz63_0
              try clear hcz63_1
              try clear hcz63_2
              try clear hcz63_3
              try clear hcz63_4
              try clear hcz63_5
              try clear hcz63_6
              try clear hcz63_7
              try clear hcz6_0
              try clear hcz6_1
              try clear hcz6_2
              try clear hcz6_3
              try clear hcz6_4
              try clear hcz6_5
              try clear hcz6_6
              try clear hcz6_7
              try clear hfz10_0
              try clear hfz10_1
              try clear hfz30_0
              try clear hfz30_1
              try clear hfz30_2
              try clear hfz30_3
              try clear hfz30_4
              try clear hfz30_5
              try clear hfz30_6
              try clear hfz30_7
              try clear hfz32_0
              try clear hfz32_1
              try clear hfz32_2
              try clear hfz32_3
              try clear hfz32_4
              try clear hfz32_5
              try clear hfz32_6
              try clear hfz32_7
              try clear hfz36_0
              try clear hfz36_1
              try clear hfz36_2
              try clear hfz36_3
              try clear hfz36_4
              try clear hfz36_5
              try clear hfz36_6
              try clear hfz36_7
              try clear hfz39_0
              try clear hfz39_1
              try clear hfz39_2
              try clear hfz39_3
              try clear hfz39_4
              try clear hfz39_5
              try clear hfz39_6
              try clear hfz39_7
              try clear hfz41_0
              try clear hfz41_1
              try clear hfz41_2
              try clear hfz41_3
              try clear hfz41_4
              try clear hfz41_5
              try clear hfz41_6
              try clear hfz41_7
              try clear hfz61_0
              try clear hfz61_1
              try clear hfz61_2
              try clear hfz61_3
              try clear hfz61_4
              try clear hfz61_5
              try clear hfz61_6
              try clear hfz61_7
              try clear hfz63_0
              try clear hfz63_1
              try clear hfz63_2
              try clear hfz63_3
              try clear hfz63_4
              try clear hfz63_5
              try clear hfz63_6
              try clear hfz63_7
              try clear hfz6_0
              try clear hfz6_1
              try clear hfz6_2
              try clear hfz6_3
              try clear hfz6_4
              try clear hfz6_5
              try clear hfz6_6
              try clear hfz6_7
              try clear p2
              try clear p6
              obtain ⟨kq, x10_54, rfl, HA, HJ54, BK101, BK106, HB⟩ := hcut
              cases kq with
              | zero => exact absurd HA.out (by simp [joustref28_Text.j4])
              | succ kj54 =>
               have H := HA.out
               clear HA
               simp only [joustref28_Text.j4] at H
               have HC64 := Az H
               clear H
               go_upto_region 12 with (fail)
               go_cut [63] (fun v63 wc => ∃ (kq : Nat) (x63_63 : Bool), v63 = .bool x63_63 ∧ Aside0 (joustref28_Text.j5 kq t104 (x8_11 ++ ((t109 ++ (⟨#[58]⟩ : ByteArray)) ++ (t110.extract 1 t110.size))) x9_1 x10_54 x63_63 a0_0 a0_1 a0_2 a0_3 a0_4 a0_5 a0_6 a0_7 t102 t103 = some r) ∧ Aside0 (kq ≤ kj54) ∧ Aside0 (wc.heap[gb101]? = some (.cells #[.int .i64 a0_0, .int .i64 a0_1, .int .i64 a0_2, .int .i64 a0_3, .int .u8 a0_4, .bool a0_5, .int .i64 a0_6, .int .u8 a0_7] 24 (0, 0))) ∧ Aside0 (wc.heap[gb106]? = some (.cells #[.int .i64 t102, .int .i64 t103] 22 (0, 0))) ∧ Aside0 (Below w.heap.size w wc))
               case first =>
                have H := HC64.out
                clear HC64
                by_cases c65 : (wrap64 (a0_7)) = x9_1
                ·
                 rw [if_pos c65] at H
                 have c65b0 : ((wrap64 (a0_7)) == x9_1) = true := beq_iff_eq.mpr c65
                 have c65b1 : ((wrap64 (a0_7)) != x9_1) = false := bne_eq_false_iff_eq.mpr c65
                 clear c65
                 (first | rw [c65b0] | (simp only [i64_w, i32_w]; rw [c65b0]) | skip)
                 have H' := Az H
                 clear H
                 have hnb66 := NB101_106.out
                 have hnc66 := NB106_101.out
                 have hcz67_0 : wc.cell? ⟨gb101, 0, none⟩ = some (.int .i64 a0_0) := (blk_cell BK101.out 0).trans rfl
                 have hcz67_1 : wc.cell? ⟨gb101, 1, none⟩ = some (.int .i64 a0_1) := (blk_cell BK101.out 1).trans rfl
                 have hcz67_2 : wc.cell? ⟨gb101, 2, none⟩ = some (.int .i64 a0_2) := (blk_cell BK101.out 2).trans rfl
                 have hcz67_3 : wc.cell? ⟨gb101, 3, none⟩ = some (.int .i64 a0_3) := (blk_cell BK101.out 3).trans rfl
                 have hcz67_4 : wc.cell? ⟨gb101, 4, none⟩ = some (.int .u8 a0_4) := (blk_cell BK101.out 4).trans rfl
                 have hcz67_5 : wc.cell? ⟨gb101, 5, none⟩ = some (.bool a0_5) := (blk_cell BK101.out 5).trans rfl
                 have hcz67_6 : wc.cell? ⟨gb101, 6, none⟩ = some (.int .i64 a0_6) := (blk_cell BK101.out 6).trans rfl
                 have hcz67_7 : wc.cell? ⟨gb101, 7, none⟩ = some (.int .u8 a0_7) := (blk_cell BK101.out 7).trans rfl
                 have hfz67_0 := blk_frozen BK101.out 0
                 have hfz67_1 := blk_frozen BK101.out 1
                 have hfz67_2 := blk_frozen BK101.out 2
                 have hfz67_3 := blk_frozen BK101.out 3
                 have hfz67_4 := blk_frozen BK101.out 4
                 have hfz67_5 := blk_frozen BK101.out 5
                 have hfz67_6 := blk_frozen BK101.out 6
                 have hfz67_7 := blk_frozen BK101.out 7
                 go_wp2
                 go_meet
                 case rel => exact ⟨_, (true), eqx, H', ⟨by have := HK1.out; have := HJ11.out; have := HJ54.out; first | omega | exact Nat.le_refl _⟩, ⟨of_lies⟩, ⟨of_lies⟩, ⟨low HB⟩⟩
                ·
                 rw [if_neg c65] at H
                 have c65b0 : ((wrap64 (a0_7)) == x9_1) = false := beq_eq_false_iff_ne.mpr c65
                 have c65b1 : ((wrap64 (a0_7)) != x9_1) = true := bne_iff_ne.mpr c65
                 (first | rw [c65b0] | (simp only [i64_w, i32_w]; rw [c65b0]) | skip)
                 by_cases c68 : x10_54 = true
                 ·
                  subst c68
                  have H1 : (joustref28_Text.j5 kj54 t104 (x8_11 ++ ((t109 ++ (⟨#[58]⟩ : ByteArray)) ++ (t110.extract 1 t110.size))) x9_1 true t104 a0_0 a0_1 a0_2 a0_3 a0_4 a0_5 a0_6 a0_7 t102 t103) = some r := by rw [if_pos rfl] at H; exact H
                  clear H
                  have H := H1
                  clear H1
                  have H' := Az H
                  clear H
                  have hnb69 := NB101_106.out
                  have hnc69 := NB106_101.out
                  have hcz70_0 : wc.cell? ⟨gb101, 0, none⟩ = some (.int .i64 a0_0) := (blk_cell BK101.out 0).trans rfl
                  have hcz70_1 : wc.cell? ⟨gb101, 1, none⟩ = some (.int .i64 a0_1) := (blk_cell BK101.out 1).trans rfl
                  have hcz70_2 : wc.cell? ⟨gb101, 2, none⟩ = some (.int .i64 a0_2) := (blk_cell BK101.out 2).trans rfl
                  have hcz70_3 : wc.cell? ⟨gb101, 3, none⟩ = some (.int .i64 a0_3) := (blk_cell BK101.out 3).trans rfl
                  have hcz70_4 : wc.cell? ⟨gb101, 4, none⟩ = some (.int .u8 a0_4) := (blk_cell BK101.out 4).trans rfl
                  have hcz70_5 : wc.cell? ⟨gb101, 5, none⟩ = some (.bool a0_5) := (blk_cell BK101.out 5).trans rfl
                  have hcz70_6 : wc.cell? ⟨gb101, 6, none⟩ = some (.int .i64 a0_6) := (blk_cell BK101.out 6).trans rfl
                  have hcz70_7 : wc.cell? ⟨gb101, 7, none⟩ = some (.int .u8 a0_7) := (blk_cell BK101.out 7).trans rfl
                  have hfz70_0 := blk_frozen BK101.out 0
                  have hfz70_1 := blk_frozen BK101.out 1
                  have hfz70_2 := blk_frozen BK101.out 2
                  have hfz70_3 := blk_frozen BK101.out 3
                  have hfz70_4 := blk_frozen BK101.out 4
                  have hfz70_5 := blk_frozen BK101.out 5
                  have hfz70_6 := blk_frozen BK101.out 6
                  have hfz70_7 := blk_frozen BK101.out 7
                  go_wp2
                  go_meet
                  case rel => exact ⟨_, (t104), eqx, H', ⟨by have := HK1.out; have := HJ11.out; have := HJ54.out; first | omega | exact Nat.le_refl _⟩, ⟨of_lies⟩, ⟨of_lies⟩, ⟨low HB⟩⟩
                 ·
                  replace c68 := Bool.eq_false_iff.mpr c68
                  subst c68
                  have H1 : (joustref28_Text.j5 kj54 t104 (x8_11 ++ ((t109 ++ (⟨#[58]⟩ : ByteArray)) ++ (t110.extract 1 t110.size))) x9_1 false false a0_0 a0_1 a0_2 a0_3 a0_4 a0_5 a0_6 a0_7 t102 t103) = some r := by rw [if_neg (show ¬ (false = true) by decide)] at H; exact H
                  clear H
                  have H := H1
                  clear H1
                  have H' := Az H
                  clear H
                  have hnb71 := NB101_106.out
                  have hnc71 := NB106_101.out
                  have hcz72_0 : wc.cell? ⟨gb101, 0, none⟩ = some (.int .i64 a0_0) := (blk_cell BK101.out 0).trans rfl
                  have hcz72_1 : wc.cell? ⟨gb101, 1, none⟩ = some (.int .i64 a0_1) := (blk_cell BK101.out 1).trans rfl
                  have hcz72_2 : wc.cell? ⟨gb101, 2, none⟩ = some (.int .i64 a0_2) := (blk_cell BK101.out 2).trans rfl
                  have hcz72_3 : wc.cell? ⟨gb101, 3, none⟩ = some (.int .i64 a0_3) := (blk_cell BK101.out 3).trans rfl
                  have hcz72_4 : wc.cell? ⟨gb101, 4, none⟩ = some (.int .u8 a0_4) := (blk_cell BK101.out 4).trans rfl
                  have hcz72_5 : wc.cell? ⟨gb101, 5, none⟩ = some (.bool a0_5) := (blk_cell BK101.out 5).trans rfl
                  have hcz72_6 : wc.cell? ⟨gb101, 6, none⟩ = some (.int .i64 a0_6) := (blk_cell BK101.out 6).trans rfl
                  have hcz72_7 : wc.cell? ⟨gb101, 7, none⟩ = some (.int .u8 a0_7) := (blk_cell BK101.out 7).trans rfl
                  have hfz72_0 := blk_frozen BK101.out 0
                  have hfz72_1 := blk_frozen BK101.out 1
                  have hfz72_2 := blk_frozen BK101.out 2
                  have hfz72_3 := blk_frozen BK101.out 3
                  have hfz72_4 := blk_frozen BK101.out 4
                  have hfz72_5 := blk_frozen BK101.out 5
                  have hfz72_6 := blk_frozen BK101.out 6
                  have hfz72_7 := blk_frozen BK101.out 7
                  go_wp2
                  go_meet
                  case rel => exact ⟨_, (false), eqx, H', ⟨by have := HK1.out; have := HJ11.out; have := HJ54.out; first | omega | exact Nat.le_refl _⟩, ⟨of_lies⟩, ⟨of_lies⟩, ⟨low HB⟩⟩
               case rest =>
                clear HC64
                try clear c1
                try clear c2
                try clear p2
                try clear c3
                try clear c4
                try clear c4b0
                try clear c4b1
                try clear c5
                try clear c6
                try clear p6
                try clear c7
                try clear c9
                try clear c11
                try clear c11b0
                try clear c13
                try clear c13b0
                try clear c13b1
                try clear c14
                try clear c14b0
                try clear c14b1
                try clear c14b2
                try clear c15
                try clear c15b0
                try clear c15b1
                try clear c18
                try clear c18b0
                try clear c18b1
                try clear c18b2
                try clear c21
                try clear c21b0
                try clear c21b1
                try clear c22
                try clear c22b0
                try clear c22b1
                try clear c22b2
                try clear c23
                try clear c23b0
                try clear c23b1
                try clear c23b2
                try clear c24
                try clear c28
                try clear c29
                try clear c31
                try clear c34
                try clear c34b0
                try clear c34b1
                try clear c35
                try clear c37
                try clear c38
                try clear c40
                try clear c42
                try clear c43
                try clear c43b0
                try clear c43b1
                try clear c43b2
                try clear c44
                try clear c45
                try clear c45b0
                try clear c45b1
                try clear c45b2
                try clear c46
                try clear c46b0
                try clear c46b1
                try clear c49
                try clear c49b0
                try clear c49b1
                try clear c49b2
                try clear c52
                try clear c52b0
                try clear c52b1
                try clear c53
                try clear c53b0
                try clear c53b1
                try clear c53b2
                try clear c54
                try clear c54b0
                try clear c54b1
                try clear c54b2
                try clear c59
                try clear c60
                try clear c62
                try clear p64
                try clear c65
                try clear c65b0
                try clear c65b1
                try clear c66
                try clear c68
                try clear c69
                try clear c71
                try clear hcz10_0
                try clear hcz10_1
                try clear hcz30_0
                try clear hcz30_1
                try clear hcz30_2
                try clear hcz30_3
                try clear hcz30_4
                try clear hcz30_5
                try clear hcz30_6
                try clear hcz30_7
                try clear hcz32_0
                try clear hcz32_1
                try clear hcz32_2
                try clear hcz32_3
                try clear hcz32_4
                try clear hcz32_5
                try clear hcz32_6
                try clear hcz32_7
                try clear hcz36_0
                try clear hcz36_1
                try clear hcz36_2
                try clear hcz36_3
                try clear hcz36_4
                try clear hcz36_5
                try clear hcz36_6
                try clear hcz36_7
                try clear hcz39_0
                try clear hcz39_1
                try clear hcz39_2
                try clear hcz39_3
                try clear hcz39_4
                try clear hcz39_5
                try clear hcz39_6
                try clear hcz39_7
                try clear hcz41_0
                try clear hcz41_1
                try clear hcz41_2
                try clear hcz41_3
                try clear hcz41_4
                try clear hcz41_5
                try clear hcz41_6
                try clear hcz41_7
                try clear hcz61_0
                try clear hcz61_1
                try clear hcz61_2
                try clear hcz61_3
                try clear hcz61_4
                try clear hcz61_5
                try clear hcz61_6
                try clear hcz61_7
                try clear hcz63_0
                try clear hcz63_1
                try clear hcz63_2
                try clear hcz63_3
                try clear hcz63_4
                try clear hcz63_5
                try clear hcz63_6
                try clear hcz63_7
                try clear hcz67_0
                try clear hcz67_1
                try clear hcz67_2
                try clear hcz67_3
                try clear hcz67_4
                try clear hcz67_5
                try clear hcz67_6
                try clear hcz67_7
                try clear hcz6_0
                try clear hcz6_1
                try clear hcz6_2
                try clear hcz6_3
                try clear hcz6_4
                try clear hcz6_5
                try clear hcz6_6
                try clear hcz6_7
                try clear hcz70_0
                try clear hcz70_1
                try clear hcz70_2
                try clear hcz70_3
                try clear hcz70_4
                try clear hcz70_5
                try clear hcz70_6
                try clear hcz70_7
                try clear hcz72_0
                try clear hcz72_1
                try clear hcz72_2
                try clear hcz72_3
                try clear hcz72_4
                try clear hcz72_5
                try clear hcz72_6
                try clear hcz72_7
                try clear hfz10_0
                try clear hfz10_1
                try clear hfz30_0
                try clear hfz30_1
                try clear hfz30_2
                try clear hfz30_3
                try clear hfz30_4
                try clear hfz30_5
                try clear hfz30_6
                try clear hfz30_7
                try clear hfz32_0
                try clear hfz32_1
                try clear hfz32_2
                try clear hfz32_3
                try clear hfz32_4
                try clear hfz32_5
                try clear hfz32_6
                try clear hfz32_7
                try clear hfz36_0
                try clear hfz36_1
                try clear hfz36_2
                try clear hfz36_3
                try clear hfz36_4
                try clear hfz36_5
                try clear hfz36_6
                try clear hfz36_7
                try clear hfz39_0
                try clear hfz39_1
                try clear hfz39_2
                try clear hfz39_3
                try clear hfz39_4
                try clear hfz39_5
                try clear hfz39_6
                try clear hfz39_7
                try clear hfz41_0
                try clear hfz41_1
                try clear hfz41_2
                try clear hfz41_3
                try clear hfz41_4
                try clear hfz41_5
                try clear hfz41_6
                try clear hfz41_7
                try clear hfz61_0
                try clear hfz61_1
                try clear hfz61_2
                try clear hfz61_3
                try clear hfz61_4
                try clear hfz61_5
                try clear hfz61_6
                try clear hfz61_7
                try clear hfz63_0
                try clear hfz63_1
                try clear hfz63_2
                try clear hfz63_3
                try clear hfz63_4
                try clear hfz63_5
                try clear hfz63_6
                try clear hfz63_7
                try clear hfz67_0
                try clear hfz67_1
                try clear hfz67_2
                try clear hfz67_3
                try clear hfz67_4
                try clear hfz67_5
                try clear hfz67_6
                try clear hfz67_7
                try clear hfz6_0
                try clear hfz6_1
                try clear hfz6_2
                try clear hfz6_3
                try clear hfz6_4
                try clear hfz6_5
                try clear hfz6_6
                try clear hfz6_7
                try clear hfz70_0
                try clear hfz70_1
                try clear hfz70_2
                try clear hfz70_3
                try clear hfz70_4
                try clear hfz70_5
                try clear hfz70_6
                try clear hfz70_7
                try clear hfz72_0
                try clear hfz72_1
                try clear hfz72_2
                try clear hfz72_3
                try clear hfz72_4
                try clear hfz72_5
                try clear hfz72_6
                try clear hfz72_7
                try clear p2
                try clear p6
                obtain ⟨kq, x63_63, rfl, HA, HJ63, BK101, BK106, HB⟩ := hcut
                cases kq with
                | zero => exact absurd HA.out (by simp [joustref28_Text.j5])
                | succ kj63 =>
                 have H := HA.out
                 clear HA
                 simp only [joustref28_Text.j5] at H
                 by_cases c73 : x63_63 = true
                 ·
                  subst c73
                  have H1 : (if (x8_11 ++ ((t109 ++ (⟨#[58]⟩ : ByteArray)) ++ (t110.extract 1 t110.size))).size + 5 ≤ 9223372036854775807 then (joustref28_Text.l0 kj63 t104 ((x8_11 ++ ((t109 ++ (⟨#[58]⟩ : ByteArray)) ++ (t110.extract 1 t110.size))) ++ (⟨#[32, 102, 101, 108, 108]⟩ : ByteArray)) (wrap64 (x9_1 + 1)) a0_0 a0_1 a0_2 a0_3 a0_4 a0_5 a0_6 a0_7 t102 t103) else (none)) = some r := by rw [if_pos rfl] at H; exact H
                  clear H
                  have H := H1
                  clear H1
                  by_cases c74 : (x8_11 ++ ((t109 ++ (⟨#[58]⟩ : ByteArray)) ++ (t110.extract 1 t110.size))).size + 5 ≤ 9223372036854775807
                  ·
                   rw [if_pos c74] at H
                   have c74b0 := eq_true c74
                   have c74b1 : decide ((x8_11 ++ ((t109 ++ (⟨#[58]⟩ : ByteArray)) ++ (t110.extract 1 t110.size))).size + 5 ≤ 9223372036854775807) = true := decide_eq_true c74
                   (try (have c74z := c74; simp only [ByteArray.size_append] at c74z; have c74b3 := eq_true c74z; have c74b4 := eq_false (Nat.not_lt.2 c74z); clear c74z))
                   (try (have c74z := c74; simp only [ByteArray.size_append, ByteArray.size_extract, Nat.min_self, ba_size, List.length_cons, List.length_nil, Nat.reduceAdd] at c74z; have c74b5 := eq_true c74z; have c74b6 := eq_false (Nat.not_lt.2 c74z); clear c74z))
                   try have c74b2 : (9223372036854775807 < (x8_11 ++ ((t109 ++ (⟨#[58]⟩ : ByteArray)) ++ (t110.extract 1 t110.size))).size + 5) = False := eq_false (Nat.not_lt.2 c74)
                   (try (have c74b8 : (9223372036854775807 < x8_11.size + (t109.size + 1 + (t110.size - 1)) + 5) = False := by rw [← c74b2]; simp <;> exact Iff.rfl))
                   have H' := Az H
                   clear H
                   go_wp2
                   go_roundg kj63
                   case measure => have := HK1.out; have := HJ11.out; have := HJ54.out; have := HJ63.out; omega
                   case rel => exact ⟨((x8_11 ++ ((t109 ++ (⟨#[58]⟩ : ByteArray)) ++ (t110.extract 1 t110.size))) ++ (⟨#[32, 102, 101, 108, 108]⟩ : ByteArray)), (wrap64 (x9_1 + 1)), eqx, eqx, H', ⟨by have := HK1.out; have := HJ11.out; have := HJ54.out; have := HJ63.out; omega⟩, ⟨of_lies⟩, ⟨of_lies⟩, ⟨low HB⟩⟩
                  ·
                   rw [if_neg c74] at H
                   exact absurd H (by simp)
                 ·
                  replace c73 := Bool.eq_false_iff.mpr c73
                  subst c73
                  have H1 : (if x10_54 = true then (if (x8_11 ++ ((t109 ++ (⟨#[58]⟩ : ByteArray)) ++ (t110.extract 1 t110.size))).size + 1 ≤ 9223372036854775807 then (joustref28_Text.l0 kj63 t104 ((x8_11 ++ ((t109 ++ (⟨#[58]⟩ : ByteArray)) ++ (t110.extract 1 t110.size))) ++ (⟨#[42]⟩ : ByteArray)) (wrap64 (x9_1 + 1)) a0_0 a0_1 a0_2 a0_3 a0_4 a0_5 a0_6 a0_7 t102 t103) else (none)) else (joustref28_Text.l0 kj63 t104 (x8_11 ++ ((t109 ++ (⟨#[58]⟩ : ByteArray)) ++ (t110.extract 1 t110.size))) (wrap64 (x9_1 + 1)) a0_0 a0_1 a0_2 a0_3 a0_4 a0_5 a0_6 a0_7 t102 t103)) = some r := by rw [if_neg (show ¬ (false = true) by decide)] at H; exact H
                  clear H
                  have H := H1
                  clear H1
                  by_cases c75 : x10_54 = true
                  ·
                   subst c75
                   have H1 : (if (x8_11 ++ ((t109 ++ (⟨#[58]⟩ : ByteArray)) ++ (t110.extract 1 t110.size))).size + 1 ≤ 9223372036854775807 then (joustref28_Text.l0 kj63 t104 ((x8_11 ++ ((t109 ++ (⟨#[58]⟩ : ByteArray)) ++ (t110.extract 1 t110.size))) ++ (⟨#[42]⟩ : ByteArray)) (wrap64 (x9_1 + 1)) a0_0 a0_1 a0_2 a0_3 a0_4 a0_5 a0_6 a0_7 t102 t103) else (none)) = some r := by rw [if_pos rfl] at H; exact H
                   clear H
                   have H := H1
                   clear H1
                   by_cases c76 : (x8_11 ++ ((t109 ++ (⟨#[58]⟩ : ByteArray)) ++ (t110.extract 1 t110.size))).size + 1 ≤ 9223372036854775807
                   ·
                    rw [if_pos c76] at H
                    have c76b0 := eq_true c76
                    have c76b1 : decide ((x8_11 ++ ((t109 ++ (⟨#[58]⟩ : ByteArray)) ++ (t110.extract 1 t110.size))).size + 1 ≤ 9223372036854775807) = true := decide_eq_true c76
                    (try (have c76z := c76; simp only [ByteArray.size_append] at c76z; have c76b3 := eq_true c76z; have c76b4 := eq_false (Nat.not_lt.2 c76z); clear c76z))
                    (try (have c76z := c76; simp only [ByteArray.size_append, ByteArray.size_extract, Nat.min_self, ba_size, List.length_cons, List.length_nil, Nat.reduceAdd] at c76z; have c76b5 := eq_true c76z; have c76b6 := eq_false (Nat.not_lt.2 c76z); clear c76z))
                    try have c76b2 : (9223372036854775807 < (x8_11 ++ ((t109 ++ (⟨#[58]⟩ : ByteArray)) ++ (t110.extract 1 t110.size))).size + 1) = False := eq_false (Nat.not_lt.2 c76)
                    (try (have c76b8 : (9223372036854775807 < x8_11.size + (t109.size + 1 + (t110.size - 1)) + 1) = False := by rw [← c76b2]; simp <;> exact Iff.rfl))
                    have H' := Az H
                    clear H
                    go_wp2
                    go_roundg kj63
                    case measure => have := HK1.out; have := HJ11.out; have := HJ54.out; have := HJ63.out; omega
                    case rel => exact ⟨((x8_11 ++ ((t109 ++ (⟨#[58]⟩ : ByteArray)) ++ (t110.extract 1 t110.size))) ++ (⟨#[42]⟩ : ByteArray)), (wrap64 (x9_1 + 1)), eqx, eqx, H', ⟨by have := HK1.out; have := HJ11.out; have := HJ54.out; have := HJ63.out; omega⟩, ⟨of_lies⟩, ⟨of_lies⟩, ⟨low HB⟩⟩
                   ·
                    rw [if_neg c76] at H
                    exact absurd H (by simp)
                  ·
                   replace c75 := Bool.eq_false_iff.mpr c75
                   subst c75
                   have H1 : (joustref28_Text.l0 kj63 t104 (x8_11 ++ ((t109 ++ (⟨#[58]⟩ : ByteArray)) ++ (t110.extract 1 t110.size))) (wrap64 (x9_1 + 1)) a0_0 a0_1 a0_2 a0_3 a0_4 a0_5 a0_6 a0_7 t102 t103) = some r := by rw [if_neg (show ¬ (false = true) by decide)] at H; exact H
                   clear H
                   have H := H1
                   clear H1
                   have H' := Az H
                   clear H
                   go_wp2
                   go_roundg kj63
                   case measure => have := HK1.out; have := HJ11.out; have := HJ54.out; have := HJ63.out; omega
                   case rel => exact ⟨((x8_11 ++ ((t109 ++ (⟨#[58]⟩ : ByteArray)) ++ (t110.extract 1 t110.size)))), (wrap64 (x9_1 + 1)), eqx, eqx, H', ⟨by have := HK1.out; have := HJ11.out; have := HJ54.out; have := HJ63.out; omega⟩, ⟨of_lies⟩, ⟨of_lies⟩, ⟨low HB⟩⟩
            ·
             rw [if_neg c54] at H
             exact absurd H (by simp)
           ·
            rw [if_neg c53] at H
            exact absurd H (by simp)
          ·
           rw [if_neg c52] at H
           exact absurd H (by simp)
         ·
          rw [if_neg c49] at H
          exact absurd H (by simp)
        ·
         rw [if_neg c46] at H
         exact absurd H (by simp)
    ·
     rw [if_neg c11] at H
     have c11b0 : decide (x9_1 < 2) = false := decide_eq_false c11
     clear c11
     obtain rfl := Option.some.inj H
     go_wp2
     go_ret
     exact ⟨by first | rfl | (simp [errW_none, errW_some] <;> rfl) | (simp [*, errW_none, errW_some] <;> rfl), low HB⟩
 ·
  rw [if_neg c4] at H
  have c4b0 : (t105 == 0) = false := beq_eq_false_iff_ne.mpr c4
  have c4b1 : (t105 != 0) = true := bne_iff_ne.mpr c4
  obtain rfl := Option.some.inj H
  go_enter Tryd.func18, Tryd.ntmps18
  go_wp2_with (first | ((with_reducible refine gate_dst (N := 2) rfl ?_); refine box_event ?hg (N := 2) ?hd (cs := #[.int .i64 a0_0, .int .i64 a0_1, .int .i64 a0_2, .int .i64 a0_3, .int .u8 a0_4, .bool a0_5, .int .i64 a0_6, .int .u8 a0_7]) (t := 24) ?hr ?_; (case hd => rfl); (case hg => rfl); (case hr => first | (go_simp; done) | (go_simp; rfl)); intro gb101 hg w77 hbox hb; have n0_ := Az (below_step (low HB) hb); have n1_ := Az (hbox); have n2_ := Az ((by rw [hg]; exact (below_size (low HB)) : w.heap.size ≤ gb101)); have n3_ := Az ((by rw [hg]; exact (below_size (low HB)) : w.heap.size ≤ gb101)); clear HB; have HB := n0_; have BK101 := n1_; have GW101 := n2_; have GE101 := n3_; clear n0_ n1_ n2_ n3_; clear hb hbox hg; obtain ⟨hcz78_0, hcz78_1, hcz78_2, hcz78_3, hcz78_4, hcz78_5, hcz78_6, hcz78_7, hfz78_0, hfz78_1, hfz78_2, hfz78_3, hfz78_4, hfz78_5, hfz78_6, hfz78_7⟩ := cells8 BK101.out) | ((with_reducible refine gate_callee (f := 24) rfl ?_); refine goesL_ (some 14) rfl rfl Tryd.func24 (by kernel_rfl) rfl #[.agg #[.int .i64 a0_0, .int .i64 a0_1, .int .i64 a0_2, .int .i64 a0_3, .int .u8 a0_4, .bool a0_5, .int .i64 a0_6, .int .u8 a0_7], .int .i64 a1] rfl mapx ?_; (with_reducible refine (Pcrf.joustref28_Look.calls k a0_0 a0_1 a0_2 a0_3 a0_4 a0_5 a0_6 a0_7 a1 t102 t103 t104 t105 _ A3.out).mono ?_); rintro e w79 ⟨rfl, hb⟩; refine ⟨_, rfl, ?_⟩; have n0_ := Az (blk_below (g := gb101) (o := .cells #[.int .i64 a0_0, .int .i64 a0_1, .int .i64 a0_2, .int .i64 a0_3, .int .u8 a0_4, .bool a0_5, .int .i64 a0_6, .int .u8 a0_7] 24 (0, 0)) of_lies hb); have n1_ := Az (below_step (low HB) hb); clear BK101; clear HB; have BK101 := n0_; have HB := n1_; clear n0_ n1_; (try clear hb); (try clear hb2); (try clear hk); (try clear hi)) | ((with_reducible refine gate_dst (N := 5) rfl ?_); refine box_event ?hg (N := 5) ?hd (cs := #[.int .i64 0, .int .i64 0]) (t := 22) ?hr ?_; (case hd => rfl); (case hg => rfl); (case hr => first | (go_simp; done) | (go_simp; rfl)); intro gb106 hg w80 hbox hb; have n0_ := Az (blk_below (g := gb101) (o := .cells #[.int .i64 a0_0, .int .i64 a0_1, .int .i64 a0_2, .int .i64 a0_3, .int .u8 a0_4, .bool a0_5, .int .i64 a0_6, .int .u8 a0_7] 24 (0, 0)) of_lies hb); have n1_ := Az (below_step (low HB) hb); have n2_ := Az (hbox); have n3_ := Az ((by rw [hg]; exact (below_size (low HB)) : w.heap.size ≤ gb106)); have n4_ := Az ((by rw [hg]; exact (below_size (low HB)) : w.heap.size ≤ gb106)); have n5_ := Az ((by rw [hg]; exact Nat.ne_of_lt (blk_lt (g := gb101) (o := .cells #[.int .i64 a0_0, .int .i64 a0_1, .int .i64 a0_2, .int .i64 a0_3, .int .u8 a0_4, .bool a0_5, .int .i64 a0_6, .int .u8 a0_7] 24 (0, 0)) of_lies) : gb101 ≠ gb106)); have n6_ := Az ((by rw [hg]; exact Nat.ne_of_gt (blk_lt (g := gb101) (o := .cells #[.int .i64 a0_0, .int .i64 a0_1, .int .i64 a0_2, .int .i64 a0_3, .int .u8 a0_4, .bool a0_5, .int .i64 a0_6, .int .u8 a0_7] 24 (0, 0)) of_lies) : gb106 ≠ gb101)); clear BK101; clear HB; have BK101 := n0_; have HB := n1_; have BK106 := n2_; have GW106 := n3_; have GE106 := n4_; have NB101_106 := n5_; have NB106_101 := n6_; clear n0_ n1_ n2_ n3_ n4_ n5_ n6_; clear hb hbox hg; have hnb81 := NB106_101.out; have hnc81 := NB101_106.out; obtain ⟨hcz82_0, hcz82_1, hfz82_0, hfz82_1⟩ := cells2 BK106.out))
  go_ret
  exact ⟨by first | rfl | (simp [errW_none, errW_some] <;> rfl) | (simp [*, errW_none, errW_some] <;> rfl), low HB⟩
end Go.Proofs.YtcdcpnhlmgmnkaaDoor.Pcrt
end
