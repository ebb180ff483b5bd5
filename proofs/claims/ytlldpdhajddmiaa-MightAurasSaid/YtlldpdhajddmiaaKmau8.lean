/- Joined by a program of this session (pack.py) out of: Pmgbx0 Pmgbx2 Pmgbx1 -/
import Derived.ArgAppend
import Derived.Below
import Derived.BigQuiet
import Derived.Deep.AppendLies
import Derived.Deep.CutBlock
import Derived.Deep.DeepCutAuto
import Derived.Deep.Draws
import Derived.Deep.LoopGhost
import Derived.Deep.OwnRows
import Derived.Deep.QuietTactic
import Derived.Deep.RegionHeld3
import Derived.KernelRfl
import Derived.Laws.BitsLemmas
import Derived.Laws.BytesArg
import Derived.Laws.IdiomCopy
import Derived.Laws.MakeOwn
import Derived.Laws.OwnMore
import Derived.Laws.Rows
import Derived.Laws.Slices
import Derived.Lib.AppendStr
import Derived.Lib.ConvBytes
import Derived.Maps.AppendAt
import Derived.OrdersHeld
import Derived.OwnWalk
import Derived.RowKit
import Derived.RowKit3
import Derived.Tactics
import Derived.Test.YtlldpdhajddmiaaProg
import Derived.WalkKit
import Derived.WideLaws
import Derived.Test.YtlldpdhajddmiaaKmau1
import Derived.Test.YtlldpdhajddmiaaKmau5
import Derived.Test.YtlldpdhajddmiaaKmau7
section
namespace Go.Proofs.Ytlldpdhajddmiaa.Pmgb
open Go.RowKit Go.Proofs.Ytlldpdhajddmiaa.Pmga Go.Proofs.Ytlldpdhajddmiaa.Base Go.Proofs.YtlldpdhajddmiaaW.PrintWords Go.Proofs.YtlldpdhajddmiaaW.PrintLast Go.Proofs.YtlldpdhajddmiaaW.PrintMore
attribute [local go_sem] max2_int min2_int max_two min_two max_three min_three max_four min_four   -- for this text's walks alone
set_option linter.unusedVariables false
set_option linter.unusedSimpArgs false
def errW : Option Int → Value
  | none => .nilIface
  | some c => .iface 0 (.int .i64 c)
theorem errW_none : errW none = .nilIface := rfl
theorem errW_some (c : Int) : errW (some c) = .iface 0 (.int .i64 c) := rfl
theorem info3 : (Try.prog.info? 3).map (fun i => (i.zero, i.size, i.bytes)) = some (some (.int .i64 0), 1, 8) := by kernel_rfl
theorem info35 : (Try.prog.info? 35).map (fun i => (i.zero, i.size, i.bytes)) = some (some (.agg #[(.int .i64 0), (.int .i64 0), (.int .i64 0), (.int .u8 0), (.int .u8 0), (.int .u8 0), (.int .i64 0), (.bool false), (.bool false), (.int .i64 0), (.int .u8 0), (.bool false), (.bool false), (.int .i64 0)]), 14, 72) := by kernel_rfl
theorem info50 : (Try.prog.info? 50).map (fun i => (i.zero, i.size, i.bytes)) = some (some (.agg #[(.int .u8 0), (.int .i64 0), (.int .i64 0)]), 3, 24) := by kernel_rfl
theorem info88 : (Try.prog.info? 88).map (fun i => (i.zero, i.size, i.bytes)) = some (some (.agg #[(.int .u8 0), (.int .u8 0), (.int .u8 0), (.slice none 0 0), (.int .i64 0), (.int .i64 0), (.bool false), (.int .i64 0), (.int .u8 0), (.int .u8 0), (.int .u8 0), (.slice none 0 0)]), 12, 96) := by kernel_rfl
theorem info97 : (Try.prog.info? 97).map (fun i => (i.zero, i.size, i.bytes)) = some (some (.agg #[(.string ⟨#[]⟩), (.int .u8 0), (.int .i64 0), (.int .i64 0), (.int .i64 0), (.slice none 0 0)]), 6, 72) := by kernel_rfl
theorem info107 : (Try.prog.info? 107).map (fun i => (i.zero, i.size, i.bytes)) = some (some (.agg #[(.int .u8 0), (.int .u8 0), (.int .u8 0), (.int .i64 0), (.int .u8 0), (.int .u8 0), (.int .u8 0), (.int .u8 0), (.slice none 0 0), (.bool false), (.int .u8 0), (.int .u8 0), (.int .u8 0)]), 13, 64) := by kernel_rfl
def rd_L5 (xs : List (List S70)) (i : Int) : (List S70) := xs.getD i.toNat ([] : List S70)
theorem at_L5 {w : World} {A : Option Addr} {n : Nat} {xs : List (List S70)} (h : Kd.C (Kd.slice 70 k70) w A n xs) (i : Int) (h0 : 0 ≤ i) (h1 : i < n) : ∃ ad A0 c0, A = some ad ∧ w.cell? (ad.add i.toNat) = some (.slice A0 (rd_L5 xs i).length c0) ∧ (rd_L5 xs i).length ≤ c0 ∧ k70.C w A0 (rd_L5 xs i).length (rd_L5 xs i) := by
  obtain ⟨ad, c, e, _, hK, hc0⟩ := Kd.C_get h ([] : List S70) i h0 h1
  have hc : ∀ j u, c[j]? = some u → w.cell? (ad.add (i.toNat * 1 + j)) = some u := hc0
  obtain ⟨A0, c0, rfl, l0, g0⟩ := hK
  exact ⟨ad, A0, c0, e, by have hq := hc 0 _ rfl; rwa [Nat.mul_one, Nat.add_zero] at hq, l0, g0⟩
def rd_L8 (xs : List (List S107)) (i : Int) : (List S107) := xs.getD i.toNat ([] : List S107)
theorem at_L8 {w : World} {A : Option Addr} {n : Nat} {xs : List (List S107)} (h : Kd.C (Kd.slice 107 k107) w A n xs) (i : Int) (h0 : 0 ≤ i) (h1 : i < n) : ∃ ad A0 c0, A = some ad ∧ w.cell? (ad.add i.toNat) = some (.slice A0 (rd_L8 xs i).length c0) ∧ (rd_L8 xs i).length ≤ c0 ∧ k107.C w A0 (rd_L8 xs i).length (rd_L8 xs i) := by
  obtain ⟨ad, c, e, _, hK, hc0⟩ := Kd.C_get h ([] : List S107) i h0 h1
  have hc : ∀ j u, c[j]? = some u → w.cell? (ad.add (i.toNat * 1 + j)) = some u := hc0
  obtain ⟨A0, c0, rfl, l0, g0⟩ := hK
  exact ⟨ad, A0, c0, e, by have hq := hc 0 _ rfl; rwa [Nat.mul_one, Nat.add_zero] at hq, l0, g0⟩
def rd_L10 (xs : List (List S88)) (i : Int) : (List S88) := xs.getD i.toNat ([] : List S88)
theorem at_L10 {w : World} {A : Option Addr} {n : Nat} {xs : List (List S88)} (h : Kd.C (Kd.slice 88 k88) w A n xs) (i : Int) (h0 : 0 ≤ i) (h1 : i < n) : ∃ ad A0 c0, A = some ad ∧ w.cell? (ad.add i.toNat) = some (.slice A0 (rd_L10 xs i).length c0) ∧ (rd_L10 xs i).length ≤ c0 ∧ k88.C w A0 (rd_L10 xs i).length (rd_L10 xs i) := by
  obtain ⟨ad, c, e, _, hK, hc0⟩ := Kd.C_get h ([] : List S88) i h0 h1
  have hc : ∀ j u, c[j]? = some u → w.cell? (ad.add (i.toNat * 1 + j)) = some u := hc0
  obtain ⟨A0, c0, rfl, l0, g0⟩ := hK
  exact ⟨ad, A0, c0, e, by have hq := hc 0 _ rfl; rwa [Nat.mul_one, Nat.add_zero] at hq, l0, g0⟩
def rd_L12 (xs : List (List S97)) (i : Int) : (List S97) := xs.getD i.toNat ([] : List S97)
theorem at_L12 {w : World} {A : Option Addr} {n : Nat} {xs : List (List S97)} (h : Kd.C (Kd.slice 97 k97) w A n xs) (i : Int) (h0 : 0 ≤ i) (h1 : i < n) : ∃ ad A0 c0, A = some ad ∧ w.cell? (ad.add i.toNat) = some (.slice A0 (rd_L12 xs i).length c0) ∧ (rd_L12 xs i).length ≤ c0 ∧ k97.C w A0 (rd_L12 xs i).length (rd_L12 xs i) := by
  obtain ⟨ad, c, e, _, hK, hc0⟩ := Kd.C_get h ([] : List S97) i h0 h1
  have hc : ∀ j u, c[j]? = some u → w.cell? (ad.add (i.toNat * 1 + j)) = some u := hc0
  obtain ⟨A0, c0, rfl, l0, g0⟩ := hK
  exact ⟨ad, A0, c0, e, by have hq := hc 0 _ rfl; rwa [Nat.mul_one, Nat.add_zero] at hq, l0, g0⟩
def rd_L14 (xs : List (List S35)) (i : Int) : (List S35) := xs.getD i.toNat ([] : List S35)
theorem at_L14 {w : World} {A : Option Addr} {n : Nat} {xs : List (List S35)} (h : Kd.C (Kd.slice 35 k35) w A n xs) (i : Int) (h0 : 0 ≤ i) (h1 : i < n) : ∃ ad A0 c0, A = some ad ∧ w.cell? (ad.add i.toNat) = some (.slice A0 (rd_L14 xs i).length c0) ∧ (rd_L14 xs i).length ≤ c0 ∧ k35.C w A0 (rd_L14 xs i).length (rd_L14 xs i) := by
  obtain ⟨ad, c, e, _, hK, hc0⟩ := Kd.C_get h ([] : List S35) i h0 h1
  have hc : ∀ j u, c[j]? = some u → w.cell? (ad.add (i.toNat * 1 + j)) = some u := hc0
  obtain ⟨A0, c0, rfl, l0, g0⟩ := hK
  exact ⟨ad, A0, c0, e, by have hq := hc 0 _ rfl; rwa [Nat.mul_one, Nat.add_zero] at hq, l0, g0⟩
structure S24 where
  f0 : Int
  f1 : Int
def z24 : S24 := ⟨(0 : Int), (0 : Int)⟩
def k24 : Kd S24 := Kd.iso (Kd.pair (Kd.int .i64) (Kd.int .i64)) (fun x : S24 => (x.f0, x.f1))
theorem k24_open {w : World} {x : S24} {cs : List Value} (h : k24.K w x cs) : cs = [.int .i64 x.f0, .int .i64 x.f1] := by
  obtain ⟨_, _, rfl, rfl, rfl⟩ := h
  exact rfl
theorem k24_openM {w : World} {base : Nat} {ok : Nat → Prop} {x : S24} {cs : List Value} (h : k24.M w base ok x cs) : cs = [.int .i64 x.f0, .int .i64 x.f1] := by
  obtain ⟨_, _, rfl, rfl, rfl⟩ := h
  exact rfl
theorem k24_mk (w : World) (x : S24)  : k24.K w x [.int .i64 x.f0, .int .i64 x.f1] := ⟨[.int .i64 x.f0], [.int .i64 x.f1], rfl, rfl, rfl⟩
theorem k24_mkM (w : World) (base : Nat) (ok : Nat → Prop) (x : S24)  : k24.M w base ok x [.int .i64 x.f0, .int .i64 x.f1] := ⟨[.int .i64 x.f0], [.int .i64 x.f1], rfl, rfl, rfl⟩
theorem k24_mkF (W : World) (ok : Nat → Prop) (x : S24) : Kd.FK k24 W ok x [.int .i64 x.f0, .int .i64 x.f1] := fun W2 _ => k24_mk W2 x
def rd_T24 (xs : List S24) (i : Int) : S24 := xs.getD i.toNat z24
theorem at_T24 {w : World} {A : Option Addr} {n : Nat} {xs : List S24} (h : Kd.C k24 w A n xs) (i : Int) (h0 : 0 ≤ i) (h1 : i < n) : ∃ ad , A = some ad ∧ w.cell? (ad.add (i.toNat * 2)) = some (.int .i64 (rd_T24 xs i).f0) ∧ w.cell? ⟨(ad.add (i.toNat * 2)).block, (ad.add (i.toNat * 2)).off + 1, none⟩ = some (.int .i64 (rd_T24 xs i).f1) := by
  obtain ⟨ad, c, e, _, hK, hc0⟩ := Kd.C_get h z24 i h0 h1
  have hc : ∀ j u, c[j]? = some u → w.cell? (ad.add (i.toNat * 2 + j)) = some u := hc0
  obtain rfl := k24_open hK
  exact ⟨ad, e, hc 0 _ rfl, by rw [← add_field _ _ 1 (by omega)]; exact hc 1 _ rfl⟩
def rd_L17 (xs : List (List S58)) (i : Int) : (List S58) := xs.getD i.toNat ([] : List S58)
theorem at_L17 {w : World} {A : Option Addr} {n : Nat} {xs : List (List S58)} (h : Kd.C (Kd.slice 58 k58) w A n xs) (i : Int) (h0 : 0 ≤ i) (h1 : i < n) : ∃ ad A0 c0, A = some ad ∧ w.cell? (ad.add i.toNat) = some (.slice A0 (rd_L17 xs i).length c0) ∧ (rd_L17 xs i).length ≤ c0 ∧ k58.C w A0 (rd_L17 xs i).length (rd_L17 xs i) := by
  obtain ⟨ad, c, e, _, hK, hc0⟩ := Kd.C_get h ([] : List S58) i h0 h1
  have hc : ∀ j u, c[j]? = some u → w.cell? (ad.add (i.toNat * 1 + j)) = some u := hc0
  obtain ⟨A0, c0, rfl, l0, g0⟩ := hK
  exact ⟨ad, A0, c0, e, by have hq := hc 0 _ rfl; rwa [Nat.mul_one, Nat.add_zero] at hq, l0, g0⟩
structure S26 where
  f0 : Bool
  f1 : Bool
def z26 : S26 := ⟨false, false⟩
def k26 : Kd S26 := Kd.iso (Kd.pair Kd.bool Kd.bool) (fun x : S26 => (x.f0, x.f1))
theorem k26_open {w : World} {x : S26} {cs : List Value} (h : k26.K w x cs) : cs = [.bool x.f0, .bool x.f1] := by
  obtain ⟨_, _, rfl, rfl, rfl⟩ := h
  exact rfl
theorem k26_openM {w : World} {base : Nat} {ok : Nat → Prop} {x : S26} {cs : List Value} (h : k26.M w base ok x cs) : cs = [.bool x.f0, .bool x.f1] := by
  obtain ⟨_, _, rfl, rfl, rfl⟩ := h
  exact rfl
theorem k26_mk (w : World) (x : S26)  : k26.K w x [.bool x.f0, .bool x.f1] := ⟨[.bool x.f0], [.bool x.f1], rfl, rfl, rfl⟩
theorem k26_mkM (w : World) (base : Nat) (ok : Nat → Prop) (x : S26)  : k26.M w base ok x [.bool x.f0, .bool x.f1] := ⟨[.bool x.f0], [.bool x.f1], rfl, rfl, rfl⟩
theorem k26_mkF (W : World) (ok : Nat → Prop) (x : S26) : Kd.FK k26 W ok x [.bool x.f0, .bool x.f1] := fun W2 _ => k26_mk W2 x
def rd_T26 (xs : List S26) (i : Int) : S26 := xs.getD i.toNat z26
theorem at_T26 {w : World} {A : Option Addr} {n : Nat} {xs : List S26} (h : Kd.C k26 w A n xs) (i : Int) (h0 : 0 ≤ i) (h1 : i < n) : ∃ ad , A = some ad ∧ w.cell? (ad.add (i.toNat * 2)) = some (.bool (rd_T26 xs i).f0) ∧ w.cell? ⟨(ad.add (i.toNat * 2)).block, (ad.add (i.toNat * 2)).off + 1, none⟩ = some (.bool (rd_T26 xs i).f1) := by
  obtain ⟨ad, c, e, _, hK, hc0⟩ := Kd.C_get h z26 i h0 h1
  have hc : ∀ j u, c[j]? = some u → w.cell? (ad.add (i.toNat * 2 + j)) = some u := hc0
  obtain rfl := k26_open hK
  exact ⟨ad, e, hc 0 _ rfl, by rw [← add_field _ _ 1 (by omega)]; exact hc 1 _ rfl⟩
structure S28 where
  f0 : (List S97)
  f1 : (List S35)
  f2 : S24
  f3 : Int
  f4 : Int
  f5 : Int
  f6 : (List S58)
  f7 : S26
def z28 : S28 := ⟨([] : List S97), ([] : List S35), z24, (0 : Int), (0 : Int), (0 : Int), ([] : List S58), z26⟩
def k28 : Kd S28 := Kd.iso (Kd.pair (Kd.slice 97 k97) (Kd.pair (Kd.slice 35 k35) (Kd.pair k24 (Kd.pair (Kd.int .i64) (Kd.pair (Kd.int .u8) (Kd.pair (Kd.int .i64) (Kd.pair (Kd.slice 58 k58) k26))))))) (fun x : S28 => (x.f0, x.f1, x.f2, x.f3, x.f4, x.f5, x.f6, x.f7))
theorem k28_open {w : World} {x : S28} {cs : List Value} (h : k28.K w x cs) : ∃ A0 c0 A1 c1 A7 c7, cs = [.slice A0 x.f0.length c0, .slice A1 x.f1.length c1, .int .i64 x.f2.f0, .int .i64 x.f2.f1, .int .i64 x.f3, .int .u8 x.f4, .int .i64 x.f5, .slice A7 x.f6.length c7, .bool x.f7.f0, .bool x.f7.f1] ∧ x.f0.length ≤ c0 ∧ k97.C w A0 x.f0.length x.f0 ∧ x.f1.length ≤ c1 ∧ k35.C w A1 x.f1.length x.f1 ∧ x.f6.length ≤ c7 ∧ k58.C w A7 x.f6.length x.f6 := by
  obtain ⟨_, _, rfl, ⟨A0, c0, rfl, l0, g0⟩, ⟨_, _, rfl, ⟨A1, c1, rfl, l1, g1⟩, ⟨_, _, rfl, s2, ⟨_, _, rfl, rfl, ⟨_, _, rfl, rfl, ⟨_, _, rfl, rfl, ⟨_, _, rfl, ⟨A7, c7, rfl, l7, g7⟩, s8⟩⟩⟩⟩⟩⟩⟩ := h
  obtain rfl := k24_open s2
  obtain rfl := k26_open s8
  exact ⟨A0, c0, A1, c1, A7, c7, rfl, l0, g0, l1, g1, l7, g7⟩
theorem k28_openM {w : World} {base : Nat} {ok : Nat → Prop} {x : S28} {cs : List Value} (h : k28.M w base ok x cs) : ∃ v0 v1 v7, cs = [v0, v1, .int .i64 x.f2.f0, .int .i64 x.f2.f1, .int .i64 x.f3, .int .u8 x.f4, .int .i64 x.f5, v7, .bool x.f7.f0, .bool x.f7.f1] ∧ k97.R 97 w base ok v0 x.f0 ∧ k35.R 35 w base ok v1 x.f1 ∧ k58.R 58 w base ok v7 x.f6 := by
  obtain ⟨_, _, rfl, ⟨v0, rfl, g0⟩, ⟨_, _, rfl, ⟨v1, rfl, g1⟩, ⟨_, _, rfl, s2, ⟨_, _, rfl, rfl, ⟨_, _, rfl, rfl, ⟨_, _, rfl, rfl, ⟨_, _, rfl, ⟨v7, rfl, g7⟩, s8⟩⟩⟩⟩⟩⟩⟩ := h
  obtain rfl := k24_openM s2
  obtain rfl := k26_openM s8
  exact ⟨v0, v1, v7, rfl, g0, g1, g7⟩
theorem k28_mk (w : World) (x : S28) {A0 : Option Addr} {c0 : Nat} (l0 : x.f0.length ≤ c0) (g0 : k97.C w A0 x.f0.length x.f0) {A1 : Option Addr} {c1 : Nat} (l1 : x.f1.length ≤ c1) (g1 : k35.C w A1 x.f1.length x.f1) {A7 : Option Addr} {c7 : Nat} (l7 : x.f6.length ≤ c7) (g7 : k58.C w A7 x.f6.length x.f6) : k28.K w x [.slice A0 x.f0.length c0, .slice A1 x.f1.length c1, .int .i64 x.f2.f0, .int .i64 x.f2.f1, .int .i64 x.f3, .int .u8 x.f4, .int .i64 x.f5, .slice A7 x.f6.length c7, .bool x.f7.f0, .bool x.f7.f1] := ⟨[.slice A0 x.f0.length c0], [.slice A1 x.f1.length c1, .int .i64 x.f2.f0, .int .i64 x.f2.f1, .int .i64 x.f3, .int .u8 x.f4, .int .i64 x.f5, .slice A7 x.f6.length c7, .bool x.f7.f0, .bool x.f7.f1], rfl, ⟨A0, c0, rfl, l0, g0⟩, ⟨[.slice A1 x.f1.length c1], [.int .i64 x.f2.f0, .int .i64 x.f2.f1, .int .i64 x.f3, .int .u8 x.f4, .int .i64 x.f5, .slice A7 x.f6.length c7, .bool x.f7.f0, .bool x.f7.f1], rfl, ⟨A1, c1, rfl, l1, g1⟩, ⟨[.int .i64 x.f2.f0, .int .i64 x.f2.f1], [.int .i64 x.f3, .int .u8 x.f4, .int .i64 x.f5, .slice A7 x.f6.length c7, .bool x.f7.f0, .bool x.f7.f1], rfl, (k24_mk w x.f2 ), ⟨[.int .i64 x.f3], [.int .u8 x.f4, .int .i64 x.f5, .slice A7 x.f6.length c7, .bool x.f7.f0, .bool x.f7.f1], rfl, rfl, ⟨[.int .u8 x.f4], [.int .i64 x.f5, .slice A7 x.f6.length c7, .bool x.f7.f0, .bool x.f7.f1], rfl, rfl, ⟨[.int .i64 x.f5], [.slice A7 x.f6.length c7, .bool x.f7.f0, .bool x.f7.f1], rfl, rfl, ⟨[.slice A7 x.f6.length c7], [.bool x.f7.f0, .bool x.f7.f1], rfl, ⟨A7, c7, rfl, l7, g7⟩, (k26_mk w x.f7 )⟩⟩⟩⟩⟩⟩⟩
theorem k28_mkM (w : World) (base : Nat) (ok : Nat → Prop) (x : S28) {v0 : Value} (g0 : k97.R 97 w base ok v0 x.f0) {v1 : Value} (g1 : k35.R 35 w base ok v1 x.f1) {v7 : Value} (g7 : k58.R 58 w base ok v7 x.f6) : k28.M w base ok x [v0, v1, .int .i64 x.f2.f0, .int .i64 x.f2.f1, .int .i64 x.f3, .int .u8 x.f4, .int .i64 x.f5, v7, .bool x.f7.f0, .bool x.f7.f1] := ⟨[v0], [v1, .int .i64 x.f2.f0, .int .i64 x.f2.f1, .int .i64 x.f3, .int .u8 x.f4, .int .i64 x.f5, v7, .bool x.f7.f0, .bool x.f7.f1], rfl, ⟨v0, rfl, g0⟩, ⟨[v1], [.int .i64 x.f2.f0, .int .i64 x.f2.f1, .int .i64 x.f3, .int .u8 x.f4, .int .i64 x.f5, v7, .bool x.f7.f0, .bool x.f7.f1], rfl, ⟨v1, rfl, g1⟩, ⟨[.int .i64 x.f2.f0, .int .i64 x.f2.f1], [.int .i64 x.f3, .int .u8 x.f4, .int .i64 x.f5, v7, .bool x.f7.f0, .bool x.f7.f1], rfl, (k24_mkM w base ok x.f2 ), ⟨[.int .i64 x.f3], [.int .u8 x.f4, .int .i64 x.f5, v7, .bool x.f7.f0, .bool x.f7.f1], rfl, rfl, ⟨[.int .u8 x.f4], [.int .i64 x.f5, v7, .bool x.f7.f0, .bool x.f7.f1], rfl, rfl, ⟨[.int .i64 x.f5], [v7, .bool x.f7.f0, .bool x.f7.f1], rfl, rfl, ⟨[v7], [.bool x.f7.f0, .bool x.f7.f1], rfl, ⟨v7, rfl, g7⟩, (k26_mkM w base ok x.f7 )⟩⟩⟩⟩⟩⟩⟩
theorem k28_openF {W : World} {ok : Nat → Prop} {x : S28} {cs : List Value} (h : Kd.FK k28 W ok x cs) : ∃ A0 c0 A1 c1 A7 c7, cs = [.slice A0 x.f0.length c0, .slice A1 x.f1.length c1, .int .i64 x.f2.f0, .int .i64 x.f2.f1, .int .i64 x.f3, .int .u8 x.f4, .int .i64 x.f5, .slice A7 x.f6.length c7, .bool x.f7.f0, .bool x.f7.f1] ∧ x.f0.length ≤ c0 ∧ Kd.F k97 W ok A0 x.f0.length x.f0 ∧ x.f1.length ≤ c1 ∧ Kd.F k35 W ok A1 x.f1.length x.f1 ∧ x.f6.length ≤ c7 ∧ Kd.F k58 W ok A7 x.f6.length x.f6 := by
  obtain ⟨A0, c0, A1, c1, A7, c7, rfl, l0, _, l1, _, l7, _⟩ := k28_open (Kd.FK_now h)
  exact ⟨A0, c0, A1, c1, A7, c7, rfl, l0, (fun W' hW => by obtain ⟨A0_, c0_, A1_, c1_, A7_, c7_, he, l0_, g0_, l1_, g1_, l7_, g7_⟩ := k28_open (h W' hW); injection (Option.some.inj (show some (Value.slice A0 x.f0.length c0) = some (Value.slice A0_ x.f0.length c0_) from congrArg (fun l => l[0]?) he)) with ha_ _ _; rw [ha_]; exact g0_), l1, (fun W' hW => by obtain ⟨A0_, c0_, A1_, c1_, A7_, c7_, he, l0_, g0_, l1_, g1_, l7_, g7_⟩ := k28_open (h W' hW); injection (Option.some.inj (show some (Value.slice A1 x.f1.length c1) = some (Value.slice A1_ x.f1.length c1_) from congrArg (fun l => l[1]?) he)) with ha_ _ _; rw [ha_]; exact g1_), l7, (fun W' hW => by obtain ⟨A0_, c0_, A1_, c1_, A7_, c7_, he, l0_, g0_, l1_, g1_, l7_, g7_⟩ := k28_open (h W' hW); injection (Option.some.inj (show some (Value.slice A7 x.f6.length c7) = some (Value.slice A7_ x.f6.length c7_) from congrArg (fun l => l[7]?) he)) with ha_ _ _; rw [ha_]; exact g7_)⟩
theorem k28_mkF (W : World) (ok : Nat → Prop) (x : S28) {A0 : Option Addr} {c0 : Nat} (l0 : x.f0.length ≤ c0) (g0 : Kd.F k97 W ok A0 x.f0.length x.f0) {A1 : Option Addr} {c1 : Nat} (l1 : x.f1.length ≤ c1) (g1 : Kd.F k35 W ok A1 x.f1.length x.f1) {A7 : Option Addr} {c7 : Nat} (l7 : x.f6.length ≤ c7) (g7 : Kd.F k58 W ok A7 x.f6.length x.f6) : Kd.FK k28 W ok x [.slice A0 x.f0.length c0, .slice A1 x.f1.length c1, .int .i64 x.f2.f0, .int .i64 x.f2.f1, .int .i64 x.f3, .int .u8 x.f4, .int .i64 x.f5, .slice A7 x.f6.length c7, .bool x.f7.f0, .bool x.f7.f1] := fun W2 hW => k28_mk W2 x l0 (g0 W2 hW) l1 (g1 W2 hW) l7 (g7 W2 hW)
def rd_T28 (xs : List S28) (i : Int) : S28 := xs.getD i.toNat z28
theorem at_T28 {w : World} {A : Option Addr} {n : Nat} {xs : List S28} (h : Kd.C k28 w A n xs) (i : Int) (h0 : 0 ≤ i) (h1 : i < n) : ∃ ad A0 c0 A1 c1 A7 c7, A = some ad ∧ w.cell? (ad.add (i.toNat * 10)) = some (.slice A0 (rd_T28 xs i).f0.length c0) ∧ w.cell? ⟨(ad.add (i.toNat * 10)).block, (ad.add (i.toNat * 10)).off + 1, none⟩ = some (.slice A1 (rd_T28 xs i).f1.length c1) ∧ w.cell? ⟨(ad.add (i.toNat * 10)).block, (ad.add (i.toNat * 10)).off + 2, none⟩ = some (.int .i64 (rd_T28 xs i).f2.f0) ∧ w.cell? ⟨(ad.add (i.toNat * 10)).block, (ad.add (i.toNat * 10)).off + 3, none⟩ = some (.int .i64 (rd_T28 xs i).f2.f1) ∧ w.cell? ⟨(ad.add (i.toNat * 10)).block, (ad.add (i.toNat * 10)).off + 4, none⟩ = some (.int .i64 (rd_T28 xs i).f3) ∧ w.cell? ⟨(ad.add (i.toNat * 10)).block, (ad.add (i.toNat * 10)).off + 5, none⟩ = some (.int .u8 (rd_T28 xs i).f4) ∧ w.cell? ⟨(ad.add (i.toNat * 10)).block, (ad.add (i.toNat * 10)).off + 6, none⟩ = some (.int .i64 (rd_T28 xs i).f5) ∧ w.cell? ⟨(ad.add (i.toNat * 10)).block, (ad.add (i.toNat * 10)).off + 7, none⟩ = some (.slice A7 (rd_T28 xs i).f6.length c7) ∧ w.cell? ⟨(ad.add (i.toNat * 10)).block, (ad.add (i.toNat * 10)).off + 8, none⟩ = some (.bool (rd_T28 xs i).f7.f0) ∧ w.cell? ⟨(ad.add (i.toNat * 10)).block, (ad.add (i.toNat * 10)).off + 9, none⟩ = some (.bool (rd_T28 xs i).f7.f1) ∧ (rd_T28 xs i).f0.length ≤ c0 ∧ k97.C w A0 (rd_T28 xs i).f0.length (rd_T28 xs i).f0 ∧ (rd_T28 xs i).f1.length ≤ c1 ∧ k35.C w A1 (rd_T28 xs i).f1.length (rd_T28 xs i).f1 ∧ (rd_T28 xs i).f6.length ≤ c7 ∧ k58.C w A7 (rd_T28 xs i).f6.length (rd_T28 xs i).f6 := by
  obtain ⟨ad, c, e, _, hK, hc0⟩ := Kd.C_get h z28 i h0 h1
  have hc : ∀ j u, c[j]? = some u → w.cell? (ad.add (i.toNat * 10 + j)) = some u := hc0
  obtain ⟨A0, c0, A1, c1, A7, c7, rfl, l0, g0, l1, g1, l7, g7⟩ := k28_open hK
  exact ⟨ad, A0, c0, A1, c1, A7, c7, e, hc 0 _ rfl, by rw [← add_field _ _ 1 (by omega)]; exact hc 1 _ rfl, by rw [← add_field _ _ 2 (by omega)]; exact hc 2 _ rfl, by rw [← add_field _ _ 3 (by omega)]; exact hc 3 _ rfl, by rw [← add_field _ _ 4 (by omega)]; exact hc 4 _ rfl, by rw [← add_field _ _ 5 (by omega)]; exact hc 5 _ rfl, by rw [← add_field _ _ 6 (by omega)]; exact hc 6 _ rfl, by rw [← add_field _ _ 7 (by omega)]; exact hc 7 _ rfl, by rw [← add_field _ _ 8 (by omega)]; exact hc 8 _ rfl, by rw [← add_field _ _ 9 (by omega)]; exact hc 9 _ rfl, l0, g0, l1, g1, l7, g7⟩
def rd_L20 (xs : List (List Int)) (i : Int) : (List Int) := xs.getD i.toNat ([] : List Int)
theorem at_L20 {w : World} {A : Option Addr} {n : Nat} {xs : List (List Int)} (h : Kd.C (Kd.slice 3 (Kd.int .i64)) w A n xs) (i : Int) (h0 : 0 ≤ i) (h1 : i < n) : ∃ ad A0 c0, A = some ad ∧ w.cell? (ad.add i.toNat) = some (.slice A0 (rd_L20 xs i).length c0) ∧ (rd_L20 xs i).length ≤ c0 ∧ (Kd.int .i64).C w A0 (rd_L20 xs i).length (rd_L20 xs i) := by
  obtain ⟨ad, c, e, _, hK, hc0⟩ := Kd.C_get h ([] : List Int) i h0 h1
  have hc : ∀ j u, c[j]? = some u → w.cell? (ad.add (i.toNat * 1 + j)) = some u := hc0
  obtain ⟨A0, c0, rfl, l0, g0⟩ := hK
  exact ⟨ad, A0, c0, e, by have hq := hc 0 _ rfl; rwa [Nat.mul_one, Nat.add_zero] at hq, l0, g0⟩
def rd_L22 (xs : List (List S50)) (i : Int) : (List S50) := xs.getD i.toNat ([] : List S50)
theorem at_L22 {w : World} {A : Option Addr} {n : Nat} {xs : List (List S50)} (h : Kd.C (Kd.slice 50 k50) w A n xs) (i : Int) (h0 : 0 ≤ i) (h1 : i < n) : ∃ ad A0 c0, A = some ad ∧ w.cell? (ad.add i.toNat) = some (.slice A0 (rd_L22 xs i).length c0) ∧ (rd_L22 xs i).length ≤ c0 ∧ k50.C w A0 (rd_L22 xs i).length (rd_L22 xs i) := by
  obtain ⟨ad, c, e, _, hK, hc0⟩ := Kd.C_get h ([] : List S50) i h0 h1
  have hc : ∀ j u, c[j]? = some u → w.cell? (ad.add (i.toNat * 1 + j)) = some u := hc0
  obtain ⟨A0, c0, rfl, l0, g0⟩ := hK
  exact ⟨ad, A0, c0, e, by have hq := hc 0 _ rfl; rwa [Nat.mul_one, Nat.add_zero] at hq, l0, g0⟩
structure S217 where
  f0 : Int
  f1 : Int
  f2 : Int
  f3 : (List Int)
  f4 : Int
  f5 : Bool
def z217 : S217 := ⟨(0 : Int), (0 : Int), (0 : Int), ([] : List Int), (0 : Int), false⟩
def k217 : Kd S217 := Kd.iso (Kd.pair (Kd.int .u8) (Kd.pair (Kd.int .i64) (Kd.pair (Kd.int .i64) (Kd.pair (Kd.slice 3 (Kd.int .i64)) (Kd.pair (Kd.int .u8) Kd.bool))))) (fun x : S217 => (x.f0, x.f1, x.f2, x.f3, x.f4, x.f5))
theorem k217_open {w : World} {x : S217} {cs : List Value} (h : k217.K w x cs) : ∃ A3 c3, cs = [.int .u8 x.f0, .int .i64 x.f1, .int .i64 x.f2, .slice A3 x.f3.length c3, .int .u8 x.f4, .bool x.f5] ∧ x.f3.length ≤ c3 ∧ (Kd.int .i64).C w A3 x.f3.length x.f3 := by
  obtain ⟨_, _, rfl, rfl, ⟨_, _, rfl, rfl, ⟨_, _, rfl, rfl, ⟨_, _, rfl, ⟨A3, c3, rfl, l3, g3⟩, ⟨_, _, rfl, rfl, rfl⟩⟩⟩⟩⟩ := h
  exact ⟨A3, c3, rfl, l3, g3⟩
theorem k217_openM {w : World} {base : Nat} {ok : Nat → Prop} {x : S217} {cs : List Value} (h : k217.M w base ok x cs) : ∃ v3, cs = [.int .u8 x.f0, .int .i64 x.f1, .int .i64 x.f2, v3, .int .u8 x.f4, .bool x.f5] ∧ (Kd.int .i64).R 3 w base ok v3 x.f3 := by
  obtain ⟨_, _, rfl, rfl, ⟨_, _, rfl, rfl, ⟨_, _, rfl, rfl, ⟨_, _, rfl, ⟨v3, rfl, g3⟩, ⟨_, _, rfl, rfl, rfl⟩⟩⟩⟩⟩ := h
  exact ⟨v3, rfl, g3⟩
theorem k217_mk (w : World) (x : S217) {A3 : Option Addr} {c3 : Nat} (l3 : x.f3.length ≤ c3) (g3 : (Kd.int .i64).C w A3 x.f3.length x.f3) : k217.K w x [.int .u8 x.f0, .int .i64 x.f1, .int .i64 x.f2, .slice A3 x.f3.length c3, .int .u8 x.f4, .bool x.f5] := ⟨[.int .u8 x.f0], [.int .i64 x.f1, .int .i64 x.f2, .slice A3 x.f3.length c3, .int .u8 x.f4, .bool x.f5], rfl, rfl, ⟨[.int .i64 x.f1], [.int .i64 x.f2, .slice A3 x.f3.length c3, .int .u8 x.f4, .bool x.f5], rfl, rfl, ⟨[.int .i64 x.f2], [.slice A3 x.f3.length c3, .int .u8 x.f4, .bool x.f5], rfl, rfl, ⟨[.slice A3 x.f3.length c3], [.int .u8 x.f4, .bool x.f5], rfl, ⟨A3, c3, rfl, l3, g3⟩, ⟨[.int .u8 x.f4], [.bool x.f5], rfl, rfl, rfl⟩⟩⟩⟩⟩
theorem k217_mkM (w : World) (base : Nat) (ok : Nat → Prop) (x : S217) {v3 : Value} (g3 : (Kd.int .i64).R 3 w base ok v3 x.f3) : k217.M w base ok x [.int .u8 x.f0, .int .i64 x.f1, .int .i64 x.f2, v3, .int .u8 x.f4, .bool x.f5] := ⟨[.int .u8 x.f0], [.int .i64 x.f1, .int .i64 x.f2, v3, .int .u8 x.f4, .bool x.f5], rfl, rfl, ⟨[.int .i64 x.f1], [.int .i64 x.f2, v3, .int .u8 x.f4, .bool x.f5], rfl, rfl, ⟨[.int .i64 x.f2], [v3, .int .u8 x.f4, .bool x.f5], rfl, rfl, ⟨[v3], [.int .u8 x.f4, .bool x.f5], rfl, ⟨v3, rfl, g3⟩, ⟨[.int .u8 x.f4], [.bool x.f5], rfl, rfl, rfl⟩⟩⟩⟩⟩
theorem k217_openF {W : World} {ok : Nat → Prop} {x : S217} {cs : List Value} (h : Kd.FK k217 W ok x cs) : ∃ A3 c3, cs = [.int .u8 x.f0, .int .i64 x.f1, .int .i64 x.f2, .slice A3 x.f3.length c3, .int .u8 x.f4, .bool x.f5] ∧ x.f3.length ≤ c3 ∧ Kd.F (Kd.int .i64) W ok A3 x.f3.length x.f3 := by
  obtain ⟨A3, c3, rfl, l3, _⟩ := k217_open (Kd.FK_now h)
  exact ⟨A3, c3, rfl, l3, (fun W' hW => by obtain ⟨A3_, c3_, he, l3_, g3_⟩ := k217_open (h W' hW); injection (Option.some.inj (show some (Value.slice A3 x.f3.length c3) = some (Value.slice A3_ x.f3.length c3_) from congrArg (fun l => l[3]?) he)) with ha_ _ _; rw [ha_]; exact g3_)⟩
theorem k217_mkF (W : World) (ok : Nat → Prop) (x : S217) {A3 : Option Addr} {c3 : Nat} (l3 : x.f3.length ≤ c3) (g3 : Kd.F (Kd.int .i64) W ok A3 x.f3.length x.f3) : Kd.FK k217 W ok x [.int .u8 x.f0, .int .i64 x.f1, .int .i64 x.f2, .slice A3 x.f3.length c3, .int .u8 x.f4, .bool x.f5] := fun W2 hW => k217_mk W2 x l3 (g3 W2 hW)
def rd_T217 (xs : List S217) (i : Int) : S217 := xs.getD i.toNat z217
theorem at_T217 {w : World} {A : Option Addr} {n : Nat} {xs : List S217} (h : Kd.C k217 w A n xs) (i : Int) (h0 : 0 ≤ i) (h1 : i < n) : ∃ ad A3 c3, A = some ad ∧ w.cell? (ad.add (i.toNat * 6)) = some (.int .u8 (rd_T217 xs i).f0) ∧ w.cell? ⟨(ad.add (i.toNat * 6)).block, (ad.add (i.toNat * 6)).off + 1, none⟩ = some (.int .i64 (rd_T217 xs i).f1) ∧ w.cell? ⟨(ad.add (i.toNat * 6)).block, (ad.add (i.toNat * 6)).off + 2, none⟩ = some (.int .i64 (rd_T217 xs i).f2) ∧ w.cell? ⟨(ad.add (i.toNat * 6)).block, (ad.add (i.toNat * 6)).off + 3, none⟩ = some (.slice A3 (rd_T217 xs i).f3.length c3) ∧ w.cell? ⟨(ad.add (i.toNat * 6)).block, (ad.add (i.toNat * 6)).off + 4, none⟩ = some (.int .u8 (rd_T217 xs i).f4) ∧ w.cell? ⟨(ad.add (i.toNat * 6)).block, (ad.add (i.toNat * 6)).off + 5, none⟩ = some (.bool (rd_T217 xs i).f5) ∧ (rd_T217 xs i).f3.length ≤ c3 ∧ (Kd.int .i64).C w A3 (rd_T217 xs i).f3.length (rd_T217 xs i).f3 := by
  obtain ⟨ad, c, e, _, hK, hc0⟩ := Kd.C_get h z217 i h0 h1
  have hc : ∀ j u, c[j]? = some u → w.cell? (ad.add (i.toNat * 6 + j)) = some u := hc0
  obtain ⟨A3, c3, rfl, l3, g3⟩ := k217_open hK
  exact ⟨ad, A3, c3, e, hc 0 _ rfl, by rw [← add_field _ _ 1 (by omega)]; exact hc 1 _ rfl, by rw [← add_field _ _ 2 (by omega)]; exact hc 2 _ rfl, by rw [← add_field _ _ 3 (by omega)]; exact hc 3 _ rfl, by rw [← add_field _ _ 4 (by omega)]; exact hc 4 _ rfl, by rw [← add_field _ _ 5 (by omega)]; exact hc 5 _ rfl, l3, g3⟩
def rd_L24 (xs : List (List Int)) (i : Int) : (List Int) := xs.getD i.toNat ([] : List Int)
theorem at_L24 {w : World} {A : Option Addr} {n : Nat} {xs : List (List Int)} (h : Kd.C (Kd.slice 5 (Kd.int .u8)) w A n xs) (i : Int) (h0 : 0 ≤ i) (h1 : i < n) : ∃ ad A0 c0, A = some ad ∧ w.cell? (ad.add i.toNat) = some (.slice A0 (rd_L24 xs i).length c0) ∧ (rd_L24 xs i).length ≤ c0 ∧ (Kd.int .u8).C w A0 (rd_L24 xs i).length (rd_L24 xs i) := by
  obtain ⟨ad, c, e, _, hK, hc0⟩ := Kd.C_get h ([] : List Int) i h0 h1
  have hc : ∀ j u, c[j]? = some u → w.cell? (ad.add (i.toNat * 1 + j)) = some u := hc0
  obtain ⟨A0, c0, rfl, l0, g0⟩ := hK
  exact ⟨ad, A0, c0, e, by have hq := hc 0 _ rfl; rwa [Nat.mul_one, Nat.add_zero] at hq, l0, g0⟩
def rd_L26 (xs : List (List S85)) (i : Int) : (List S85) := xs.getD i.toNat ([] : List S85)
theorem at_L26 {w : World} {A : Option Addr} {n : Nat} {xs : List (List S85)} (h : Kd.C (Kd.slice 85 k85) w A n xs) (i : Int) (h0 : 0 ≤ i) (h1 : i < n) : ∃ ad A0 c0, A = some ad ∧ w.cell? (ad.add i.toNat) = some (.slice A0 (rd_L26 xs i).length c0) ∧ (rd_L26 xs i).length ≤ c0 ∧ k85.C w A0 (rd_L26 xs i).length (rd_L26 xs i) := by
  obtain ⟨ad, c, e, _, hK, hc0⟩ := Kd.C_get h ([] : List S85) i h0 h1
  have hc : ∀ j u, c[j]? = some u → w.cell? (ad.add (i.toNat * 1 + j)) = some u := hc0
  obtain ⟨A0, c0, rfl, l0, g0⟩ := hK
  exact ⟨ad, A0, c0, e, by have hq := hc 0 _ rfl; rwa [Nat.mul_one, Nat.add_zero] at hq, l0, g0⟩
structure S142 where
  f0 : Bool
  f1 : Bool
def z142 : S142 := ⟨false, false⟩
def k142 : Kd S142 := Kd.iso (Kd.pair Kd.bool Kd.bool) (fun x : S142 => (x.f0, x.f1))
theorem k142_open {w : World} {x : S142} {cs : List Value} (h : k142.K w x cs) : cs = [.bool x.f0, .bool x.f1] := by
  obtain ⟨_, _, rfl, rfl, rfl⟩ := h
  exact rfl
theorem k142_openM {w : World} {base : Nat} {ok : Nat → Prop} {x : S142} {cs : List Value} (h : k142.M w base ok x cs) : cs = [.bool x.f0, .bool x.f1] := by
  obtain ⟨_, _, rfl, rfl, rfl⟩ := h
  exact rfl
theorem k142_mk (w : World) (x : S142)  : k142.K w x [.bool x.f0, .bool x.f1] := ⟨[.bool x.f0], [.bool x.f1], rfl, rfl, rfl⟩
theorem k142_mkM (w : World) (base : Nat) (ok : Nat → Prop) (x : S142)  : k142.M w base ok x [.bool x.f0, .bool x.f1] := ⟨[.bool x.f0], [.bool x.f1], rfl, rfl, rfl⟩
theorem k142_mkF (W : World) (ok : Nat → Prop) (x : S142) : Kd.FK k142 W ok x [.bool x.f0, .bool x.f1] := fun W2 _ => k142_mk W2 x
def rd_T142 (xs : List S142) (i : Int) : S142 := xs.getD i.toNat z142
theorem at_T142 {w : World} {A : Option Addr} {n : Nat} {xs : List S142} (h : Kd.C k142 w A n xs) (i : Int) (h0 : 0 ≤ i) (h1 : i < n) : ∃ ad , A = some ad ∧ w.cell? (ad.add (i.toNat * 2)) = some (.bool (rd_T142 xs i).f0) ∧ w.cell? ⟨(ad.add (i.toNat * 2)).block, (ad.add (i.toNat * 2)).off + 1, none⟩ = some (.bool (rd_T142 xs i).f1) := by
  obtain ⟨ad, c, e, _, hK, hc0⟩ := Kd.C_get h z142 i h0 h1
  have hc : ∀ j u, c[j]? = some u → w.cell? (ad.add (i.toNat * 2 + j)) = some u := hc0
  obtain rfl := k142_open hK
  exact ⟨ad, e, hc 0 _ rfl, by rw [← add_field _ _ 1 (by omega)]; exact hc 1 _ rfl⟩
end Go.Proofs.Ytlldpdhajddmiaa.Pmgb
end
section
namespace Go.Proofs.Ytlldpdhajddmiaa.Pmgb
open Go.RowKit Go.Proofs.Ytlldpdhajddmiaa.Pmga Go.Proofs.Ytlldpdhajddmiaa.Base Go.Proofs.YtlldpdhajddmiaaW.PrintWords Go.Proofs.YtlldpdhajddmiaaW.PrintLast Go.Proofs.YtlldpdhajddmiaaW.PrintMore
attribute [local go_sem] max2_int min2_int max_two min_two max_three min_three max_four min_four   -- for this text's walks alone
set_option linter.unusedVariables false
set_option linter.unusedSimpArgs false
mutual
def joustref06_May.j0 : Nat → Bool → List (S97) → List (S35) → Int → Int → Int → Int → Int → List (S58) → Bool → Bool → Option (Bool)
 | 0, _, _, _, _, _, _, _, _, _, _, _ => none
 | k + 1, x45, x137000, x137001, x137002, x137003, x137004, x137005, x137006, x137007, x137008, x137009 => if x45 = true then (some false) else (joustref06_May.l0 k 0 0 x137000 x137001 x137002 x137003 x137004 x137005 x137006 x137007 x137008 x137009)
def joustref06_May.l0 : Nat → Int → Int → List (S97) → List (S35) → Int → Int → Int → Int → Int → List (S58) → Bool → Bool → Option (Bool)
 | 0, _, _, _, _, _, _, _, _, _, _, _, _ => none
 | k + 1, x3, x4, x137000, x137001, x137002, x137003, x137004, x137005, x137006, x137007, x137008, x137009 => if x4 < (x137001.length : Int) then ((joustref06_one.f k x137000 x137001 x137002 x137003 x137004 x137005 x137006 x137007 x137008 x137009 x4).bind fun t137 => (if t137 = true then (if 0 ≤ x4 then ((Pmga.joustref06_many.f k x137000 x137001 x137002 x137003 x137004 x137005 x137006 x137007 x137008 x137009 ((rd_T35 x137001 x4).f4) ((rd_T35 x137001 x4).f5) ((rd_T35 x137001 x4).f6)).bind fun bt140 => (if ((rd_T35 x137001 x4).f5) = 6 then (joustref06_May.l0 k (wrap64 (x3 + 1)) (wrap64 (x4 + 1)) x137000 x137001 x137002 x137003 x137004 x137005 x137006 x137007 x137008 x137009) else (if ((rd_T35 x137001 x4).f5) = 7 then (joustref06_May.l0 k x3 (wrap64 (x4 + 1)) x137000 x137001 x137002 x137003 x137004 x137005 x137006 x137007 x137008 x137009) else (if bt140.2 = 1 then ((Pmga.joustref06_shared.f ((rd_T35 x137001 x4).f5)).bind fun t142 => (if t142 = true then (joustref06_May.l0 k x3 (wrap64 (x4 + 1)) x137000 x137001 x137002 x137003 x137004 x137005 x137006 x137007 x137008 x137009) else (if ((rd_T35 x137001 x4).f6) < 0 then (some false) else (if ((rd_T35 x137001 x4).f6) ≥ bt140.1 then (some false) else (joustref06_May.l0 k x3 (wrap64 (x4 + 1)) x137000 x137001 x137002 x137003 x137004 x137005 x137006 x137007 x137008 x137009))))) else (some false))))) else (none)) else (some false))) else (some (decide (x3 ≤ 1)))
end
def joustref06_May.f (k : Nat) (l0_0 : List (S97)) (l0_1 : List (S35)) (a0_2 : Int) (a0_3 : Int) (a0_4 : Int) (a0_5 : Int) (a0_6 : Int) (l0_7 : List (S58)) (a0_8 : Bool) (a0_9 : Bool) : Option (Bool) := if a0_2 < 0 then (joustref06_May.j0 k true l0_0 l0_1 a0_2 a0_3 a0_4 a0_5 a0_6 l0_7 a0_8 a0_9) else (if a0_2 > 99999 then (joustref06_May.j0 k true l0_0 l0_1 a0_2 a0_3 a0_4 a0_5 a0_6 l0_7 a0_8 a0_9) else (if a0_3 < 0 then (joustref06_May.j0 k true l0_0 l0_1 a0_2 a0_3 a0_4 a0_5 a0_6 l0_7 a0_8 a0_9) else (if a0_3 > 99999 then (joustref06_May.j0 k true l0_0 l0_1 a0_2 a0_3 a0_4 a0_5 a0_6 l0_7 a0_8 a0_9) else (if a0_4 < 1 then (joustref06_May.j0 k true l0_0 l0_1 a0_2 a0_3 a0_4 a0_5 a0_6 l0_7 a0_8 a0_9) else (if a0_5 > 1 then (joustref06_May.j0 k true l0_0 l0_1 a0_2 a0_3 a0_4 a0_5 a0_6 l0_7 a0_8 a0_9) else (joustref06_May.j0 k (decide ((l0_1.length : Int) > 144)) l0_0 l0_1 a0_2 a0_3 a0_4 a0_5 a0_6 l0_7 a0_8 a0_9))))))
theorem joustref06_May.mono_l : ∀ k, (∀ y0 y1 y2 y3 y4 y5 y6 y7 y8 y9 y10, LeO (joustref06_May.j0 k y0 y1 y2 y3 y4 y5 y6 y7 y8 y9 y10) (joustref06_May.j0 (k + 1) y0 y1 y2 y3 y4 y5 y6 y7 y8 y9 y10)) ∧ (∀ y0 y1 y2 y3 y4 y5 y6 y7 y8 y9 y10 y11, LeO (joustref06_May.l0 k y0 y1 y2 y3 y4 y5 y6 y7 y8 y9 y10 y11) (joustref06_May.l0 (k + 1) y0 y1 y2 y3 y4 y5 y6 y7 y8 y9 y10 y11))
 | 0 => ⟨fun _ _ _ _ _ _ _ _ _ _ _ r h => by simp [joustref06_May.j0] at h, fun _ _ _ _ _ _ _ _ _ _ _ _ r h => by simp [joustref06_May.l0] at h⟩
 | k + 1 => by
  obtain ⟨ih0, ih1⟩ := joustref06_May.mono_l k
  refine ⟨?_, ?_⟩
  ·
   intro y0 y1 y2 y3 y4 y5 y6 y7 y8 y9 y10
   unfold joustref06_May.j0
   repeat' first
   | (with_reducible exact ih0 _ _ _ _ _ _ _ _ _ _ _)
   | (with_reducible exact ih1 _ _ _ _ _ _ _ _ _ _ _ _)
   | (with_reducible exact Pmga.joustref06_many.mono _ _ _ _ _ _ _ _ _ _ _ _ _ _)
   | (with_reducible exact joustref06_one.mono _ _ _ _ _ _ _ _ _ _ _ _)
   | (with_reducible exact LeO.refl _)
   | (with_reducible exact LeO.none _)
   | (with_reducible refine LeO.ite ?_ ?_)
   | (with_reducible refine LeO.bind ?_ (fun _ => ?_))
   | exact ih0 _ _ _ _ _ _ _ _ _ _ _
   | exact ih1 _ _ _ _ _ _ _ _ _ _ _ _
   | exact Pmga.joustref06_many.mono _ _ _ _ _ _ _ _ _ _ _ _ _ _
   | exact joustref06_one.mono _ _ _ _ _ _ _ _ _ _ _ _
   | exact LeO.none _
   | refine LeO.ite ?_ ?_
   | refine LeO.bind ?_ (fun _ => ?_)
  ·
   intro y0 y1 y2 y3 y4 y5 y6 y7 y8 y9 y10 y11
   unfold joustref06_May.l0
   repeat' first
   | (with_reducible exact ih0 _ _ _ _ _ _ _ _ _ _ _)
   | (with_reducible exact ih1 _ _ _ _ _ _ _ _ _ _ _ _)
   | (with_reducible exact Pmga.joustref06_many.mono _ _ _ _ _ _ _ _ _ _ _ _ _ _)
   | (with_reducible exact joustref06_one.mono _ _ _ _ _ _ _ _ _ _ _ _)
   | (with_reducible exact LeO.refl _)
   | (with_reducible exact LeO.none _)
   | (with_reducible refine LeO.ite ?_ ?_)
   | (with_reducible refine LeO.bind ?_ (fun _ => ?_))
   | exact ih0 _ _ _ _ _ _ _ _ _ _ _
   | exact ih1 _ _ _ _ _ _ _ _ _ _ _ _
   | exact Pmga.joustref06_many.mono _ _ _ _ _ _ _ _ _ _ _ _ _ _
   | exact joustref06_one.mono _ _ _ _ _ _ _ _ _ _ _ _
   | exact LeO.none _
   | refine LeO.ite ?_ ?_
   | refine LeO.bind ?_ (fun _ => ?_)
theorem joustref06_May.mono : ∀ a0 a1 a2 a3 a4 a5 a6 a7 a8 a9 k, LeO (joustref06_May.f k a0 a1 a2 a3 a4 a5 a6 a7 a8 a9) (joustref06_May.f (k + 1) a0 a1 a2 a3 a4 a5 a6 a7 a8 a9) := by
 intro a0 a1 a2 a3 a4 a5 a6 a7 a8 a9 k
 obtain ⟨ih0, ih1⟩ := joustref06_May.mono_l k
 unfold joustref06_May.f
 repeat' first
   | (with_reducible exact ih0 _ _ _ _ _ _ _ _ _ _ _)
   | (with_reducible exact ih1 _ _ _ _ _ _ _ _ _ _ _ _)
   | (with_reducible exact Pmga.joustref06_many.mono _ _ _ _ _ _ _ _ _ _ _ _ _ _)
   | (with_reducible exact joustref06_one.mono _ _ _ _ _ _ _ _ _ _ _ _)
   | (with_reducible exact LeO.refl _)
   | (with_reducible exact LeO.none _)
   | (with_reducible refine LeO.ite ?_ ?_)
   | (with_reducible refine LeO.bind ?_ (fun _ => ?_))
   | exact ih0 _ _ _ _ _ _ _ _ _ _ _
   | exact ih1 _ _ _ _ _ _ _ _ _ _ _ _
   | exact Pmga.joustref06_many.mono _ _ _ _ _ _ _ _ _ _ _ _ _ _
   | exact joustref06_one.mono _ _ _ _ _ _ _ _ _ _ _ _
   | exact LeO.none _
   | refine LeO.ite ?_ ?_
   | refine LeO.bind ?_ (fun _ => ?_)
set_option maxHeartbeats 8000000 in
set_option maxRecDepth 100000 in
theorem joustref06_May.calls (k : Nat) (A0_0 : Option Addr) (c0_0 : Nat) (l0_0 : List (S97)) (A0_1 : Option Addr) (c0_1 : Nat) (l0_1 : List (S35)) (a0_2 : Int) (a0_3 : Int) (a0_4 : Int) (a0_5 : Int) (a0_6 : Int) (A0_7 : Option Addr) (c0_7 : Nat) (l0_7 : List (S58)) (a0_8 : Bool) (a0_9 : Bool) (r : Bool) (w : World) (hr0_0 : Kd.C k97 w A0_0 l0_0.length l0_0) (hc0_0 : l0_0.length ≤ c0_0) (hr0_1 : Kd.C k35 w A0_1 l0_1.length l0_1) (hc0_1 : l0_1.length ≤ c0_1) (hr0_7 : Kd.C k58 w A0_7 l0_7.length l0_7) (hc0_7 : l0_7.length ≤ c0_7) (h : joustref06_May.f k l0_0 l0_1 a0_2 a0_3 a0_4 a0_5 a0_6 l0_7 a0_8 a0_9 = some r) :
  Calls Try.prog 18 #[.agg #[.slice A0_0 l0_0.length c0_0, .slice A0_1 l0_1.length c0_1, .int .i64 a0_2, .int .i64 a0_3, .int .i64 a0_4, .int .u8 a0_5, .int .i64 a0_6, .slice A0_7 l0_7.length c0_7, .bool a0_8, .bool a0_9]] w fun e w' => e = .returned (.bool r) ∧ Below w.heap.size w w' := by
 have hu28 := Try.underlying28
 have hu35 := Try.underlying35
 have HR0_0 := Az hr0_0
 have HC0_0 := Az hc0_0
 clear hr0_0 hc0_0
 have HR0_1 := Az hr0_1
 have HC0_1 := Az hc0_1
 clear hr0_1 hc0_1
 have HR0_7 := Az hr0_7
 have HC0_7 := Az hc0_7
 clear hr0_7 hc0_7
 have HB := Az (Below.refl w.heap.size w)
 have H : (if a0_2 < 0 then (joustref06_May.j0 k true l0_0 l0_1 a0_2 a0_3 a0_4 a0_5 a0_6 l0_7 a0_8 a0_9) else (if a0_2 > 99999 then (joustref06_May.j0 k true l0_0 l0_1 a0_2 a0_3 a0_4 a0_5 a0_6 l0_7 a0_8 a0_9) else (if a0_3 < 0 then (joustref06_May.j0 k true l0_0 l0_1 a0_2 a0_3 a0_4 a0_5 a0_6 l0_7 a0_8 a0_9) else (if a0_3 > 99999 then (joustref06_May.j0 k true l0_0 l0_1 a0_2 a0_3 a0_4 a0_5 a0_6 l0_7 a0_8 a0_9) else (if a0_4 < 1 then (joustref06_May.j0 k true l0_0 l0_1 a0_2 a0_3 a0_4 a0_5 a0_6 l0_7 a0_8 a0_9) else (if a0_5 > 1 then (joustref06_May.j0 k true l0_0 l0_1 a0_2 a0_3 a0_4 a0_5 a0_6 l0_7 a0_8 a0_9) else (joustref06_May.j0 k (decide ((l0_1.length : Int) > 144)) l0_0 l0_1 a0_2 a0_3 a0_4 a0_5 a0_6 l0_7 a0_8 a0_9))))))) = some r := h
 clear h
 have HC2 := Az H
 clear H
 go_enter Try.func18, Try.ntmps18
 go_upto_region 1 with (first | ((with_reducible refine gate_dst (N := 1) rfl ?_); (try (refine gate_guard (by rfl) ?_; dsimp only)); refine box_event ?hg (N := 1) ?hd (cs := #[.slice A0_0 l0_0.length c0_0, .slice A0_1 l0_1.length c0_1, .int .i64 a0_2, .int .i64 a0_3, .int .i64 a0_4, .int .u8 a0_5, .int .i64 a0_6, .slice A0_7 l0_7.length c0_7, .bool a0_8, .bool a0_9]) (t := 28) ?hr ?_; (case hd => rfl); (case hg => rfl); (case hr => first | (go_simp; done) | (go_simp; rfl)); intro gb136 hg w3 hbox hb; have n0_ := Az (below_step (low HB) hb); have n1_ := Az (hbox); have n2_ := Az ((by rw [hg]; exact (below_size (low HB)) : w.heap.size ≤ gb136)); have n3_ := Az ((by rw [hg]; exact (below_size (low HB)) : w.heap.size ≤ gb136)); clear HB; have HB := n0_; have BK136 := n1_; have GW136 := n2_; have GE136 := n3_; clear n0_ n1_ n2_ n3_; clear hb hbox hg))
 (try simp only [Act.put, List.setIfInBounds_toArray, List.set_cons_zero, List.set_cons_succ])
 go_cut [45] (fun v45 wc => ∃ (kq : Nat) (x45_1 : Bool), v45 = .bool x45_1 ∧ Aside0 (joustref06_May.j0 kq x45_1 l0_0 l0_1 a0_2 a0_3 a0_4 a0_5 a0_6 l0_7 a0_8 a0_9 = some r) ∧ Aside0 (kq ≤ k) ∧ Aside0 (wc.heap[gb136]? = some (.cells #[(.slice A0_0 l0_0.length c0_0), (.slice A0_1 l0_1.length c0_1), .int .i64 a0_2, .int .i64 a0_3, .int .i64 a0_4, .int .u8 a0_5, .int .i64 a0_6, (.slice A0_7 l0_7.length c0_7), .bool a0_8, .bool a0_9] 28 (0, 0))) ∧ Aside0 (Below w.heap.size w wc))
 case first =>
  have H := HC2.out
  clear HC2
  by_cases c4 : a0_2 < 0
  ·
   rw [if_pos c4] at H
   have c4b0 : decide (a0_2 < 0) = true := decide_eq_true c4
   clear c4
   (first | rw [c4b0] | (simp only [i64_w, i32_w]; rw [c4b0]) | skip)
   have H' := Az H
   clear H
   have hcz5_0 : w3.cell? ⟨gb136, 0, none⟩ = some (.slice A0_0 l0_0.length c0_0) := (blk_cell BK136.out 0).trans rfl
   have hcz5_1 : w3.cell? ⟨gb136, 1, none⟩ = some (.slice A0_1 l0_1.length c0_1) := (blk_cell BK136.out 1).trans rfl
   have hcz5_2 : w3.cell? ⟨gb136, 2, none⟩ = some (.int .i64 a0_2) := (blk_cell BK136.out 2).trans rfl
   have hcz5_3 : w3.cell? ⟨gb136, 3, none⟩ = some (.int .i64 a0_3) := (blk_cell BK136.out 3).trans rfl
   have hcz5_4 : w3.cell? ⟨gb136, 4, none⟩ = some (.int .i64 a0_4) := (blk_cell BK136.out 4).trans rfl
   have hcz5_5 : w3.cell? ⟨gb136, 5, none⟩ = some (.int .u8 a0_5) := (blk_cell BK136.out 5).trans rfl
   have hcz5_6 : w3.cell? ⟨gb136, 6, none⟩ = some (.int .i64 a0_6) := (blk_cell BK136.out 6).trans rfl
   have hcz5_7 : w3.cell? ⟨gb136, 7, none⟩ = some (.slice A0_7 l0_7.length c0_7) := (blk_cell BK136.out 7).trans rfl
   have hcz5_8 : w3.cell? ⟨gb136, 8, none⟩ = some (.bool a0_8) := (blk_cell BK136.out 8).trans rfl
   have hcz5_9 : w3.cell? ⟨gb136, 9, none⟩ = some (.bool a0_9) := (blk_cell BK136.out 9).trans rfl
   have hfz5_0 := blk_frozen BK136.out 0
   have hfz5_1 := blk_frozen BK136.out 1
   have hfz5_2 := blk_frozen BK136.out 2
   have hfz5_3 := blk_frozen BK136.out 3
   have hfz5_4 := blk_frozen BK136.out 4
   have hfz5_5 := blk_frozen BK136.out 5
   have hfz5_6 := blk_frozen BK136.out 6
   have hfz5_7 := blk_frozen BK136.out 7
   have hfz5_8 := blk_frozen BK136.out 8
   have hfz5_9 := blk_frozen BK136.out 9
   go_wp2
   go_meet
   case rel => exact ⟨_, (true), (by first | rfl | (simp; done) | (simp [*]; done)), H', ⟨by first | omega | exact Nat.le_refl _⟩, ⟨of_lies⟩, ⟨low HB⟩⟩
  ·
   rw [if_neg c4] at H
   have c4b0 : decide (a0_2 < 0) = false := decide_eq_false c4
   clear c4
   (first | rw [c4b0] | (simp only [i64_w, i32_w]; rw [c4b0]) | skip)
   by_cases c6 : a0_2 > 99999
   ·
    rw [if_pos c6] at H
    have c6b0 : decide (99999 < a0_2) = true := decide_eq_true c6
    clear c6
    have H' := Az H
    clear H
    have hcz7_0 : w3.cell? ⟨gb136, 0, none⟩ = some (.slice A0_0 l0_0.length c0_0) := (blk_cell BK136.out 0).trans rfl
    have hcz7_1 : w3.cell? ⟨gb136, 1, none⟩ = some (.slice A0_1 l0_1.length c0_1) := (blk_cell BK136.out 1).trans rfl
    have hcz7_2 : w3.cell? ⟨gb136, 2, none⟩ = some (.int .i64 a0_2) := (blk_cell BK136.out 2).trans rfl
    have hcz7_3 : w3.cell? ⟨gb136, 3, none⟩ = some (.int .i64 a0_3) := (blk_cell BK136.out 3).trans rfl
    have hcz7_4 : w3.cell? ⟨gb136, 4, none⟩ = some (.int .i64 a0_4) := (blk_cell BK136.out 4).trans rfl
    have hcz7_5 : w3.cell? ⟨gb136, 5, none⟩ = some (.int .u8 a0_5) := (blk_cell BK136.out 5).trans rfl
    have hcz7_6 : w3.cell? ⟨gb136, 6, none⟩ = some (.int .i64 a0_6) := (blk_cell BK136.out 6).trans rfl
    have hcz7_7 : w3.cell? ⟨gb136, 7, none⟩ = some (.slice A0_7 l0_7.length c0_7) := (blk_cell BK136.out 7).trans rfl
    have hcz7_8 : w3.cell? ⟨gb136, 8, none⟩ = some (.bool a0_8) := (blk_cell BK136.out 8).trans rfl
    have hcz7_9 : w3.cell? ⟨gb136, 9, none⟩ = some (.bool a0_9) := (blk_cell BK136.out 9).trans rfl
    have hfz7_0 := blk_frozen BK136.out 0
    have hfz7_1 := blk_frozen BK136.out 1
    have hfz7_2 := blk_frozen BK136.out 2
    have hfz7_3 := blk_frozen BK136.out 3
    have hfz7_4 := blk_frozen BK136.out 4
    have hfz7_5 := blk_frozen BK136.out 5
    have hfz7_6 := blk_frozen BK136.out 6
    have hfz7_7 := blk_frozen BK136.out 7
    have hfz7_8 := blk_frozen BK136.out 8
    have hfz7_9 := blk_frozen BK136.out 9
    go_wp2
    go_meet
    case rel => exact ⟨_, (true), (by first | rfl | (simp; done) | (simp [*]; done)), H', ⟨by first | omega | exact Nat.le_refl _⟩, ⟨of_lies⟩, ⟨low HB⟩⟩
   ·
    rw [if_neg c6] at H
    have c6b0 : decide (99999 < a0_2) = false := decide_eq_false c6
    clear c6
    by_cases c8 : a0_3 < 0
    ·
     rw [if_pos c8] at H
     have c8b0 : decide (a0_3 < 0) = true := decide_eq_true c8
     clear c8
     have H' := Az H
     clear H
     have hcz9_0 : w3.cell? ⟨gb136, 0, none⟩ = some (.slice A0_0 l0_0.length c0_0) := (blk_cell BK136.out 0).trans rfl
     have hcz9_1 : w3.cell? ⟨gb136, 1, none⟩ = some (.slice A0_1 l0_1.length c0_1) := (blk_cell BK136.out 1).trans rfl
     have hcz9_2 : w3.cell? ⟨gb136, 2, none⟩ = some (.int .i64 a0_2) := (blk_cell BK136.out 2).trans rfl
     have hcz9_3 : w3.cell? ⟨gb136, 3, none⟩ = some (.int .i64 a0_3) := (blk_cell BK136.out 3).trans rfl
     have hcz9_4 : w3.cell? ⟨gb136, 4, none⟩ = some (.int .i64 a0_4) := (blk_cell BK136.out 4).trans rfl
     have hcz9_5 : w3.cell? ⟨gb136, 5, none⟩ = some (.int .u8 a0_5) := (blk_cell BK136.out 5).trans rfl
     have hcz9_6 : w3.cell? ⟨gb136, 6, none⟩ = some (.int .i64 a0_6) := (blk_cell BK136.out 6).trans rfl
     have hcz9_7 : w3.cell? ⟨gb136, 7, none⟩ = some (.slice A0_7 l0_7.length c0_7) := (blk_cell BK136.out 7).trans rfl
     have hcz9_8 : w3.cell? ⟨gb136, 8, none⟩ = some (.bool a0_8) := (blk_cell BK136.out 8).trans rfl
     have hcz9_9 : w3.cell? ⟨gb136, 9, none⟩ = some (.bool a0_9) := (blk_cell BK136.out 9).trans rfl
     have hfz9_0 := blk_frozen BK136.out 0
     have hfz9_1 := blk_frozen BK136.out 1
     have hfz9_2 := blk_frozen BK136.out 2
     have hfz9_3 := blk_frozen BK136.out 3
     have hfz9_4 := blk_frozen BK136.out 4
     have hfz9_5 := blk_frozen BK136.out 5
     have hfz9_6 := blk_frozen BK136.out 6
     have hfz9_7 := blk_frozen BK136.out 7
     have hfz9_8 := blk_frozen BK136.out 8
     have hfz9_9 := blk_frozen BK136.out 9
     go_wp2
     go_meet
     case rel => exact ⟨_, (true), (by first | rfl | (simp; done) | (simp [*]; done)), H', ⟨by first | omega | exact Nat.le_refl _⟩, ⟨of_lies⟩, ⟨low HB⟩⟩
    ·
     rw [if_neg c8] at H
     have c8b0 : decide (a0_3 < 0) = false := decide_eq_false c8
     clear c8
     by_cases c10 : a0_3 > 99999
     ·
      rw [if_pos c10] at H
      have c10b0 : decide (99999 < a0_3) = true := decide_eq_true c10
      clear c10
      have H' := Az H
      clear H
      have hcz11_0 : w3.cell? ⟨gb136, 0, none⟩ = some (.slice A0_0 l0_0.length c0_0) := (blk_cell BK136.out 0).trans rfl
      have hcz11_1 : w3.cell? ⟨gb136, 1, none⟩ = some (.slice A0_1 l0_1.length c0_1) := (blk_cell BK136.out 1).trans rfl
      have hcz11_2 : w3.cell? ⟨gb136, 2, none⟩ = some (.int .i64 a0_2) := (blk_cell BK136.out 2).trans rfl
      have hcz11_3 : w3.cell? ⟨gb136, 3, none⟩ = some (.int .i64 a0_3) := (blk_cell BK136.out 3).trans rfl
      have hcz11_4 : w3.cell? ⟨gb136, 4, none⟩ = some (.int .i64 a0_4) := (blk_cell BK136.out 4).trans rfl
      have hcz11_5 : w3.cell? ⟨gb136, 5, none⟩ = some (.int .u8 a0_5) := (blk_cell BK136.out 5).trans rfl
      have hcz11_6 : w3.cell? ⟨gb136, 6, none⟩ = some (.int .i64 a0_6) := (blk_cell BK136.out 6).trans rfl
      have hcz11_7 : w3.cell? ⟨gb136, 7, none⟩ = some (.slice A0_7 l0_7.length c0_7) := (blk_cell BK136.out 7).trans rfl
      have hcz11_8 : w3.cell? ⟨gb136, 8, none⟩ = some (.bool a0_8) := (blk_cell BK136.out 8).trans rfl
      have hcz11_9 : w3.cell? ⟨gb136, 9, none⟩ = some (.bool a0_9) := (blk_cell BK136.out 9).trans rfl
      have hfz11_0 := blk_frozen BK136.out 0
      have hfz11_1 := blk_frozen BK136.out 1
      have hfz11_2 := blk_frozen BK136.out 2
      have hfz11_3 := blk_frozen BK136.out 3
      have hfz11_4 := blk_frozen BK136.out 4
      have hfz11_5 := blk_frozen BK136.out 5
      have hfz11_6 := blk_frozen BK136.out 6
      have hfz11_7 := blk_frozen BK136.out 7
      have hfz11_8 := blk_frozen BK136.out 8
      have hfz11_9 := blk_frozen BK136.out 9
      go_wp2
      go_meet
      case rel => exact ⟨_, (true), (by first | rfl | (simp; done) | (simp [*]; done)), H', ⟨by first | omega | exact Nat.le_refl _⟩, ⟨of_lies⟩, ⟨low HB⟩⟩
     ·
      rw [if_neg c10] at H
      have c10b0 : decide (99999 < a0_3) = false := decide_eq_false c10
      clear c10
      by_cases c12 : a0_4 < 1
      ·
       rw [if_pos c12] at H
       have c12b0 : decide (a0_4 < 1) = true := decide_eq_true c12
       clear c12
       have H' := Az H
       clear H
       have hcz13_0 : w3.cell? ⟨gb136, 0, none⟩ = some (.slice A0_0 l0_0.length c0_0) := (blk_cell BK136.out 0).trans rfl
       have hcz13_1 : w3.cell? ⟨gb136, 1, none⟩ = some (.slice A0_1 l0_1.length c0_1) := (blk_cell BK136.out 1).trans rfl
       have hcz13_2 : w3.cell? ⟨gb136, 2, none⟩ = some (.int .i64 a0_2) := (blk_cell BK136.out 2).trans rfl
       have hcz13_3 : w3.cell? ⟨gb136, 3, none⟩ = some (.int .i64 a0_3) := (blk_cell BK136.out 3).trans rfl
       have hcz13_4 : w3.cell? ⟨gb136, 4, none⟩ = some (.int .i64 a0_4) := (blk_cell BK136.out 4).trans rfl
       have hcz13_5 : w3.cell? ⟨gb136, 5, none⟩ = some (.int .u8 a0_5) := (blk_cell BK136.out 5).trans rfl
       have hcz13_6 : w3.cell? ⟨gb136, 6, none⟩ = some (.int .i64 a0_6) := (blk_cell BK136.out 6).trans rfl
       have hcz13_7 : w3.cell? ⟨gb136, 7, none⟩ = some (.slice A0_7 l0_7.length c0_7) := (blk_cell BK136.out 7).trans rfl
       have hcz13_8 : w3.cell? ⟨gb136, 8, none⟩ = some (.bool a0_8) := (blk_cell BK136.out 8).trans rfl
       have hcz13_9 : w3.cell? ⟨gb136, 9, none⟩ = some (.bool a0_9) := (blk_cell BK136.out 9).trans rfl
       have hfz13_0 := blk_frozen BK136.out 0
       have hfz13_1 := blk_frozen BK136.out 1
       have hfz13_2 := blk_frozen BK136.out 2
       have hfz13_3 := blk_frozen BK136.out 3
       have hfz13_4 := blk_frozen BK136.out 4
       have hfz13_5 := blk_frozen BK136.out 5
       have hfz13_6 := blk_frozen BK136.out 6
       have hfz13_7 := blk_frozen BK136.out 7
       have hfz13_8 := blk_frozen BK136.out 8
       have hfz13_9 := blk_frozen BK136.out 9
       go_wp2
       go_meet
       case rel => exact ⟨_, (true), (by first | rfl | (simp; done) | (simp [*]; done)), H', ⟨by first | omega | exact Nat.le_refl _⟩, ⟨of_lies⟩, ⟨low HB⟩⟩
      ·
       rw [if_neg c12] at H
       have c12b0 : decide (a0_4 < 1) = false := decide_eq_false c12
       clear c12
       by_cases c14 : a0_5 > 1
       ·
        rw [if_pos c14] at H
        have c14b0 : decide (1 < a0_5) = true := decide_eq_true c14
        clear c14
        have H' := Az H
        clear H
        have hcz15_0 : w3.cell? ⟨gb136, 0, none⟩ = some (.slice A0_0 l0_0.length c0_0) := (blk_cell BK136.out 0).trans rfl
        have hcz15_1 : w3.cell? ⟨gb136, 1, none⟩ = some (.slice A0_1 l0_1.length c0_1) := (blk_cell BK136.out 1).trans rfl
        have hcz15_2 : w3.cell? ⟨gb136, 2, none⟩ = some (.int .i64 a0_2) := (blk_cell BK136.out 2).trans rfl
        have hcz15_3 : w3.cell? ⟨gb136, 3, none⟩ = some (.int .i64 a0_3) := (blk_cell BK136.out 3).trans rfl
        have hcz15_4 : w3.cell? ⟨gb136, 4, none⟩ = some (.int .i64 a0_4) := (blk_cell BK136.out 4).trans rfl
        have hcz15_5 : w3.cell? ⟨gb136, 5, none⟩ = some (.int .u8 a0_5) := (blk_cell BK136.out 5).trans rfl
        have hcz15_6 : w3.cell? ⟨gb136, 6, none⟩ = some (.int .i64 a0_6) := (blk_cell BK136.out 6).trans rfl
        have hcz15_7 : w3.cell? ⟨gb136, 7, none⟩ = some (.slice A0_7 l0_7.length c0_7) := (blk_cell BK136.out 7).trans rfl
        have hcz15_8 : w3.cell? ⟨gb136, 8, none⟩ = some (.bool a0_8) := (blk_cell BK136.out 8).trans rfl
        have hcz15_9 : w3.cell? ⟨gb136, 9, none⟩ = some (.bool a0_9) := (blk_cell BK136.out 9).trans rfl
        have hfz15_0 := blk_frozen BK136.out 0
        have hfz15_1 := blk_frozen BK136.out 1
        have hfz15_2 := blk_frozen BK136.out 2
        have hfz15_3 := blk_frozen BK136.out 3
        have hfz15_4 := blk_frozen BK136.out 4
        have hfz15_5 := blk_frozen BK136.out 5
        have hfz15_6 := blk_frozen BK136.out 6
        have hfz15_7 := blk_frozen BK136.out 7
        have hfz15_8 := blk_frozen BK136.out 8
        have hfz15_9 := blk_frozen BK136.out 9
        go_wp2
        go_meet
        case rel => exact ⟨_, (true), (by first | rfl | (simp; done) | (simp [*]; done)), H', ⟨by first | omega | exact Nat.le_refl _⟩, ⟨of_lies⟩, ⟨low HB⟩⟩
       ·
        rw [if_neg c14] at H
        have c14b0 : decide (1 < a0_5) = false := decide_eq_false c14
        clear c14
        have H' := Az H
        clear H
        have hcz16_0 : w3.cell? ⟨gb136, 0, none⟩ = some (.slice A0_0 l0_0.length c0_0) := (blk_cell BK136.out 0).trans rfl
        have hcz16_1 : w3.cell? ⟨gb136, 1, none⟩ = some (.slice A0_1 l0_1.length c0_1) := (blk_cell BK136.out 1).trans rfl
        have hcz16_2 : w3.cell? ⟨gb136, 2, none⟩ = some (.int .i64 a0_2) := (blk_cell BK136.out 2).trans rfl
        have hcz16_3 : w3.cell? ⟨gb136, 3, none⟩ = some (.int .i64 a0_3) := (blk_cell BK136.out 3).trans rfl
        have hcz16_4 : w3.cell? ⟨gb136, 4, none⟩ = some (.int .i64 a0_4) := (blk_cell BK136.out 4).trans rfl
        have hcz16_5 : w3.cell? ⟨gb136, 5, none⟩ = some (.int .u8 a0_5) := (blk_cell BK136.out 5).trans rfl
        have hcz16_6 : w3.cell? ⟨gb136, 6, none⟩ = some (.int .i64 a0_6) := (blk_cell BK136.out 6).trans rfl
        have hcz16_7 : w3.cell? ⟨gb136, 7, none⟩ = some (.slice A0_7 l0_7.length c0_7) := (blk_cell BK136.out 7).trans rfl
        have hcz16_8 : w3.cell? ⟨gb136, 8, none⟩ = some (.bool a0_8) := (blk_cell BK136.out 8).trans rfl
        have hcz16_9 : w3.cell? ⟨gb136, 9, none⟩ = some (.bool a0_9) := (blk_cell BK136.out 9).trans rfl
        have hfz16_0 := blk_frozen BK136.out 0
        have hfz16_1 := blk_frozen BK136.out 1
        have hfz16_2 := blk_frozen BK136.out 2
        have hfz16_3 := blk_frozen BK136.out 3
        have hfz16_4 := blk_frozen BK136.out 4
        have hfz16_5 := blk_frozen BK136.out 5
        have hfz16_6 := blk_frozen BK136.out 6
        have hfz16_7 := blk_frozen BK136.out 7
        have hfz16_8 := blk_frozen BK136.out 8
        have hfz16_9 := blk_frozen BK136.out 9
        go_wp2
        go_meet
        case rel => exact ⟨_, (decide ((l0_1.length : Int) > 144)), (by first | rfl | (simp; done) | (simp [*]; done)), H', ⟨by first | omega | exact Nat.le_refl _⟩, ⟨of_lies⟩, ⟨low HB⟩⟩
 case rest =>
  clear HC2
  try clear c1
  try clear p2
  try clear c4
  try clear c4b0
  try clear c6
  try clear c6b0
  try clear c8
  try clear c8b0
  try clear c10
  try clear c10b0
  try clear c12
  try clear c12b0
  try clear c14
  try clear c14b0
  try clear hcz11_0
  try clear hcz11_1
  try clear hcz11_2
  try clear hcz11_3
  try clear hcz11_4
  try clear hcz11_5
  try clear hcz11_6
  try clear hcz11_7
  try clear hcz11_8
  try clear hcz11_9
  try clear hcz13_0
  try clear hcz13_1
  try clear hcz13_2
  try clear hcz13_3
  try clear hcz13_4
  try clear hcz13_5
  try clear hcz13_6
  try clear hcz13_7
  try clear hcz13_8
  try clear hcz13_9
  try clear hcz15_0
  try clear hcz15_1
  try clear hcz15_2
  try clear hcz15_3
  try clear hcz15_4
  try clear hcz15_5
  try clear hcz15_6
  try clear hcz15_7
  try clear hcz15_8
  try clear hcz15_9
  try clear hcz16_0
  try clear hcz16_1
  try clear hcz16_2
  try clear hcz16_3
  try clear hcz16_4
  try clear hcz16_5
  try clear hcz16_6
  try clear hcz16_7
  try clear hcz16_8
  try clear hcz16_9
  try clear hcz5_0
  try clear hcz5_1
  try clear hcz5_2
  try clear hcz5_3
  try clear hcz5_4
  try clear hcz5_5
  try clear hcz5_6
  try clear hcz5_7
  try clear hcz5_8
  try clear hcz5_9
  try clear hcz7_0
  try clear hcz7_1
  try clear hcz7_2
  try clear hcz7_3
  try clear hcz7_4
  try clear hcz7_5
  try clear hcz7_6
  try clear hcz7_7
  try clear hcz7_8
  try clear hcz7_9
  try clear hcz9_0
  try clear hcz9_1
  try clear hcz9_2
  try clear hcz9_3
  try clear hcz9_4
  try clear hcz9_5
  try clear hcz9_6
  try clear hcz9_7
  try clear hcz9_8
  try clear hcz9_9
  try clear hfz11_0
  try clear hfz11_1
  try clear hfz11_2
  try clear hfz11_3
  try clear hfz11_4
  try clear hfz11_5
  try clear hfz11_6
  try clear hfz11_7
  try clear hfz11_8
  try clear hfz11_9
  try clear hfz13_0
  try clear hfz13_1
  try clear hfz13_2
  try clear hfz13_3
  try clear hfz13_4
  try clear hfz13_5
  try clear hfz13_6
  try clear hfz13_7
  try clear hfz13_8
  try clear hfz13_9
  try clear hfz15_0
  try clear hfz15_1
  try clear hfz15_2
  try clear hfz15_3
  try clear hfz15_4
  try clear hfz15_5
  try clear hfz15_6
  try clear hfz15_7
  try clear hfz15_8
  try clear hfz15_9
  try clear hfz16_0
  try clear hfz16_1
  try clear hfz16_2
  try clear hfz16_3
  try clear hfz16_4
  try clear hfz16_5
  try clear hfz16_6
  try clear hfz16_7
  try clear hfz16_8
  try clear hfz16_9
  try clear hfz5_0
  try clear hfz5_1
  try clear hfz5_2
  try clear hfz5_3
  try clear hfz5_4
  try clear hfz5_5
  try clear hfz5_6
  try clear hfz5_7
  try clear hfz5_8
  try clear hfz5_9
  try clear hfz7_0
  try clear hfz7_1
  try clear hfz7_2
  try clear hfz7_3
  try clear hfz7_4
  try clear hfz7_5
  try clear hfz7_6
  try clear hfz7_7
  try clear hfz7_8
  try clear hfz7_9
  try clear hfz9_0
  try clear hfz9_1
  try clear hfz9_2
  try clear hfz9_3
  try clear hfz9_4
  try clear hfz9_5
  try clear hfz9_6
  try clear hfz9_7
  try clear hfz9_8
  try clear hfz9_9
  obtain ⟨kq, x45_1, rfl, HA, HJ1, BK136, HB⟩ := hcut
  cases kq with
  | zero => exact absurd HA.out (by simp [joustref06_May.j0])
  | succ kj1 =>
   have H := HA.out
   clear HA
   simp only [joustref06_May.j0] at H
   by_cases c17 : x45_1 = true
   ·
    subst c17
    have H1 : (some false) = some r := by rw [if_pos rfl] at H; exact H
    clear H
    have H := H1
    clear H1
    obtain rfl := Option.some.inj H
    go_wp2
    go_ret
    exact ⟨by first | rfl | (simp [errW_none, errW_some] <;> rfl) | (simp [*, errW_none, errW_some] <;> rfl), low HB⟩
   ·
    replace c17 := Bool.eq_false_iff.mpr c17
    subst c17
    have H1 : (joustref06_May.l0 kj1 0 0 l0_0 l0_1 a0_2 a0_3 a0_4 a0_5 a0_6 l0_7 a0_8 a0_9) = some r := by rw [if_neg (show ¬ (false = true) by decide)] at H; exact H
    clear H
    have H := H1
    clear H1
    have H' := Az H
    clear H
    go_wp2
    go_loopg [3, 4] kj1 (fun kq v3 v4 w' => ∃ (x3_2 : Int) (x4_2 : Int), v3 = .int .i64 x3_2 ∧ v4 = .int .i64 x4_2 ∧ Aside0 (joustref06_May.l0 kq x3_2 x4_2 l0_0 l0_1 a0_2 a0_3 a0_4 a0_5 a0_6 l0_7 a0_8 a0_9 = some r) ∧ Aside0 (kq ≤ kj1) ∧ Aside0 (w'.heap[gb136]? = some (.cells #[(.slice A0_0 l0_0.length c0_0), (.slice A0_1 l0_1.length c0_1), .int .i64 a0_2, .int .i64 a0_3, .int .i64 a0_4, .int .u8 a0_5, .int .i64 a0_6, (.slice A0_7 l0_7.length c0_7), .bool a0_8, .bool a0_9] 28 (0, 0))) ∧ Aside0 (Below w.heap.size w w'))
    case atStart => exact ⟨(0), (0), (by first | rfl | (simp; done) | (simp [*]; done)), (by first | rfl | (simp; done) | (simp [*]; done)), H', ⟨Nat.le_refl _⟩, ⟨of_lies⟩, ⟨low HB⟩⟩
    case round =>
     clear H'
     try clear c1
     try clear p2
     try clear c4
     try clear c4b0
     try clear c6
     try clear c6b0
     try clear c8
     try clear c8b0
     try clear c10
     try clear c10b0
     try clear c12
     try clear c12b0
     try clear c14
     try clear c14b0
     try clear c17
     try clear hcz11_0
     try clear hcz11_1
     try clear hcz11_2
     try clear hcz11_3
     try clear hcz11_4
     try clear hcz11_5
     try clear hcz11_6
     try clear hcz11_7
     try clear hcz11_8
     try clear hcz11_9
     try clear hcz13_0
     try clear hcz13_1
     try clear hcz13_2
     try clear hcz13_3
     try clear hcz13_4
     try clear hcz13_5
     try clear hcz13_6
     try clear hcz13_7
     try clear hcz13_8
     try clear hcz13_9
     try clear hcz15_0
     try clear hcz15_1
     try clear hcz15_2
     try clear hcz15_3
     try clear hcz15_4
     try clear hcz15_5
     try clear hcz15_6
     try clear hcz15_7
     try clear hcz15_8
     try clear hcz15_9
     try clear hcz16_0
     try clear hcz16_1
     try clear hcz16_2
     try clear hcz16_3
     try clear hcz16_4
     try clear hcz16_5
     try clear hcz16_6
     try clear hcz16_7
     try clear hcz16_8
     try clear hcz16_9
     try clear hcz5_0
     try clear hcz5_1
     try clear hcz5_2
     try clear hcz5_3
     try clear hcz5_4
     try clear hcz5_5
     try clear hcz5_6
     try clear hcz5_7
     try clear hcz5_8
     try clear hcz5_9
     try clear hcz7_0
     try clear hcz7_1
     try clear hcz7_2
     try clear hcz7_3
     try clear hcz7_4
     try clear hcz7_5
     try clear hcz7_6
     try clear hcz7_7
     try clear hcz7_8
     try clear hcz7_9
     try clear hcz9_0
     try clear hcz9_1
     try clear hcz9_2
     try clear hcz9_3
     try clear hcz9_4
     try clear hcz9_5
     try clear hcz9_6
     try clear hcz9_7
     try clear hcz9_8
     try clear hcz9_9
     try clear hfz11_0
     try clear hfz11_1
     try clear hfz11_2
     try clear hfz11_3
     try clear hfz11_4
     try clear hfz11_5
     try clear hfz11_6
     try clear hfz11_7
     try clear hfz11_8
     try clear hfz11_9
     try clear hfz13_0
     try clear hfz13_1
     try clear hfz13_2
     try clear hfz13_3
     try clear hfz13_4
     try clear hfz13_5
     try clear hfz13_6
     try clear hfz13_7
     try clear hfz13_8
     try clear hfz13_9
     try clear hfz15_0
     try clear hfz15_1
     try clear hfz15_2
     try clear hfz15_3
     try clear hfz15_4
     try clear hfz15_5
     try clear hfz15_6
     try clear hfz15_7
     try clear hfz15_8
     try clear hfz15_9
     try clear hfz16_0
     try clear hfz16_1
     try clear hfz16_2
     try clear hfz16_3
     try clear hfz16_4
     try clear hfz16_5
     try clear hfz16_6
     try clear hfz16_7
     try clear hfz16_8
     try clear hfz16_9
     try clear hfz5_0
     try clear hfz5_1
     try clear hfz5_2
     try clear hfz5_3
     try clear hfz5_4
     try clear hfz5_5
     try clear hfz5_6
     try clear hfz5_7
     try clear hfz5_8
     try clear hfz5_9
     try clear hfz7_0
     try clear hfz7_1
     try clear hfz7_2
     try clear hfz7_3
     try clear hfz7_4
     try clear hfz7_5
     try clear hfz7_6
     try clear hfz7_7
     try clear hfz7_8
     try clear hfz7_9
     try clear hfz9_0
     try clear hfz9_1
     try clear hfz9_2
     try clear hfz9_3
     try clear hfz9_4
     try clear hfz9_5
     try clear hfz9_6
     try clear hfz9_7
     try clear hfz9_8
     try clear hfz9_9
     try clear p2
     obtain ⟨x3_2, x4_2, rfl, rfl, HA, HK2, BK136, HB⟩ := hrel
     cases gk with
     | zero => exact absurd HA.out (by simp [joustref06_May.l0])
     | succ k2 =>
      have H := HA.out
      clear HA
      simp only [joustref06_May.l0] at H
      by_cases c18 : x4_2 < (l0_1.length : Int)
      ·
       rw [if_pos c18] at H
       have c18b0 : decide (x4_2 < (l0_1.length : Int)) = true := decide_eq_true c18
       clear c18
       replace H := Option.bind_eq_some_iff.mp H
       obtain ⟨t137, A190, H⟩ := H
       replace H : (if t137 = true then (if 0 ≤ x4_2 then ((Pmga.joustref06_many.f k2 l0_0 l0_1 a0_2 a0_3 a0_4 a0_5 a0_6 l0_7 a0_8 a0_9 ((rd_T35 l0_1 x4_2).f4) ((rd_T35 l0_1 x4_2).f5) ((rd_T35 l0_1 x4_2).f6)).bind fun bt140 => (if ((rd_T35 l0_1 x4_2).f5) = 6 then (joustref06_May.l0 k2 (wrap64 (x3_2 + 1)) (wrap64 (x4_2 + 1)) l0_0 l0_1 a0_2 a0_3 a0_4 a0_5 a0_6 l0_7 a0_8 a0_9) else (if ((rd_T35 l0_1 x4_2).f5) = 7 then (joustref06_May.l0 k2 x3_2 (wrap64 (x4_2 + 1)) l0_0 l0_1 a0_2 a0_3 a0_4 a0_5 a0_6 l0_7 a0_8 a0_9) else (if bt140.2 = 1 then ((Pmga.joustref06_shared.f ((rd_T35 l0_1 x4_2).f5)).bind fun t142 => (if t142 = true then (joustref06_May.l0 k2 x3_2 (wrap64 (x4_2 + 1)) l0_0 l0_1 a0_2 a0_3 a0_4 a0_5 a0_6 l0_7 a0_8 a0_9) else (if ((rd_T35 l0_1 x4_2).f6) < 0 then (some false) else (if ((rd_T35 l0_1 x4_2).f6) ≥ bt140.1 then (some false) else (joustref06_May.l0 k2 x3_2 (wrap64 (x4_2 + 1)) l0_0 l0_1 a0_2 a0_3 a0_4 a0_5 a0_6 l0_7 a0_8 a0_9))))) else (some false))))) else (none)) else (some false)) = some r := H
       have A19 := Az A190
       clear A190
       by_cases c20 : t137 = true
       ·
        subst c20
        have H1 : (if 0 ≤ x4_2 then ((Pmga.joustref06_many.f k2 l0_0 l0_1 a0_2 a0_3 a0_4 a0_5 a0_6 l0_7 a0_8 a0_9 ((rd_T35 l0_1 x4_2).f4) ((rd_T35 l0_1 x4_2).f5) ((rd_T35 l0_1 x4_2).f6)).bind fun bt140 => (if ((rd_T35 l0_1 x4_2).f5) = 6 then (joustref06_May.l0 k2 (wrap64 (x3_2 + 1)) (wrap64 (x4_2 + 1)) l0_0 l0_1 a0_2 a0_3 a0_4 a0_5 a0_6 l0_7 a0_8 a0_9) else (if ((rd_T35 l0_1 x4_2).f5) = 7 then (joustref06_May.l0 k2 x3_2 (wrap64 (x4_2 + 1)) l0_0 l0_1 a0_2 a0_3 a0_4 a0_5 a0_6 l0_7 a0_8 a0_9) else (if bt140.2 = 1 then ((Pmga.joustref06_shared.f ((rd_T35 l0_1 x4_2).f5)).bind fun t142 => (if t142 = true then (joustref06_May.l0 k2 x3_2 (wrap64 (x4_2 + 1)) l0_0 l0_1 a0_2 a0_3 a0_4 a0_5 a0_6 l0_7 a0_8 a0_9) else (if ((rd_T35 l0_1 x4_2).f6) < 0 then (some false) else (if ((rd_T35 l0_1 x4_2).f6) ≥ bt140.1 then (some false) else (joustref06_May.l0 k2 x3_2 (wrap64 (x4_2 + 1)) l0_0 l0_1 a0_2 a0_3 a0_4 a0_5 a0_6 l0_7 a0_8 a0_9))))) else (some false))))) else (none)) = some r := by rw [if_pos rfl] at H; exact H
        clear H
        have H := H1
        clear H1
        by_cases c21 : 0 ≤ x4_2
        ·
         rw [if_pos c21] at H
         have c21b0 : decide (0 ≤ x4_2) = true := decide_eq_true c21
         clear c21
         replace H := Option.bind_eq_some_iff.mp H
         obtain ⟨⟨t140, t141⟩, A220, H⟩ := H
         replace H : (if ((rd_T35 l0_1 x4_2).f5) = 6 then (joustref06_May.l0 k2 (wrap64 (x3_2 + 1)) (wrap64 (x4_2 + 1)) l0_0 l0_1 a0_2 a0_3 a0_4 a0_5 a0_6 l0_7 a0_8 a0_9) else (if ((rd_T35 l0_1 x4_2).f5) = 7 then (joustref06_May.l0 k2 x3_2 (wrap64 (x4_2 + 1)) l0_0 l0_1 a0_2 a0_3 a0_4 a0_5 a0_6 l0_7 a0_8 a0_9) else (if t141 = 1 then ((Pmga.joustref06_shared.f ((rd_T35 l0_1 x4_2).f5)).bind fun t142 => (if t142 = true then (joustref06_May.l0 k2 x3_2 (wrap64 (x4_2 + 1)) l0_0 l0_1 a0_2 a0_3 a0_4 a0_5 a0_6 l0_7 a0_8 a0_9) else (if ((rd_T35 l0_1 x4_2).f6) < 0 then (some false) else (if ((rd_T35 l0_1 x4_2).f6) ≥ t140 then (some false) else (joustref06_May.l0 k2 x3_2 (wrap64 (x4_2 + 1)) l0_0 l0_1 a0_2 a0_3 a0_4 a0_5 a0_6 l0_7 a0_8 a0_9))))) else (some false)))) = some r := H
         have A22 := Az A220
         clear A220
         by_cases c23 : ((rd_T35 l0_1 x4_2).f5) = 6
         ·
          rw [if_pos c23] at H
          have c23b0 : (((rd_T35 l0_1 x4_2).f5) == 6) = true := beq_iff_eq.mpr c23
          have c23b1 : (((rd_T35 l0_1 x4_2).f5) != 6) = false := bne_eq_false_iff_eq.mpr c23
          clear c23
          have H' := Az H
          clear H
          have hcz24_0 : wr.cell? ⟨gb136, 0, none⟩ = some (.slice A0_0 l0_0.length c0_0) := (blk_cell BK136.out 0).trans rfl
          have hcz24_1 : wr.cell? ⟨gb136, 1, none⟩ = some (.slice A0_1 l0_1.length c0_1) := (blk_cell BK136.out 1).trans rfl
          have hcz24_2 : wr.cell? ⟨gb136, 2, none⟩ = some (.int .i64 a0_2) := (blk_cell BK136.out 2).trans rfl
          have hcz24_3 : wr.cell? ⟨gb136, 3, none⟩ = some (.int .i64 a0_3) := (blk_cell BK136.out 3).trans rfl
          have hcz24_4 : wr.cell? ⟨gb136, 4, none⟩ = some (.int .i64 a0_4) := (blk_cell BK136.out 4).trans rfl
          have hcz24_5 : wr.cell? ⟨gb136, 5, none⟩ = some (.int .u8 a0_5) := (blk_cell BK136.out 5).trans rfl
          have hcz24_6 : wr.cell? ⟨gb136, 6, none⟩ = some (.int .i64 a0_6) := (blk_cell BK136.out 6).trans rfl
          have hcz24_7 : wr.cell? ⟨gb136, 7, none⟩ = some (.slice A0_7 l0_7.length c0_7) := (blk_cell BK136.out 7).trans rfl
          have hcz24_8 : wr.cell? ⟨gb136, 8, none⟩ = some (.bool a0_8) := (blk_cell BK136.out 8).trans rfl
          have hcz24_9 : wr.cell? ⟨gb136, 9, none⟩ = some (.bool a0_9) := (blk_cell BK136.out 9).trans rfl
          have hfz24_0 := blk_frozen BK136.out 0
          have hfz24_1 := blk_frozen BK136.out 1
          have hfz24_2 := blk_frozen BK136.out 2
          have hfz24_3 := blk_frozen BK136.out 3
          have hfz24_4 := blk_frozen BK136.out 4
          have hfz24_5 := blk_frozen BK136.out 5
          have hfz24_6 := blk_frozen BK136.out 6
          have hfz24_7 := blk_frozen BK136.out 7
          have hfz24_8 := blk_frozen BK136.out 8
          have hfz24_9 := blk_frozen BK136.out 9
          go_wp2_with (first | ((with_reducible refine gate_callee (f := 67) rfl ?_); refine goesL_ (some 55) rfl rfl Try.func67 (by kernel_rfl) rfl #[.agg #[.slice A0_0 l0_0.length c0_0, .slice A0_1 l0_1.length c0_1, .int .i64 a0_2, .int .i64 a0_3, .int .i64 a0_4, .int .u8 a0_5, .int .i64 a0_6, .slice A0_7 l0_7.length c0_7, .bool a0_8, .bool a0_9], .int .i64 x4_2] rfl (by (try simp only [List.map_toArray, List.map_cons, List.map_nil]); first | done | rfl | (simp only [List.length_drop, List.length_take]; rfl)) ?_; (with_reducible refine (joustref06_one.calls k2 _ _ l0_0 _ _ l0_1 a0_2 a0_3 a0_4 a0_5 a0_6 _ _ l0_7 a0_8 a0_9 x4_2 true _ ?side1 ?side2 ?side3 ?side4 ?side5 ?side6 A19.out).mono ?_); (case side1 => repeat (first | exact (Kd.C_below HR0_0.out HB.out) | (with_reducible refine Kd.C_alloc ?_ _) | (with_reducible refine Kd.C_drewN ?_ _) | (with_reducible refine Kd.C_drew ?_))); (case side2 => exact HC0_0.out); (case side3 => repeat (first | exact (Kd.C_below HR0_1.out HB.out) | (with_reducible refine Kd.C_alloc ?_ _) | (with_reducible refine Kd.C_drewN ?_ _) | (with_reducible refine Kd.C_drew ?_))); (case side4 => exact HC0_1.out); (case side5 => repeat (first | exact (Kd.C_below HR0_7.out HB.out) | (with_reducible refine Kd.C_alloc ?_ _) | (with_reducible refine Kd.C_drewN ?_ _) | (with_reducible refine Kd.C_drew ?_))); (case side6 => exact HC0_7.out); rintro e w25 ⟨rfl, hb⟩; refine ⟨_, rfl, ?_⟩; have n0_ := Az (blk_below (g := gb136) (o := .cells #[.slice A0_0 l0_0.length c0_0, .slice A0_1 l0_1.length c0_1, .int .i64 a0_2, .int .i64 a0_3, .int .i64 a0_4, .int .u8 a0_5, .int .i64 a0_6, .slice A0_7 l0_7.length c0_7, .bool a0_8, .bool a0_9] 28 (0, 0)) of_lies hb); have n1_ := Az (below_step (low HB) hb); clear BK136; clear HB; have BK136 := n0_; have HB := n1_; clear n0_ n1_; (try clear hb); (try clear hb2); (try clear hk); (try clear hi); have hcz26_0 : w25.cell? ⟨gb136, 0, none⟩ = some (.slice A0_0 l0_0.length c0_0) := (blk_cell BK136.out 0).trans rfl; have hcz26_1 : w25.cell? ⟨gb136, 1, none⟩ = some (.slice A0_1 l0_1.length c0_1) := (blk_cell BK136.out 1).trans rfl; have hcz26_2 : w25.cell? ⟨gb136, 2, none⟩ = some (.int .i64 a0_2) := (blk_cell BK136.out 2).trans rfl; have hcz26_3 : w25.cell? ⟨gb136, 3, none⟩ = some (.int .i64 a0_3) := (blk_cell BK136.out 3).trans rfl; have hcz26_4 : w25.cell? ⟨gb136, 4, none⟩ = some (.int .i64 a0_4) := (blk_cell BK136.out 4).trans rfl; have hcz26_5 : w25.cell? ⟨gb136, 5, none⟩ = some (.int .u8 a0_5) := (blk_cell BK136.out 5).trans rfl; have hcz26_6 : w25.cell? ⟨gb136, 6, none⟩ = some (.int .i64 a0_6) := (blk_cell BK136.out 6).trans rfl; have hcz26_7 : w25.cell? ⟨gb136, 7, none⟩ = some (.slice A0_7 l0_7.length c0_7) := (blk_cell BK136.out 7).trans rfl; have hcz26_8 : w25.cell? ⟨gb136, 8, none⟩ = some (.bool a0_8) := (blk_cell BK136.out 8).trans rfl; have hcz26_9 : w25.cell? ⟨gb136, 9, none⟩ = some (.bool a0_9) := (blk_cell BK136.out 9).trans rfl; have hfz26_0 := blk_frozen BK136.out 0; have hfz26_1 := blk_frozen BK136.out 1; have hfz26_2 := blk_frozen BK136.out 2; have hfz26_3 := blk_frozen BK136.out 3; have hfz26_4 := blk_frozen BK136.out 4; have hfz26_5 := blk_frozen BK136.out 5; have hfz26_6 := blk_frozen BK136.out 6; have hfz26_7 := blk_frozen BK136.out 7; have hfz26_8 := blk_frozen BK136.out 8; have hfz26_9 := blk_frozen BK136.out 9; have p138 : 0 ≤ (x4_2 : Int) := of_decide_eq_true (by first | (with_reducible assumption) | assumption); have q138 : x4_2 < (l0_1.length : Int) := of_decide_eq_true (by first | (with_reducible assumption) | assumption); obtain ⟨ad138, e138, hx138_0, hx138_1, hx138_2, hx138_3, hx138_4, hx138_5, hx138_6, hx138_7, hx138_8, hx138_9, hx138_10, hx138_11, hx138_12, hx138_13⟩ := at_T35 HR0_1.out x4_2 p138 q138; cases e138; replace hx138_0 := (HB.out.cell (World.block_lt_of_cell? w _ hx138_0)).trans hx138_0; replace hx138_1 := (HB.out.cell (World.block_lt_of_cell? w _ hx138_1)).trans hx138_1; replace hx138_2 := (HB.out.cell (World.block_lt_of_cell? w _ hx138_2)).trans hx138_2; replace hx138_3 := (HB.out.cell (World.block_lt_of_cell? w _ hx138_3)).trans hx138_3; replace hx138_4 := (HB.out.cell (World.block_lt_of_cell? w _ hx138_4)).trans hx138_4; replace hx138_5 := (HB.out.cell (World.block_lt_of_cell? w _ hx138_5)).trans hx138_5; replace hx138_6 := (HB.out.cell (World.block_lt_of_cell? w _ hx138_6)).trans hx138_6; replace hx138_7 := (HB.out.cell (World.block_lt_of_cell? w _ hx138_7)).trans hx138_7; replace hx138_8 := (HB.out.cell (World.block_lt_of_cell? w _ hx138_8)).trans hx138_8; replace hx138_9 := (HB.out.cell (World.block_lt_of_cell? w _ hx138_9)).trans hx138_9; replace hx138_10 := (HB.out.cell (World.block_lt_of_cell? w _ hx138_10)).trans hx138_10; replace hx138_11 := (HB.out.cell (World.block_lt_of_cell? w _ hx138_11)).trans hx138_11; replace hx138_12 := (HB.out.cell (World.block_lt_of_cell? w _ hx138_12)).trans hx138_12; replace hx138_13 := (HB.out.cell (World.block_lt_of_cell? w _ hx138_13)).trans hx138_13; replace p138 := eq_true p138; replace q138 := eq_true q138) | ((with_reducible refine gate_dst (N := 5) rfl ?_); (try (refine gate_guard (by rfl) ?_; dsimp only)); refine box_event ?hg (N := 5) ?hd (cs := #[.int .i64 0, .int .i64 0, .int .i64 0, .int .u8 0, .int .u8 0, .int .u8 0, .int .i64 0, .bool false, .bool false, .int .i64 0, .int .u8 0, .bool false, .bool false, .int .i64 0]) (t := 35) ?hr ?_; (case hd => rfl); (case hg => rfl); (case hr => first | (go_simp; done) | (go_simp; rfl)); intro gb139 hg w27 hbox hb; have n0_ := Az (blk_below (g := gb136) (o := .cells #[.slice A0_0 l0_0.length c0_0, .slice (some ad138) l0_1.length c0_1, .int .i64 a0_2, .int .i64 a0_3, .int .i64 a0_4, .int .u8 a0_5, .int .i64 a0_6, .slice A0_7 l0_7.length c0_7, .bool a0_8, .bool a0_9] 28 (0, 0)) of_lies hb); have n1_ := Az (below_step (low HB) hb); have n2_ := Az (hbox); have n3_ := Az ((by rw [hg]; exact (below_size (low HB)) : w.heap.size ≤ gb139)); have n4_ := Az ((by rw [hg]; exact (below_size (low HB)) : w.heap.size ≤ gb139)); have n5_ := Az ((by rw [hg]; exact Nat.ne_of_lt (blk_lt (g := gb136) (o := .cells #[.slice A0_0 l0_0.length c0_0, .slice (some ad138) l0_1.length c0_1, .int .i64 a0_2, .int .i64 a0_3, .int .i64 a0_4, .int .u8 a0_5, .int .i64 a0_6, .slice A0_7 l0_7.length c0_7, .bool a0_8, .bool a0_9] 28 (0, 0)) of_lies) : gb136 ≠ gb139)); have n6_ := Az ((by rw [hg]; exact Nat.ne_of_gt (blk_lt (g := gb136) (o := .cells #[.slice A0_0 l0_0.length c0_0, .slice (some ad138) l0_1.length c0_1, .int .i64 a0_2, .int .i64 a0_3, .int .i64 a0_4, .int .u8 a0_5, .int .i64 a0_6, .slice A0_7 l0_7.length c0_7, .bool a0_8, .bool a0_9] 28 (0, 0)) of_lies) : gb139 ≠ gb136)); clear BK136; clear HB; have BK136 := n0_; have HB := n1_; have BK139 := n2_; have GW139 := n3_; have GE139 := n4_; have NB136_139 := n5_; have NB139_136 := n6_; clear n0_ n1_ n2_ n3_ n4_ n5_ n6_; clear hb hbox hg; have hnb28 := NB139_136.out; have hnc28 := NB136_139.out; have hcz29_0 : w27.cell? ⟨gb139, 0, none⟩ = some (.int .i64 0) := (blk_cell BK139.out 0).trans rfl; have hcz29_1 : w27.cell? ⟨gb139, 1, none⟩ = some (.int .i64 0) := (blk_cell BK139.out 1).trans rfl; have hcz29_2 : w27.cell? ⟨gb139, 2, none⟩ = some (.int .i64 0) := (blk_cell BK139.out 2).trans rfl; have hcz29_3 : w27.cell? ⟨gb139, 3, none⟩ = some (.int .u8 0) := (blk_cell BK139.out 3).trans rfl; have hcz29_4 : w27.cell? ⟨gb139, 4, none⟩ = some (.int .u8 0) := (blk_cell BK139.out 4).trans rfl; have hcz29_5 : w27.cell? ⟨gb139, 5, none⟩ = some (.int .u8 0) := (blk_cell BK139.out 5).trans rfl; have hcz29_6 : w27.cell? ⟨gb139, 6, none⟩ = some (.int .i64 0) := (blk_cell BK139.out 6).trans rfl; have hcz29_7 : w27.cell? ⟨gb139, 7, none⟩ = some (.bool false) := (blk_cell BK139.out 7).trans rfl; have hcz29_8 : w27.cell? ⟨gb139, 8, none⟩ = some (.bool false) := (blk_cell BK139.out 8).trans rfl; have hcz29_9 : w27.cell? ⟨gb139, 9, none⟩ = some (.int .i64 0) := (blk_cell BK139.out 9).trans rfl; have hcz29_10 : w27.cell? ⟨gb139, 10, none⟩ = some (.int .u8 0) := (blk_cell BK139.out 10).trans rfl; have hcz29_11 : w27.cell? ⟨gb139, 11, none⟩ = some (.bool false) := (blk_cell BK139.out 11).trans rfl; have hcz29_12 : w27.cell? ⟨gb139, 12, none⟩ = some (.bool false) := (blk_cell BK139.out 12).trans rfl; have hcz29_13 : w27.cell? ⟨gb139, 13, none⟩ = some (.int .i64 0) := (blk_cell BK139.out 13).trans rfl; have hfz29_0 := blk_frozen BK139.out 0; have hfz29_1 := blk_frozen BK139.out 1; have hfz29_2 := blk_frozen BK139.out 2; have hfz29_3 := blk_frozen BK139.out 3; have hfz29_4 := blk_frozen BK139.out 4; have hfz29_5 := blk_frozen BK139.out 5; have hfz29_6 := blk_frozen BK139.out 6; have hfz29_7 := blk_frozen BK139.out 7; have hfz29_8 := blk_frozen BK139.out 8; have hfz29_9 := blk_frozen BK139.out 9; have hfz29_10 := blk_frozen BK139.out 10; have hfz29_11 := blk_frozen BK139.out 11; have hfz29_12 := blk_frozen BK139.out 12; have hfz29_13 := blk_frozen BK139.out 13; have hcz30_0 : w27.cell? ⟨gb136, 0, none⟩ = some (.slice A0_0 l0_0.length c0_0) := (blk_cell BK136.out 0).trans rfl; have hcz30_1 : w27.cell? ⟨gb136, 1, none⟩ = some (.slice (some ad138) l0_1.length c0_1) := (blk_cell BK136.out 1).trans rfl; have hcz30_2 : w27.cell? ⟨gb136, 2, none⟩ = some (.int .i64 a0_2) := (blk_cell BK136.out 2).trans rfl; have hcz30_3 : w27.cell? ⟨gb136, 3, none⟩ = some (.int .i64 a0_3) := (blk_cell BK136.out 3).trans rfl; have hcz30_4 : w27.cell? ⟨gb136, 4, none⟩ = some (.int .i64 a0_4) := (blk_cell BK136.out 4).trans rfl; have hcz30_5 : w27.cell? ⟨gb136, 5, none⟩ = some (.int .u8 a0_5) := (blk_cell BK136.out 5).trans rfl; have hcz30_6 : w27.cell? ⟨gb136, 6, none⟩ = some (.int .i64 a0_6) := (blk_cell BK136.out 6).trans rfl; have hcz30_7 : w27.cell? ⟨gb136, 7, none⟩ = some (.slice A0_7 l0_7.length c0_7) := (blk_cell BK136.out 7).trans rfl; have hcz30_8 : w27.cell? ⟨gb136, 8, none⟩ = some (.bool a0_8) := (blk_cell BK136.out 8).trans rfl; have hcz30_9 : w27.cell? ⟨gb136, 9, none⟩ = some (.bool a0_9) := (blk_cell BK136.out 9).trans rfl; have hfz30_0 := blk_frozen BK136.out 0; have hfz30_1 := blk_frozen BK136.out 1; have hfz30_2 := blk_frozen BK136.out 2; have hfz30_3 := blk_frozen BK136.out 3; have hfz30_4 := blk_frozen BK136.out 4; have hfz30_5 := blk_frozen BK136.out 5; have hfz30_6 := blk_frozen BK136.out 6; have hfz30_7 := blk_frozen BK136.out 7; have hfz30_8 := blk_frozen BK136.out 8; have hfz30_9 := blk_frozen BK136.out 9) | ((with_reducible refine gate_callee (f := 68) rfl ?_); refine goesL_ (some 70) rfl rfl Try.func68 (by kernel_rfl) rfl #[.agg #[.slice A0_0 l0_0.length c0_0, .slice (some ad138) l0_1.length c0_1, .int .i64 a0_2, .int .i64 a0_3, .int .i64 a0_4, .int .u8 a0_5, .int .i64 a0_6, .slice A0_7 l0_7.length c0_7, .bool a0_8, .bool a0_9], .int .u8 ((rd_T35 l0_1 x4_2).f4), .int .u8 ((rd_T35 l0_1 x4_2).f5), .int .i64 ((rd_T35 l0_1 x4_2).f6)] rfl (by (try simp only [List.map_toArray, List.map_cons, List.map_nil]); first | done | rfl | (simp only [List.length_drop, List.length_take]; rfl)) ?_; (with_reducible refine (Pmga.joustref06_many.calls k2 _ _ l0_0 _ _ l0_1 a0_2 a0_3 a0_4 a0_5 a0_6 _ _ l0_7 a0_8 a0_9 ((rd_T35 l0_1 x4_2).f4) ((rd_T35 l0_1 x4_2).f5) ((rd_T35 l0_1 x4_2).f6) t140 t141 _ ?side1 ?side2 ?side3 ?side4 ?side5 ?side6 A22.out).mono ?_); (case side1 => exact Kd.C_below HR0_0.out (low HB)); (case side2 => exact HC0_0.out); (case side3 => exact Kd.C_below HR0_1.out (low HB)); (case side4 => exact HC0_1.out); (case side5 => exact Kd.C_below HR0_7.out (low HB)); (case side6 => exact HC0_7.out); rintro e w31 ⟨rfl, hb⟩; refine ⟨_, rfl, ?_⟩; have n0_ := Az (blk_below (g := gb136) (o := .cells #[.slice A0_0 l0_0.length c0_0, .slice (some ad138) l0_1.length c0_1, .int .i64 a0_2, .int .i64 a0_3, .int .i64 a0_4, .int .u8 a0_5, .int .i64 a0_6, .slice A0_7 l0_7.length c0_7, .bool a0_8, .bool a0_9] 28 (0, 0)) of_lies hb); have n1_ := Az (blk_below (g := gb139) (o := .cells #[.int .i64 ((rd_T35 l0_1 x4_2).f0), .int .i64 ((rd_T35 l0_1 x4_2).f1), .int .i64 ((rd_T35 l0_1 x4_2).f2), .int .u8 ((rd_T35 l0_1 x4_2).f3), .int .u8 ((rd_T35 l0_1 x4_2).f4), .int .u8 ((rd_T35 l0_1 x4_2).f5), .int .i64 ((rd_T35 l0_1 x4_2).f6), .bool ((rd_T35 l0_1 x4_2).f7), .bool ((rd_T35 l0_1 x4_2).f8), .int .i64 ((rd_T35 l0_1 x4_2).f9), .int .u8 ((rd_T35 l0_1 x4_2).f10), .bool ((rd_T35 l0_1 x4_2).f11), .bool ((rd_T35 l0_1 x4_2).f12), .int .i64 ((rd_T35 l0_1 x4_2).f13)] 35 (0, 0)) of_lies hb); have n2_ := Az (below_step (low HB) hb); clear BK136; clear BK139; clear HB; have BK136 := n0_; have BK139 := n1_; have HB := n2_; clear n0_ n1_ n2_; (try clear hb); (try clear hb2); (try clear hk); (try clear hi); have hcz32_0 : w31.cell? ⟨gb139, 0, none⟩ = some (.int .i64 ((rd_T35 l0_1 x4_2).f0)) := (blk_cell BK139.out 0).trans rfl; have hcz32_1 : w31.cell? ⟨gb139, 1, none⟩ = some (.int .i64 ((rd_T35 l0_1 x4_2).f1)) := (blk_cell BK139.out 1).trans rfl; have hcz32_2 : w31.cell? ⟨gb139, 2, none⟩ = some (.int .i64 ((rd_T35 l0_1 x4_2).f2)) := (blk_cell BK139.out 2).trans rfl; have hcz32_3 : w31.cell? ⟨gb139, 3, none⟩ = some (.int .u8 ((rd_T35 l0_1 x4_2).f3)) := (blk_cell BK139.out 3).trans rfl; have hcz32_4 : w31.cell? ⟨gb139, 4, none⟩ = some (.int .u8 ((rd_T35 l0_1 x4_2).f4)) := (blk_cell BK139.out 4).trans rfl; have hcz32_5 : w31.cell? ⟨gb139, 5, none⟩ = some (.int .u8 ((rd_T35 l0_1 x4_2).f5)) := (blk_cell BK139.out 5).trans rfl; have hcz32_6 : w31.cell? ⟨gb139, 6, none⟩ = some (.int .i64 ((rd_T35 l0_1 x4_2).f6)) := (blk_cell BK139.out 6).trans rfl; have hcz32_7 : w31.cell? ⟨gb139, 7, none⟩ = some (.bool ((rd_T35 l0_1 x4_2).f7)) := (blk_cell BK139.out 7).trans rfl; have hcz32_8 : w31.cell? ⟨gb139, 8, none⟩ = some (.bool ((rd_T35 l0_1 x4_2).f8)) := (blk_cell BK139.out 8).trans rfl; have hcz32_9 : w31.cell? ⟨gb139, 9, none⟩ = some (.int .i64 ((rd_T35 l0_1 x4_2).f9)) := (blk_cell BK139.out 9).trans rfl; have hcz32_10 : w31.cell? ⟨gb139, 10, none⟩ = some (.int .u8 ((rd_T35 l0_1 x4_2).f10)) := (blk_cell BK139.out 10).trans rfl; have hcz32_11 : w31.cell? ⟨gb139, 11, none⟩ = some (.bool ((rd_T35 l0_1 x4_2).f11)) := (blk_cell BK139.out 11).trans rfl; have hcz32_12 : w31.cell? ⟨gb139, 12, none⟩ = some (.bool ((rd_T35 l0_1 x4_2).f12)) := (blk_cell BK139.out 12).trans rfl; have hcz32_13 : w31.cell? ⟨gb139, 13, none⟩ = some (.int .i64 ((rd_T35 l0_1 x4_2).f13)) := (blk_cell BK139.out 13).trans rfl; have hfz32_0 := blk_frozen BK139.out 0; have hfz32_1 := blk_frozen BK139.out 1; have hfz32_2 := blk_frozen BK139.out 2; have hfz32_3 := blk_frozen BK139.out 3; have hfz32_4 := blk_frozen BK139.out 4; have hfz32_5 := blk_frozen BK139.out 5; have hfz32_6 := blk_frozen BK139.out 6; have hfz32_7 := blk_frozen BK139.out 7; have hfz32_8 := blk_frozen BK139.out 8; have hfz32_9 := blk_frozen BK139.out 9; have hfz32_10 := blk_frozen BK139.out 10; have hfz32_11 := blk_frozen BK139.out 11; have hfz32_12 := blk_frozen BK139.out 12; have hfz32_13 := blk_frozen BK139.out 13))
          go_roundg k2
          case measure => have := HJ1.out; have := HK2.out; omega
          case rel => exact ⟨(wrap64 (x3_2 + 1)), (wrap64 (x4_2 + 1)), (by first | rfl | (simp; done) | (simp [*]; done)), (by first | rfl | (simp; done) | (simp [*]; done)), H', ⟨by have := HJ1.out; have := HK2.out; omega⟩, ⟨of_lies⟩, ⟨low HB⟩⟩
         ·
          rw [if_neg c23] at H
          have c23b0 : (((rd_T35 l0_1 x4_2).f5) == 6) = false := beq_eq_false_iff_ne.mpr c23
          have c23b1 : (((rd_T35 l0_1 x4_2).f5) != 6) = true := bne_iff_ne.mpr c23
          by_cases c33 : ((rd_T35 l0_1 x4_2).f5) = 7
          ·
           rw [if_pos c33] at H
           have c33b0 : (((rd_T35 l0_1 x4_2).f5) == 7) = true := beq_iff_eq.mpr c33
           have c33b1 : (((rd_T35 l0_1 x4_2).f5) != 7) = false := bne_eq_false_iff_eq.mpr c33
           clear c33
           have H' := Az H
           clear H
           have hcz34_0 : wr.cell? ⟨gb136, 0, none⟩ = some (.slice A0_0 l0_0.length c0_0) := (blk_cell BK136.out 0).trans rfl
           have hcz34_1 : wr.cell? ⟨gb136, 1, none⟩ = some (.slice A0_1 l0_1.length c0_1) := (blk_cell BK136.out 1).trans rfl
           have hcz34_2 : wr.cell? ⟨gb136, 2, none⟩ = some (.int .i64 a0_2) := (blk_cell BK136.out 2).trans rfl
           have hcz34_3 : wr.cell? ⟨gb136, 3, none⟩ = some (.int .i64 a0_3) := (blk_cell BK136.out 3).trans rfl
           have hcz34_4 : wr.cell? ⟨gb136, 4, none⟩ = some (.int .i64 a0_4) := (blk_cell BK136.out 4).trans rfl
           have hcz34_5 : wr.cell? ⟨gb136, 5, none⟩ = some (.int .u8 a0_5) := (blk_cell BK136.out 5).trans rfl
           have hcz34_6 : wr.cell? ⟨gb136, 6, none⟩ = some (.int .i64 a0_6) := (blk_cell BK136.out 6).trans rfl
           have hcz34_7 : wr.cell? ⟨gb136, 7, none⟩ = some (.slice A0_7 l0_7.length c0_7) := (blk_cell BK136.out 7).trans rfl
           have hcz34_8 : wr.cell? ⟨gb136, 8, none⟩ = some (.bool a0_8) := (blk_cell BK136.out 8).trans rfl
           have hcz34_9 : wr.cell? ⟨gb136, 9, none⟩ = some (.bool a0_9) := (blk_cell BK136.out 9).trans rfl
           have hfz34_0 := blk_frozen BK136.out 0
           have hfz34_1 := blk_frozen BK136.out 1
           have hfz34_2 := blk_frozen BK136.out 2
           have hfz34_3 := blk_frozen BK136.out 3
           have hfz34_4 := blk_frozen BK136.out 4
           have hfz34_5 := blk_frozen BK136.out 5
           have hfz34_6 := blk_frozen BK136.out 6
           have hfz34_7 := blk_frozen BK136.out 7
           have hfz34_8 := blk_frozen BK136.out 8
           have hfz34_9 := blk_frozen BK136.out 9
           go_wp2_with (first | ((with_reducible refine gate_callee (f := 67) rfl ?_); refine goesL_ (some 55) rfl rfl Try.func67 (by kernel_rfl) rfl #[.agg #[.slice A0_0 l0_0.length c0_0, .slice A0_1 l0_1.length c0_1, .int .i64 a0_2, .int .i64 a0_3, .int .i64 a0_4, .int .u8 a0_5, .int .i64 a0_6, .slice A0_7 l0_7.length c0_7, .bool a0_8, .bool a0_9], .int .i64 x4_2] rfl (by (try simp only [List.map_toArray, List.map_cons, List.map_nil]); first | done | rfl | (simp only [List.length_drop, List.length_take]; rfl)) ?_; (with_reducible refine (joustref06_one.calls k2 _ _ l0_0 _ _ l0_1 a0_2 a0_3 a0_4 a0_5 a0_6 _ _ l0_7 a0_8 a0_9 x4_2 true _ ?side1 ?side2 ?side3 ?side4 ?side5 ?side6 A19.out).mono ?_); (case side1 => repeat (first | exact (Kd.C_below HR0_0.out HB.out) | (with_reducible refine Kd.C_alloc ?_ _) | (with_reducible refine Kd.C_drewN ?_ _) | (with_reducible refine Kd.C_drew ?_))); (case side2 => exact HC0_0.out); (case side3 => repeat (first | exact (Kd.C_below HR0_1.out HB.out) | (with_reducible refine Kd.C_alloc ?_ _) | (with_reducible refine Kd.C_drewN ?_ _) | (with_reducible refine Kd.C_drew ?_))); (case side4 => exact HC0_1.out); (case side5 => repeat (first | exact (Kd.C_below HR0_7.out HB.out) | (with_reducible refine Kd.C_alloc ?_ _) | (with_reducible refine Kd.C_drewN ?_ _) | (with_reducible refine Kd.C_drew ?_))); (case side6 => exact HC0_7.out); rintro e w35 ⟨rfl, hb⟩; refine ⟨_, rfl, ?_⟩; have n0_ := Az (blk_below (g := gb136) (o := .cells #[.slice A0_0 l0_0.length c0_0, .slice A0_1 l0_1.length c0_1, .int .i64 a0_2, .int .i64 a0_3, .int .i64 a0_4, .int .u8 a0_5, .int .i64 a0_6, .slice A0_7 l0_7.length c0_7, .bool a0_8, .bool a0_9] 28 (0, 0)) of_lies hb); have n1_ := Az (below_step (low HB) hb); clear BK136; clear HB; have BK136 := n0_; have HB := n1_; clear n0_ n1_; (try clear hb); (try clear hb2); (try clear hk); (try clear hi); have hcz36_0 : w35.cell? ⟨gb136, 0, none⟩ = some (.slice A0_0 l0_0.length c0_0) := (blk_cell BK136.out 0).trans rfl; have hcz36_1 : w35.cell? ⟨gb136, 1, none⟩ = some (.slice A0_1 l0_1.length c0_1) := (blk_cell BK136.out 1).trans rfl; have hcz36_2 : w35.cell? ⟨gb136, 2, none⟩ = some (.int .i64 a0_2) := (blk_cell BK136.out 2).trans rfl; have hcz36_3 : w35.cell? ⟨gb136, 3, none⟩ = some (.int .i64 a0_3) := (blk_cell BK136.out 3).trans rfl; have hcz36_4 : w35.cell? ⟨gb136, 4, none⟩ = some (.int .i64 a0_4) := (blk_cell BK136.out 4).trans rfl; have hcz36_5 : w35.cell? ⟨gb136, 5, none⟩ = some (.int .u8 a0_5) := (blk_cell BK136.out 5).trans rfl; have hcz36_6 : w35.cell? ⟨gb136, 6, none⟩ = some (.int .i64 a0_6) := (blk_cell BK136.out 6).trans rfl; have hcz36_7 : w35.cell? ⟨gb136, 7, none⟩ = some (.slice A0_7 l0_7.length c0_7) := (blk_cell BK136.out 7).trans rfl; have hcz36_8 : w35.cell? ⟨gb136, 8, none⟩ = some (.bool a0_8) := (blk_cell BK136.out 8).trans rfl; have hcz36_9 : w35.cell? ⟨gb136, 9, none⟩ = some (.bool a0_9) := (blk_cell BK136.out 9).trans rfl; have hfz36_0 := blk_frozen BK136.out 0; have hfz36_1 := blk_frozen BK136.out 1; have hfz36_2 := blk_frozen BK136.out 2; have hfz36_3 := blk_frozen BK136.out 3; have hfz36_4 := blk_frozen BK136.out 4; have hfz36_5 := blk_frozen BK136.out 5; have hfz36_6 := blk_frozen BK136.out 6; have hfz36_7 := blk_frozen BK136.out 7; have hfz36_8 := blk_frozen BK136.out 8; have hfz36_9 := blk_frozen BK136.out 9; have p138 : 0 ≤ (x4_2 : Int) := of_decide_eq_true (by first | (with_reducible assumption) | assumption); have q138 : x4_2 < (l0_1.length : Int) := of_decide_eq_true (by first | (with_reducible assumption) | assumption); obtain ⟨ad138, e138, hx138_0, hx138_1, hx138_2, hx138_3, hx138_4, hx138_5, hx138_6, hx138_7, hx138_8, hx138_9, hx138_10, hx138_11, hx138_12, hx138_13⟩ := at_T35 HR0_1.out x4_2 p138 q138; cases e138; replace hx138_0 := (HB.out.cell (World.block_lt_of_cell? w _ hx138_0)).trans hx138_0; replace hx138_1 := (HB.out.cell (World.block_lt_of_cell? w _ hx138_1)).trans hx138_1; replace hx138_2 := (HB.out.cell (World.block_lt_of_cell? w _ hx138_2)).trans hx138_2; replace hx138_3 := (HB.out.cell (World.block_lt_of_cell? w _ hx138_3)).trans hx138_3; replace hx138_4 := (HB.out.cell (World.block_lt_of_cell? w _ hx138_4)).trans hx138_4; replace hx138_5 := (HB.out.cell (World.block_lt_of_cell? w _ hx138_5)).trans hx138_5; replace hx138_6 := (HB.out.cell (World.block_lt_of_cell? w _ hx138_6)).trans hx138_6; replace hx138_7 := (HB.out.cell (World.block_lt_of_cell? w _ hx138_7)).trans hx138_7; replace hx138_8 := (HB.out.cell (World.block_lt_of_cell? w _ hx138_8)).trans hx138_8; replace hx138_9 := (HB.out.cell (World.block_lt_of_cell? w _ hx138_9)).trans hx138_9; replace hx138_10 := (HB.out.cell (World.block_lt_of_cell? w _ hx138_10)).trans hx138_10; replace hx138_11 := (HB.out.cell (World.block_lt_of_cell? w _ hx138_11)).trans hx138_11; replace hx138_12 := (HB.out.cell (World.block_lt_of_cell? w _ hx138_12)).trans hx138_12; replace hx138_13 := (HB.out.cell (World.block_lt_of_cell? w _ hx138_13)).trans hx138_13; replace p138 := eq_true p138; replace q138 := eq_true q138) | ((with_reducible refine gate_dst (N := 5) rfl ?_); (try (refine gate_guard (by rfl) ?_; dsimp only)); refine box_event ?hg (N := 5) ?hd (cs := #[.int .i64 0, .int .i64 0, .int .i64 0, .int .u8 0, .int .u8 0, .int .u8 0, .int .i64 0, .bool false, .bool false, .int .i64 0, .int .u8 0, .bool false, .bool false, .int .i64 0]) (t := 35) ?hr ?_; (case hd => rfl); (case hg => rfl); (case hr => first | (go_simp; done) | (go_simp; rfl)); intro gb139 hg w37 hbox hb; have n0_ := Az (blk_below (g := gb136) (o := .cells #[.slice A0_0 l0_0.length c0_0, .slice (some ad138) l0_1.length c0_1, .int .i64 a0_2, .int .i64 a0_3, .int .i64 a0_4, .int .u8 a0_5, .int .i64 a0_6, .slice A0_7 l0_7.length c0_7, .bool a0_8, .bool a0_9] 28 (0, 0)) of_lies hb); have n1_ := Az (below_step (low HB) hb); have n2_ := Az (hbox); have n3_ := Az ((by rw [hg]; exact (below_size (low HB)) : w.heap.size ≤ gb139)); have n4_ := Az ((by rw [hg]; exact (below_size (low HB)) : w.heap.size ≤ gb139)); have n5_ := Az ((by rw [hg]; exact Nat.ne_of_lt (blk_lt (g := gb136) (o := .cells #[.slice A0_0 l0_0.length c0_0, .slice (some ad138) l0_1.length c0_1, .int .i64 a0_2, .int .i64 a0_3, .int .i64 a0_4, .int .u8 a0_5, .int .i64 a0_6, .slice A0_7 l0_7.length c0_7, .bool a0_8, .bool a0_9] 28 (0, 0)) of_lies) : gb136 ≠ gb139)); have n6_ := Az ((by rw [hg]; exact Nat.ne_of_gt (blk_lt (g := gb136) (o := .cells #[.slice A0_0 l0_0.length c0_0, .slice (some ad138) l0_1.length c0_1, .int .i64 a0_2, .int .i64 a0_3, .int .i64 a0_4, .int .u8 a0_5, .int .i64 a0_6, .slice A0_7 l0_7.length c0_7, .bool a0_8, .bool a0_9] 28 (0, 0)) of_lies) : gb139 ≠ gb136)); clear BK136; clear HB; have BK136 := n0_; have HB := n1_; have BK139 := n2_; have GW139 := n3_; have GE139 := n4_; have NB136_139 := n5_; have NB139_136 := n6_; clear n0_ n1_ n2_ n3_ n4_ n5_ n6_; clear hb hbox hg; have hnb38 := NB139_136.out; have hnc38 := NB136_139.out; have hcz39_0 : w37.cell? ⟨gb139, 0, none⟩ = some (.int .i64 0) := (blk_cell BK139.out 0).trans rfl; have hcz39_1 : w37.cell? ⟨gb139, 1, none⟩ = some (.int .i64 0) := (blk_cell BK139.out 1).trans rfl; have hcz39_2 : w37.cell? ⟨gb139, 2, none⟩ = some (.int .i64 0) := (blk_cell BK139.out 2).trans rfl; have hcz39_3 : w37.cell? ⟨gb139, 3, none⟩ = some (.int .u8 0) := (blk_cell BK139.out 3).trans rfl; have hcz39_4 : w37.cell? ⟨gb139, 4, none⟩ = some (.int .u8 0) := (blk_cell BK139.out 4).trans rfl; have hcz39_5 : w37.cell? ⟨gb139, 5, none⟩ = some (.int .u8 0) := (blk_cell BK139.out 5).trans rfl; have hcz39_6 : w37.cell? ⟨gb139, 6, none⟩ = some (.int .i64 0) := (blk_cell BK139.out 6).trans rfl; have hcz39_7 : w37.cell? ⟨gb139, 7, none⟩ = some (.bool false) := (blk_cell BK139.out 7).trans rfl; have hcz39_8 : w37.cell? ⟨gb139, 8, none⟩ = some (.bool false) := (blk_cell BK139.out 8).trans rfl; have hcz39_9 : w37.cell? ⟨gb139, 9, none⟩ = some (.int .i64 0) := (blk_cell BK139.out 9).trans rfl; have hcz39_10 : w37.cell? ⟨gb139, 10, none⟩ = some (.int .u8 0) := (blk_cell BK139.out 10).trans rfl; have hcz39_11 : w37.cell? ⟨gb139, 11, none⟩ = some (.bool false) := (blk_cell BK139.out 11).trans rfl; have hcz39_12 : w37.cell? ⟨gb139, 12, none⟩ = some (.bool false) := (blk_cell BK139.out 12).trans rfl; have hcz39_13 : w37.cell? ⟨gb139, 13, none⟩ = some (.int .i64 0) := (blk_cell BK139.out 13).trans rfl; have hfz39_0 := blk_frozen BK139.out 0; have hfz39_1 := blk_frozen BK139.out 1; have hfz39_2 := blk_frozen BK139.out 2; have hfz39_3 := blk_frozen BK139.out 3; have hfz39_4 := blk_frozen BK139.out 4; have hfz39_5 := blk_frozen BK139.out 5; have hfz39_6 := blk_frozen BK139.out 6; have hfz39_7 := blk_frozen BK139.out 7; have hfz39_8 := blk_frozen BK139.out 8; have hfz39_9 := blk_frozen BK139.out 9; have hfz39_10 := blk_frozen BK139.out 10; have hfz39_11 := blk_frozen BK139.out 11; have hfz39_12 := blk_frozen BK139.out 12; have hfz39_13 := blk_frozen BK139.out 13; have hcz40_0 : w37.cell? ⟨gb136, 0, none⟩ = some (.slice A0_0 l0_0.length c0_0) := (blk_cell BK136.out 0).trans rfl; have hcz40_1 : w37.cell? ⟨gb136, 1, none⟩ = some (.slice (some ad138) l0_1.length c0_1) := (blk_cell BK136.out 1).trans rfl; have hcz40_2 : w37.cell? ⟨gb136, 2, none⟩ = some (.int .i64 a0_2) := (blk_cell BK136.out 2).trans rfl; have hcz40_3 : w37.cell? ⟨gb136, 3, none⟩ = some (.int .i64 a0_3) := (blk_cell BK136.out 3).trans rfl; have hcz40_4 : w37.cell? ⟨gb136, 4, none⟩ = some (.int .i64 a0_4) := (blk_cell BK136.out 4).trans rfl; have hcz40_5 : w37.cell? ⟨gb136, 5, none⟩ = some (.int .u8 a0_5) := (blk_cell BK136.out 5).trans rfl; have hcz40_6 : w37.cell? ⟨gb136, 6, none⟩ = some (.int .i64 a0_6) := (blk_cell BK136.out 6).trans rfl; have hcz40_7 : w37.cell? ⟨gb136, 7, none⟩ = some (.slice A0_7 l0_7.length c0_7) := (blk_cell BK136.out 7).trans rfl; have hcz40_8 : w37.cell? ⟨gb136, 8, none⟩ = some (.bool a0_8) := (blk_cell BK136.out 8).trans rfl; have hcz40_9 : w37.cell? ⟨gb136, 9, none⟩ = some (.bool a0_9) := (blk_cell BK136.out 9).trans rfl; have hfz40_0 := blk_frozen BK136.out 0; have hfz40_1 := blk_frozen BK136.out 1; have hfz40_2 := blk_frozen BK136.out 2; have hfz40_3 := blk_frozen BK136.out 3; have hfz40_4 := blk_frozen BK136.out 4; have hfz40_5 := blk_frozen BK136.out 5; have hfz40_6 := blk_frozen BK136.out 6; have hfz40_7 := blk_frozen BK136.out 7; have hfz40_8 := blk_frozen BK136.out 8; have hfz40_9 := blk_frozen BK136.out 9) | ((with_reducible refine gate_callee (f := 68) rfl ?_); refine goesL_ (some 70) rfl rfl Try.func68 (by kernel_rfl) rfl #[.agg #[.slice A0_0 l0_0.length c0_0, .slice (some ad138) l0_1.length c0_1, .int .i64 a0_2, .int .i64 a0_3, .int .i64 a0_4, .int .u8 a0_5, .int .i64 a0_6, .slice A0_7 l0_7.length c0_7, .bool a0_8, .bool a0_9], .int .u8 ((rd_T35 l0_1 x4_2).f4), .int .u8 ((rd_T35 l0_1 x4_2).f5), .int .i64 ((rd_T35 l0_1 x4_2).f6)] rfl (by (try simp only [List.map_toArray, List.map_cons, List.map_nil]); first | done | rfl | (simp only [List.length_drop, List.length_take]; rfl)) ?_; (with_reducible refine (Pmga.joustref06_many.calls k2 _ _ l0_0 _ _ l0_1 a0_2 a0_3 a0_4 a0_5 a0_6 _ _ l0_7 a0_8 a0_9 ((rd_T35 l0_1 x4_2).f4) ((rd_T35 l0_1 x4_2).f5) ((rd_T35 l0_1 x4_2).f6) t140 t141 _ ?side1 ?side2 ?side3 ?side4 ?side5 ?side6 A22.out).mono ?_); (case side1 => exact Kd.C_below HR0_0.out (low HB)); (case side2 => exact HC0_0.out); (case side3 => exact Kd.C_below HR0_1.out (low HB)); (case side4 => exact HC0_1.out); (case side5 => exact Kd.C_below HR0_7.out (low HB)); (case side6 => exact HC0_7.out); rintro e w41 ⟨rfl, hb⟩; refine ⟨_, rfl, ?_⟩; have n0_ := Az (blk_below (g := gb136) (o := .cells #[.slice A0_0 l0_0.length c0_0, .slice (some ad138) l0_1.length c0_1, .int .i64 a0_2, .int .i64 a0_3, .int .i64 a0_4, .int .u8 a0_5, .int .i64 a0_6, .slice A0_7 l0_7.length c0_7, .bool a0_8, .bool a0_9] 28 (0, 0)) of_lies hb); have n1_ := Az (blk_below (g := gb139) (o := .cells #[.int .i64 ((rd_T35 l0_1 x4_2).f0), .int .i64 ((rd_T35 l0_1 x4_2).f1), .int .i64 ((rd_T35 l0_1 x4_2).f2), .int .u8 ((rd_T35 l0_1 x4_2).f3), .int .u8 ((rd_T35 l0_1 x4_2).f4), .int .u8 ((rd_T35 l0_1 x4_2).f5), .int .i64 ((rd_T35 l0_1 x4_2).f6), .bool ((rd_T35 l0_1 x4_2).f7), .bool ((rd_T35 l0_1 x4_2).f8), .int .i64 ((rd_T35 l0_1 x4_2).f9), .int .u8 ((rd_T35 l0_1 x4_2).f10), .bool ((rd_T35 l0_1 x4_2).f11), .bool ((rd_T35 l0_1 x4_2).f12), .int .i64 ((rd_T35 l0_1 x4_2).f13)] 35 (0, 0)) of_lies hb); have n2_ := Az (below_step (low HB) hb); clear BK136; clear BK139; clear HB; have BK136 := n0_; have BK139 := n1_; have HB := n2_; clear n0_ n1_ n2_; (try clear hb); (try clear hb2); (try clear hk); (try clear hi); have hcz42_0 : w41.cell? ⟨gb139, 0, none⟩ = some (.int .i64 ((rd_T35 l0_1 x4_2).f0)) := (blk_cell BK139.out 0).trans rfl; have hcz42_1 : w41.cell? ⟨gb139, 1, none⟩ = some (.int .i64 ((rd_T35 l0_1 x4_2).f1)) := (blk_cell BK139.out 1).trans rfl; have hcz42_2 : w41.cell? ⟨gb139, 2, none⟩ = some (.int .i64 ((rd_T35 l0_1 x4_2).f2)) := (blk_cell BK139.out 2).trans rfl; have hcz42_3 : w41.cell? ⟨gb139, 3, none⟩ = some (.int .u8 ((rd_T35 l0_1 x4_2).f3)) := (blk_cell BK139.out 3).trans rfl; have hcz42_4 : w41.cell? ⟨gb139, 4, none⟩ = some (.int .u8 ((rd_T35 l0_1 x4_2).f4)) := (blk_cell BK139.out 4).trans rfl; have hcz42_5 : w41.cell? ⟨gb139, 5, none⟩ = some (.int .u8 ((rd_T35 l0_1 x4_2).f5)) := (blk_cell BK139.out 5).trans rfl; have hcz42_6 : w41.cell? ⟨gb139, 6, none⟩ = some (.int .i64 ((rd_T35 l0_1 x4_2).f6)) := (blk_cell BK139.out 6).trans rfl; have hcz42_7 : w41.cell? ⟨gb139, 7, none⟩ = some (.bool ((rd_T35 l0_1 x4_2).f7)) := (blk_cell BK139.out 7).trans rfl; have hcz42_8 : w41.cell? ⟨gb139, 8, none⟩ = some (.bool ((rd_T35 l0_1 x4_2).f8)) := (blk_cell BK139.out 8).trans rfl; have hcz42_9 : w41.cell? ⟨gb139, 9, none⟩ = some (.int .i64 ((rd_T35 l0_1 x4_2).f9)) := (blk_cell BK139.out 9).trans rfl; have hcz42_10 : w41.cell? ⟨gb139, 10, none⟩ = some (.int .u8 ((rd_T35 l0_1 x4_2).f10)) := (blk_cell BK139.out 10).trans rfl; have hcz42_11 : w41.cell? ⟨gb139, 11, none⟩ = some (.bool ((rd_T35 l0_1 x4_2).f11)) := (blk_cell BK139.out 11).trans rfl; have hcz42_12 : w41.cell? ⟨gb139, 12, none⟩ = some (.bool ((rd_T35 l0_1 x4_2).f12)) := (blk_cell BK139.out 12).trans rfl; have hcz42_13 : w41.cell? ⟨gb139, 13, none⟩ = some (.int .i64 ((rd_T35 l0_1 x4_2).f13)) := (blk_cell BK139.out 13).trans rfl; have hfz42_0 := blk_frozen BK139.out 0; have hfz42_1 := blk_frozen BK139.out 1; have hfz42_2 := blk_frozen BK139.out 2; have hfz42_3 := blk_frozen BK139.out 3; have hfz42_4 := blk_frozen BK139.out 4; have hfz42_5 := blk_frozen BK139.out 5; have hfz42_6 := blk_frozen BK139.out 6; have hfz42_7 := blk_frozen BK139.out 7; have hfz42_8 := blk_frozen BK139.out 8; have hfz42_9 := blk_frozen BK139.out 9; have hfz42_10 := blk_frozen BK139.out 10; have hfz42_11 := blk_frozen BK139.out 11; have hfz42_12 := blk_frozen BK139.out 12; have hfz42_13 := blk_frozen BK139.out 13))
           go_roundg k2
           case measure => have := HJ1.out; have := HK2.out; omega
           case rel => exact ⟨(x3_2), (wrap64 (x4_2 + 1)), (by first | rfl | (simp; done) | (simp [*]; done)), (by first | rfl | (simp; done) | (simp [*]; done)), H', ⟨by have := HJ1.out; have := HK2.out; omega⟩, ⟨of_lies⟩, ⟨low HB⟩⟩
          ·
           rw [if_neg c33] at H
           have c33b0 : (((rd_T35 l0_1 x4_2).f5) == 7) = false := beq_eq_false_iff_ne.mpr c33
           have c33b1 : (((rd_T35 l0_1 x4_2).f5) != 7) = true := bne_iff_ne.mpr c33
           by_cases c43 : t141 = 1
           ·
            rw [if_pos c43] at H
            have c43b0 : (t141 == 1) = true := beq_iff_eq.mpr c43
            have c43b1 : (t141 != 1) = false := bne_eq_false_iff_eq.mpr c43
            clear c43
            replace H := Option.bind_eq_some_iff.mp H
            obtain ⟨t142, A440, H⟩ := H
            replace H : (if t142 = true then (joustref06_May.l0 k2 x3_2 (wrap64 (x4_2 + 1)) l0_0 l0_1 a0_2 a0_3 a0_4 a0_5 a0_6 l0_7 a0_8 a0_9) else (if ((rd_T35 l0_1 x4_2).f6) < 0 then (some false) else (if ((rd_T35 l0_1 x4_2).f6) ≥ t140 then (some false) else (joustref06_May.l0 k2 x3_2 (wrap64 (x4_2 + 1)) l0_0 l0_1 a0_2 a0_3 a0_4 a0_5 a0_6 l0_7 a0_8 a0_9)))) = some r := H
            have A44 := Az A440
            clear A440
            by_cases c45 : t142 = true
            ·
             subst c45
             have H1 : (joustref06_May.l0 k2 x3_2 (wrap64 (x4_2 + 1)) l0_0 l0_1 a0_2 a0_3 a0_4 a0_5 a0_6 l0_7 a0_8 a0_9) = some r := by rw [if_pos rfl] at H; exact H
             clear H
             have H := H1
             clear H1
             have H' := Az H
             clear H
             have hcz46_0 : wr.cell? ⟨gb136, 0, none⟩ = some (.slice A0_0 l0_0.length c0_0) := (blk_cell BK136.out 0).trans rfl
             have hcz46_1 : wr.cell? ⟨gb136, 1, none⟩ = some (.slice A0_1 l0_1.length c0_1) := (blk_cell BK136.out 1).trans rfl
             have hcz46_2 : wr.cell? ⟨gb136, 2, none⟩ = some (.int .i64 a0_2) := (blk_cell BK136.out 2).trans rfl
             have hcz46_3 : wr.cell? ⟨gb136, 3, none⟩ = some (.int .i64 a0_3) := (blk_cell BK136.out 3).trans rfl
             have hcz46_4 : wr.cell? ⟨gb136, 4, none⟩ = some (.int .i64 a0_4) := (blk_cell BK136.out 4).trans rfl
             have hcz46_5 : wr.cell? ⟨gb136, 5, none⟩ = some (.int .u8 a0_5) := (blk_cell BK136.out 5).trans rfl
             have hcz46_6 : wr.cell? ⟨gb136, 6, none⟩ = some (.int .i64 a0_6) := (blk_cell BK136.out 6).trans rfl
             have hcz46_7 : wr.cell? ⟨gb136, 7, none⟩ = some (.slice A0_7 l0_7.length c0_7) := (blk_cell BK136.out 7).trans rfl
             have hcz46_8 : wr.cell? ⟨gb136, 8, none⟩ = some (.bool a0_8) := (blk_cell BK136.out 8).trans rfl
             have hcz46_9 : wr.cell? ⟨gb136, 9, none⟩ = some (.bool a0_9) := (blk_cell BK136.out 9).trans rfl
             have hfz46_0 := blk_frozen BK136.out 0
             have hfz46_1 := blk_frozen BK136.out 1
             have hfz46_2 := blk_frozen BK136.out 2
             have hfz46_3 := blk_frozen BK136.out 3
             have hfz46_4 := blk_frozen BK136.out 4
             have hfz46_5 := blk_frozen BK136.out 5
             have hfz46_6 := blk_frozen BK136.out 6
             have hfz46_7 := blk_frozen BK136.out 7
             have hfz46_8 := blk_frozen BK136.out 8
             have hfz46_9 := blk_frozen BK136.out 9
             go_wp2_with (first | ((with_reducible refine gate_callee (f := 67) rfl ?_); refine goesL_ (some 55) rfl rfl Try.func67 (by kernel_rfl) rfl #[.agg #[.slice A0_0 l0_0.length c0_0, .slice A0_1 l0_1.length c0_1, .int .i64 a0_2, .int .i64 a0_3, .int .i64 a0_4, .int .u8 a0_5, .int .i64 a0_6, .slice A0_7 l0_7.length c0_7, .bool a0_8, .bool a0_9], .int .i64 x4_2] rfl (by (try simp only [List.map_toArray, List.map_cons, List.map_nil]); first | done | rfl | (simp only [List.length_drop, List.length_take]; rfl)) ?_; (with_reducible refine (joustref06_one.calls k2 _ _ l0_0 _ _ l0_1 a0_2 a0_3 a0_4 a0_5 a0_6 _ _ l0_7 a0_8 a0_9 x4_2 true _ ?side1 ?side2 ?side3 ?side4 ?side5 ?side6 A19.out).mono ?_); (case side1 => repeat (first | exact (Kd.C_below HR0_0.out HB.out) | (with_reducible refine Kd.C_alloc ?_ _) | (with_reducible refine Kd.C_drewN ?_ _) | (with_reducible refine Kd.C_drew ?_))); (case side2 => exact HC0_0.out); (case side3 => repeat (first | exact (Kd.C_below HR0_1.out HB.out) | (with_reducible refine Kd.C_alloc ?_ _) | (with_reducible refine Kd.C_drewN ?_ _) | (with_reducible refine Kd.C_drew ?_))); (case side4 => exact HC0_1.out); (case side5 => repeat (first | exact (Kd.C_below HR0_7.out HB.out) | (with_reducible refine Kd.C_alloc ?_ _) | (with_reducible refine Kd.C_drewN ?_ _) | (with_reducible refine Kd.C_drew ?_))); (case side6 => exact HC0_7.out); rintro e w47 ⟨rfl, hb⟩; refine ⟨_, rfl, ?_⟩; have n0_ := Az (blk_below (g := gb136) (o := .cells #[.slice A0_0 l0_0.length c0_0, .slice A0_1 l0_1.length c0_1, .int .i64 a0_2, .int .i64 a0_3, .int .i64 a0_4, .int .u8 a0_5, .int .i64 a0_6, .slice A0_7 l0_7.length c0_7, .bool a0_8, .bool a0_9] 28 (0, 0)) of_lies hb); have n1_ := Az (below_step (low HB) hb); clear BK136; clear HB; have BK136 := n0_; have HB := n1_; clear n0_ n1_; (try clear hb); (try clear hb2); (try clear hk); (try clear hi); have hcz48_0 : w47.cell? ⟨gb136, 0, none⟩ = some (.slice A0_0 l0_0.length c0_0) := (blk_cell BK136.out 0).trans rfl; have hcz48_1 : w47.cell? ⟨gb136, 1, none⟩ = some (.slice A0_1 l0_1.length c0_1) := (blk_cell BK136.out 1).trans rfl; have hcz48_2 : w47.cell? ⟨gb136, 2, none⟩ = some (.int .i64 a0_2) := (blk_cell BK136.out 2).trans rfl; have hcz48_3 : w47.cell? ⟨gb136, 3, none⟩ = some (.int .i64 a0_3) := (blk_cell BK136.out 3).trans rfl; have hcz48_4 : w47.cell? ⟨gb136, 4, none⟩ = some (.int .i64 a0_4) := (blk_cell BK136.out 4).trans rfl; have hcz48_5 : w47.cell? ⟨gb136, 5, none⟩ = some (.int .u8 a0_5) := (blk_cell BK136.out 5).trans rfl; have hcz48_6 : w47.cell? ⟨gb136, 6, none⟩ = some (.int .i64 a0_6) := (blk_cell BK136.out 6).trans rfl; have hcz48_7 : w47.cell? ⟨gb136, 7, none⟩ = some (.slice A0_7 l0_7.length c0_7) := (blk_cell BK136.out 7).trans rfl; have hcz48_8 : w47.cell? ⟨gb136, 8, none⟩ = some (.bool a0_8) := (blk_cell BK136.out 8).trans rfl; have hcz48_9 : w47.cell? ⟨gb136, 9, none⟩ = some (.bool a0_9) := (blk_cell BK136.out 9).trans rfl; have hfz48_0 := blk_frozen BK136.out 0; have hfz48_1 := blk_frozen BK136.out 1; have hfz48_2 := blk_frozen BK136.out 2; have hfz48_3 := blk_frozen BK136.out 3; have hfz48_4 := blk_frozen BK136.out 4; have hfz48_5 := blk_frozen BK136.out 5; have hfz48_6 := blk_frozen BK136.out 6; have hfz48_7 := blk_frozen BK136.out 7; have hfz48_8 := blk_frozen BK136.out 8; have hfz48_9 := blk_frozen BK136.out 9; have p138 : 0 ≤ (x4_2 : Int) := of_decide_eq_true (by first | (with_reducible assumption) | assumption); have q138 : x4_2 < (l0_1.length : Int) := of_decide_eq_true (by first | (with_reducible assumption) | assumption); obtain ⟨ad138, e138, hx138_0, hx138_1, hx138_2, hx138_3, hx138_4, hx138_5, hx138_6, hx138_7, hx138_8, hx138_9, hx138_10, hx138_11, hx138_12, hx138_13⟩ := at_T35 HR0_1.out x4_2 p138 q138; cases e138; replace hx138_0 := (HB.out.cell (World.block_lt_of_cell? w _ hx138_0)).trans hx138_0; replace hx138_1 := (HB.out.cell (World.block_lt_of_cell? w _ hx138_1)).trans hx138_1; replace hx138_2 := (HB.out.cell (World.block_lt_of_cell? w _ hx138_2)).trans hx138_2; replace hx138_3 := (HB.out.cell (World.block_lt_of_cell? w _ hx138_3)).trans hx138_3; replace hx138_4 := (HB.out.cell (World.block_lt_of_cell? w _ hx138_4)).trans hx138_4; replace hx138_5 := (HB.out.cell (World.block_lt_of_cell? w _ hx138_5)).trans hx138_5; replace hx138_6 := (HB.out.cell (World.block_lt_of_cell? w _ hx138_6)).trans hx138_6; replace hx138_7 := (HB.out.cell (World.block_lt_of_cell? w _ hx138_7)).trans hx138_7; replace hx138_8 := (HB.out.cell (World.block_lt_of_cell? w _ hx138_8)).trans hx138_8; replace hx138_9 := (HB.out.cell (World.block_lt_of_cell? w _ hx138_9)).trans hx138_9; replace hx138_10 := (HB.out.cell (World.block_lt_of_cell? w _ hx138_10)).trans hx138_10; replace hx138_11 := (HB.out.cell (World.block_lt_of_cell? w _ hx138_11)).trans hx138_11; replace hx138_12 := (HB.out.cell (World.block_lt_of_cell? w _ hx138_12)).trans hx138_12; replace hx138_13 := (HB.out.cell (World.block_lt_of_cell? w _ hx138_13)).trans hx138_13; replace p138 := eq_true p138; replace q138 := eq_true q138) | ((with_reducible refine gate_dst (N := 5) rfl ?_); (try (refine gate_guard (by rfl) ?_; dsimp only)); refine box_event ?hg (N := 5) ?hd (cs := #[.int .i64 0, .int .i64 0, .int .i64 0, .int .u8 0, .int .u8 0, .int .u8 0, .int .i64 0, .bool false, .bool false, .int .i64 0, .int .u8 0, .bool false, .bool false, .int .i64 0]) (t := 35) ?hr ?_; (case hd => rfl); (case hg => rfl); (case hr => first | (go_simp; done) | (go_simp; rfl)); intro gb139 hg w49 hbox hb; have n0_ := Az (blk_below (g := gb136) (o := .cells #[.slice A0_0 l0_0.length c0_0, .slice (some ad138) l0_1.length c0_1, .int .i64 a0_2, .int .i64 a0_3, .int .i64 a0_4, .int .u8 a0_5, .int .i64 a0_6, .slice A0_7 l0_7.length c0_7, .bool a0_8, .bool a0_9] 28 (0, 0)) of_lies hb); have n1_ := Az (below_step (low HB) hb); have n2_ := Az (hbox); have n3_ := Az ((by rw [hg]; exact (below_size (low HB)) : w.heap.size ≤ gb139)); have n4_ := Az ((by rw [hg]; exact (below_size (low HB)) : w.heap.size ≤ gb139)); have n5_ := Az ((by rw [hg]; exact Nat.ne_of_lt (blk_lt (g := gb136) (o := .cells #[.slice A0_0 l0_0.length c0_0, .slice (some ad138) l0_1.length c0_1, .int .i64 a0_2, .int .i64 a0_3, .int .i64 a0_4, .int .u8 a0_5, .int .i64 a0_6, .slice A0_7 l0_7.length c0_7, .bool a0_8, .bool a0_9] 28 (0, 0)) of_lies) : gb136 ≠ gb139)); have n6_ := Az ((by rw [hg]; exact Nat.ne_of_gt (blk_lt (g := gb136) (o := .cells #[.slice A0_0 l0_0.length c0_0, .slice (some ad138) l0_1.length c0_1, .int .i64 a0_2, .int .i64 a0_3, .int .i64 a0_4, .int .u8 a0_5, .int .i64 a0_6, .slice A0_7 l0_7.length c0_7, .bool a0_8, .bool a0_9] 28 (0, 0)) of_lies) : gb139 ≠ gb136)); clear BK136; clear HB; have BK136 := n0_; have HB := n1_; have BK139 := n2_; have GW139 := n3_; have GE139 := n4_; have NB136_139 := n5_; have NB139_136 := n6_; clear n0_ n1_ n2_ n3_ n4_ n5_ n6_; clear hb hbox hg; have hnb50 := NB139_136.out; have hnc50 := NB136_139.out; have hcz51_0 : w49.cell? ⟨gb139, 0, none⟩ = some (.int .i64 0) := (blk_cell BK139.out 0).trans rfl; have hcz51_1 : w49.cell? ⟨gb139, 1, none⟩ = some (.int .i64 0) := (blk_cell BK139.out 1).trans rfl; have hcz51_2 : w49.cell? ⟨gb139, 2, none⟩ = some (.int .i64 0) := (blk_cell BK139.out 2).trans rfl; have hcz51_3 : w49.cell? ⟨gb139, 3, none⟩ = some (.int .u8 0) := (blk_cell BK139.out 3).trans rfl; have hcz51_4 : w49.cell? ⟨gb139, 4, none⟩ = some (.int .u8 0) := (blk_cell BK139.out 4).trans rfl; have hcz51_5 : w49.cell? ⟨gb139, 5, none⟩ = some (.int .u8 0) := (blk_cell BK139.out 5).trans rfl; have hcz51_6 : w49.cell? ⟨gb139, 6, none⟩ = some (.int .i64 0) := (blk_cell BK139.out 6).trans rfl; have hcz51_7 : w49.cell? ⟨gb139, 7, none⟩ = some (.bool false) := (blk_cell BK139.out 7).trans rfl; have hcz51_8 : w49.cell? ⟨gb139, 8, none⟩ = some (.bool false) := (blk_cell BK139.out 8).trans rfl; have hcz51_9 : w49.cell? ⟨gb139, 9, none⟩ = some (.int .i64 0) := (blk_cell BK139.out 9).trans rfl; have hcz51_10 : w49.cell? ⟨gb139, 10, none⟩ = some (.int .u8 0) := (blk_cell BK139.out 10).trans rfl; have hcz51_11 : w49.cell? ⟨gb139, 11, none⟩ = some (.bool false) := (blk_cell BK139.out 11).trans rfl; have hcz51_12 : w49.cell? ⟨gb139, 12, none⟩ = some (.bool false) := (blk_cell BK139.out 12).trans rfl; have hcz51_13 : w49.cell? ⟨gb139, 13, none⟩ = some (.int .i64 0) := (blk_cell BK139.out 13).trans rfl; have hfz51_0 := blk_frozen BK139.out 0; have hfz51_1 := blk_frozen BK139.out 1; have hfz51_2 := blk_frozen BK139.out 2; have hfz51_3 := blk_frozen BK139.out 3; have hfz51_4 := blk_frozen BK139.out 4; have hfz51_5 := blk_frozen BK139.out 5; have hfz51_6 := blk_frozen BK139.out 6; have hfz51_7 := blk_frozen BK139.out 7; have hfz51_8 := blk_frozen BK139.out 8; have hfz51_9 := blk_frozen BK139.out 9; have hfz51_10 := blk_frozen BK139.out 10; have hfz51_11 := blk_frozen BK139.out 11; have hfz51_12 := blk_frozen BK139.out 12; have hfz51_13 := blk_frozen BK139.out 13; have hcz52_0 : w49.cell? ⟨gb136, 0, none⟩ = some (.slice A0_0 l0_0.length c0_0) := (blk_cell BK136.out 0).trans rfl; have hcz52_1 : w49.cell? ⟨gb136, 1, none⟩ = some (.slice (some ad138) l0_1.length c0_1) := (blk_cell BK136.out 1).trans rfl; have hcz52_2 : w49.cell? ⟨gb136, 2, none⟩ = some (.int .i64 a0_2) := (blk_cell BK136.out 2).trans rfl; have hcz52_3 : w49.cell? ⟨gb136, 3, none⟩ = some (.int .i64 a0_3) := (blk_cell BK136.out 3).trans rfl; have hcz52_4 : w49.cell? ⟨gb136, 4, none⟩ = some (.int .i64 a0_4) := (blk_cell BK136.out 4).trans rfl; have hcz52_5 : w49.cell? ⟨gb136, 5, none⟩ = some (.int .u8 a0_5) := (blk_cell BK136.out 5).trans rfl; have hcz52_6 : w49.cell? ⟨gb136, 6, none⟩ = some (.int .i64 a0_6) := (blk_cell BK136.out 6).trans rfl; have hcz52_7 : w49.cell? ⟨gb136, 7, none⟩ = some (.slice A0_7 l0_7.length c0_7) := (blk_cell BK136.out 7).trans rfl; have hcz52_8 : w49.cell? ⟨gb136, 8, none⟩ = some (.bool a0_8) := (blk_cell BK136.out 8).trans rfl; have hcz52_9 : w49.cell? ⟨gb136, 9, none⟩ = some (.bool a0_9) := (blk_cell BK136.out 9).trans rfl; have hfz52_0 := blk_frozen BK136.out 0; have hfz52_1 := blk_frozen BK136.out 1; have hfz52_2 := blk_frozen BK136.out 2; have hfz52_3 := blk_frozen BK136.out 3; have hfz52_4 := blk_frozen BK136.out 4; have hfz52_5 := blk_frozen BK136.out 5; have hfz52_6 := blk_frozen BK136.out 6; have hfz52_7 := blk_frozen BK136.out 7; have hfz52_8 := blk_frozen BK136.out 8; have hfz52_9 := blk_frozen BK136.out 9) | ((with_reducible refine gate_callee (f := 68) rfl ?_); refine goesL_ (some 70) rfl rfl Try.func68 (by kernel_rfl) rfl #[.agg #[.slice A0_0 l0_0.length c0_0, .slice (some ad138) l0_1.length c0_1, .int .i64 a0_2, .int .i64 a0_3, .int .i64 a0_4, .int .u8 a0_5, .int .i64 a0_6, .slice A0_7 l0_7.length c0_7, .bool a0_8, .bool a0_9], .int .u8 ((rd_T35 l0_1 x4_2).f4), .int .u8 ((rd_T35 l0_1 x4_2).f5), .int .i64 ((rd_T35 l0_1 x4_2).f6)] rfl (by (try simp only [List.map_toArray, List.map_cons, List.map_nil]); first | done | rfl | (simp only [List.length_drop, List.length_take]; rfl)) ?_; (with_reducible refine (Pmga.joustref06_many.calls k2 _ _ l0_0 _ _ l0_1 a0_2 a0_3 a0_4 a0_5 a0_6 _ _ l0_7 a0_8 a0_9 ((rd_T35 l0_1 x4_2).f4) ((rd_T35 l0_1 x4_2).f5) ((rd_T35 l0_1 x4_2).f6) t140 t141 _ ?side1 ?side2 ?side3 ?side4 ?side5 ?side6 A22.out).mono ?_); (case side1 => exact Kd.C_below HR0_0.out (low HB)); (case side2 => exact HC0_0.out); (case side3 => exact Kd.C_below HR0_1.out (low HB)); (case side4 => exact HC0_1.out); (case side5 => exact Kd.C_below HR0_7.out (low HB)); (case side6 => exact HC0_7.out); rintro e w53 ⟨rfl, hb⟩; refine ⟨_, rfl, ?_⟩; have n0_ := Az (blk_below (g := gb136) (o := .cells #[.slice A0_0 l0_0.length c0_0, .slice (some ad138) l0_1.length c0_1, .int .i64 a0_2, .int .i64 a0_3, .int .i64 a0_4, .int .u8 a0_5, .int .i64 a0_6, .slice A0_7 l0_7.length c0_7, .bool a0_8, .bool a0_9] 28 (0, 0)) of_lies hb); have n1_ := Az (blk_below (g := gb139) (o := .cells #[.int .i64 ((rd_T35 l0_1 x4_2).f0), .int .i64 ((rd_T35 l0_1 x4_2).f1), .int .i64 ((rd_T35 l0_1 x4_2).f2), .int .u8 ((rd_T35 l0_1 x4_2).f3), .int .u8 ((rd_T35 l0_1 x4_2).f4), .int .u8 ((rd_T35 l0_1 x4_2).f5), .int .i64 ((rd_T35 l0_1 x4_2).f6), .bool ((rd_T35 l0_1 x4_2).f7), .bool ((rd_T35 l0_1 x4_2).f8), .int .i64 ((rd_T35 l0_1 x4_2).f9), .int .u8 ((rd_T35 l0_1 x4_2).f10), .bool ((rd_T35 l0_1 x4_2).f11), .bool ((rd_T35 l0_1 x4_2).f12), .int .i64 ((rd_T35 l0_1 x4_2).f13)] 35 (0, 0)) of_lies hb); have n2_ := Az (below_step (low HB) hb); clear BK136; clear BK139; clear HB; have BK136 := n0_; have BK139 := n1_; have HB := n2_; clear n0_ n1_ n2_; (try clear hb); (try clear hb2); (try clear hk); (try clear hi); have hcz54_0 : w53.cell? ⟨gb139, 0, none⟩ = some (.int .i64 ((rd_T35 l0_1 x4_2).f0)) := (blk_cell BK139.out 0).trans rfl; have hcz54_1 : w53.cell? ⟨gb139, 1, none⟩ = some (.int .i64 ((rd_T35 l0_1 x4_2).f1)) := (blk_cell BK139.out 1).trans rfl; have hcz54_2 : w53.cell? ⟨gb139, 2, none⟩ = some (.int .i64 ((rd_T35 l0_1 x4_2).f2)) := (blk_cell BK139.out 2).trans rfl; have hcz54_3 : w53.cell? ⟨gb139, 3, none⟩ = some (.int .u8 ((rd_T35 l0_1 x4_2).f3)) := (blk_cell BK139.out 3).trans rfl; have hcz54_4 : w53.cell? ⟨gb139, 4, none⟩ = some (.int .u8 ((rd_T35 l0_1 x4_2).f4)) := (blk_cell BK139.out 4).trans rfl; have hcz54_5 : w53.cell? ⟨gb139, 5, none⟩ = some (.int .u8 ((rd_T35 l0_1 x4_2).f5)) := (blk_cell BK139.out 5).trans rfl; have hcz54_6 : w53.cell? ⟨gb139, 6, none⟩ = some (.int .i64 ((rd_T35 l0_1 x4_2).f6)) := (blk_cell BK139.out 6).trans rfl; have hcz54_7 : w53.cell? ⟨gb139, 7, none⟩ = some (.bool ((rd_T35 l0_1 x4_2).f7)) := (blk_cell BK139.out 7).trans rfl; have hcz54_8 : w53.cell? ⟨gb139, 8, none⟩ = some (.bool ((rd_T35 l0_1 x4_2).f8)) := (blk_cell BK139.out 8).trans rfl; have hcz54_9 : w53.cell? ⟨gb139, 9, none⟩ = some (.int .i64 ((rd_T35 l0_1 x4_2).f9)) := (blk_cell BK139.out 9).trans rfl; have hcz54_10 : w53.cell? ⟨gb139, 10, none⟩ = some (.int .u8 ((rd_T35 l0_1 x4_2).f10)) := (blk_cell BK139.out 10).trans rfl; have hcz54_11 : w53.cell? ⟨gb139, 11, none⟩ = some (.bool ((rd_T35 l0_1 x4_2).f11)) := (blk_cell BK139.out 11).trans rfl; have hcz54_12 : w53.cell? ⟨gb139, 12, none⟩ = some (.bool ((rd_T35 l0_1 x4_2).f12)) := (blk_cell BK139.out 12).trans rfl; have hcz54_13 : w53.cell? ⟨gb139, 13, none⟩ = some (.int .i64 ((rd_T35 l0_1 x4_2).f13)) := (blk_cell BK139.out 13).trans rfl; have hfz54_0 := blk_frozen BK139.out 0; have hfz54_1 := blk_frozen BK139.out 1; have hfz54_2 := blk_frozen BK139.out 2; have hfz54_3 := blk_frozen BK139.out 3; have hfz54_4 := blk_frozen BK139.out 4; have hfz54_5 := blk_frozen BK139.out 5; have hfz54_6 := blk_frozen BK139.out 6; have hfz54_7 := blk_frozen BK139.out 7; have hfz54_8 := blk_frozen BK139.out 8; have hfz54_9 := blk_frozen BK139.out 9; have hfz54_10 := blk_frozen BK139.out 10; have hfz54_11 := blk_frozen BK139.out 11; have hfz54_12 := blk_frozen BK139.out 12; have hfz54_13 := blk_frozen BK139.out 13) | (go_at_call 69; (with_reducible refine (Pmga.joustref06_shared.calls ((rd_T35 l0_1 x4_2).f5) true _ A44.out).mono ?_); rintro e w' ⟨rfl, ⟨nd, rfl⟩⟩))
             go_roundg k2
             case measure => have := HJ1.out; have := HK2.out; omega
             case rel => exact ⟨(x3_2), (wrap64 (x4_2 + 1)), (by first | rfl | (simp; done) | (simp [*]; done)), (by first | rfl | (simp; done) | (simp [*]; done)), H', ⟨by have := HJ1.out; have := HK2.out; omega⟩, ⟨of_lies⟩, ⟨low HB⟩⟩
            ·
             replace c45 := Bool.eq_false_iff.mpr c45
             subst c45
             have H1 : (if ((rd_T35 l0_1 x4_2).f6) < 0 then (some false) else (if ((rd_T35 l0_1 x4_2).f6) ≥ t140 then (some false) else (joustref06_May.l0 k2 x3_2 (wrap64 (x4_2 + 1)) l0_0 l0_1 a0_2 a0_3 a0_4 a0_5 a0_6 l0_7 a0_8 a0_9))) = some r := by rw [if_neg (show ¬ (false = true) by decide)] at H; exact H
             clear H
             have H := H1
             clear H1
             by_cases c55 : ((rd_T35 l0_1 x4_2).f6) < 0
             ·
              rw [if_pos c55] at H
              have c55b0 : decide (((rd_T35 l0_1 x4_2).f6) < 0) = true := decide_eq_true c55
              clear c55
              obtain rfl := Option.some.inj H
              have hcz56_0 : wr.cell? ⟨gb136, 0, none⟩ = some (.slice A0_0 l0_0.length c0_0) := (blk_cell BK136.out 0).trans rfl
              have hcz56_1 : wr.cell? ⟨gb136, 1, none⟩ = some (.slice A0_1 l0_1.length c0_1) := (blk_cell BK136.out 1).trans rfl
              have hcz56_2 : wr.cell? ⟨gb136, 2, none⟩ = some (.int .i64 a0_2) := (blk_cell BK136.out 2).trans rfl
              have hcz56_3 : wr.cell? ⟨gb136, 3, none⟩ = some (.int .i64 a0_3) := (blk_cell BK136.out 3).trans rfl
              have hcz56_4 : wr.cell? ⟨gb136, 4, none⟩ = some (.int .i64 a0_4) := (blk_cell BK136.out 4).trans rfl
              have hcz56_5 : wr.cell? ⟨gb136, 5, none⟩ = some (.int .u8 a0_5) := (blk_cell BK136.out 5).trans rfl
              have hcz56_6 : wr.cell? ⟨gb136, 6, none⟩ = some (.int .i64 a0_6) := (blk_cell BK136.out 6).trans rfl
              have hcz56_7 : wr.cell? ⟨gb136, 7, none⟩ = some (.slice A0_7 l0_7.length c0_7) := (blk_cell BK136.out 7).trans rfl
              have hcz56_8 : wr.cell? ⟨gb136, 8, none⟩ = some (.bool a0_8) := (blk_cell BK136.out 8).trans rfl
              have hcz56_9 : wr.cell? ⟨gb136, 9, none⟩ = some (.bool a0_9) := (blk_cell BK136.out 9).trans rfl
              have hfz56_0 := blk_frozen BK136.out 0
              have hfz56_1 := blk_frozen BK136.out 1
              have hfz56_2 := blk_frozen BK136.out 2
              have hfz56_3 := blk_frozen BK136.out 3
              have hfz56_4 := blk_frozen BK136.out 4
              have hfz56_5 := blk_frozen BK136.out 5
              have hfz56_6 := blk_frozen BK136.out 6
              have hfz56_7 := blk_frozen BK136.out 7
              have hfz56_8 := blk_frozen BK136.out 8
              have hfz56_9 := blk_frozen BK136.out 9
              go_wp2_with (first | ((with_reducible refine gate_callee (f := 67) rfl ?_); refine goesL_ (some 55) rfl rfl Try.func67 (by kernel_rfl) rfl #[.agg #[.slice A0_0 l0_0.length c0_0, .slice A0_1 l0_1.length c0_1, .int .i64 a0_2, .int .i64 a0_3, .int .i64 a0_4, .int .u8 a0_5, .int .i64 a0_6, .slice A0_7 l0_7.length c0_7, .bool a0_8, .bool a0_9], .int .i64 x4_2] rfl (by (try simp only [List.map_toArray, List.map_cons, List.map_nil]); first | done | rfl | (simp only [List.length_drop, List.length_take]; rfl)) ?_; (with_reducible refine (joustref06_one.calls k2 _ _ l0_0 _ _ l0_1 a0_2 a0_3 a0_4 a0_5 a0_6 _ _ l0_7 a0_8 a0_9 x4_2 true _ ?side1 ?side2 ?side3 ?side4 ?side5 ?side6 A19.out).mono ?_); (case side1 => repeat (first | exact (Kd.C_below HR0_0.out HB.out) | (with_reducible refine Kd.C_alloc ?_ _) | (with_reducible refine Kd.C_drewN ?_ _) | (with_reducible refine Kd.C_drew ?_))); (case side2 => exact HC0_0.out); (case side3 => repeat (first | exact (Kd.C_below HR0_1.out HB.out) | (with_reducible refine Kd.C_alloc ?_ _) | (with_reducible refine Kd.C_drewN ?_ _) | (with_reducible refine Kd.C_drew ?_))); (case side4 => exact HC0_1.out); (case side5 => repeat (first | exact (Kd.C_below HR0_7.out HB.out) | (with_reducible refine Kd.C_alloc ?_ _) | (with_reducible refine Kd.C_drewN ?_ _) | (with_reducible refine Kd.C_drew ?_))); (case side6 => exact HC0_7.out); rintro e w57 ⟨rfl, hb⟩; refine ⟨_, rfl, ?_⟩; have n0_ := Az (blk_below (g := gb136) (o := .cells #[.slice A0_0 l0_0.length c0_0, .slice A0_1 l0_1.length c0_1, .int .i64 a0_2, .int .i64 a0_3, .int .i64 a0_4, .int .u8 a0_5, .int .i64 a0_6, .slice A0_7 l0_7.length c0_7, .bool a0_8, .bool a0_9] 28 (0, 0)) of_lies hb); have n1_ := Az (below_step (low HB) hb); clear BK136; clear HB; have BK136 := n0_; have HB := n1_; clear n0_ n1_; (try clear hb); (try clear hb2); (try clear hk); (try clear hi); have hcz58_0 : w57.cell? ⟨gb136, 0, none⟩ = some (.slice A0_0 l0_0.length c0_0) := (blk_cell BK136.out 0).trans rfl; have hcz58_1 : w57.cell? ⟨gb136, 1, none⟩ = some (.slice A0_1 l0_1.length c0_1) := (blk_cell BK136.out 1).trans rfl; have hcz58_2 : w57.cell? ⟨gb136, 2, none⟩ = some (.int .i64 a0_2) := (blk_cell BK136.out 2).trans rfl; have hcz58_3 : w57.cell? ⟨gb136, 3, none⟩ = some (.int .i64 a0_3) := (blk_cell BK136.out 3).trans rfl; have hcz58_4 : w57.cell? ⟨gb136, 4, none⟩ = some (.int .i64 a0_4) := (blk_cell BK136.out 4).trans rfl; have hcz58_5 : w57.cell? ⟨gb136, 5, none⟩ = some (.int .u8 a0_5) := (blk_cell BK136.out 5).trans rfl; have hcz58_6 : w57.cell? ⟨gb136, 6, none⟩ = some (.int .i64 a0_6) := (blk_cell BK136.out 6).trans rfl; have hcz58_7 : w57.cell? ⟨gb136, 7, none⟩ = some (.slice A0_7 l0_7.length c0_7) := (blk_cell BK136.out 7).trans rfl; have hcz58_8 : w57.cell? ⟨gb136, 8, none⟩ = some (.bool a0_8) := (blk_cell BK136.out 8).trans rfl; have hcz58_9 : w57.cell? ⟨gb136, 9, none⟩ = some (.bool a0_9) := (blk_cell BK136.out 9).trans rfl; have hfz58_0 := blk_frozen BK136.out 0; have hfz58_1 := blk_frozen BK136.out 1; have hfz58_2 := blk_frozen BK136.out 2; have hfz58_3 := blk_frozen BK136.out 3; have hfz58_4 := blk_frozen BK136.out 4; have hfz58_5 := blk_frozen BK136.out 5; have hfz58_6 := blk_frozen BK136.out 6; have hfz58_7 := blk_frozen BK136.out 7; have hfz58_8 := blk_frozen BK136.out 8; have hfz58_9 := blk_frozen BK136.out 9; have p138 : 0 ≤ (x4_2 : Int) := of_decide_eq_true (by first | (with_reducible assumption) | assumption); have q138 : x4_2 < (l0_1.length : Int) := of_decide_eq_true (by first | (with_reducible assumption) | assumption); obtain ⟨ad138, e138, hx138_0, hx138_1, hx138_2, hx138_3, hx138_4, hx138_5, hx138_6, hx138_7, hx138_8, hx138_9, hx138_10, hx138_11, hx138_12, hx138_13⟩ := at_T35 HR0_1.out x4_2 p138 q138; cases e138; replace hx138_0 := (HB.out.cell (World.block_lt_of_cell? w _ hx138_0)).trans hx138_0; replace hx138_1 := (HB.out.cell (World.block_lt_of_cell? w _ hx138_1)).trans hx138_1; replace hx138_2 := (HB.out.cell (World.block_lt_of_cell? w _ hx138_2)).trans hx138_2; replace hx138_3 := (HB.out.cell (World.block_lt_of_cell? w _ hx138_3)).trans hx138_3; replace hx138_4 := (HB.out.cell (World.block_lt_of_cell? w _ hx138_4)).trans hx138_4; replace hx138_5 := (HB.out.cell (World.block_lt_of_cell? w _ hx138_5)).trans hx138_5; replace hx138_6 := (HB.out.cell (World.block_lt_of_cell? w _ hx138_6)).trans hx138_6; replace hx138_7 := (HB.out.cell (World.block_lt_of_cell? w _ hx138_7)).trans hx138_7; replace hx138_8 := (HB.out.cell (World.block_lt_of_cell? w _ hx138_8)).trans hx138_8; replace hx138_9 := (HB.out.cell (World.block_lt_of_cell? w _ hx138_9)).trans hx138_9; replace hx138_10 := (HB.out.cell (World.block_lt_of_cell? w _ hx138_10)).trans hx138_10; replace hx138_11 := (HB.out.cell (World.block_lt_of_cell? w _ hx138_11)).trans hx138_11; replace hx138_12 := (HB.out.cell (World.block_lt_of_cell? w _ hx138_12)).trans hx138_12; replace hx138_13 := (HB.out.cell (World.block_lt_of_cell? w _ hx138_13)).trans hx138_13; replace p138 := eq_true p138; replace q138 := eq_true q138) | ((with_reducible refine gate_dst (N := 5) rfl ?_); (try (refine gate_guard (by rfl) ?_; dsimp only)); refine box_event ?hg (N := 5) ?hd (cs := #[.int .i64 0, .int .i64 0, .int .i64 0, .int .u8 0, .int .u8 0, .int .u8 0, .int .i64 0, .bool false, .bool false, .int .i64 0, .int .u8 0, .bool false, .bool false, .int .i64 0]) (t := 35) ?hr ?_; (case hd => rfl); (case hg => rfl); (case hr => first | (go_simp; done) | (go_simp; rfl)); intro gb139 hg w59 hbox hb; have n0_ := Az (blk_below (g := gb136) (o := .cells #[.slice A0_0 l0_0.length c0_0, .slice (some ad138) l0_1.length c0_1, .int .i64 a0_2, .int .i64 a0_3, .int .i64 a0_4, .int .u8 a0_5, .int .i64 a0_6, .slice A0_7 l0_7.length c0_7, .bool a0_8, .bool a0_9] 28 (0, 0)) of_lies hb); have n1_ := Az (below_step (low HB) hb); have n2_ := Az (hbox); have n3_ := Az ((by rw [hg]; exact (below_size (low HB)) : w.heap.size ≤ gb139)); have n4_ := Az ((by rw [hg]; exact (below_size (low HB)) : w.heap.size ≤ gb139)); have n5_ := Az ((by rw [hg]; exact Nat.ne_of_lt (blk_lt (g := gb136) (o := .cells #[.slice A0_0 l0_0.length c0_0, .slice (some ad138) l0_1.length c0_1, .int .i64 a0_2, .int .i64 a0_3, .int .i64 a0_4, .int .u8 a0_5, .int .i64 a0_6, .slice A0_7 l0_7.length c0_7, .bool a0_8, .bool a0_9] 28 (0, 0)) of_lies) : gb136 ≠ gb139)); have n6_ := Az ((by rw [hg]; exact Nat.ne_of_gt (blk_lt (g := gb136) (o := .cells #[.slice A0_0 l0_0.length c0_0, .slice (some ad138) l0_1.length c0_1, .int .i64 a0_2, .int .i64 a0_3, .int .i64 a0_4, .int .u8 a0_5, .int .i64 a0_6, .slice A0_7 l0_7.length c0_7, .bool a0_8, .bool a0_9] 28 (0, 0)) of_lies) : gb139 ≠ gb136)); clear BK136; clear HB; have BK136 := n0_; have HB := n1_; have BK139 := n2_; have GW139 := n3_; have GE139 := n4_; have NB136_139 := n5_; have NB139_136 := n6_; clear n0_ n1_ n2_ n3_ n4_ n5_ n6_; clear hb hbox hg; have hnb60 := NB139_136.out; have hnc60 := NB136_139.out; have hcz61_0 : w59.cell? ⟨gb139, 0, none⟩ = some (.int .i64 0) := (blk_cell BK139.out 0).trans rfl; have hcz61_1 : w59.cell? ⟨gb139, 1, none⟩ = some (.int .i64 0) := (blk_cell BK139.out 1).trans rfl; have hcz61_2 : w59.cell? ⟨gb139, 2, none⟩ = some (.int .i64 0) := (blk_cell BK139.out 2).trans rfl; have hcz61_3 : w59.cell? ⟨gb139, 3, none⟩ = some (.int .u8 0) := (blk_cell BK139.out 3).trans rfl; have hcz61_4 : w59.cell? ⟨gb139, 4, none⟩ = some (.int .u8 0) := (blk_cell BK139.out 4).trans rfl; have hcz61_5 : w59.cell? ⟨gb139, 5, none⟩ = some (.int .u8 0) := (blk_cell BK139.out 5).trans rfl; have hcz61_6 : w59.cell? ⟨gb139, 6, none⟩ = some (.int .i64 0) := (blk_cell BK139.out 6).trans rfl; have hcz61_7 : w59.cell? ⟨gb139, 7, none⟩ = some (.bool false) := (blk_cell BK139.out 7).trans rfl; have hcz61_8 : w59.cell? ⟨gb139, 8, none⟩ = some (.bool false) := (blk_cell BK139.out 8).trans rfl; have hcz61_9 : w59.cell? ⟨gb139, 9, none⟩ = some (.int .i64 0) := (blk_cell BK139.out 9).trans rfl; have hcz61_10 : w59.cell? ⟨gb139, 10, none⟩ = some (.int .u8 0) := (blk_cell BK139.out 10).trans rfl; have hcz61_11 : w59.cell? ⟨gb139, 11, none⟩ = some (.bool false) := (blk_cell BK139.out 11).trans rfl; have hcz61_12 : w59.cell? ⟨gb139, 12, none⟩ = some (.bool false) := (blk_cell BK139.out 12).trans rfl; have hcz61_13 : w59.cell? ⟨gb139, 13, none⟩ = some (.int .i64 0) := (blk_cell BK139.out 13).trans rfl; have hfz61_0 := blk_frozen BK139.out 0; have hfz61_1 := blk_frozen BK139.out 1; have hfz61_2 := blk_frozen BK139.out 2; have hfz61_3 := blk_frozen BK139.out 3; have hfz61_4 := blk_frozen BK139.out 4; have hfz61_5 := blk_frozen BK139.out 5; have hfz61_6 := blk_frozen BK139.out 6; have hfz61_7 := blk_frozen BK139.out 7; have hfz61_8 := blk_frozen BK139.out 8; have hfz61_9 := blk_frozen BK139.out 9; have hfz61_10 := blk_frozen BK139.out 10; have hfz61_11 := blk_frozen BK139.out 11; have hfz61_12 := blk_frozen BK139.out 12; have hfz61_13 := blk_frozen BK139.out 13; have hcz62_0 : w59.cell? ⟨gb136, 0, none⟩ = some (.slice A0_0 l0_0.length c0_0) := (blk_cell BK136.out 0).trans rfl; have hcz62_1 : w59.cell? ⟨gb136, 1, none⟩ = some (.slice (some ad138) l0_1.length c0_1) := (blk_cell BK136.out 1).trans rfl; have hcz62_2 : w59.cell? ⟨gb136, 2, none⟩ = some (.int .i64 a0_2) := (blk_cell BK136.out 2).trans rfl; have hcz62_3 : w59.cell? ⟨gb136, 3, none⟩ = some (.int .i64 a0_3) := (blk_cell BK136.out 3).trans rfl; have hcz62_4 : w59.cell? ⟨gb136, 4, none⟩ = some (.int .i64 a0_4) := (blk_cell BK136.out 4).trans rfl; have hcz62_5 : w59.cell? ⟨gb136, 5, none⟩ = some (.int .u8 a0_5) := (blk_cell BK136.out 5).trans rfl; have hcz62_6 : w59.cell? ⟨gb136, 6, none⟩ = some (.int .i64 a0_6) := (blk_cell BK136.out 6).trans rfl; have hcz62_7 : w59.cell? ⟨gb136, 7, none⟩ = some (.slice A0_7 l0_7.length c0_7) := (blk_cell BK136.out 7).trans rfl; have hcz62_8 : w59.cell? ⟨gb136, 8, none⟩ = some (.bool a0_8) := (blk_cell BK136.out 8).trans rfl; have hcz62_9 : w59.cell? ⟨gb136, 9, none⟩ = some (.bool a0_9) := (blk_cell BK136.out 9).trans rfl; have hfz62_0 := blk_frozen BK136.out 0; have hfz62_1 := blk_frozen BK136.out 1; have hfz62_2 := blk_frozen BK136.out 2; have hfz62_3 := blk_frozen BK136.out 3; have hfz62_4 := blk_frozen BK136.out 4; have hfz62_5 := blk_frozen BK136.out 5; have hfz62_6 := blk_frozen BK136.out 6; have hfz62_7 := blk_frozen BK136.out 7; have hfz62_8 := blk_frozen BK136.out 8; have hfz62_9 := blk_frozen BK136.out 9) | ((with_reducible refine gate_callee (f := 68) rfl ?_); refine goesL_ (some 70) rfl rfl Try.func68 (by kernel_rfl) rfl #[.agg #[.slice A0_0 l0_0.length c0_0, .slice (some ad138) l0_1.length c0_1, .int .i64 a0_2, .int .i64 a0_3, .int .i64 a0_4, .int .u8 a0_5, .int .i64 a0_6, .slice A0_7 l0_7.length c0_7, .bool a0_8, .bool a0_9], .int .u8 ((rd_T35 l0_1 x4_2).f4), .int .u8 ((rd_T35 l0_1 x4_2).f5), .int .i64 ((rd_T35 l0_1 x4_2).f6)] rfl (by (try simp only [List.map_toArray, List.map_cons, List.map_nil]); first | done | rfl | (simp only [List.length_drop, List.length_take]; rfl)) ?_; (with_reducible refine (Pmga.joustref06_many.calls k2 _ _ l0_0 _ _ l0_1 a0_2 a0_3 a0_4 a0_5 a0_6 _ _ l0_7 a0_8 a0_9 ((rd_T35 l0_1 x4_2).f4) ((rd_T35 l0_1 x4_2).f5) ((rd_T35 l0_1 x4_2).f6) t140 t141 _ ?side1 ?side2 ?side3 ?side4 ?side5 ?side6 A22.out).mono ?_); (case side1 => exact Kd.C_below HR0_0.out (low HB)); (case side2 => exact HC0_0.out); (case side3 => exact Kd.C_below HR0_1.out (low HB)); (case side4 => exact HC0_1.out); (case side5 => exact Kd.C_below HR0_7.out (low HB)); (case side6 => exact HC0_7.out); rintro e w63 ⟨rfl, hb⟩; refine ⟨_, rfl, ?_⟩; have n0_ := Az (blk_below (g := gb136) (o := .cells #[.slice A0_0 l0_0.length c0_0, .slice (some ad138) l0_1.length c0_1, .int .i64 a0_2, .int .i64 a0_3, .int .i64 a0_4, .int .u8 a0_5, .int .i64 a0_6, .slice A0_7 l0_7.length c0_7, .bool a0_8, .bool a0_9] 28 (0, 0)) of_lies hb); have n1_ := Az (blk_below (g := gb139) (o := .cells #[.int .i64 ((rd_T35 l0_1 x4_2).f0), .int .i64 ((rd_T35 l0_1 x4_2).f1), .int .i64 ((rd_T35 l0_1 x4_2).f2), .int .u8 ((rd_T35 l0_1 x4_2).f3), .int .u8 ((rd_T35 l0_1 x4_2).f4), .int .u8 ((rd_T35 l0_1 x4_2).f5), .int .i64 ((rd_T35 l0_1 x4_2).f6), .bool ((rd_T35 l0_1 x4_2).f7), .bool ((rd_T35 l0_1 x4_2).f8), .int .i64 ((rd_T35 l0_1 x4_2).f9), .int .u8 ((rd_T35 l0_1 x4_2).f10), .bool ((rd_T35 l0_1 x4_2).f11), .bool ((rd_T35 l0_1 x4_2).f12), .int .i64 ((rd_T35 l0_1 x4_2).f13)] 35 (0, 0)) of_lies hb); have n2_ := Az (below_step (low HB) hb); clear BK136; clear BK139; clear HB; have BK136 := n0_; have BK139 := n1_; have HB := n2_; clear n0_ n1_ n2_; (try clear hb); (try clear hb2); (try clear hk); (try clear hi); have hcz64_0 : w63.cell? ⟨gb139, 0, none⟩ = some (.int .i64 ((rd_T35 l0_1 x4_2).f0)) := (blk_cell BK139.out 0).trans rfl; have hcz64_1 : w63.cell? ⟨gb139, 1, none⟩ = some (.int .i64 ((rd_T35 l0_1 x4_2).f1)) := (blk_cell BK139.out 1).trans rfl; have hcz64_2 : w63.cell? ⟨gb139, 2, none⟩ = some (.int .i64 ((rd_T35 l0_1 x4_2).f2)) := (blk_cell BK139.out 2).trans rfl; have hcz64_3 : w63.cell? ⟨gb139, 3, none⟩ = some (.int .u8 ((rd_T35 l0_1 x4_2).f3)) := (blk_cell BK139.out 3).trans rfl; have hcz64_4 : w63.cell? ⟨gb139, 4, none⟩ = some (.int .u8 ((rd_T35 l0_1 x4_2).f4)) := (blk_cell BK139.out 4).trans rfl; have hcz64_5 : w63.cell? ⟨gb139, 5, none⟩ = some (.int .u8 ((rd_T35 l0_1 x4_2).f5)) := (blk_cell BK139.out 5).trans rfl; have hcz64_6 : w63.cell? ⟨gb139, 6, none⟩ = some (.int .i64 ((rd_T35 l0_1 x4_2).f6)) := (blk_cell BK139.out 6).trans rfl; have hcz64_7 : w63.cell? ⟨gb139, 7, none⟩ = some (.bool ((rd_T35 l0_1 x4_2).f7)) := (blk_cell BK139.out 7).trans rfl; have hcz64_8 : w63.cell? ⟨gb139, 8, none⟩ = some (.bool ((rd_T35 l0_1 x4_2).f8)) := (blk_cell BK139.out 8).trans rfl; have hcz64_9 : w63.cell? ⟨gb139, 9, none⟩ = some (.int .i64 ((rd_T35 l0_1 x4_2).f9)) := (blk_cell BK139.out 9).trans rfl; have hcz64_10 : w63.cell? ⟨gb139, 10, none⟩ = some (.int .u8 ((rd_T35 l0_1 x4_2).f10)) := (blk_cell BK139.out 10).trans rfl; have hcz64_11 : w63.cell? ⟨gb139, 11, none⟩ = some (.bool ((rd_T35 l0_1 x4_2).f11)) := (blk_cell BK139.out 11).trans rfl; have hcz64_12 : w63.cell? ⟨gb139, 12, none⟩ = some (.bool ((rd_T35 l0_1 x4_2).f12)) := (blk_cell BK139.out 12).trans rfl; have hcz64_13 : w63.cell? ⟨gb139, 13, none⟩ = some (.int .i64 ((rd_T35 l0_1 x4_2).f13)) := (blk_cell BK139.out 13).trans rfl; have hfz64_0 := blk_frozen BK139.out 0; have hfz64_1 := blk_frozen BK139.out 1; have hfz64_2 := blk_frozen BK139.out 2; have hfz64_3 := blk_frozen BK139.out 3; have hfz64_4 := blk_frozen BK139.out 4; have hfz64_5 := blk_frozen BK139.out 5; have hfz64_6 := blk_frozen BK139.out 6; have hfz64_7 := blk_frozen BK139.out 7; have hfz64_8 := blk_frozen BK139.out 8; have hfz64_9 := blk_frozen BK139.out 9; have hfz64_10 := blk_frozen BK139.out 10; have hfz64_11 := blk_frozen BK139.out 11; have hfz64_12 := blk_frozen BK139.out 12; have hfz64_13 := blk_frozen BK139.out 13) | (go_at_call 69; (with_reducible refine (Pmga.joustref06_shared.calls ((rd_T35 l0_1 x4_2).f5) false _ A44.out).mono ?_); rintro e w' ⟨rfl, ⟨nd, rfl⟩⟩))
              go_ret
              exact ⟨by first | rfl | (simp [errW_none, errW_some] <;> rfl) | (simp [*, errW_none, errW_some] <;> rfl), low HB⟩
             ·
              rw [if_neg c55] at H
              have c55b0 : decide (((rd_T35 l0_1 x4_2).f6) < 0) = false := decide_eq_false c55
              clear c55
              by_cases c65 : ((rd_T35 l0_1 x4_2).f6) ≥ t140
              ·
               rw [if_pos c65] at H
               have c65b0 : decide (t140 ≤ ((rd_T35 l0_1 x4_2).f6)) = true := decide_eq_true c65
               clear c65
               obtain rfl := Option.some.inj H
               have hcz66_0 : wr.cell? ⟨gb136, 0, none⟩ = some (.slice A0_0 l0_0.length c0_0) := (blk_cell BK136.out 0).trans rfl
               have hcz66_1 : wr.cell? ⟨gb136, 1, none⟩ = some (.slice A0_1 l0_1.length c0_1) := (blk_cell BK136.out 1).trans rfl
               have hcz66_2 : wr.cell? ⟨gb136, 2, none⟩ = some (.int .i64 a0_2) := (blk_cell BK136.out 2).trans rfl
               have hcz66_3 : wr.cell? ⟨gb136, 3, none⟩ = some (.int .i64 a0_3) := (blk_cell BK136.out 3).trans rfl
               have hcz66_4 : wr.cell? ⟨gb136, 4, none⟩ = some (.int .i64 a0_4) := (blk_cell BK136.out 4).trans rfl
               have hcz66_5 : wr.cell? ⟨gb136, 5, none⟩ = some (.int .u8 a0_5) := (blk_cell BK136.out 5).trans rfl
               have hcz66_6 : wr.cell? ⟨gb136, 6, none⟩ = some (.int .i64 a0_6) := (blk_cell BK136.out 6).trans rfl
               have hcz66_7 : wr.cell? ⟨gb136, 7, none⟩ = some (.slice A0_7 l0_7.length c0_7) := (blk_cell BK136.out 7).trans rfl
               have hcz66_8 : wr.cell? ⟨gb136, 8, none⟩ = some (.bool a0_8) := (blk_cell BK136.out 8).trans rfl
               have hcz66_9 : wr.cell? ⟨gb136, 9, none⟩ = some (.bool a0_9) := (blk_cell BK136.out 9).trans rfl
               have hfz66_0 := blk_frozen BK136.out 0
               have hfz66_1 := blk_frozen BK136.out 1
               have hfz66_2 := blk_frozen BK136.out 2
               have hfz66_3 := blk_frozen BK136.out 3
               have hfz66_4 := blk_frozen BK136.out 4
               have hfz66_5 := blk_frozen BK136.out 5
               have hfz66_6 := blk_frozen BK136.out 6
               have hfz66_7 := blk_frozen BK136.out 7
               have hfz66_8 := blk_frozen BK136.out 8
               have hfz66_9 := blk_frozen BK136.out 9
               go_wp2_with (first | ((with_reducible refine gate_callee (f := 67) rfl ?_); refine goesL_ (some 55) rfl rfl Try.func67 (by kernel_rfl) rfl #[.agg #[.slice A0_0 l0_0.length c0_0, .slice A0_1 l0_1.length c0_1, .int .i64 a0_2, .int .i64 a0_3, .int .i64 a0_4, .int .u8 a0_5, .int .i64 a0_6, .slice A0_7 l0_7.length c0_7, .bool a0_8, .bool a0_9], .int .i64 x4_2] rfl (by (try simp only [List.map_toArray, List.map_cons, List.map_nil]); first | done | rfl | (simp only [List.length_drop, List.length_take]; rfl)) ?_; (with_reducible refine (joustref06_one.calls k2 _ _ l0_0 _ _ l0_1 a0_2 a0_3 a0_4 a0_5 a0_6 _ _ l0_7 a0_8 a0_9 x4_2 true _ ?side1 ?side2 ?side3 ?side4 ?side5 ?side6 A19.out).mono ?_); (case side1 => repeat (first | exact (Kd.C_below HR0_0.out HB.out) | (with_reducible refine Kd.C_alloc ?_ _) | (with_reducible refine Kd.C_drewN ?_ _) | (with_reducible refine Kd.C_drew ?_))); (case side2 => exact HC0_0.out); (case side3 => repeat (first | exact (Kd.C_below HR0_1.out HB.out) | (with_reducible refine Kd.C_alloc ?_ _) | (with_reducible refine Kd.C_drewN ?_ _) | (with_reducible refine Kd.C_drew ?_))); (case side4 => exact HC0_1.out); (case side5 => repeat (first | exact (Kd.C_below HR0_7.out HB.out) | (with_reducible refine Kd.C_alloc ?_ _) | (with_reducible refine Kd.C_drewN ?_ _) | (with_reducible refine Kd.C_drew ?_))); (case side6 => exact HC0_7.out); rintro e w67 ⟨rfl, hb⟩; refine ⟨_, rfl, ?_⟩; have n0_ := Az (blk_below (g := gb136) (o := .cells #[.slice A0_0 l0_0.length c0_0, .slice A0_1 l0_1.length c0_1, .int .i64 a0_2, .int .i64 a0_3, .int .i64 a0_4, .int .u8 a0_5, .int .i64 a0_6, .slice A0_7 l0_7.length c0_7, .bool a0_8, .bool a0_9] 28 (0, 0)) of_lies hb); have n1_ := Az (below_step (low HB) hb); clear BK136; clear HB; have BK136 := n0_; have HB := n1_; clear n0_ n1_; (try clear hb); (try clear hb2); (try clear hk); (try clear hi); have hcz68_0 : w67.cell? ⟨gb136, 0, none⟩ = some (.slice A0_0 l0_0.length c0_0) := (blk_cell BK136.out 0).trans rfl; have hcz68_1 : w67.cell? ⟨gb136, 1, none⟩ = some (.slice A0_1 l0_1.length c0_1) := (blk_cell BK136.out 1).trans rfl; have hcz68_2 : w67.cell? ⟨gb136, 2, none⟩ = some (.int .i64 a0_2) := (blk_cell BK136.out 2).trans rfl; have hcz68_3 : w67.cell? ⟨gb136, 3, none⟩ = some (.int .i64 a0_3) := (blk_cell BK136.out 3).trans rfl; have hcz68_4 : w67.cell? ⟨gb136, 4, none⟩ = some (.int .i64 a0_4) := (blk_cell BK136.out 4).trans rfl; have hcz68_5 : w67.cell? ⟨gb136, 5, none⟩ = some (.int .u8 a0_5) := (blk_cell BK136.out 5).trans rfl; have hcz68_6 : w67.cell? ⟨gb136, 6, none⟩ = some (.int .i64 a0_6) := (blk_cell BK136.out 6).trans rfl; have hcz68_7 : w67.cell? ⟨gb136, 7, none⟩ = some (.slice A0_7 l0_7.length c0_7) := (blk_cell BK136.out 7).trans rfl; have hcz68_8 : w67.cell? ⟨gb136, 8, none⟩ = some (.bool a0_8) := (blk_cell BK136.out 8).trans rfl; have hcz68_9 : w67.cell? ⟨gb136, 9, none⟩ = some (.bool a0_9) := (blk_cell BK136.out 9).trans rfl; have hfz68_0 := blk_frozen BK136.out 0; have hfz68_1 := blk_frozen BK136.out 1; have hfz68_2 := blk_frozen BK136.out 2; have hfz68_3 := blk_frozen BK136.out 3; have hfz68_4 := blk_frozen BK136.out 4; have hfz68_5 := blk_frozen BK136.out 5; have hfz68_6 := blk_frozen BK136.out 6; have hfz68_7 := blk_frozen BK136.out 7; have hfz68_8 := blk_frozen BK136.out 8; have hfz68_9 := blk_frozen BK136.out 9; have p138 : 0 ≤ (x4_2 : Int) := of_decide_eq_true (by first | (with_reducible assumption) | assumption); have q138 : x4_2 < (l0_1.length : Int) := of_decide_eq_true (by first | (with_reducible assumption) | assumption); obtain ⟨ad138, e138, hx138_0, hx138_1, hx138_2, hx138_3, hx138_4, hx138_5, hx138_6, hx138_7, hx138_8, hx138_9, hx138_10, hx138_11, hx138_12, hx138_13⟩ := at_T35 HR0_1.out x4_2 p138 q138; cases e138; replace hx138_0 := (HB.out.cell (World.block_lt_of_cell? w _ hx138_0)).trans hx138_0; replace hx138_1 := (HB.out.cell (World.block_lt_of_cell? w _ hx138_1)).trans hx138_1; replace hx138_2 := (HB.out.cell (World.block_lt_of_cell? w _ hx138_2)).trans hx138_2; replace hx138_3 := (HB.out.cell (World.block_lt_of_cell? w _ hx138_3)).trans hx138_3; replace hx138_4 := (HB.out.cell (World.block_lt_of_cell? w _ hx138_4)).trans hx138_4; replace hx138_5 := (HB.out.cell (World.block_lt_of_cell? w _ hx138_5)).trans hx138_5; replace hx138_6 := (HB.out.cell (World.block_lt_of_cell? w _ hx138_6)).trans hx138_6; replace hx138_7 := (HB.out.cell (World.block_lt_of_cell? w _ hx138_7)).trans hx138_7; replace hx138_8 := (HB.out.cell (World.block_lt_of_cell? w _ hx138_8)).trans hx138_8; replace hx138_9 := (HB.out.cell (World.block_lt_of_cell? w _ hx138_9)).trans hx138_9; replace hx138_10 := (HB.out.cell (World.block_lt_of_cell? w _ hx138_10)).trans hx138_10; replace hx138_11 := (HB.out.cell (World.block_lt_of_cell? w _ hx138_11)).trans hx138_11; replace hx138_12 := (HB.out.cell (World.block_lt_of_cell? w _ hx138_12)).trans hx138_12; replace hx138_13 := (HB.out.cell (World.block_lt_of_cell? w _ hx138_13)).trans hx138_13; replace p138 := eq_true p138; replace q138 := eq_true q138) | ((with_reducible refine gate_dst (N := 5) rfl ?_); (try (refine gate_guard (by rfl) ?_; dsimp only)); refine box_event ?hg (N := 5) ?hd (cs := #[.int .i64 0, .int .i64 0, .int .i64 0, .int .u8 0, .int .u8 0, .int .u8 0, .int .i64 0, .bool false, .bool false, .int .i64 0, .int .u8 0, .bool false, .bool false, .int .i64 0]) (t := 35) ?hr ?_; (case hd => rfl); (case hg => rfl); (case hr => first | (go_simp; done) | (go_simp; rfl)); intro gb139 hg w69 hbox hb; have n0_ := Az (blk_below (g := gb136) (o := .cells #[.slice A0_0 l0_0.length c0_0, .slice (some ad138) l0_1.length c0_1, .int .i64 a0_2, .int .i64 a0_3, .int .i64 a0_4, .int .u8 a0_5, .int .i64 a0_6, .slice A0_7 l0_7.length c0_7, .bool a0_8, .bool a0_9] 28 (0, 0)) of_lies hb); have n1_ := Az (below_step (low HB) hb); have n2_ := Az (hbox); have n3_ := Az ((by rw [hg]; exact (below_size (low HB)) : w.heap.size ≤ gb139)); have n4_ := Az ((by rw [hg]; exact (below_size (low HB)) : w.heap.size ≤ gb139)); have n5_ := Az ((by rw [hg]; exact Nat.ne_of_lt (blk_lt (g := gb136) (o := .cells #[.slice A0_0 l0_0.length c0_0, .slice (some ad138) l0_1.length c0_1, .int .i64 a0_2, .int .i64 a0_3, .int .i64 a0_4, .int .u8 a0_5, .int .i64 a0_6, .slice A0_7 l0_7.length c0_7, .bool a0_8, .bool a0_9] 28 (0, 0)) of_lies) : gb136 ≠ gb139)); have n6_ := Az ((by rw [hg]; exact Nat.ne_of_gt (blk_lt (g := gb136) (o := .cells #[.slice A0_0 l0_0.length c0_0, .slice (some ad138) l0_1.length c0_1, .int .i64 a0_2, .int .i64 a0_3, .int .i64 a0_4, .int .u8 a0_5, .int .i64 a0_6, .slice A0_7 l0_7.length c0_7, .bool a0_8, .bool a0_9] 28 (0, 0)) of_lies) : gb139 ≠ gb136)); clear BK136; clear HB; have BK136 := n0_; have HB := n1_; have BK139 := n2_; have GW139 := n3_; have GE139 := n4_; have NB136_139 := n5_; have NB139_136 := n6_; clear n0_ n1_ n2_ n3_ n4_ n5_ n6_; clear hb hbox hg; have hnb70 := NB139_136.out; have hnc70 := NB136_139.out; have hcz71_0 : w69.cell? ⟨gb139, 0, none⟩ = some (.int .i64 0) := (blk_cell BK139.out 0).trans rfl; have hcz71_1 : w69.cell? ⟨gb139, 1, none⟩ = some (.int .i64 0) := (blk_cell BK139.out 1).trans rfl; have hcz71_2 : w69.cell? ⟨gb139, 2, none⟩ = some (.int .i64 0) := (blk_cell BK139.out 2).trans rfl; have hcz71_3 : w69.cell? ⟨gb139, 3, none⟩ = some (.int .u8 0) := (blk_cell BK139.out 3).trans rfl; have hcz71_4 : w69.cell? ⟨gb139, 4, none⟩ = some (.int .u8 0) := (blk_cell BK139.out 4).trans rfl; have hcz71_5 : w69.cell? ⟨gb139, 5, none⟩ = some (.int .u8 0) := (blk_cell BK139.out 5).trans rfl; have hcz71_6 : w69.cell? ⟨gb139, 6, none⟩ = some (.int .i64 0) := (blk_cell BK139.out 6).trans rfl; have hcz71_7 : w69.cell? ⟨gb139, 7, none⟩ = some (.bool false) := (blk_cell BK139.out 7).trans rfl; have hcz71_8 : w69.cell? ⟨gb139, 8, none⟩ = some (.bool false) := (blk_cell BK139.out 8).trans rfl; have hcz71_9 : w69.cell? ⟨gb139, 9, none⟩ = some (.int .i64 0) := (blk_cell BK139.out 9).trans rfl; have hcz71_10 : w69.cell? ⟨gb139, 10, none⟩ = some (.int .u8 0) := (blk_cell BK139.out 10).trans rfl; have hcz71_11 : w69.cell? ⟨gb139, 11, none⟩ = some (.bool false) := (blk_cell BK139.out 11).trans rfl; have hcz71_12 : w69.cell? ⟨gb139, 12, none⟩ = some (.bool false) := (blk_cell BK139.out 12).trans rfl; have hcz71_13 : w69.cell? ⟨gb139, 13, none⟩ = some (.int .i64 0) := (blk_cell BK139.out 13).trans rfl; have hfz71_0 := blk_frozen BK139.out 0; have hfz71_1 := blk_frozen BK139.out 1; have hfz71_2 := blk_frozen BK139.out 2; have hfz71_3 := blk_frozen BK139.out 3; have hfz71_4 := blk_frozen BK139.out 4; have hfz71_5 := blk_frozen BK139.out 5; have hfz71_6 := blk_frozen BK139.out 6; have hfz71_7 := blk_frozen BK139.out 7; have hfz71_8 := blk_frozen BK139.out 8; have hfz71_9 := blk_frozen BK139.out 9; have hfz71_10 := blk_frozen BK139.out 10; have hfz71_11 := blk_frozen BK139.out 11; have hfz71_12 := blk_frozen BK139.out 12; have hfz71_13 := blk_frozen BK139.out 13; have hcz72_0 : w69.cell? ⟨gb136, 0, none⟩ = some (.slice A0_0 l0_0.length c0_0) := (blk_cell BK136.out 0).trans rfl; have hcz72_1 : w69.cell? ⟨gb136, 1, none⟩ = some (.slice (some ad138) l0_1.length c0_1) := (blk_cell BK136.out 1).trans rfl; have hcz72_2 : w69.cell? ⟨gb136, 2, none⟩ = some (.int .i64 a0_2) := (blk_cell BK136.out 2).trans rfl; have hcz72_3 : w69.cell? ⟨gb136, 3, none⟩ = some (.int .i64 a0_3) := (blk_cell BK136.out 3).trans rfl; have hcz72_4 : w69.cell? ⟨gb136, 4, none⟩ = some (.int .i64 a0_4) := (blk_cell BK136.out 4).trans rfl; have hcz72_5 : w69.cell? ⟨gb136, 5, none⟩ = some (.int .u8 a0_5) := (blk_cell BK136.out 5).trans rfl; have hcz72_6 : w69.cell? ⟨gb136, 6, none⟩ = some (.int .i64 a0_6) := (blk_cell BK136.out 6).trans rfl; have hcz72_7 : w69.cell? ⟨gb136, 7, none⟩ = some (.slice A0_7 l0_7.length c0_7) := (blk_cell BK136.out 7).trans rfl; have hcz72_8 : w69.cell? ⟨gb136, 8, none⟩ = some (.bool a0_8) := (blk_cell BK136.out 8).trans rfl; have hcz72_9 : w69.cell? ⟨gb136, 9, none⟩ = some (.bool a0_9) := (blk_cell BK136.out 9).trans rfl; have hfz72_0 := blk_frozen BK136.out 0; have hfz72_1 := blk_frozen BK136.out 1; have hfz72_2 := blk_frozen BK136.out 2; have hfz72_3 := blk_frozen BK136.out 3; have hfz72_4 := blk_frozen BK136.out 4; have hfz72_5 := blk_frozen BK136.out 5; have hfz72_6 := blk_frozen BK136.out 6; have hfz72_7 := blk_frozen BK136.out 7; have hfz72_8 := blk_frozen BK136.out 8; have hfz72_9 := blk_frozen BK136.out 9) | ((with_reducible refine gate_callee (f := 68) rfl ?_); refine goesL_ (some 70) rfl rfl Try.func68 (by kernel_rfl) rfl #[.agg #[.slice A0_0 l0_0.length c0_0, .slice (some ad138) l0_1.length c0_1, .int .i64 a0_2, .int .i64 a0_3, .int .i64 a0_4, .int .u8 a0_5, .int .i64 a0_6, .slice A0_7 l0_7.length c0_7, .bool a0_8, .bool a0_9], .int .u8 ((rd_T35 l0_1 x4_2).f4), .int .u8 ((rd_T35 l0_1 x4_2).f5), .int .i64 ((rd_T35 l0_1 x4_2).f6)] rfl (by (try simp only [List.map_toArray, List.map_cons, List.map_nil]); first | done | rfl | (simp only [List.length_drop, List.length_take]; rfl)) ?_; (with_reducible refine (Pmga.joustref06_many.calls k2 _ _ l0_0 _ _ l0_1 a0_2 a0_3 a0_4 a0_5 a0_6 _ _ l0_7 a0_8 a0_9 ((rd_T35 l0_1 x4_2).f4) ((rd_T35 l0_1 x4_2).f5) ((rd_T35 l0_1 x4_2).f6) t140 t141 _ ?side1 ?side2 ?side3 ?side4 ?side5 ?side6 A22.out).mono ?_); (case side1 => exact Kd.C_below HR0_0.out (low HB)); (case side2 => exact HC0_0.out); (case side3 => exact Kd.C_below HR0_1.out (low HB)); (case side4 => exact HC0_1.out); (case side5 => exact Kd.C_below HR0_7.out (low HB)); (case side6 => exact HC0_7.out); rintro e w73 ⟨rfl, hb⟩; refine ⟨_, rfl, ?_⟩; have n0_ := Az (blk_below (g := gb136) (o := .cells #[.slice A0_0 l0_0.length c0_0, .slice (some ad138) l0_1.length c0_1, .int .i64 a0_2, .int .i64 a0_3, .int .i64 a0_4, .int .u8 a0_5, .int .i64 a0_6, .slice A0_7 l0_7.length c0_7, .bool a0_8, .bool a0_9] 28 (0, 0)) of_lies hb); have n1_ := Az (blk_below (g := gb139) (o := .cells #[.int .i64 ((rd_T35 l0_1 x4_2).f0), .int .i64 ((rd_T35 l0_1 x4_2).f1), .int .i64 ((rd_T35 l0_1 x4_2).f2), .int .u8 ((rd_T35 l0_1 x4_2).f3), .int .u8 ((rd_T35 l0_1 x4_2).f4), .int .u8 ((rd_T35 l0_1 x4_2).f5), .int .i64 ((rd_T35 l0_1 x4_2).f6), .bool ((rd_T35 l0_1 x4_2).f7), .bool ((rd_T35 l0_1 x4_2).f8), .int .i64 ((rd_T35 l0_1 x4_2).f9), .int .u8 ((rd_T35 l0_1 x4_2).f10), .bool ((rd_T35 l0_1 x4_2).f11), .bool ((rd_T35 l0_1 x4_2).f12), .int .i64 ((rd_T35 l0_1 x4_2).f13)] 35 (0, 0)) of_lies hb); have n2_ := Az (below_step (low HB) hb); clear BK136; clear BK139; clear HB; have BK136 := n0_; have BK139 := n1_; have HB := n2_; clear n0_ n1_ n2_; (try clear hb); (try clear hb2); (try clear hk); (try clear hi); have hcz74_0 : w73.cell? ⟨gb139, 0, none⟩ = some (.int .i64 ((rd_T35 l0_1 x4_2).f0)) := (blk_cell BK139.out 0).trans rfl; have hcz74_1 : w73.cell? ⟨gb139, 1, none⟩ = some (.int .i64 ((rd_T35 l0_1 x4_2).f1)) := (blk_cell BK139.out 1).trans rfl; have hcz74_2 : w73.cell? ⟨gb139, 2, none⟩ = some (.int .i64 ((rd_T35 l0_1 x4_2).f2)) := (blk_cell BK139.out 2).trans rfl; have hcz74_3 : w73.cell? ⟨gb139, 3, none⟩ = some (.int .u8 ((rd_T35 l0_1 x4_2).f3)) := (blk_cell BK139.out 3).trans rfl; have hcz74_4 : w73.cell? ⟨gb139, 4, none⟩ = some (.int .u8 ((rd_T35 l0_1 x4_2).f4)) := (blk_cell BK139.out 4).trans rfl; have hcz74_5 : w73.cell? ⟨gb139, 5, none⟩ = some (.int .u8 ((rd_T35 l0_1 x4_2).f5)) := (blk_cell BK139.out 5).trans rfl; have hcz74_6 : w73.cell? ⟨gb139, 6, none⟩ = some (.int .i64 ((rd_T35 l0_1 x4_2).f6)) := (blk_cell BK139.out 6).trans rfl; have hcz74_7 : w73.cell? ⟨gb139, 7, none⟩ = some (.bool ((rd_T35 l0_1 x4_2).f7)) := (blk_cell BK139.out 7).trans rfl; have hcz74_8 : w73.cell? ⟨gb139, 8, none⟩ = some (.bool ((rd_T35 l0_1 x4_2).f8)) := (blk_cell BK139.out 8).trans rfl; have hcz74_9 : w73.cell? ⟨gb139, 9, none⟩ = some (.int .i64 ((rd_T35 l0_1 x4_2).f9)) := (blk_cell BK139.out 9).trans rfl; have hcz74_10 : w73.cell? ⟨gb139, 10, none⟩ = some (.int .u8 ((rd_T35 l0_1 x4_2).f10)) := (blk_cell BK139.out 10).trans rfl; have hcz74_11 : w73.cell? ⟨gb139, 11, none⟩ = some (.bool ((rd_T35 l0_1 x4_2).f11)) := (blk_cell BK139.out 11).trans rfl; have hcz74_12 : w73.cell? ⟨gb139, 12, none⟩ = some (.bool ((rd_T35 l0_1 x4_2).f12)) := (blk_cell BK139.out 12).trans rfl; have hcz74_13 : w73.cell? ⟨gb139, 13, none⟩ = some (.int .i64 ((rd_T35 l0_1 x4_2).f13)) := (blk_cell BK139.out 13).trans rfl; have hfz74_0 := blk_frozen BK139.out 0; have hfz74_1 := blk_frozen BK139.out 1; have hfz74_2 := blk_frozen BK139.out 2; have hfz74_3 := blk_frozen BK139.out 3; have hfz74_4 := blk_frozen BK139.out 4; have hfz74_5 := blk_frozen BK139.out 5; have hfz74_6 := blk_frozen BK139.out 6; have hfz74_7 := blk_frozen BK139.out 7; have hfz74_8 := blk_frozen BK139.out 8; have hfz74_9 := blk_frozen BK139.out 9; have hfz74_10 := blk_frozen BK139.out 10; have hfz74_11 := blk_frozen BK139.out 11; have hfz74_12 := blk_frozen BK139.out 12; have hfz74_13 := blk_frozen BK139.out 13) | (go_at_call 69; (with_reducible refine (Pmga.joustref06_shared.calls ((rd_T35 l0_1 x4_2).f5) false _ A44.out).mono ?_); rintro e w' ⟨rfl, ⟨nd, rfl⟩⟩))
               go_ret
               exact ⟨by first | rfl | (simp [errW_none, errW_some] <;> rfl) | (simp [*, errW_none, errW_some] <;> rfl), low HB⟩
              ·
               rw [if_neg c65] at H
               have c65b0 : decide (t140 ≤ ((rd_T35 l0_1 x4_2).f6)) = false := decide_eq_false c65
               clear c65
               have H' := Az H
               clear H
               have hcz75_0 : wr.cell? ⟨gb136, 0, none⟩ = some (.slice A0_0 l0_0.length c0_0) := (blk_cell BK136.out 0).trans rfl
               have hcz75_1 : wr.cell? ⟨gb136, 1, none⟩ = some (.slice A0_1 l0_1.length c0_1) := (blk_cell BK136.out 1).trans rfl
               have hcz75_2 : wr.cell? ⟨gb136, 2, none⟩ = some (.int .i64 a0_2) := (blk_cell BK136.out 2).trans rfl
               have hcz75_3 : wr.cell? ⟨gb136, 3, none⟩ = some (.int .i64 a0_3) := (blk_cell BK136.out 3).trans rfl
               have hcz75_4 : wr.cell? ⟨gb136, 4, none⟩ = some (.int .i64 a0_4) := (blk_cell BK136.out 4).trans rfl
               have hcz75_5 : wr.cell? ⟨gb136, 5, none⟩ = some (.int .u8 a0_5) := (blk_cell BK136.out 5).trans rfl
               have hcz75_6 : wr.cell? ⟨gb136, 6, none⟩ = some (.int .i64 a0_6) := (blk_cell BK136.out 6).trans rfl
               have hcz75_7 : wr.cell? ⟨gb136, 7, none⟩ = some (.slice A0_7 l0_7.length c0_7) := (blk_cell BK136.out 7).trans rfl
               have hcz75_8 : wr.cell? ⟨gb136, 8, none⟩ = some (.bool a0_8) := (blk_cell BK136.out 8).trans rfl
               have hcz75_9 : wr.cell? ⟨gb136, 9, none⟩ = some (.bool a0_9) := (blk_cell BK136.out 9).trans rfl
               have hfz75_0 := blk_frozen BK136.out 0
               have hfz75_1 := blk_frozen BK136.out 1
               have hfz75_2 := blk_frozen BK136.out 2
               have hfz75_3 := blk_frozen BK136.out 3
               have hfz75_4 := blk_frozen BK136.out 4
               have hfz75_5 := blk_frozen BK136.out 5
               have hfz75_6 := blk_frozen BK136.out 6
               have hfz75_7 := blk_frozen BK136.out 7
               have hfz75_8 := blk_frozen BK136.out 8
               have hfz75_9 := blk_frozen BK136.out 9
               go_wp2_with (first | ((with_reducible refine gate_callee (f := 67) rfl ?_); refine goesL_ (some 55) rfl rfl Try.func67 (by kernel_rfl) rfl #[.agg #[.slice A0_0 l0_0.length c0_0, .slice A0_1 l0_1.length c0_1, .int .i64 a0_2, .int .i64 a0_3, .int .i64 a0_4, .int .u8 a0_5, .int .i64 a0_6, .slice A0_7 l0_7.length c0_7, .bool a0_8, .bool a0_9], .int .i64 x4_2] rfl (by (try simp only [List.map_toArray, List.map_cons, List.map_nil]); first | done | rfl | (simp only [List.length_drop, List.length_take]; rfl)) ?_; (with_reducible refine (joustref06_one.calls k2 _ _ l0_0 _ _ l0_1 a0_2 a0_3 a0_4 a0_5 a0_6 _ _ l0_7 a0_8 a0_9 x4_2 true _ ?side1 ?side2 ?side3 ?side4 ?side5 ?side6 A19.out).mono ?_); (case side1 => repeat (first | exact (Kd.C_below HR0_0.out HB.out) | (with_reducible refine Kd.C_alloc ?_ _) | (with_reducible refine Kd.C_drewN ?_ _) | (with_reducible refine Kd.C_drew ?_))); (case side2 => exact HC0_0.out); (case side3 => repeat (first | exact (Kd.C_below HR0_1.out HB.out) | (with_reducible refine Kd.C_alloc ?_ _) | (with_reducible refine Kd.C_drewN ?_ _) | (with_reducible refine Kd.C_drew ?_))); (case side4 => exact HC0_1.out); (case side5 => repeat (first | exact (Kd.C_below HR0_7.out HB.out) | (with_reducible refine Kd.C_alloc ?_ _) | (with_reducible refine Kd.C_drewN ?_ _) | (with_reducible refine Kd.C_drew ?_))); (case side6 => exact HC0_7.out); rintro e w76 ⟨rfl, hb⟩; refine ⟨_, rfl, ?_⟩; have n0_ := Az (blk_below (g := gb136) (o := .cells #[.slice A0_0 l0_0.length c0_0, .slice A0_1 l0_1.length c0_1, .int .i64 a0_2, .int .i64 a0_3, .int .i64 a0_4, .int .u8 a0_5, .int .i64 a0_6, .slice A0_7 l0_7.length c0_7, .bool a0_8, .bool a0_9] 28 (0, 0)) of_lies hb); have n1_ := Az (below_step (low HB) hb); clear BK136; clear HB; have BK136 := n0_; have HB := n1_; clear n0_ n1_; (try clear hb); (try clear hb2); (try clear hk); (try clear hi); have hcz77_0 : w76.cell? ⟨gb136, 0, none⟩ = some (.slice A0_0 l0_0.length c0_0) := (blk_cell BK136.out 0).trans rfl; have hcz77_1 : w76.cell? ⟨gb136, 1, none⟩ = some (.slice A0_1 l0_1.length c0_1) := (blk_cell BK136.out 1).trans rfl; have hcz77_2 : w76.cell? ⟨gb136, 2, none⟩ = some (.int .i64 a0_2) := (blk_cell BK136.out 2).trans rfl; have hcz77_3 : w76.cell? ⟨gb136, 3, none⟩ = some (.int .i64 a0_3) := (blk_cell BK136.out 3).trans rfl; have hcz77_4 : w76.cell? ⟨gb136, 4, none⟩ = some (.int .i64 a0_4) := (blk_cell BK136.out 4).trans rfl; have hcz77_5 : w76.cell? ⟨gb136, 5, none⟩ = some (.int .u8 a0_5) := (blk_cell BK136.out 5).trans rfl; have hcz77_6 : w76.cell? ⟨gb136, 6, none⟩ = some (.int .i64 a0_6) := (blk_cell BK136.out 6).trans rfl; have hcz77_7 : w76.cell? ⟨gb136, 7, none⟩ = some (.slice A0_7 l0_7.length c0_7) := (blk_cell BK136.out 7).trans rfl; have hcz77_8 : w76.cell? ⟨gb136, 8, none⟩ = some (.bool a0_8) := (blk_cell BK136.out 8).trans rfl; have hcz77_9 : w76.cell? ⟨gb136, 9, none⟩ = some (.bool a0_9) := (blk_cell BK136.out 9).trans rfl; have hfz77_0 := blk_frozen BK136.out 0; have hfz77_1 := blk_frozen BK136.out 1; have hfz77_2 := blk_frozen BK136.out 2; have hfz77_3 := blk_frozen BK136.out 3; have hfz77_4 := blk_frozen BK136.out 4; have hfz77_5 := blk_frozen BK136.out 5; have hfz77_6 := blk_frozen BK136.out 6; have hfz77_7 := blk_frozen BK136.out 7; have hfz77_8 := blk_frozen BK136.out 8; have hfz77_9 := blk_frozen BK136.out 9; have p138 : 0 ≤ (x4_2 : Int) := of_decide_eq_true (by first | (with_reducible assumption) | assumption); have q138 : x4_2 < (l0_1.length : Int) := of_decide_eq_true (by first | (with_reducible assumption) | assumption); obtain ⟨ad138, e138, hx138_0, hx138_1, hx138_2, hx138_3, hx138_4, hx138_5, hx138_6, hx138_7, hx138_8, hx138_9, hx138_10, hx138_11, hx138_12, hx138_13⟩ := at_T35 HR0_1.out x4_2 p138 q138; cases e138; replace hx138_0 := (HB.out.cell (World.block_lt_of_cell? w _ hx138_0)).trans hx138_0; replace hx138_1 := (HB.out.cell (World.block_lt_of_cell? w _ hx138_1)).trans hx138_1; replace hx138_2 := (HB.out.cell (World.block_lt_of_cell? w _ hx138_2)).trans hx138_2; replace hx138_3 := (HB.out.cell (World.block_lt_of_cell? w _ hx138_3)).trans hx138_3; replace hx138_4 := (HB.out.cell (World.block_lt_of_cell? w _ hx138_4)).trans hx138_4; replace hx138_5 := (HB.out.cell (World.block_lt_of_cell? w _ hx138_5)).trans hx138_5; replace hx138_6 := (HB.out.cell (World.block_lt_of_cell? w _ hx138_6)).trans hx138_6; replace hx138_7 := (HB.out.cell (World.block_lt_of_cell? w _ hx138_7)).trans hx138_7; replace hx138_8 := (HB.out.cell (World.block_lt_of_cell? w _ hx138_8)).trans hx138_8; replace hx138_9 := (HB.out.cell (World.block_lt_of_cell? w _ hx138_9)).trans hx138_9; replace hx138_10 := (HB.out.cell (World.block_lt_of_cell? w _ hx138_10)).trans hx138_10; replace hx138_11 := (HB.out.cell (World.block_lt_of_cell? w _ hx138_11)).trans hx138_11; replace hx138_12 := (HB.out.cell (World.block_lt_of_cell? w _ hx138_12)).trans hx138_12; replace hx138_13 := (HB.out.cell (World.block_lt_of_cell? w _ hx138_13)).trans hx138_13; replace p138 := eq_true p138; replace q138 := eq_true q138) | ((with_reducible refine gate_dst (N := 5) rfl ?_); (try (refine gate_guard (by rfl) ?_; dsimp only)); refine box_event ?hg (N := 5) ?hd (cs := #[.int .i64 0, .int .i64 0, .int .i64 0, .int .u8 0, .int .u8 0, .int .u8 0, .int .i64 0, .bool false, .bool false, .int .i64 0, .int .u8 0, .bool false, .bool false, .int .i64 0]) (t := 35) ?hr ?_; (case hd => rfl); (case hg => rfl); (case hr => first | (go_simp; done) | (go_simp; rfl)); intro gb139 hg w78 hbox hb; have n0_ := Az (blk_below (g := gb136) (o := .cells #[.slice A0_0 l0_0.length c0_0, .slice (some ad138) l0_1.length c0_1, .int .i64 a0_2, .int .i64 a0_3, .int .i64 a0_4, .int .u8 a0_5, .int .i64 a0_6, .slice A0_7 l0_7.length c0_7, .bool a0_8, .bool a0_9] 28 (0, 0)) of_lies hb); have n1_ := Az (below_step (low HB) hb); have n2_ := Az (hbox); have n3_ := Az ((by rw [hg]; exact (below_size (low HB)) : w.heap.size ≤ gb139)); have n4_ := Az ((by rw [hg]; exact (below_size (low HB)) : w.heap.size ≤ gb139)); have n5_ := Az ((by rw [hg]; exact Nat.ne_of_lt (blk_lt (g := gb136) (o := .cells #[.slice A0_0 l0_0.length c0_0, .slice (some ad138) l0_1.length c0_1, .int .i64 a0_2, .int .i64 a0_3, .int .i64 a0_4, .int .u8 a0_5, .int .i64 a0_6, .slice A0_7 l0_7.length c0_7, .bool a0_8, .bool a0_9] 28 (0, 0)) of_lies) : gb136 ≠ gb139)); have n6_ := Az ((by rw [hg]; exact Nat.ne_of_gt (blk_lt (g := gb136) (o := .cells #[.slice A0_0 l0_0.length c0_0, .slice (some ad138) l0_1.length c0_1, .int .i64 a0_2, .int .i64 a0_3, .int .i64 a0_4, .int .u8 a0_5, .int .i64 a0_6, .slice A0_7 l0_7.length c0_7, .bool a0_8, .bool a0_9] 28 (0, 0)) of_lies) : gb139 ≠ gb136)); clear BK136; clear HB; have BK136 := n0_; have HB := n1_; have BK139 := n2_; have GW139 := n3_; have GE139 := n4_; have NB136_139 := n5_; have NB139_136 := n6_; clear n0_ n1_ n2_ n3_ n4_ n5_ n6_; clear hb hbox hg; have hnb79 := NB139_136.out; have hnc79 := NB136_139.out; have hcz80_0 : w78.cell? ⟨gb139, 0, none⟩ = some (.int .i64 0) := (blk_cell BK139.out 0).trans rfl; have hcz80_1 : w78.cell? ⟨gb139, 1, none⟩ = some (.int .i64 0) := (blk_cell BK139.out 1).trans rfl; have hcz80_2 : w78.cell? ⟨gb139, 2, none⟩ = some (.int .i64 0) := (blk_cell BK139.out 2).trans rfl; have hcz80_3 : w78.cell? ⟨gb139, 3, none⟩ = some (.int .u8 0) := (blk_cell BK139.out 3).trans rfl; have hcz80_4 : w78.cell? ⟨gb139, 4, none⟩ = some (.int .u8 0) := (blk_cell BK139.out 4).trans rfl; have hcz80_5 : w78.cell? ⟨gb139, 5, none⟩ = some (.int .u8 0) := (blk_cell BK139.out 5).trans rfl; have hcz80_6 : w78.cell? ⟨gb139, 6, none⟩ = some (.int .i64 0) := (blk_cell BK139.out 6).trans rfl; have hcz80_7 : w78.cell? ⟨gb139, 7, none⟩ = some (.bool false) := (blk_cell BK139.out 7).trans rfl; have hcz80_8 : w78.cell? ⟨gb139, 8, none⟩ = some (.bool false) := (blk_cell BK139.out 8).trans rfl; have hcz80_9 : w78.cell? ⟨gb139, 9, none⟩ = some (.int .i64 0) := (blk_cell BK139.out 9).trans rfl; have hcz80_10 : w78.cell? ⟨gb139, 10, none⟩ = some (.int .u8 0) := (blk_cell BK139.out 10).trans rfl; have hcz80_11 : w78.cell? ⟨gb139, 11, none⟩ = some (.bool false) := (blk_cell BK139.out 11).trans rfl; have hcz80_12 : w78.cell? ⟨gb139, 12, none⟩ = some (.bool false) := (blk_cell BK139.out 12).trans rfl; have hcz80_13 : w78.cell? ⟨gb139, 13, none⟩ = some (.int .i64 0) := (blk_cell BK139.out 13).trans rfl; have hfz80_0 := blk_frozen BK139.out 0; have hfz80_1 := blk_frozen BK139.out 1; have hfz80_2 := blk_frozen BK139.out 2; have hfz80_3 := blk_frozen BK139.out 3; have hfz80_4 := blk_frozen BK139.out 4; have hfz80_5 := blk_frozen BK139.out 5; have hfz80_6 := blk_frozen BK139.out 6; have hfz80_7 := blk_frozen BK139.out 7; have hfz80_8 := blk_frozen BK139.out 8; have hfz80_9 := blk_frozen BK139.out 9; have hfz80_10 := blk_frozen BK139.out 10; have hfz80_11 := blk_frozen BK139.out 11; have hfz80_12 := blk_frozen BK139.out 12; have hfz80_13 := blk_frozen BK139.out 13; have hcz81_0 : w78.cell? ⟨gb136, 0, none⟩ = some (.slice A0_0 l0_0.length c0_0) := (blk_cell BK136.out 0).trans rfl; have hcz81_1 : w78.cell? ⟨gb136, 1, none⟩ = some (.slice (some ad138) l0_1.length c0_1) := (blk_cell BK136.out 1).trans rfl; have hcz81_2 : w78.cell? ⟨gb136, 2, none⟩ = some (.int .i64 a0_2) := (blk_cell BK136.out 2).trans rfl; have hcz81_3 : w78.cell? ⟨gb136, 3, none⟩ = some (.int .i64 a0_3) := (blk_cell BK136.out 3).trans rfl; have hcz81_4 : w78.cell? ⟨gb136, 4, none⟩ = some (.int .i64 a0_4) := (blk_cell BK136.out 4).trans rfl; have hcz81_5 : w78.cell? ⟨gb136, 5, none⟩ = some (.int .u8 a0_5) := (blk_cell BK136.out 5).trans rfl; have hcz81_6 : w78.cell? ⟨gb136, 6, none⟩ = some (.int .i64 a0_6) := (blk_cell BK136.out 6).trans rfl; have hcz81_7 : w78.cell? ⟨gb136, 7, none⟩ = some (.slice A0_7 l0_7.length c0_7) := (blk_cell BK136.out 7).trans rfl; have hcz81_8 : w78.cell? ⟨gb136, 8, none⟩ = some (.bool a0_8) := (blk_cell BK136.out 8).trans rfl; have hcz81_9 : w78.cell? ⟨gb136, 9, none⟩ = some (.bool a0_9) := (blk_cell BK136.out 9).trans rfl; have hfz81_0 := blk_frozen BK136.out 0; have hfz81_1 := blk_frozen BK136.out 1; have hfz81_2 := blk_frozen BK136.out 2; have hfz81_3 := blk_frozen BK136.out 3; have hfz81_4 := blk_frozen BK136.out 4; have hfz81_5 := blk_frozen BK136.out 5; have hfz81_6 := blk_frozen BK136.out 6; have hfz81_7 := blk_frozen BK136.out 7; have hfz81_8 := blk_frozen BK136.out 8; have hfz81_9 := blk_frozen BK136.out 9) | ((with_reducible refine gate_callee (f := 68) rfl ?_); refine goesL_ (some 70) rfl rfl Try.func68 (by kernel_rfl) rfl #[.agg #[.slice A0_0 l0_0.length c0_0, .slice (some ad138) l0_1.length c0_1, .int .i64 a0_2, .int .i64 a0_3, .int .i64 a0_4, .int .u8 a0_5, .int .i64 a0_6, .slice A0_7 l0_7.length c0_7, .bool a0_8, .bool a0_9], .int .u8 ((rd_T35 l0_1 x4_2).f4), .int .u8 ((rd_T35 l0_1 x4_2).f5), .int .i64 ((rd_T35 l0_1 x4_2).f6)] rfl (by (try simp only [List.map_toArray, List.map_cons, List.map_nil]); first | done | rfl | (simp only [List.length_drop, List.length_take]; rfl)) ?_; (with_reducible refine (Pmga.joustref06_many.calls k2 _ _ l0_0 _ _ l0_1 a0_2 a0_3 a0_4 a0_5 a0_6 _ _ l0_7 a0_8 a0_9 ((rd_T35 l0_1 x4_2).f4) ((rd_T35 l0_1 x4_2).f5) ((rd_T35 l0_1 x4_2).f6) t140 t141 _ ?side1 ?side2 ?side3 ?side4 ?side5 ?side6 A22.out).mono ?_); (case side1 => exact Kd.C_below HR0_0.out (low HB)); (case side2 => exact HC0_0.out); (case side3 => exact Kd.C_below HR0_1.out (low HB)); (case side4 => exact HC0_1.out); (case side5 => exact Kd.C_below HR0_7.out (low HB)); (case side6 => exact HC0_7.out); rintro e w82 ⟨rfl, hb⟩; refine ⟨_, rfl, ?_⟩; have n0_ := Az (blk_below (g := gb136) (o := .cells #[.slice A0_0 l0_0.length c0_0, .slice (some ad138) l0_1.length c0_1, .int .i64 a0_2, .int .i64 a0_3, .int .i64 a0_4, .int .u8 a0_5, .int .i64 a0_6, .slice A0_7 l0_7.length c0_7, .bool a0_8, .bool a0_9] 28 (0, 0)) of_lies hb); have n1_ := Az (blk_below (g := gb139) (o := .cells #[.int .i64 ((rd_T35 l0_1 x4_2).f0), .int .i64 ((rd_T35 l0_1 x4_2).f1), .int .i64 ((rd_T35 l0_1 x4_2).f2), .int .u8 ((rd_T35 l0_1 x4_2).f3), .int .u8 ((rd_T35 l0_1 x4_2).f4), .int .u8 ((rd_T35 l0_1 x4_2).f5), .int .i64 ((rd_T35 l0_1 x4_2).f6), .bool ((rd_T35 l0_1 x4_2).f7), .bool ((rd_T35 l0_1 x4_2).f8), .int .i64 ((rd_T35 l0_1 x4_2).f9), .int .u8 ((rd_T35 l0_1 x4_2).f10), .bool ((rd_T35 l0_1 x4_2).f11), .bool ((rd_T35 l0_1 x4_2).f12), .int .i64 ((rd_T35 l0_1 x4_2).f13)] 35 (0, 0)) of_lies hb); have n2_ := Az (below_step (low HB) hb); clear BK136; clear BK139; clear HB; have BK136 := n0_; have BK139 := n1_; have HB := n2_; clear n0_ n1_ n2_; (try clear hb); (try clear hb2); (try clear hk); (try clear hi); have hcz83_0 : w82.cell? ⟨gb139, 0, none⟩ = some (.int .i64 ((rd_T35 l0_1 x4_2).f0)) := (blk_cell BK139.out 0).trans rfl; have hcz83_1 : w82.cell? ⟨gb139, 1, none⟩ = some (.int .i64 ((rd_T35 l0_1 x4_2).f1)) := (blk_cell BK139.out 1).trans rfl; have hcz83_2 : w82.cell? ⟨gb139, 2, none⟩ = some (.int .i64 ((rd_T35 l0_1 x4_2).f2)) := (blk_cell BK139.out 2).trans rfl; have hcz83_3 : w82.cell? ⟨gb139, 3, none⟩ = some (.int .u8 ((rd_T35 l0_1 x4_2).f3)) := (blk_cell BK139.out 3).trans rfl; have hcz83_4 : w82.cell? ⟨gb139, 4, none⟩ = some (.int .u8 ((rd_T35 l0_1 x4_2).f4)) := (blk_cell BK139.out 4).trans rfl; have hcz83_5 : w82.cell? ⟨gb139, 5, none⟩ = some (.int .u8 ((rd_T35 l0_1 x4_2).f5)) := (blk_cell BK139.out 5).trans rfl; have hcz83_6 : w82.cell? ⟨gb139, 6, none⟩ = some (.int .i64 ((rd_T35 l0_1 x4_2).f6)) := (blk_cell BK139.out 6).trans rfl; have hcz83_7 : w82.cell? ⟨gb139, 7, none⟩ = some (.bool ((rd_T35 l0_1 x4_2).f7)) := (blk_cell BK139.out 7).trans rfl; have hcz83_8 : w82.cell? ⟨gb139, 8, none⟩ = some (.bool ((rd_T35 l0_1 x4_2).f8)) := (blk_cell BK139.out 8).trans rfl; have hcz83_9 : w82.cell? ⟨gb139, 9, none⟩ = some (.int .i64 ((rd_T35 l0_1 x4_2).f9)) := (blk_cell BK139.out 9).trans rfl; have hcz83_10 : w82.cell? ⟨gb139, 10, none⟩ = some (.int .u8 ((rd_T35 l0_1 x4_2).f10)) := (blk_cell BK139.out 10).trans rfl; have hcz83_11 : w82.cell? ⟨gb139, 11, none⟩ = some (.bool ((rd_T35 l0_1 x4_2).f11)) := (blk_cell BK139.out 11).trans rfl; have hcz83_12 : w82.cell? ⟨gb139, 12, none⟩ = some (.bool ((rd_T35 l0_1 x4_2).f12)) := (blk_cell BK139.out 12).trans rfl; have hcz83_13 : w82.cell? ⟨gb139, 13, none⟩ = some (.int .i64 ((rd_T35 l0_1 x4_2).f13)) := (blk_cell BK139.out 13).trans rfl; have hfz83_0 := blk_frozen BK139.out 0; have hfz83_1 := blk_frozen BK139.out 1; have hfz83_2 := blk_frozen BK139.out 2; have hfz83_3 := blk_frozen BK139.out 3; have hfz83_4 := blk_frozen BK139.out 4; have hfz83_5 := blk_frozen BK139.out 5; have hfz83_6 := blk_frozen BK139.out 6; have hfz83_7 := blk_frozen BK139.out 7; have hfz83_8 := blk_frozen BK139.out 8; have hfz83_9 := blk_frozen BK139.out 9; have hfz83_10 := blk_frozen BK139.out 10; have hfz83_11 := blk_frozen BK139.out 11; have hfz83_12 := blk_frozen BK139.out 12; have hfz83_13 := blk_frozen BK139.out 13) | (go_at_call 69; (with_reducible refine (Pmga.joustref06_shared.calls ((rd_T35 l0_1 x4_2).f5) false _ A44.out).mono ?_); rintro e w' ⟨rfl, ⟨nd, rfl⟩⟩))
               go_roundg k2
               case measure => have := HJ1.out; have := HK2.out; omega
               case rel => exact ⟨(x3_2), (wrap64 (x4_2 + 1)), (by first | rfl | (simp; done) | (simp [*]; done)), (by first | rfl | (simp; done) | (simp [*]; done)), H', ⟨by have := HJ1.out; have := HK2.out; omega⟩, ⟨of_lies⟩, ⟨low HB⟩⟩
           ·
            rw [if_neg c43] at H
            have c43b0 : (t141 == 1) = false := beq_eq_false_iff_ne.mpr c43
            have c43b1 : (t141 != 1) = true := bne_iff_ne.mpr c43
            obtain rfl := Option.some.inj H
            have hcz84_0 : wr.cell? ⟨gb136, 0, none⟩ = some (.slice A0_0 l0_0.length c0_0) := (blk_cell BK136.out 0).trans rfl
            have hcz84_1 : wr.cell? ⟨gb136, 1, none⟩ = some (.slice A0_1 l0_1.length c0_1) := (blk_cell BK136.out 1).trans rfl
            have hcz84_2 : wr.cell? ⟨gb136, 2, none⟩ = some (.int .i64 a0_2) := (blk_cell BK136.out 2).trans rfl
            have hcz84_3 : wr.cell? ⟨gb136, 3, none⟩ = some (.int .i64 a0_3) := (blk_cell BK136.out 3).trans rfl
            have hcz84_4 : wr.cell? ⟨gb136, 4, none⟩ = some (.int .i64 a0_4) := (blk_cell BK136.out 4).trans rfl
            have hcz84_5 : wr.cell? ⟨gb136, 5, none⟩ = some (.int .u8 a0_5) := (blk_cell BK136.out 5).trans rfl
            have hcz84_6 : wr.cell? ⟨gb136, 6, none⟩ = some (.int .i64 a0_6) := (blk_cell BK136.out 6).trans rfl
            have hcz84_7 : wr.cell? ⟨gb136, 7, none⟩ = some (.slice A0_7 l0_7.length c0_7) := (blk_cell BK136.out 7).trans rfl
            have hcz84_8 : wr.cell? ⟨gb136, 8, none⟩ = some (.bool a0_8) := (blk_cell BK136.out 8).trans rfl
            have hcz84_9 : wr.cell? ⟨gb136, 9, none⟩ = some (.bool a0_9) := (blk_cell BK136.out 9).trans rfl
            have hfz84_0 := blk_frozen BK136.out 0
            have hfz84_1 := blk_frozen BK136.out 1
            have hfz84_2 := blk_frozen BK136.out 2
            have hfz84_3 := blk_frozen BK136.out 3
            have hfz84_4 := blk_frozen BK136.out 4
            have hfz84_5 := blk_frozen BK136.out 5
            have hfz84_6 := blk_frozen BK136.out 6
            have hfz84_7 := blk_frozen BK136.out 7
            have hfz84_8 := blk_frozen BK136.out 8
            have hfz84_9 := blk_frozen BK136.out 9
            go_wp2_with (first | ((with_reducible refine gate_callee (f := 67) rfl ?_); refine goesL_ (some 55) rfl rfl Try.func67 (by kernel_rfl) rfl #[.agg #[.slice A0_0 l0_0.length c0_0, .slice A0_1 l0_1.length c0_1, .int .i64 a0_2, .int .i64 a0_3, .int .i64 a0_4, .int .u8 a0_5, .int .i64 a0_6, .slice A0_7 l0_7.length c0_7, .bool a0_8, .bool a0_9], .int .i64 x4_2] rfl (by (try simp only [List.map_toArray, List.map_cons, List.map_nil]); first | done | rfl | (simp only [List.length_drop, List.length_take]; rfl)) ?_; (with_reducible refine (joustref06_one.calls k2 _ _ l0_0 _ _ l0_1 a0_2 a0_3 a0_4 a0_5 a0_6 _ _ l0_7 a0_8 a0_9 x4_2 true _ ?side1 ?side2 ?side3 ?side4 ?side5 ?side6 A19.out).mono ?_); (case side1 => repeat (first | exact (Kd.C_below HR0_0.out HB.out) | (with_reducible refine Kd.C_alloc ?_ _) | (with_reducible refine Kd.C_drewN ?_ _) | (with_reducible refine Kd.C_drew ?_))); (case side2 => exact HC0_0.out); (case side3 => repeat (first | exact (Kd.C_below HR0_1.out HB.out) | (with_reducible refine Kd.C_alloc ?_ _) | (with_reducible refine Kd.C_drewN ?_ _) | (with_reducible refine Kd.C_drew ?_))); (case side4 => exact HC0_1.out); (case side5 => repeat (first | exact (Kd.C_below HR0_7.out HB.out) | (with_reducible refine Kd.C_alloc ?_ _) | (with_reducible refine Kd.C_drewN ?_ _) | (with_reducible refine Kd.C_drew ?_))); (case side6 => exact HC0_7.out); rintro e w85 ⟨rfl, hb⟩; refine ⟨_, rfl, ?_⟩; have n0_ := Az (blk_below (g := gb136) (o := .cells #[.slice A0_0 l0_0.length c0_0, .slice A0_1 l0_1.length c0_1, .int .i64 a0_2, .int .i64 a0_3, .int .i64 a0_4, .int .u8 a0_5, .int .i64 a0_6, .slice A0_7 l0_7.length c0_7, .bool a0_8, .bool a0_9] 28 (0, 0)) of_lies hb); have n1_ := Az (below_step (low HB) hb); clear BK136; clear HB; have BK136 := n0_; have HB := n1_; clear n0_ n1_; (try clear hb); (try clear hb2); (try clear hk); (try clear hi); have hcz86_0 : w85.cell? ⟨gb136, 0, none⟩ = some (.slice A0_0 l0_0.length c0_0) := (blk_cell BK136.out 0).trans rfl; have hcz86_1 : w85.cell? ⟨gb136, 1, none⟩ = some (.slice A0_1 l0_1.length c0_1) := (blk_cell BK136.out 1).trans rfl; have hcz86_2 : w85.cell? ⟨gb136, 2, none⟩ = some (.int .i64 a0_2) := (blk_cell BK136.out 2).trans rfl; have hcz86_3 : w85.cell? ⟨gb136, 3, none⟩ = some (.int .i64 a0_3) := (blk_cell BK136.out 3).trans rfl; have hcz86_4 : w85.cell? ⟨gb136, 4, none⟩ = some (.int .i64 a0_4) := (blk_cell BK136.out 4).trans rfl; have hcz86_5 : w85.cell? ⟨gb136, 5, none⟩ = some (.int .u8 a0_5) := (blk_cell BK136.out 5).trans rfl; have hcz86_6 : w85.cell? ⟨gb136, 6, none⟩ = some (.int .i64 a0_6) := (blk_cell BK136.out 6).trans rfl; have hcz86_7 : w85.cell? ⟨gb136, 7, none⟩ = some (.slice A0_7 l0_7.length c0_7) := (blk_cell BK136.out 7).trans rfl; have hcz86_8 : w85.cell? ⟨gb136, 8, none⟩ = some (.bool a0_8) := (blk_cell BK136.out 8).trans rfl; have hcz86_9 : w85.cell? ⟨gb136, 9, none⟩ = some (.bool a0_9) := (blk_cell BK136.out 9).trans rfl; have hfz86_0 := blk_frozen BK136.out 0; have hfz86_1 := blk_frozen BK136.out 1; have hfz86_2 := blk_frozen BK136.out 2; have hfz86_3 := blk_frozen BK136.out 3; have hfz86_4 := blk_frozen BK136.out 4; have hfz86_5 := blk_frozen BK136.out 5; have hfz86_6 := blk_frozen BK136.out 6; have hfz86_7 := blk_frozen BK136.out 7; have hfz86_8 := blk_frozen BK136.out 8; have hfz86_9 := blk_frozen BK136.out 9; have p138 : 0 ≤ (x4_2 : Int) := of_decide_eq_true (by first | (with_reducible assumption) | assumption); have q138 : x4_2 < (l0_1.length : Int) := of_decide_eq_true (by first | (with_reducible assumption) | assumption); obtain ⟨ad138, e138, hx138_0, hx138_1, hx138_2, hx138_3, hx138_4, hx138_5, hx138_6, hx138_7, hx138_8, hx138_9, hx138_10, hx138_11, hx138_12, hx138_13⟩ := at_T35 HR0_1.out x4_2 p138 q138; cases e138; replace hx138_0 := (HB.out.cell (World.block_lt_of_cell? w _ hx138_0)).trans hx138_0; replace hx138_1 := (HB.out.cell (World.block_lt_of_cell? w _ hx138_1)).trans hx138_1; replace hx138_2 := (HB.out.cell (World.block_lt_of_cell? w _ hx138_2)).trans hx138_2; replace hx138_3 := (HB.out.cell (World.block_lt_of_cell? w _ hx138_3)).trans hx138_3; replace hx138_4 := (HB.out.cell (World.block_lt_of_cell? w _ hx138_4)).trans hx138_4; replace hx138_5 := (HB.out.cell (World.block_lt_of_cell? w _ hx138_5)).trans hx138_5; replace hx138_6 := (HB.out.cell (World.block_lt_of_cell? w _ hx138_6)).trans hx138_6; replace hx138_7 := (HB.out.cell (World.block_lt_of_cell? w _ hx138_7)).trans hx138_7; replace hx138_8 := (HB.out.cell (World.block_lt_of_cell? w _ hx138_8)).trans hx138_8; replace hx138_9 := (HB.out.cell (World.block_lt_of_cell? w _ hx138_9)).trans hx138_9; replace hx138_10 := (HB.out.cell (World.block_lt_of_cell? w _ hx138_10)).trans hx138_10; replace hx138_11 := (HB.out.cell (World.block_lt_of_cell? w _ hx138_11)).trans hx138_11; replace hx138_12 := (HB.out.cell (World.block_lt_of_cell? w _ hx138_12)).trans hx138_12; replace hx138_13 := (HB.out.cell (World.block_lt_of_cell? w _ hx138_13)).trans hx138_13; replace p138 := eq_true p138; replace q138 := eq_true q138) | ((with_reducible refine gate_dst (N := 5) rfl ?_); (try (refine gate_guard (by rfl) ?_; dsimp only)); refine box_event ?hg (N := 5) ?hd (cs := #[.int .i64 0, .int .i64 0, .int .i64 0, .int .u8 0, .int .u8 0, .int .u8 0, .int .i64 0, .bool false, .bool false, .int .i64 0, .int .u8 0, .bool false, .bool false, .int .i64 0]) (t := 35) ?hr ?_; (case hd => rfl); (case hg => rfl); (case hr => first | (go_simp; done) | (go_simp; rfl)); intro gb139 hg w87 hbox hb; have n0_ := Az (blk_below (g := gb136) (o := .cells #[.slice A0_0 l0_0.length c0_0, .slice (some ad138) l0_1.length c0_1, .int .i64 a0_2, .int .i64 a0_3, .int .i64 a0_4, .int .u8 a0_5, .int .i64 a0_6, .slice A0_7 l0_7.length c0_7, .bool a0_8, .bool a0_9] 28 (0, 0)) of_lies hb); have n1_ := Az (below_step (low HB) hb); have n2_ := Az (hbox); have n3_ := Az ((by rw [hg]; exact (below_size (low HB)) : w.heap.size ≤ gb139)); have n4_ := Az ((by rw [hg]; exact (below_size (low HB)) : w.heap.size ≤ gb139)); have n5_ := Az ((by rw [hg]; exact Nat.ne_of_lt (blk_lt (g := gb136) (o := .cells #[.slice A0_0 l0_0.length c0_0, .slice (some ad138) l0_1.length c0_1, .int .i64 a0_2, .int .i64 a0_3, .int .i64 a0_4, .int .u8 a0_5, .int .i64 a0_6, .slice A0_7 l0_7.length c0_7, .bool a0_8, .bool a0_9] 28 (0, 0)) of_lies) : gb136 ≠ gb139)); have n6_ := Az ((by rw [hg]; exact Nat.ne_of_gt (blk_lt (g := gb136) (o := .cells #[.slice A0_0 l0_0.length c0_0, .slice (some ad138) l0_1.length c0_1, .int .i64 a0_2, .int .i64 a0_3, .int .i64 a0_4, .int .u8 a0_5, .int .i64 a0_6, .slice A0_7 l0_7.length c0_7, .bool a0_8, .bool a0_9] 28 (0, 0)) of_lies) : gb139 ≠ gb136)); clear BK136; clear HB; have BK136 := n0_; have HB := n1_; have BK139 := n2_; have GW139 := n3_; have GE139 := n4_; have NB136_139 := n5_; have NB139_136 := n6_; clear n0_ n1_ n2_ n3_ n4_ n5_ n6_; clear hb hbox hg; have hnb88 := NB139_136.out; have hnc88 := NB136_139.out; have hcz89_0 : w87.cell? ⟨gb139, 0, none⟩ = some (.int .i64 0) := (blk_cell BK139.out 0).trans rfl; have hcz89_1 : w87.cell? ⟨gb139, 1, none⟩ = some (.int .i64 0) := (blk_cell BK139.out 1).trans rfl; have hcz89_2 : w87.cell? ⟨gb139, 2, none⟩ = some (.int .i64 0) := (blk_cell BK139.out 2).trans rfl; have hcz89_3 : w87.cell? ⟨gb139, 3, none⟩ = some (.int .u8 0) := (blk_cell BK139.out 3).trans rfl; have hcz89_4 : w87.cell? ⟨gb139, 4, none⟩ = some (.int .u8 0) := (blk_cell BK139.out 4).trans rfl; have hcz89_5 : w87.cell? ⟨gb139, 5, none⟩ = some (.int .u8 0) := (blk_cell BK139.out 5).trans rfl; have hcz89_6 : w87.cell? ⟨gb139, 6, none⟩ = some (.int .i64 0) := (blk_cell BK139.out 6).trans rfl; have hcz89_7 : w87.cell? ⟨gb139, 7, none⟩ = some (.bool false) := (blk_cell BK139.out 7).trans rfl; have hcz89_8 : w87.cell? ⟨gb139, 8, none⟩ = some (.bool false) := (blk_cell BK139.out 8).trans rfl; have hcz89_9 : w87.cell? ⟨gb139, 9, none⟩ = some (.int .i64 0) := (blk_cell BK139.out 9).trans rfl; have hcz89_10 : w87.cell? ⟨gb139, 10, none⟩ = some (.int .u8 0) := (blk_cell BK139.out 10).trans rfl; have hcz89_11 : w87.cell? ⟨gb139, 11, none⟩ = some (.bool false) := (blk_cell BK139.out 11).trans rfl; have hcz89_12 : w87.cell? ⟨gb139, 12, none⟩ = some (.bool false) := (blk_cell BK139.out 12).trans rfl; have hcz89_13 : w87.cell? ⟨gb139, 13, none⟩ = some (.int .i64 0) := (blk_cell BK139.out 13).trans rfl; have hfz89_0 := blk_frozen BK139.out 0; have hfz89_1 := blk_frozen BK139.out 1; have hfz89_2 := blk_frozen BK139.out 2; have hfz89_3 := blk_frozen BK139.out 3; have hfz89_4 := blk_frozen BK139.out 4; have hfz89_5 := blk_frozen BK139.out 5; have hfz89_6 := blk_frozen BK139.out 6; have hfz89_7 := blk_frozen BK139.out 7; have hfz89_8 := blk_frozen BK139.out 8; have hfz89_9 := blk_frozen BK139.out 9; have hfz89_10 := blk_frozen BK139.out 10; have hfz89_11 := blk_frozen BK139.out 11; have hfz89_12 := blk_frozen BK139.out 12; have hfz89_13 := blk_frozen BK139.out 13; have hcz90_0 : w87.cell? ⟨gb136, 0, none⟩ = some (.slice A0_0 l0_0.length c0_0) := (blk_cell BK136.out 0).trans rfl; have hcz90_1 : w87.cell? ⟨gb136, 1, none⟩ = some (.slice (some ad138) l0_1.length c0_1) := (blk_cell BK136.out 1).trans rfl; have hcz90_2 : w87.cell? ⟨gb136, 2, none⟩ = some (.int .i64 a0_2) := (blk_cell BK136.out 2).trans rfl; have hcz90_3 : w87.cell? ⟨gb136, 3, none⟩ = some (.int .i64 a0_3) := (blk_cell BK136.out 3).trans rfl; have hcz90_4 : w87.cell? ⟨gb136, 4, none⟩ = some (.int .i64 a0_4) := (blk_cell BK136.out 4).trans rfl; have hcz90_5 : w87.cell? ⟨gb136, 5, none⟩ = some (.int .u8 a0_5) := (blk_cell BK136.out 5).trans rfl; have hcz90_6 : w87.cell? ⟨gb136, 6, none⟩ = some (.int .i64 a0_6) := (blk_cell BK136.out 6).trans rfl; have hcz90_7 : w87.cell? ⟨gb136, 7, none⟩ = some (.slice A0_7 l0_7.length c0_7) := (blk_cell BK136.out 7).trans rfl; have hcz90_8 : w87.cell? ⟨gb136, 8, none⟩ = some (.bool a0_8) := (blk_cell BK136.out 8).trans rfl; have hcz90_9 : w87.cell? ⟨gb136, 9, none⟩ = some (.bool a0_9) := (blk_cell BK136.out 9).trans rfl; have hfz90_0 := blk_frozen BK136.out 0; have hfz90_1 := blk_frozen BK136.out 1; have hfz90_2 := blk_frozen BK136.out 2; have hfz90_3 := blk_frozen BK136.out 3; have hfz90_4 := blk_frozen BK136.out 4; have hfz90_5 := blk_frozen BK136.out 5; have hfz90_6 := blk_frozen BK136.out 6; have hfz90_7 := blk_frozen BK136.out 7; have hfz90_8 := blk_frozen BK136.out 8; have hfz90_9 := blk_frozen BK136.out 9) | ((with_reducible refine gate_callee (f := 68) rfl ?_); refine goesL_ (some 70) rfl rfl Try.func68 (by kernel_rfl) rfl #[.agg #[.slice A0_0 l0_0.length c0_0, .slice (some ad138) l0_1.length c0_1, .int .i64 a0_2, .int .i64 a0_3, .int .i64 a0_4, .int .u8 a0_5, .int .i64 a0_6, .slice A0_7 l0_7.length c0_7, .bool a0_8, .bool a0_9], .int .u8 ((rd_T35 l0_1 x4_2).f4), .int .u8 ((rd_T35 l0_1 x4_2).f5), .int .i64 ((rd_T35 l0_1 x4_2).f6)] rfl (by (try simp only [List.map_toArray, List.map_cons, List.map_nil]); first | done | rfl | (simp only [List.length_drop, List.length_take]; rfl)) ?_; (with_reducible refine (Pmga.joustref06_many.calls k2 _ _ l0_0 _ _ l0_1 a0_2 a0_3 a0_4 a0_5 a0_6 _ _ l0_7 a0_8 a0_9 ((rd_T35 l0_1 x4_2).f4) ((rd_T35 l0_1 x4_2).f5) ((rd_T35 l0_1 x4_2).f6) t140 t141 _ ?side1 ?side2 ?side3 ?side4 ?side5 ?side6 A22.out).mono ?_); (case side1 => exact Kd.C_below HR0_0.out (low HB)); (case side2 => exact HC0_0.out); (case side3 => exact Kd.C_below HR0_1.out (low HB)); (case side4 => exact HC0_1.out); (case side5 => exact Kd.C_below HR0_7.out (low HB)); (case side6 => exact HC0_7.out); rintro e w91 ⟨rfl, hb⟩; refine ⟨_, rfl, ?_⟩; have n0_ := Az (blk_below (g := gb136) (o := .cells #[.slice A0_0 l0_0.length c0_0, .slice (some ad138) l0_1.length c0_1, .int .i64 a0_2, .int .i64 a0_3, .int .i64 a0_4, .int .u8 a0_5, .int .i64 a0_6, .slice A0_7 l0_7.length c0_7, .bool a0_8, .bool a0_9] 28 (0, 0)) of_lies hb); have n1_ := Az (blk_below (g := gb139) (o := .cells #[.int .i64 ((rd_T35 l0_1 x4_2).f0), .int .i64 ((rd_T35 l0_1 x4_2).f1), .int .i64 ((rd_T35 l0_1 x4_2).f2), .int .u8 ((rd_T35 l0_1 x4_2).f3), .int .u8 ((rd_T35 l0_1 x4_2).f4), .int .u8 ((rd_T35 l0_1 x4_2).f5), .int .i64 ((rd_T35 l0_1 x4_2).f6), .bool ((rd_T35 l0_1 x4_2).f7), .bool ((rd_T35 l0_1 x4_2).f8), .int .i64 ((rd_T35 l0_1 x4_2).f9), .int .u8 ((rd_T35 l0_1 x4_2).f10), .bool ((rd_T35 l0_1 x4_2).f11), .bool ((rd_T35 l0_1 x4_2).f12), .int .i64 ((rd_T35 l0_1 x4_2).f13)] 35 (0, 0)) of_lies hb); have n2_ := Az (below_step (low HB) hb); clear BK136; clear BK139; clear HB; have BK136 := n0_; have BK139 := n1_; have HB := n2_; clear n0_ n1_ n2_; (try clear hb); (try clear hb2); (try clear hk); (try clear hi); have hcz92_0 : w91.cell? ⟨gb139, 0, none⟩ = some (.int .i64 ((rd_T35 l0_1 x4_2).f0)) := (blk_cell BK139.out 0).trans rfl; have hcz92_1 : w91.cell? ⟨gb139, 1, none⟩ = some (.int .i64 ((rd_T35 l0_1 x4_2).f1)) := (blk_cell BK139.out 1).trans rfl; have hcz92_2 : w91.cell? ⟨gb139, 2, none⟩ = some (.int .i64 ((rd_T35 l0_1 x4_2).f2)) := (blk_cell BK139.out 2).trans rfl; have hcz92_3 : w91.cell? ⟨gb139, 3, none⟩ = some (.int .u8 ((rd_T35 l0_1 x4_2).f3)) := (blk_cell BK139.out 3).trans rfl; have hcz92_4 : w91.cell? ⟨gb139, 4, none⟩ = some (.int .u8 ((rd_T35 l0_1 x4_2).f4)) := (blk_cell BK139.out 4).trans rfl; have hcz92_5 : w91.cell? ⟨gb139, 5, none⟩ = some (.int .u8 ((rd_T35 l0_1 x4_2).f5)) := (blk_cell BK139.out 5).trans rfl; have hcz92_6 : w91.cell? ⟨gb139, 6, none⟩ = some (.int .i64 ((rd_T35 l0_1 x4_2).f6)) := (blk_cell BK139.out 6).trans rfl; have hcz92_7 : w91.cell? ⟨gb139, 7, none⟩ = some (.bool ((rd_T35 l0_1 x4_2).f7)) := (blk_cell BK139.out 7).trans rfl; have hcz92_8 : w91.cell? ⟨gb139, 8, none⟩ = some (.bool ((rd_T35 l0_1 x4_2).f8)) := (blk_cell BK139.out 8).trans rfl; have hcz92_9 : w91.cell? ⟨gb139, 9, none⟩ = some (.int .i64 ((rd_T35 l0_1 x4_2).f9)) := (blk_cell BK139.out 9).trans rfl; have hcz92_10 : w91.cell? ⟨gb139, 10, none⟩ = some (.int .u8 ((rd_T35 l0_1 x4_2).f10)) := (blk_cell BK139.out 10).trans rfl; have hcz92_11 : w91.cell? ⟨gb139, 11, none⟩ = some (.bool ((rd_T35 l0_1 x4_2).f11)) := (blk_cell BK139.out 11).trans rfl; have hcz92_12 : w91.cell? ⟨gb139, 12, none⟩ = some (.bool ((rd_T35 l0_1 x4_2).f12)) := (blk_cell BK139.out 12).trans rfl; have hcz92_13 : w91.cell? ⟨gb139, 13, none⟩ = some (.int .i64 ((rd_T35 l0_1 x4_2).f13)) := (blk_cell BK139.out 13).trans rfl; have hfz92_0 := blk_frozen BK139.out 0; have hfz92_1 := blk_frozen BK139.out 1; have hfz92_2 := blk_frozen BK139.out 2; have hfz92_3 := blk_frozen BK139.out 3; have hfz92_4 := blk_frozen BK139.out 4; have hfz92_5 := blk_frozen BK139.out 5; have hfz92_6 := blk_frozen BK139.out 6; have hfz92_7 := blk_frozen BK139.out 7; have hfz92_8 := blk_frozen BK139.out 8; have hfz92_9 := blk_frozen BK139.out 9; have hfz92_10 := blk_frozen BK139.out 10; have hfz92_11 := blk_frozen BK139.out 11; have hfz92_12 := blk_frozen BK139.out 12; have hfz92_13 := blk_frozen BK139.out 13))
            go_ret
            exact ⟨by first | rfl | (simp [errW_none, errW_some] <;> rfl) | (simp [*, errW_none, errW_some] <;> rfl), low HB⟩
        ·
         rw [if_neg c21] at H
         exact absurd H (by simp)
       ·
        replace c20 := Bool.eq_false_iff.mpr c20
        subst c20
        have H1 : (some false) = some r := by rw [if_neg (show ¬ (false = true) by decide)] at H; exact H
        clear H
        have H := H1
        clear H1
        obtain rfl := Option.some.inj H
        have hcz93_0 : wr.cell? ⟨gb136, 0, none⟩ = some (.slice A0_0 l0_0.length c0_0) := (blk_cell BK136.out 0).trans rfl
        have hcz93_1 : wr.cell? ⟨gb136, 1, none⟩ = some (.slice A0_1 l0_1.length c0_1) := (blk_cell BK136.out 1).trans rfl
        have hcz93_2 : wr.cell? ⟨gb136, 2, none⟩ = some (.int .i64 a0_2) := (blk_cell BK136.out 2).trans rfl
        have hcz93_3 : wr.cell? ⟨gb136, 3, none⟩ = some (.int .i64 a0_3) := (blk_cell BK136.out 3).trans rfl
        have hcz93_4 : wr.cell? ⟨gb136, 4, none⟩ = some (.int .i64 a0_4) := (blk_cell BK136.out 4).trans rfl
        have hcz93_5 : wr.cell? ⟨gb136, 5, none⟩ = some (.int .u8 a0_5) := (blk_cell BK136.out 5).trans rfl
        have hcz93_6 : wr.cell? ⟨gb136, 6, none⟩ = some (.int .i64 a0_6) := (blk_cell BK136.out 6).trans rfl
        have hcz93_7 : wr.cell? ⟨gb136, 7, none⟩ = some (.slice A0_7 l0_7.length c0_7) := (blk_cell BK136.out 7).trans rfl
        have hcz93_8 : wr.cell? ⟨gb136, 8, none⟩ = some (.bool a0_8) := (blk_cell BK136.out 8).trans rfl
        have hcz93_9 : wr.cell? ⟨gb136, 9, none⟩ = some (.bool a0_9) := (blk_cell BK136.out 9).trans rfl
        have hfz93_0 := blk_frozen BK136.out 0
        have hfz93_1 := blk_frozen BK136.out 1
        have hfz93_2 := blk_frozen BK136.out 2
        have hfz93_3 := blk_frozen BK136.out 3
        have hfz93_4 := blk_frozen BK136.out 4
        have hfz93_5 := blk_frozen BK136.out 5
        have hfz93_6 := blk_frozen BK136.out 6
        have hfz93_7 := blk_frozen BK136.out 7
        have hfz93_8 := blk_frozen BK136.out 8
        have hfz93_9 := blk_frozen BK136.out 9
        go_wp2_with (first | ((with_reducible refine gate_callee (f := 67) rfl ?_); refine goesL_ (some 55) rfl rfl Try.func67 (by kernel_rfl) rfl #[.agg #[.slice A0_0 l0_0.length c0_0, .slice A0_1 l0_1.length c0_1, .int .i64 a0_2, .int .i64 a0_3, .int .i64 a0_4, .int .u8 a0_5, .int .i64 a0_6, .slice A0_7 l0_7.length c0_7, .bool a0_8, .bool a0_9], .int .i64 x4_2] rfl (by (try simp only [List.map_toArray, List.map_cons, List.map_nil]); first | done | rfl | (simp only [List.length_drop, List.length_take]; rfl)) ?_; (with_reducible refine (joustref06_one.calls k2 _ _ l0_0 _ _ l0_1 a0_2 a0_3 a0_4 a0_5 a0_6 _ _ l0_7 a0_8 a0_9 x4_2 false _ ?side1 ?side2 ?side3 ?side4 ?side5 ?side6 A19.out).mono ?_); (case side1 => repeat (first | exact (Kd.C_below HR0_0.out HB.out) | (with_reducible refine Kd.C_alloc ?_ _) | (with_reducible refine Kd.C_drewN ?_ _) | (with_reducible refine Kd.C_drew ?_))); (case side2 => exact HC0_0.out); (case side3 => repeat (first | exact (Kd.C_below HR0_1.out HB.out) | (with_reducible refine Kd.C_alloc ?_ _) | (with_reducible refine Kd.C_drewN ?_ _) | (with_reducible refine Kd.C_drew ?_))); (case side4 => exact HC0_1.out); (case side5 => repeat (first | exact (Kd.C_below HR0_7.out HB.out) | (with_reducible refine Kd.C_alloc ?_ _) | (with_reducible refine Kd.C_drewN ?_ _) | (with_reducible refine Kd.C_drew ?_))); (case side6 => exact HC0_7.out); rintro e w94 ⟨rfl, hb⟩; refine ⟨_, rfl, ?_⟩; have n0_ := Az (blk_below (g := gb136) (o := .cells #[.slice A0_0 l0_0.length c0_0, .slice A0_1 l0_1.length c0_1, .int .i64 a0_2, .int .i64 a0_3, .int .i64 a0_4, .int .u8 a0_5, .int .i64 a0_6, .slice A0_7 l0_7.length c0_7, .bool a0_8, .bool a0_9] 28 (0, 0)) of_lies hb); have n1_ := Az (below_step (low HB) hb); clear BK136; clear HB; have BK136 := n0_; have HB := n1_; clear n0_ n1_; (try clear hb); (try clear hb2); (try clear hk); (try clear hi)))
        go_ret
        exact ⟨by first | rfl | (simp [errW_none, errW_some] <;> rfl) | (simp [*, errW_none, errW_some] <;> rfl), low HB⟩
      ·
       rw [if_neg c18] at H
       have c18b0 : decide (x4_2 < (l0_1.length : Int)) = false := decide_eq_false c18
       clear c18
       obtain rfl := Option.some.inj H
       have hcz95_0 : wr.cell? ⟨gb136, 0, none⟩ = some (.slice A0_0 l0_0.length c0_0) := (blk_cell BK136.out 0).trans rfl
       have hcz95_1 : wr.cell? ⟨gb136, 1, none⟩ = some (.slice A0_1 l0_1.length c0_1) := (blk_cell BK136.out 1).trans rfl
       have hcz95_2 : wr.cell? ⟨gb136, 2, none⟩ = some (.int .i64 a0_2) := (blk_cell BK136.out 2).trans rfl
       have hcz95_3 : wr.cell? ⟨gb136, 3, none⟩ = some (.int .i64 a0_3) := (blk_cell BK136.out 3).trans rfl
       have hcz95_4 : wr.cell? ⟨gb136, 4, none⟩ = some (.int .i64 a0_4) := (blk_cell BK136.out 4).trans rfl
       have hcz95_5 : wr.cell? ⟨gb136, 5, none⟩ = some (.int .u8 a0_5) := (blk_cell BK136.out 5).trans rfl
       have hcz95_6 : wr.cell? ⟨gb136, 6, none⟩ = some (.int .i64 a0_6) := (blk_cell BK136.out 6).trans rfl
       have hcz95_7 : wr.cell? ⟨gb136, 7, none⟩ = some (.slice A0_7 l0_7.length c0_7) := (blk_cell BK136.out 7).trans rfl
       have hcz95_8 : wr.cell? ⟨gb136, 8, none⟩ = some (.bool a0_8) := (blk_cell BK136.out 8).trans rfl
       have hcz95_9 : wr.cell? ⟨gb136, 9, none⟩ = some (.bool a0_9) := (blk_cell BK136.out 9).trans rfl
       have hfz95_0 := blk_frozen BK136.out 0
       have hfz95_1 := blk_frozen BK136.out 1
       have hfz95_2 := blk_frozen BK136.out 2
       have hfz95_3 := blk_frozen BK136.out 3
       have hfz95_4 := blk_frozen BK136.out 4
       have hfz95_5 := blk_frozen BK136.out 5
       have hfz95_6 := blk_frozen BK136.out 6
       have hfz95_7 := blk_frozen BK136.out 7
       have hfz95_8 := blk_frozen BK136.out 8
       have hfz95_9 := blk_frozen BK136.out 9
       go_wp2
       go_ret
       exact ⟨by first | rfl | (simp [errW_none, errW_some] <;> rfl) | (simp [*, errW_none, errW_some] <;> rfl), low HB⟩
end Go.Proofs.Ytlldpdhajddmiaa.Pmgb
end
section
namespace Go.Proofs.Ytlldpdhajddmiaa.Pmgb
open Go.RowKit Go.Proofs.Ytlldpdhajddmiaa.Pmga Go.Proofs.Ytlldpdhajddmiaa.Base Go.Proofs.YtlldpdhajddmiaaW.PrintWords Go.Proofs.YtlldpdhajddmiaaW.PrintLast Go.Proofs.YtlldpdhajddmiaaW.PrintMore
attribute [local go_sem] max2_int min2_int max_two min_two max_three min_three max_four min_four   -- for this text's walks alone
set_option linter.unusedVariables false
set_option linter.unusedSimpArgs false
def might_known.f (k : Nat) (l0_0 : List (S97)) (l0_1 : List (S35)) (a0_2 : Int) (a0_3 : Int) (a0_4 : Int) (a0_5 : Int) (a0_6 : Int) (l0_7 : List (S58)) (a0_8 : Bool) (a0_9 : Bool) (a1 : Int) : Option (Bool) := if a1 ≥ 0 then (if a1 < (l0_1.length : Int) then ((board_May.f k l0_0 l0_1 a0_2 a0_3 a0_4 a0_5 a0_6 l0_7 a0_8 a0_9).bind fun t102 => (some t102)) else (some false)) else (some false)
theorem might_known.mono : ∀ a0 a1 a2 a3 a4 a5 a6 a7 a8 a9 a10 k, LeO (might_known.f k a0 a1 a2 a3 a4 a5 a6 a7 a8 a9 a10) (might_known.f (k + 1) a0 a1 a2 a3 a4 a5 a6 a7 a8 a9 a10) := by
 intro a0 a1 a2 a3 a4 a5 a6 a7 a8 a9 a10 k
 unfold might_known.f
 repeat' first
   | (with_reducible exact board_May.mono _ _ _ _ _ _ _ _ _ _ _)
   | (with_reducible exact LeO.refl _)
   | (with_reducible exact LeO.none _)
   | (with_reducible refine LeO.ite ?_ ?_)
   | (with_reducible refine LeO.bind ?_ (fun _ => ?_))
   | exact board_May.mono _ _ _ _ _ _ _ _ _ _ _
   | exact LeO.none _
   | refine LeO.ite ?_ ?_
   | refine LeO.bind ?_ (fun _ => ?_)
set_option maxHeartbeats 8000000 in
set_option maxRecDepth 100000 in
theorem might_known.calls (k : Nat) (A0_0 : Option Addr) (c0_0 : Nat) (l0_0 : List (S97)) (A0_1 : Option Addr) (c0_1 : Nat) (l0_1 : List (S35)) (a0_2 : Int) (a0_3 : Int) (a0_4 : Int) (a0_5 : Int) (a0_6 : Int) (A0_7 : Option Addr) (c0_7 : Nat) (l0_7 : List (S58)) (a0_8 : Bool) (a0_9 : Bool) (a1 : Int) (r : Bool) (w : World) (hr0_0 : Kd.C k97 w A0_0 l0_0.length l0_0) (hc0_0 : l0_0.length ≤ c0_0) (hr0_1 : Kd.C k35 w A0_1 l0_1.length l0_1) (hc0_1 : l0_1.length ≤ c0_1) (hr0_7 : Kd.C k58 w A0_7 l0_7.length l0_7) (hc0_7 : l0_7.length ≤ c0_7) (h : might_known.f k l0_0 l0_1 a0_2 a0_3 a0_4 a0_5 a0_6 l0_7 a0_8 a0_9 a1 = some r) :
  Calls Try.prog 65 #[.agg #[.slice A0_0 l0_0.length c0_0, .slice A0_1 l0_1.length c0_1, .int .i64 a0_2, .int .i64 a0_3, .int .i64 a0_4, .int .u8 a0_5, .int .i64 a0_6, .slice A0_7 l0_7.length c0_7, .bool a0_8, .bool a0_9], .int .i64 a1] w fun e w' => e = .returned (.bool r) ∧ Below w.heap.size w w' := by
 have hu28 := Try.underlying28
 have HR0_0 := Az hr0_0
 have HC0_0 := Az hc0_0
 clear hr0_0 hc0_0
 have HR0_1 := Az hr0_1
 have HC0_1 := Az hc0_1
 clear hr0_1 hc0_1
 have HR0_7 := Az hr0_7
 have HC0_7 := Az hc0_7
 clear hr0_7 hc0_7
 have HB := Az (Below.refl w.heap.size w)
 have H : (if a1 ≥ 0 then (if a1 < (l0_1.length : Int) then ((board_May.f k l0_0 l0_1 a0_2 a0_3 a0_4 a0_5 a0_6 l0_7 a0_8 a0_9).bind fun t102 => (some t102)) else (some false)) else (some false)) = some r := h
 clear h
 by_cases c3 : a1 ≥ 0
 ·
  rw [if_pos c3] at H
  have c3b0 : decide (0 ≤ a1) = true := decide_eq_true c3
  clear c3
  by_cases c4 : a1 < (l0_1.length : Int)
  ·
   rw [if_pos c4] at H
   have c4b0 : decide (a1 < (l0_1.length : Int)) = true := decide_eq_true c4
   clear c4
   replace H := Option.bind_eq_some_iff.mp H
   obtain ⟨t102, A50, H⟩ := H
   replace H : (some t102) = some r := H
   have A5 := Az A50
   clear A50
   obtain rfl := Option.some.inj H
   go_enter Try.func65, Try.ntmps65
   go_wp2_with (first | ((with_reducible refine gate_dst (N := 2) rfl ?_); (try (refine gate_guard (by rfl) ?_; dsimp only)); refine box_event ?hg (N := 2) ?hd (cs := #[.slice A0_0 l0_0.length c0_0, .slice A0_1 l0_1.length c0_1, .int .i64 a0_2, .int .i64 a0_3, .int .i64 a0_4, .int .u8 a0_5, .int .i64 a0_6, .slice A0_7 l0_7.length c0_7, .bool a0_8, .bool a0_9]) (t := 28) ?hr ?_; (case hd => rfl); (case hg => rfl); (case hr => first | (go_simp; done) | (go_simp; rfl)); intro gb101 hg w6 hbox hb; have n0_ := Az (below_step (low HB) hb); have n1_ := Az (hbox); have n2_ := Az ((by rw [hg]; exact (below_size (low HB)) : w.heap.size ≤ gb101)); have n3_ := Az ((by rw [hg]; exact (below_size (low HB)) : w.heap.size ≤ gb101)); clear HB; have HB := n0_; have BK101 := n1_; have GW101 := n2_; have GE101 := n3_; clear n0_ n1_ n2_ n3_; clear hb hbox hg; have hcz7_0 : w6.cell? ⟨gb101, 0, none⟩ = some (.slice A0_0 l0_0.length c0_0) := (blk_cell BK101.out 0).trans rfl; have hcz7_1 : w6.cell? ⟨gb101, 1, none⟩ = some (.slice A0_1 l0_1.length c0_1) := (blk_cell BK101.out 1).trans rfl; have hcz7_2 : w6.cell? ⟨gb101, 2, none⟩ = some (.int .i64 a0_2) := (blk_cell BK101.out 2).trans rfl; have hcz7_3 : w6.cell? ⟨gb101, 3, none⟩ = some (.int .i64 a0_3) := (blk_cell BK101.out 3).trans rfl; have hcz7_4 : w6.cell? ⟨gb101, 4, none⟩ = some (.int .i64 a0_4) := (blk_cell BK101.out 4).trans rfl; have hcz7_5 : w6.cell? ⟨gb101, 5, none⟩ = some (.int .u8 a0_5) := (blk_cell BK101.out 5).trans rfl; have hcz7_6 : w6.cell? ⟨gb101, 6, none⟩ = some (.int .i64 a0_6) := (blk_cell BK101.out 6).trans rfl; have hcz7_7 : w6.cell? ⟨gb101, 7, none⟩ = some (.slice A0_7 l0_7.length c0_7) := (blk_cell BK101.out 7).trans rfl; have hcz7_8 : w6.cell? ⟨gb101, 8, none⟩ = some (.bool a0_8) := (blk_cell BK101.out 8).trans rfl; have hcz7_9 : w6.cell? ⟨gb101, 9, none⟩ = some (.bool a0_9) := (blk_cell BK101.out 9).trans rfl; have hfz7_0 := blk_frozen BK101.out 0; have hfz7_1 := blk_frozen BK101.out 1; have hfz7_2 := blk_frozen BK101.out 2; have hfz7_3 := blk_frozen BK101.out 3; have hfz7_4 := blk_frozen BK101.out 4; have hfz7_5 := blk_frozen BK101.out 5; have hfz7_6 := blk_frozen BK101.out 6; have hfz7_7 := blk_frozen BK101.out 7; have hfz7_8 := blk_frozen BK101.out 8; have hfz7_9 := blk_frozen BK101.out 9) | (go_at_call 41; (with_reducible refine (board_May.calls k _ _ l0_0 _ _ l0_1 a0_2 a0_3 a0_4 a0_5 a0_6 _ _ l0_7 a0_8 a0_9 t102 _ ?side1 ?side2 ?side3 ?side4 ?side5 ?side6 A5.out).mono ?_); (case side1 => repeat (first | exact (Kd.C_below HR0_0.out HB.out) | (with_reducible refine Kd.C_alloc ?_ _) | (with_reducible refine Kd.C_drewN ?_ _) | (with_reducible refine Kd.C_drew ?_))); (case side2 => exact HC0_0.out); (case side3 => repeat (first | exact (Kd.C_below HR0_1.out HB.out) | (with_reducible refine Kd.C_alloc ?_ _) | (with_reducible refine Kd.C_drewN ?_ _) | (with_reducible refine Kd.C_drew ?_))); (case side4 => exact HC0_1.out); (case side5 => repeat (first | exact (Kd.C_below HR0_7.out HB.out) | (with_reducible refine Kd.C_alloc ?_ _) | (with_reducible refine Kd.C_drewN ?_ _) | (with_reducible refine Kd.C_drew ?_))); (case side6 => exact HC0_7.out); rintro e w8 ⟨rfl, hb⟩; have n0_ := Az (blk_below (g := gb101) (o := .cells #[.slice A0_0 l0_0.length c0_0, .slice A0_1 l0_1.length c0_1, .int .i64 a0_2, .int .i64 a0_3, .int .i64 a0_4, .int .u8 a0_5, .int .i64 a0_6, .slice A0_7 l0_7.length c0_7, .bool a0_8, .bool a0_9] 28 (0, 0)) of_lies hb); have n1_ := Az (below_step (low HB) hb); clear BK101; clear HB; have BK101 := n0_; have HB := n1_; clear n0_ n1_; (try clear hb); (try clear hb2); (try clear hk); (try clear hi)))
   go_ret
   exact ⟨by first | rfl | (simp [errW_none, errW_some] <;> rfl) | (simp [*, errW_none, errW_some] <;> rfl), low HB⟩
  ·
   rw [if_neg c4] at H
   have c4b0 : decide (a1 < (l0_1.length : Int)) = false := decide_eq_false c4
   clear c4
   obtain rfl := Option.some.inj H
   go_enter Try.func65, Try.ntmps65
   go_wp2_with (first | ((with_reducible refine gate_dst (N := 2) rfl ?_); (try (refine gate_guard (by rfl) ?_; dsimp only)); refine box_event ?hg (N := 2) ?hd (cs := #[.slice A0_0 l0_0.length c0_0, .slice A0_1 l0_1.length c0_1, .int .i64 a0_2, .int .i64 a0_3, .int .i64 a0_4, .int .u8 a0_5, .int .i64 a0_6, .slice A0_7 l0_7.length c0_7, .bool a0_8, .bool a0_9]) (t := 28) ?hr ?_; (case hd => rfl); (case hg => rfl); (case hr => first | (go_simp; done) | (go_simp; rfl)); intro gb101 hg w9 hbox hb; have n0_ := Az (below_step (low HB) hb); have n1_ := Az (hbox); have n2_ := Az ((by rw [hg]; exact (below_size (low HB)) : w.heap.size ≤ gb101)); have n3_ := Az ((by rw [hg]; exact (below_size (low HB)) : w.heap.size ≤ gb101)); clear HB; have HB := n0_; have BK101 := n1_; have GW101 := n2_; have GE101 := n3_; clear n0_ n1_ n2_ n3_; clear hb hbox hg; have hcz10_0 : w9.cell? ⟨gb101, 0, none⟩ = some (.slice A0_0 l0_0.length c0_0) := (blk_cell BK101.out 0).trans rfl; have hcz10_1 : w9.cell? ⟨gb101, 1, none⟩ = some (.slice A0_1 l0_1.length c0_1) := (blk_cell BK101.out 1).trans rfl; have hcz10_2 : w9.cell? ⟨gb101, 2, none⟩ = some (.int .i64 a0_2) := (blk_cell BK101.out 2).trans rfl; have hcz10_3 : w9.cell? ⟨gb101, 3, none⟩ = some (.int .i64 a0_3) := (blk_cell BK101.out 3).trans rfl; have hcz10_4 : w9.cell? ⟨gb101, 4, none⟩ = some (.int .i64 a0_4) := (blk_cell BK101.out 4).trans rfl; have hcz10_5 : w9.cell? ⟨gb101, 5, none⟩ = some (.int .u8 a0_5) := (blk_cell BK101.out 5).trans rfl; have hcz10_6 : w9.cell? ⟨gb101, 6, none⟩ = some (.int .i64 a0_6) := (blk_cell BK101.out 6).trans rfl; have hcz10_7 : w9.cell? ⟨gb101, 7, none⟩ = some (.slice A0_7 l0_7.length c0_7) := (blk_cell BK101.out 7).trans rfl; have hcz10_8 : w9.cell? ⟨gb101, 8, none⟩ = some (.bool a0_8) := (blk_cell BK101.out 8).trans rfl; have hcz10_9 : w9.cell? ⟨gb101, 9, none⟩ = some (.bool a0_9) := (blk_cell BK101.out 9).trans rfl; have hfz10_0 := blk_frozen BK101.out 0; have hfz10_1 := blk_frozen BK101.out 1; have hfz10_2 := blk_frozen BK101.out 2; have hfz10_3 := blk_frozen BK101.out 3; have hfz10_4 := blk_frozen BK101.out 4; have hfz10_5 := blk_frozen BK101.out 5; have hfz10_6 := blk_frozen BK101.out 6; have hfz10_7 := blk_frozen BK101.out 7; have hfz10_8 := blk_frozen BK101.out 8; have hfz10_9 := blk_frozen BK101.out 9))
   go_ret
   exact ⟨by first | rfl | (simp [errW_none, errW_some] <;> rfl) | (simp [*, errW_none, errW_some] <;> rfl), low HB⟩
 ·
  rw [if_neg c3] at H
  have c3b0 : decide (0 ≤ a1) = false := decide_eq_false c3
  clear c3
  obtain rfl := Option.some.inj H
  go_enter Try.func65, Try.ntmps65
  go_wp2_with (first | ((with_reducible refine gate_dst (N := 2) rfl ?_); (try (refine gate_guard (by rfl) ?_; dsimp only)); refine box_event ?hg (N := 2) ?hd (cs := #[.slice A0_0 l0_0.length c0_0, .slice A0_1 l0_1.length c0_1, .int .i64 a0_2, .int .i64 a0_3, .int .i64 a0_4, .int .u8 a0_5, .int .i64 a0_6, .slice A0_7 l0_7.length c0_7, .bool a0_8, .bool a0_9]) (t := 28) ?hr ?_; (case hd => rfl); (case hg => rfl); (case hr => first | (go_simp; done) | (go_simp; rfl)); intro gb101 hg w11 hbox hb; have n0_ := Az (below_step (low HB) hb); have n1_ := Az (hbox); have n2_ := Az ((by rw [hg]; exact (below_size (low HB)) : w.heap.size ≤ gb101)); have n3_ := Az ((by rw [hg]; exact (below_size (low HB)) : w.heap.size ≤ gb101)); clear HB; have HB := n0_; have BK101 := n1_; have GW101 := n2_; have GE101 := n3_; clear n0_ n1_ n2_ n3_; clear hb hbox hg))
  go_ret
  exact ⟨by first | rfl | (simp [errW_none, errW_some] <;> rfl) | (simp [*, errW_none, errW_some] <;> rfl), low HB⟩
end Go.Proofs.Ytlldpdhajddmiaa.Pmgb
end
