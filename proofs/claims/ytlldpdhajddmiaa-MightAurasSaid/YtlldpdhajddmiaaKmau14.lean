/- Joined by a program of this session (pack.py) out of: Pmgux0 Pmgux2 -/
import Derived.ArgAppend
import Derived.Below
import Derived.BigQuiet
import Derived.Deep.AppendLies
import Derived.Deep.CutBlock
import Derived.Deep.DeepCutAuto
import Derived.Deep.Draws
import Derived.Deep.LoopGhost
import Derived.Deep.OwnRows
import Derived.Deep.QuietTactic
import Derived.Deep.RegionHeld3
import Derived.KernelRfl
import Derived.Laws.BitsLemmas
import Derived.Laws.BytesArg
import Derived.Laws.IdiomCopy
import Derived.Laws.MakeOwn
import Derived.Laws.OwnMore
import Derived.Laws.Rows
import Derived.Laws.Slices
import Derived.Lib.AppendStr
import Derived.Lib.ConvBytes
import Derived.Maps.AppendAt
import Derived.OrdersHeld
import Derived.OwnWalk
import Derived.RowKit
import Derived.RowKit3
import Derived.Tactics
import Derived.Test.YtlldpdhajddmiaaProg
import Derived.WalkKit
import Derived.WideLaws
import Derived.Test.YtlldpdhajddmiaaKmau1
import Derived.Test.YtlldpdhajddmiaaKmau5
import Derived.Test.YtlldpdhajddmiaaKmau13
section
namespace Go.Proofs.Ytlldpdhajddmiaa.Pmgu
open Go.RowKit Go.Proofs.Ytlldpdhajddmiaa.Pmgc Go.Proofs.Ytlldpdhajddmiaa.Pmga Go.Proofs.Ytlldpdhajddmiaa.Base Go.Proofs.YtlldpdhajddmiaaW.PrintWords Go.Proofs.YtlldpdhajddmiaaW.PrintLast Go.Proofs.YtlldpdhajddmiaaW.PrintMore
attribute [local go_sem] max2_int min2_int max_two min_two max_three min_three max_four min_four   -- for this text's walks alone
set_option linter.unusedVariables false
set_option linter.unusedSimpArgs false
def errW : Option Int → Value
  | none => .nilIface
  | some c => .iface 0 (.int .i64 c)
theorem errW_none : errW none = .nilIface := rfl
theorem errW_some (c : Int) : errW (some c) = .iface 0 (.int .i64 c) := rfl
def rd_L5 (xs : List (List S70)) (i : Int) : (List S70) := xs.getD i.toNat ([] : List S70)
theorem at_L5 {w : World} {A : Option Addr} {n : Nat} {xs : List (List S70)} (h : Kd.C (Kd.slice 70 k70) w A n xs) (i : Int) (h0 : 0 ≤ i) (h1 : i < n) : ∃ ad A0 c0, A = some ad ∧ w.cell? (ad.add i.toNat) = some (.slice A0 (rd_L5 xs i).length c0) ∧ (rd_L5 xs i).length ≤ c0 ∧ k70.C w A0 (rd_L5 xs i).length (rd_L5 xs i) := by
  obtain ⟨ad, c, e, _, hK, hc0⟩ := Kd.C_get h ([] : List S70) i h0 h1
  have hc : ∀ j u, c[j]? = some u → w.cell? (ad.add (i.toNat * 1 + j)) = some u := hc0
  obtain ⟨A0, c0, rfl, l0, g0⟩ := hK
  exact ⟨ad, A0, c0, e, by have hq := hc 0 _ rfl; rwa [Nat.mul_one, Nat.add_zero] at hq, l0, g0⟩
def rd_L8 (xs : List (List S107)) (i : Int) : (List S107) := xs.getD i.toNat ([] : List S107)
theorem at_L8 {w : World} {A : Option Addr} {n : Nat} {xs : List (List S107)} (h : Kd.C (Kd.slice 107 k107) w A n xs) (i : Int) (h0 : 0 ≤ i) (h1 : i < n) : ∃ ad A0 c0, A = some ad ∧ w.cell? (ad.add i.toNat) = some (.slice A0 (rd_L8 xs i).length c0) ∧ (rd_L8 xs i).length ≤ c0 ∧ k107.C w A0 (rd_L8 xs i).length (rd_L8 xs i) := by
  obtain ⟨ad, c, e, _, hK, hc0⟩ := Kd.C_get h ([] : List S107) i h0 h1
  have hc : ∀ j u, c[j]? = some u → w.cell? (ad.add (i.toNat * 1 + j)) = some u := hc0
  obtain ⟨A0, c0, rfl, l0, g0⟩ := hK
  exact ⟨ad, A0, c0, e, by have hq := hc 0 _ rfl; rwa [Nat.mul_one, Nat.add_zero] at hq, l0, g0⟩
def rd_L10 (xs : List (List S88)) (i : Int) : (List S88) := xs.getD i.toNat ([] : List S88)
theorem at_L10 {w : World} {A : Option Addr} {n : Nat} {xs : List (List S88)} (h : Kd.C (Kd.slice 88 k88) w A n xs) (i : Int) (h0 : 0 ≤ i) (h1 : i < n) : ∃ ad A0 c0, A = some ad ∧ w.cell? (ad.add i.toNat) = some (.slice A0 (rd_L10 xs i).length c0) ∧ (rd_L10 xs i).length ≤ c0 ∧ k88.C w A0 (rd_L10 xs i).length (rd_L10 xs i) := by
  obtain ⟨ad, c, e, _, hK, hc0⟩ := Kd.C_get h ([] : List S88) i h0 h1
  have hc : ∀ j u, c[j]? = some u → w.cell? (ad.add (i.toNat * 1 + j)) = some u := hc0
  obtain ⟨A0, c0, rfl, l0, g0⟩ := hK
  exact ⟨ad, A0, c0, e, by have hq := hc 0 _ rfl; rwa [Nat.mul_one, Nat.add_zero] at hq, l0, g0⟩
def rd_L12 (xs : List (List S97)) (i : Int) : (List S97) := xs.getD i.toNat ([] : List S97)
theorem at_L12 {w : World} {A : Option Addr} {n : Nat} {xs : List (List S97)} (h : Kd.C (Kd.slice 97 k97) w A n xs) (i : Int) (h0 : 0 ≤ i) (h1 : i < n) : ∃ ad A0 c0, A = some ad ∧ w.cell? (ad.add i.toNat) = some (.slice A0 (rd_L12 xs i).length c0) ∧ (rd_L12 xs i).length ≤ c0 ∧ k97.C w A0 (rd_L12 xs i).length (rd_L12 xs i) := by
  obtain ⟨ad, c, e, _, hK, hc0⟩ := Kd.C_get h ([] : List S97) i h0 h1
  have hc : ∀ j u, c[j]? = some u → w.cell? (ad.add (i.toNat * 1 + j)) = some u := hc0
  obtain ⟨A0, c0, rfl, l0, g0⟩ := hK
  exact ⟨ad, A0, c0, e, by have hq := hc 0 _ rfl; rwa [Nat.mul_one, Nat.add_zero] at hq, l0, g0⟩
def rd_L14 (xs : List (List S35)) (i : Int) : (List S35) := xs.getD i.toNat ([] : List S35)
theorem at_L14 {w : World} {A : Option Addr} {n : Nat} {xs : List (List S35)} (h : Kd.C (Kd.slice 35 k35) w A n xs) (i : Int) (h0 : 0 ≤ i) (h1 : i < n) : ∃ ad A0 c0, A = some ad ∧ w.cell? (ad.add i.toNat) = some (.slice A0 (rd_L14 xs i).length c0) ∧ (rd_L14 xs i).length ≤ c0 ∧ k35.C w A0 (rd_L14 xs i).length (rd_L14 xs i) := by
  obtain ⟨ad, c, e, _, hK, hc0⟩ := Kd.C_get h ([] : List S35) i h0 h1
  have hc : ∀ j u, c[j]? = some u → w.cell? (ad.add (i.toNat * 1 + j)) = some u := hc0
  obtain ⟨A0, c0, rfl, l0, g0⟩ := hK
  exact ⟨ad, A0, c0, e, by have hq := hc 0 _ rfl; rwa [Nat.mul_one, Nat.add_zero] at hq, l0, g0⟩
def rd_L17 (xs : List (List S58)) (i : Int) : (List S58) := xs.getD i.toNat ([] : List S58)
theorem at_L17 {w : World} {A : Option Addr} {n : Nat} {xs : List (List S58)} (h : Kd.C (Kd.slice 58 k58) w A n xs) (i : Int) (h0 : 0 ≤ i) (h1 : i < n) : ∃ ad A0 c0, A = some ad ∧ w.cell? (ad.add i.toNat) = some (.slice A0 (rd_L17 xs i).length c0) ∧ (rd_L17 xs i).length ≤ c0 ∧ k58.C w A0 (rd_L17 xs i).length (rd_L17 xs i) := by
  obtain ⟨ad, c, e, _, hK, hc0⟩ := Kd.C_get h ([] : List S58) i h0 h1
  have hc : ∀ j u, c[j]? = some u → w.cell? (ad.add (i.toNat * 1 + j)) = some u := hc0
  obtain ⟨A0, c0, rfl, l0, g0⟩ := hK
  exact ⟨ad, A0, c0, e, by have hq := hc 0 _ rfl; rwa [Nat.mul_one, Nat.add_zero] at hq, l0, g0⟩
end Go.Proofs.Ytlldpdhajddmiaa.Pmgu
end
section
namespace Go.Proofs.Ytlldpdhajddmiaa.Pmgu
open Go.RowKit Go.Proofs.Ytlldpdhajddmiaa.Pmgc Go.Proofs.Ytlldpdhajddmiaa.Pmga Go.Proofs.Ytlldpdhajddmiaa.Base Go.Proofs.YtlldpdhajddmiaaW.PrintWords Go.Proofs.YtlldpdhajddmiaaW.PrintLast Go.Proofs.YtlldpdhajddmiaaW.PrintMore
attribute [local go_sem] max2_int min2_int max_two min_two max_three min_three max_four min_four   -- for this text's walks alone
set_option linter.unusedVariables false
set_option linter.unusedSimpArgs false
mutual
def joustlaw07_MightAuras.j0 : Nat → Int → Int → Bool → List (S97) → List (S35) → Int → Int → Int → Int → Int → List (S58) → Bool → Bool → Option (Bool)
 | 0, _, _, _, _, _, _, _, _, _, _, _, _, _ => none
 | k + 1, x1, x2, x30, x102000, x102001, x102002, x102003, x102004, x102005, x102006, x102007, x102008, x102009 => if x30 = true then ((might_Attack.f k ([] : List (S97)) ([] : List (S35)) 0 0 0 0 0 ([] : List (S58)) false false x1).bind fun t104 => (if t104 = 0 then ((joustlaw07_lives.f).bind fun t105 => (some t105)) else (none))) else ((Pmga.joustref06_Copy.f k x102000 x102001 x102002 x102003 x102004 x102005 x102006 x102007 x102008 x102009).bind fun bt106 => (joustlaw07_MightAuras.l0 k x1 x2 (bt106.2.1.length : Int) 0 x102000 x102001 x102002 x102003 x102004 x102005 x102006 x102007 x102008 x102009 bt106.1 bt106.2.1 bt106.2.2.1 bt106.2.2.2.1 bt106.2.2.2.2.1 bt106.2.2.2.2.2.1 bt106.2.2.2.2.2.2.1 bt106.2.2.2.2.2.2.2.1 bt106.2.2.2.2.2.2.2.2.1 bt106.2.2.2.2.2.2.2.2.2))
def joustlaw07_MightAuras.l0 : Nat → Int → Int → Int → Int → List (S97) → List (S35) → Int → Int → Int → Int → Int → List (S58) → Bool → Bool → List (S97) → List (S35) → Int → Int → Int → Int → Int → List (S58) → Bool → Bool → Option (Bool)
 | 0, _, _, _, _, _, _, _, _, _, _, _, _, _, _, _, _, _, _, _, _, _, _, _, _ => none
 | k + 1, x1, x2, x42, x43, x102000, x102001, x102002, x102003, x102004, x102005, x102006, x102007, x102008, x102009, x123000, x123001, x123002, x123003, x123004, x123005, x123006, x123007, x123008, x123009 => if x43 < x42 then (if 0 ≤ x43 then (if x43 < (x123001.length : Int) then (joustlaw07_MightAuras.l0 k x1 x2 x42 (wrap64 (x43 + 1)) x102000 x102001 x102002 x102003 x102004 x102005 x102006 x102007 x102008 x102009 x123000 (x123001.set (x43 : Int).toNat (⟨(rd_T35 x123001 x43).f0, (rd_T35 x123001 x43).f1, (rd_T35 x123001 x43).f2, (rd_T35 x123001 x43).f3, (rd_T35 x123001 x43).f4, (rd_T35 x123001 x43).f5, (rd_T35 x123001 x43).f6, false, (rd_T35 x123001 x43).f8, (rd_T35 x123001 x43).f9, (rd_T35 x123001 x43).f10, (rd_T35 x123001 x43).f11, (rd_T35 x123001 x43).f12, (rd_T35 x123001 x43).f13⟩ : S35)) x123002 x123003 x123004 x123005 x123006 x123007 x123008 x123009) else (none)) else (none)) else (if 0 ≤ x1 then (if x1 < (x102001.length : Int) then ((might_Attack.f k x102000 x102001 x102002 x102003 x102004 x102005 x102006 x102007 x102008 x102009 x1).bind fun t126 => ((might_Attack.f k x123000 x123001 x123002 x123003 x123004 x123005 x123006 x123007 x123008 x123009 x1).bind fun t127 => (if t127 = (mn (mx (wrap64 (((rd_T35 x102001 x1).f1) + (mn (mx ((rd_T35 x102001 x1).f13) (-99999)) 99999))) 0) 99999) then (if t126 < (mn (mx (wrap64 (((rd_T35 x102001 x1).f1) + (mn (mx ((rd_T35 x102001 x1).f13) (-99999)) 99999))) 0) 99999) then (joustlaw07_MightAuras.j2 k x1 x2 t126 true x102000 x102001 x102002 x102003 x102004 x102005 x102006 x102007 x102008 x102009) else (if t126 > 99999 then (joustlaw07_MightAuras.j2 k x1 x2 t126 true x102000 x102001 x102002 x102003 x102004 x102005 x102006 x102007 x102008 x102009) else (if ((rd_T35 x102001 x1).f5) = 2 then (joustlaw07_MightAuras.j2 k x1 x2 t126 false x102000 x102001 x102002 x102003 x102004 x102005 x102006 x102007 x102008 x102009) else (joustlaw07_MightAuras.j2 k x1 x2 t126 (t126 != (mn (mx (wrap64 (((rd_T35 x102001 x1).f1) + (mn (mx ((rd_T35 x102001 x1).f13) (-99999)) 99999))) 0) 99999)) x102000 x102001 x102002 x102003 x102004 x102005 x102006 x102007 x102008 x102009)))) else (joustlaw07_MightAuras.j2 k x1 x2 t126 true x102000 x102001 x102002 x102003 x102004 x102005 x102006 x102007 x102008 x102009)))) else (none)) else (none))
def joustlaw07_MightAuras.j2 : Nat → Int → Int → Int → Bool → List (S97) → List (S35) → Int → Int → Int → Int → Int → List (S58) → Bool → Bool → Option (Bool)
 | 0, _, _, _, _, _, _, _, _, _, _, _, _, _, _ => none
 | k + 1, x1, x2, x11, x92, x102000, x102001, x102002, x102003, x102004, x102005, x102006, x102007, x102008, x102009 => if x92 = true then (none) else (if x2 < 0 then (joustlaw07_MightAuras.j3 k x1 x2 x11 true x102000 x102001 x102002 x102003 x102004 x102005 x102006 x102007 x102008 x102009) else (joustlaw07_MightAuras.j3 k x1 x2 x11 (decide (x2 ≥ (x102001.length : Int))) x102000 x102001 x102002 x102003 x102004 x102005 x102006 x102007 x102008 x102009))
def joustlaw07_MightAuras.j3 : Nat → Int → Int → Int → Bool → List (S97) → List (S35) → Int → Int → Int → Int → Int → List (S58) → Bool → Bool → Option (Bool)
 | 0, _, _, _, _, _, _, _, _, _, _, _, _, _, _ => none
 | k + 1, x1, x2, x11, x101, x102000, x102001, x102002, x102003, x102004, x102005, x102006, x102007, x102008, x102009 => if x101 = true then ((joustlaw07_lives.f).bind fun t128 => (some t128)) else ((Pmga.joustref06_Copy.f k x102000 x102001 x102002 x102003 x102004 x102005 x102006 x102007 x102008 x102009).bind fun bt129 => (if 0 ≤ x2 then (if x2 < (bt129.2.1.length : Int) then ((might_Attack.f k bt129.1 (bt129.2.1.set (x2 : Int).toNat (⟨(rd_T35 bt129.2.1 x2).f0, (rd_T35 bt129.2.1 x2).f1, (rd_T35 bt129.2.1 x2).f2, (rd_T35 bt129.2.1 x2).f3, (rd_T35 bt129.2.1 x2).f4, (rd_T35 bt129.2.1 x2).f5, (rd_T35 bt129.2.1 x2).f6, true, (rd_T35 bt129.2.1 x2).f8, (rd_T35 bt129.2.1 x2).f9, (rd_T35 bt129.2.1 x2).f10, (rd_T35 bt129.2.1 x2).f11, (rd_T35 bt129.2.1 x2).f12, (rd_T35 bt129.2.1 x2).f13⟩ : S35)) bt129.2.2.1 bt129.2.2.2.1 bt129.2.2.2.2.1 bt129.2.2.2.2.2.1 bt129.2.2.2.2.2.2.1 bt129.2.2.2.2.2.2.2.1 bt129.2.2.2.2.2.2.2.2.1 bt129.2.2.2.2.2.2.2.2.2 x1).bind fun t147 => (if t147 ≥ x11 then ((joustlaw07_lives.f).bind fun t148 => (some t148)) else (none))) else (none)) else (none)))
end
def joustlaw07_MightAuras.f (k : Nat) (l0_0 : List (S97)) (l0_1 : List (S35)) (a0_2 : Int) (a0_3 : Int) (a0_4 : Int) (a0_5 : Int) (a0_6 : Int) (l0_7 : List (S58)) (a0_8 : Bool) (a0_9 : Bool) (a1 : Int) (a2 : Int) : Option (Bool) := (Pmga.joustlaw07_great.f k l0_0 l0_1 a0_2 a0_3 a0_4 a0_5 a0_6 l0_7 a0_8 a0_9).bind fun t102 => (if t102 = true then (joustlaw07_MightAuras.j0 k a1 a2 true l0_0 l0_1 a0_2 a0_3 a0_4 a0_5 a0_6 l0_7 a0_8 a0_9) else ((rmay.f k l0_0 l0_1 a0_2 a0_3 a0_4 a0_5 a0_6 l0_7 a0_8 a0_9).bind fun t103 => (if t103 = true then (if a1 < 0 then (joustlaw07_MightAuras.j0 k a1 a2 true l0_0 l0_1 a0_2 a0_3 a0_4 a0_5 a0_6 l0_7 a0_8 a0_9) else (joustlaw07_MightAuras.j0 k a1 a2 (decide (a1 ≥ (l0_1.length : Int))) l0_0 l0_1 a0_2 a0_3 a0_4 a0_5 a0_6 l0_7 a0_8 a0_9)) else (joustlaw07_MightAuras.j0 k a1 a2 true l0_0 l0_1 a0_2 a0_3 a0_4 a0_5 a0_6 l0_7 a0_8 a0_9))))
set_option maxHeartbeats 8000000 in
set_option maxRecDepth 100000 in
theorem joustlaw07_MightAuras.calls (k : Nat) (A0_0 : Option Addr) (c0_0 : Nat) (l0_0 : List (S97)) (A0_1 : Option Addr) (c0_1 : Nat) (l0_1 : List (S35)) (a0_2 : Int) (a0_3 : Int) (a0_4 : Int) (a0_5 : Int) (a0_6 : Int) (A0_7 : Option Addr) (c0_7 : Nat) (l0_7 : List (S58)) (a0_8 : Bool) (a0_9 : Bool) (a1 : Int) (a2 : Int) (r : Bool) (w : World) (hr0_0 : Kd.C k97 w A0_0 l0_0.length l0_0) (hc0_0 : l0_0.length ≤ c0_0) (hr0_1 : Kd.C k35 w A0_1 l0_1.length l0_1) (hc0_1 : l0_1.length ≤ c0_1) (hr0_7 : Kd.C k58 w A0_7 l0_7.length l0_7) (hc0_7 : l0_7.length ≤ c0_7) (h : joustlaw07_MightAuras.f k l0_0 l0_1 a0_2 a0_3 a0_4 a0_5 a0_6 l0_7 a0_8 a0_9 a1 a2 = some r) :
  Calls Try.prog 4 #[.agg #[.slice A0_0 l0_0.length c0_0, .slice A0_1 l0_1.length c0_1, .int .i64 a0_2, .int .i64 a0_3, .int .i64 a0_4, .int .u8 a0_5, .int .i64 a0_6, .slice A0_7 l0_7.length c0_7, .bool a0_8, .bool a0_9], .int .i64 a1, .int .i64 a2] w fun e w' => e = .returned (.bool r) ∧ Below w.heap.size w w' := by
 have hu28 := Try.underlying28
 have hu35 := Try.underlying35
 have HR0_0 := Az hr0_0
 have HC0_0 := Az hc0_0
 clear hr0_0 hc0_0
 have HR0_1 := Az hr0_1
 have HC0_1 := Az hc0_1
 clear hr0_1 hc0_1
 have HR0_7 := Az hr0_7
 have HC0_7 := Az hc0_7
 clear hr0_7 hc0_7
 have HB := Az (Below.refl w.heap.size w)
 have H : ((Pmga.joustlaw07_great.f k l0_0 l0_1 a0_2 a0_3 a0_4 a0_5 a0_6 l0_7 a0_8 a0_9).bind fun t102 => (if t102 = true then (joustlaw07_MightAuras.j0 k a1 a2 true l0_0 l0_1 a0_2 a0_3 a0_4 a0_5 a0_6 l0_7 a0_8 a0_9) else ((rmay.f k l0_0 l0_1 a0_2 a0_3 a0_4 a0_5 a0_6 l0_7 a0_8 a0_9).bind fun t103 => (if t103 = true then (if a1 < 0 then (joustlaw07_MightAuras.j0 k a1 a2 true l0_0 l0_1 a0_2 a0_3 a0_4 a0_5 a0_6 l0_7 a0_8 a0_9) else (joustlaw07_MightAuras.j0 k a1 a2 (decide (a1 ≥ (l0_1.length : Int))) l0_0 l0_1 a0_2 a0_3 a0_4 a0_5 a0_6 l0_7 a0_8 a0_9)) else (joustlaw07_MightAuras.j0 k a1 a2 true l0_0 l0_1 a0_2 a0_3 a0_4 a0_5 a0_6 l0_7 a0_8 a0_9))))) = some r := h
 clear h
 have HC4 := Az H
 clear H
 go_enter Try.func4, Try.ntmps4
 go_upto_region 1 with (first | ((with_reducible refine gate_dst (N := 3) rfl ?_); (try (refine gate_guard (by rfl) ?_; dsimp only)); refine box_event ?hg (N := 3) ?hd (cs := #[.slice A0_0 l0_0.length c0_0, .slice A0_1 l0_1.length c0_1, .int .i64 a0_2, .int .i64 a0_3, .int .i64 a0_4, .int .u8 a0_5, .int .i64 a0_6, .slice A0_7 l0_7.length c0_7, .bool a0_8, .bool a0_9]) (t := 28) ?hr ?_; (case hd => rfl); (case hg => rfl); (case hr => first | (go_simp; done) | (go_simp; rfl)); intro gb101 hg w5 hbox hb; have n0_ := Az (below_step (low HB) hb); have n1_ := Az (hbox); have n2_ := Az ((by rw [hg]; exact (below_size (low HB)) : w.heap.size ≤ gb101)); have n3_ := Az ((by rw [hg]; exact (below_size (low HB)) : w.heap.size ≤ gb101)); clear HB; have HB := n0_; have BK101 := n1_; have GW101 := n2_; have GE101 := n3_; clear n0_ n1_ n2_ n3_; clear hb hbox hg))
 (try simp only [Act.put, List.setIfInBounds_toArray, List.set_cons_zero, List.set_cons_succ])
 go_cut [30] (fun v30 wc => ∃ (kq : Nat) (x30_3 : Bool), v30 = .bool x30_3 ∧ Aside0 (joustlaw07_MightAuras.j0 kq a1 a2 x30_3 l0_0 l0_1 a0_2 a0_3 a0_4 a0_5 a0_6 l0_7 a0_8 a0_9 = some r) ∧ Aside0 (kq ≤ k) ∧ Aside0 (wc.heap[gb101]? = some (.cells #[(.slice A0_0 l0_0.length c0_0), (.slice A0_1 l0_1.length c0_1), .int .i64 a0_2, .int .i64 a0_3, .int .i64 a0_4, .int .u8 a0_5, .int .i64 a0_6, (.slice A0_7 l0_7.length c0_7), .bool a0_8, .bool a0_9] 28 (0, 0))) ∧ Aside0 (Below w.heap.size w wc))
 case first =>
  have H := HC4.out
  clear HC4
  replace H := Option.bind_eq_some_iff.mp H
  obtain ⟨t102, A60, H⟩ := H
  replace H : (if t102 = true then (joustlaw07_MightAuras.j0 k a1 a2 true l0_0 l0_1 a0_2 a0_3 a0_4 a0_5 a0_6 l0_7 a0_8 a0_9) else ((rmay.f k l0_0 l0_1 a0_2 a0_3 a0_4 a0_5 a0_6 l0_7 a0_8 a0_9).bind fun t103 => (if t103 = true then (if a1 < 0 then (joustlaw07_MightAuras.j0 k a1 a2 true l0_0 l0_1 a0_2 a0_3 a0_4 a0_5 a0_6 l0_7 a0_8 a0_9) else (joustlaw07_MightAuras.j0 k a1 a2 (decide (a1 ≥ (l0_1.length : Int))) l0_0 l0_1 a0_2 a0_3 a0_4 a0_5 a0_6 l0_7 a0_8 a0_9)) else (joustlaw07_MightAuras.j0 k a1 a2 true l0_0 l0_1 a0_2 a0_3 a0_4 a0_5 a0_6 l0_7 a0_8 a0_9)))) = some r := H
  have A6 := Az A60
  clear A60
  by_cases c7 : t102 = true
  ·
   subst c7
   have H1 : (joustlaw07_MightAuras.j0 k a1 a2 true l0_0 l0_1 a0_2 a0_3 a0_4 a0_5 a0_6 l0_7 a0_8 a0_9) = some r := by rw [if_pos rfl] at H; exact H
   clear H
   have H := H1
   clear H1
   have H' := Az H
   clear H
   have hcz8_0 : w5.cell? ⟨gb101, 0, none⟩ = some (.slice A0_0 l0_0.length c0_0) := (blk_cell BK101.out 0).trans rfl
   have hcz8_1 : w5.cell? ⟨gb101, 1, none⟩ = some (.slice A0_1 l0_1.length c0_1) := (blk_cell BK101.out 1).trans rfl
   have hcz8_2 : w5.cell? ⟨gb101, 2, none⟩ = some (.int .i64 a0_2) := (blk_cell BK101.out 2).trans rfl
   have hcz8_3 : w5.cell? ⟨gb101, 3, none⟩ = some (.int .i64 a0_3) := (blk_cell BK101.out 3).trans rfl
   have hcz8_4 : w5.cell? ⟨gb101, 4, none⟩ = some (.int .i64 a0_4) := (blk_cell BK101.out 4).trans rfl
   have hcz8_5 : w5.cell? ⟨gb101, 5, none⟩ = some (.int .u8 a0_5) := (blk_cell BK101.out 5).trans rfl
   have hcz8_6 : w5.cell? ⟨gb101, 6, none⟩ = some (.int .i64 a0_6) := (blk_cell BK101.out 6).trans rfl
   have hcz8_7 : w5.cell? ⟨gb101, 7, none⟩ = some (.slice A0_7 l0_7.length c0_7) := (blk_cell BK101.out 7).trans rfl
   have hcz8_8 : w5.cell? ⟨gb101, 8, none⟩ = some (.bool a0_8) := (blk_cell BK101.out 8).trans rfl
   have hcz8_9 : w5.cell? ⟨gb101, 9, none⟩ = some (.bool a0_9) := (blk_cell BK101.out 9).trans rfl
   have hfz8_0 := blk_frozen BK101.out 0
   have hfz8_1 := blk_frozen BK101.out 1
   have hfz8_2 := blk_frozen BK101.out 2
   have hfz8_3 := blk_frozen BK101.out 3
   have hfz8_4 := blk_frozen BK101.out 4
   have hfz8_5 := blk_frozen BK101.out 5
   have hfz8_6 := blk_frozen BK101.out 6
   have hfz8_7 := blk_frozen BK101.out 7
   have hfz8_8 := blk_frozen BK101.out 8
   have hfz8_9 := blk_frozen BK101.out 9
   go_wp2_with (first | ((with_reducible refine gate_callee (f := 15) rfl ?_); refine goesL_ (some 14) rfl rfl Try.func15 (by kernel_rfl) rfl #[.agg #[.slice A0_0 l0_0.length c0_0, .slice A0_1 l0_1.length c0_1, .int .i64 a0_2, .int .i64 a0_3, .int .i64 a0_4, .int .u8 a0_5, .int .i64 a0_6, .slice A0_7 l0_7.length c0_7, .bool a0_8, .bool a0_9]] rfl (by (try simp only [List.map_toArray, List.map_cons, List.map_nil]); first | done | rfl | (simp only [List.length_drop, List.length_take]; rfl)) ?_; (with_reducible refine (Pmga.joustlaw07_great.calls k _ _ l0_0 _ _ l0_1 a0_2 a0_3 a0_4 a0_5 a0_6 _ _ l0_7 a0_8 a0_9 true _ ?side1 ?side2 ?side3 ?side4 ?side5 ?side6 A6.out).mono ?_); (case side1 => repeat (first | exact (Kd.C_below HR0_0.out HB.out) | (with_reducible refine Kd.C_alloc ?_ _) | (with_reducible refine Kd.C_drewN ?_ _) | (with_reducible refine Kd.C_drew ?_))); (case side2 => exact HC0_0.out); (case side3 => repeat (first | exact (Kd.C_below HR0_1.out HB.out) | (with_reducible refine Kd.C_alloc ?_ _) | (with_reducible refine Kd.C_drewN ?_ _) | (with_reducible refine Kd.C_drew ?_))); (case side4 => exact HC0_1.out); (case side5 => repeat (first | exact (Kd.C_below HR0_7.out HB.out) | (with_reducible refine Kd.C_alloc ?_ _) | (with_reducible refine Kd.C_drewN ?_ _) | (with_reducible refine Kd.C_drew ?_))); (case side6 => exact HC0_7.out); rintro e w9 ⟨rfl, hb⟩; refine ⟨_, rfl, ?_⟩; have n0_ := Az (blk_below (g := gb101) (o := .cells #[.slice A0_0 l0_0.length c0_0, .slice A0_1 l0_1.length c0_1, .int .i64 a0_2, .int .i64 a0_3, .int .i64 a0_4, .int .u8 a0_5, .int .i64 a0_6, .slice A0_7 l0_7.length c0_7, .bool a0_8, .bool a0_9] 28 (0, 0)) (by (with_reducible repeat (first | refine blk_drewN ?_ _ | refine blk_drew ?_ | refine blk_alloc ?_ _)); exact BK101.out) hb); have n1_ := Az (below_step (low HB) hb); clear BK101; clear HB; have BK101 := n0_; have HB := n1_; clear n0_ n1_; (try clear hb); (try clear hb2); (try clear hk); (try clear hi)))
   go_meet
   case rel => exact ⟨_, (true), (by first | rfl | (simp; done) | (simp [*]; done)), H', ⟨by first | omega | exact Nat.le_refl _⟩, ⟨by (with_reducible repeat (first | refine blk_drewN ?_ _ | refine blk_drew ?_ | refine blk_alloc ?_ _)); exact BK101.out⟩, ⟨low HB⟩⟩
  ·
   replace c7 := Bool.eq_false_iff.mpr c7
   subst c7
   have H1 : ((rmay.f k l0_0 l0_1 a0_2 a0_3 a0_4 a0_5 a0_6 l0_7 a0_8 a0_9).bind fun t103 => (if t103 = true then (if a1 < 0 then (joustlaw07_MightAuras.j0 k a1 a2 true l0_0 l0_1 a0_2 a0_3 a0_4 a0_5 a0_6 l0_7 a0_8 a0_9) else (joustlaw07_MightAuras.j0 k a1 a2 (decide (a1 ≥ (l0_1.length : Int))) l0_0 l0_1 a0_2 a0_3 a0_4 a0_5 a0_6 l0_7 a0_8 a0_9)) else (joustlaw07_MightAuras.j0 k a1 a2 true l0_0 l0_1 a0_2 a0_3 a0_4 a0_5 a0_6 l0_7 a0_8 a0_9))) = some r := by rw [if_neg (show ¬ (false = true) by decide)] at H; exact H
   clear H
   have H := H1
   clear H1
   replace H := Option.bind_eq_some_iff.mp H
   obtain ⟨t103, A100, H⟩ := H
   replace H : (if t103 = true then (if a1 < 0 then (joustlaw07_MightAuras.j0 k a1 a2 true l0_0 l0_1 a0_2 a0_3 a0_4 a0_5 a0_6 l0_7 a0_8 a0_9) else (joustlaw07_MightAuras.j0 k a1 a2 (decide (a1 ≥ (l0_1.length : Int))) l0_0 l0_1 a0_2 a0_3 a0_4 a0_5 a0_6 l0_7 a0_8 a0_9)) else (joustlaw07_MightAuras.j0 k a1 a2 true l0_0 l0_1 a0_2 a0_3 a0_4 a0_5 a0_6 l0_7 a0_8 a0_9)) = some r := H
   have A10 := Az A100
   clear A100
   by_cases c11 : t103 = true
   ·
    subst c11
    have H1 : (if a1 < 0 then (joustlaw07_MightAuras.j0 k a1 a2 true l0_0 l0_1 a0_2 a0_3 a0_4 a0_5 a0_6 l0_7 a0_8 a0_9) else (joustlaw07_MightAuras.j0 k a1 a2 (decide (a1 ≥ (l0_1.length : Int))) l0_0 l0_1 a0_2 a0_3 a0_4 a0_5 a0_6 l0_7 a0_8 a0_9)) = some r := by rw [if_pos rfl] at H; exact H
    clear H
    have H := H1
    clear H1
    by_cases c12 : a1 < 0
    ·
     rw [if_pos c12] at H
     have c12b0 : decide (a1 < 0) = true := decide_eq_true c12
     clear c12
     (first | rw [c12b0] | (simp only [i64_w, i32_w]; rw [c12b0]) | skip)
     have H' := Az H
     clear H
     have hcz13_0 : w5.cell? ⟨gb101, 0, none⟩ = some (.slice A0_0 l0_0.length c0_0) := (blk_cell BK101.out 0).trans rfl
     have hcz13_1 : w5.cell? ⟨gb101, 1, none⟩ = some (.slice A0_1 l0_1.length c0_1) := (blk_cell BK101.out 1).trans rfl
     have hcz13_2 : w5.cell? ⟨gb101, 2, none⟩ = some (.int .i64 a0_2) := (blk_cell BK101.out 2).trans rfl
     have hcz13_3 : w5.cell? ⟨gb101, 3, none⟩ = some (.int .i64 a0_3) := (blk_cell BK101.out 3).trans rfl
     have hcz13_4 : w5.cell? ⟨gb101, 4, none⟩ = some (.int .i64 a0_4) := (blk_cell BK101.out 4).trans rfl
     have hcz13_5 : w5.cell? ⟨gb101, 5, none⟩ = some (.int .u8 a0_5) := (blk_cell BK101.out 5).trans rfl
     have hcz13_6 : w5.cell? ⟨gb101, 6, none⟩ = some (.int .i64 a0_6) := (blk_cell BK101.out 6).trans rfl
     have hcz13_7 : w5.cell? ⟨gb101, 7, none⟩ = some (.slice A0_7 l0_7.length c0_7) := (blk_cell BK101.out 7).trans rfl
     have hcz13_8 : w5.cell? ⟨gb101, 8, none⟩ = some (.bool a0_8) := (blk_cell BK101.out 8).trans rfl
     have hcz13_9 : w5.cell? ⟨gb101, 9, none⟩ = some (.bool a0_9) := (blk_cell BK101.out 9).trans rfl
     have hfz13_0 := blk_frozen BK101.out 0
     have hfz13_1 := blk_frozen BK101.out 1
     have hfz13_2 := blk_frozen BK101.out 2
     have hfz13_3 := blk_frozen BK101.out 3
     have hfz13_4 := blk_frozen BK101.out 4
     have hfz13_5 := blk_frozen BK101.out 5
     have hfz13_6 := blk_frozen BK101.out 6
     have hfz13_7 := blk_frozen BK101.out 7
     have hfz13_8 := blk_frozen BK101.out 8
     have hfz13_9 := blk_frozen BK101.out 9
     go_wp2_with (first | ((with_reducible refine gate_callee (f := 15) rfl ?_); refine goesL_ (some 14) rfl rfl Try.func15 (by kernel_rfl) rfl #[.agg #[.slice A0_0 l0_0.length c0_0, .slice A0_1 l0_1.length c0_1, .int .i64 a0_2, .int .i64 a0_3, .int .i64 a0_4, .int .u8 a0_5, .int .i64 a0_6, .slice A0_7 l0_7.length c0_7, .bool a0_8, .bool a0_9]] rfl (by (try simp only [List.map_toArray, List.map_cons, List.map_nil]); first | done | rfl | (simp only [List.length_drop, List.length_take]; rfl)) ?_; (with_reducible refine (Pmga.joustlaw07_great.calls k _ _ l0_0 _ _ l0_1 a0_2 a0_3 a0_4 a0_5 a0_6 _ _ l0_7 a0_8 a0_9 false _ ?side1 ?side2 ?side3 ?side4 ?side5 ?side6 A6.out).mono ?_); (case side1 => repeat (first | exact (Kd.C_below HR0_0.out HB.out) | (with_reducible refine Kd.C_alloc ?_ _) | (with_reducible refine Kd.C_drewN ?_ _) | (with_reducible refine Kd.C_drew ?_))); (case side2 => exact HC0_0.out); (case side3 => repeat (first | exact (Kd.C_below HR0_1.out HB.out) | (with_reducible refine Kd.C_alloc ?_ _) | (with_reducible refine Kd.C_drewN ?_ _) | (with_reducible refine Kd.C_drew ?_))); (case side4 => exact HC0_1.out); (case side5 => repeat (first | exact (Kd.C_below HR0_7.out HB.out) | (with_reducible refine Kd.C_alloc ?_ _) | (with_reducible refine Kd.C_drewN ?_ _) | (with_reducible refine Kd.C_drew ?_))); (case side6 => exact HC0_7.out); rintro e w14 ⟨rfl, hb⟩; refine ⟨_, rfl, ?_⟩; have n0_ := Az (blk_below (g := gb101) (o := .cells #[.slice A0_0 l0_0.length c0_0, .slice A0_1 l0_1.length c0_1, .int .i64 a0_2, .int .i64 a0_3, .int .i64 a0_4, .int .u8 a0_5, .int .i64 a0_6, .slice A0_7 l0_7.length c0_7, .bool a0_8, .bool a0_9] 28 (0, 0)) (by (with_reducible repeat (first | refine blk_drewN ?_ _ | refine blk_drew ?_ | refine blk_alloc ?_ _)); exact BK101.out) hb); have n1_ := Az (below_step (low HB) hb); clear BK101; clear HB; have BK101 := n0_; have HB := n1_; clear n0_ n1_; (try clear hb); (try clear hb2); (try clear hk); (try clear hi); have hcz15_0 : w14.cell? ⟨gb101, 0, none⟩ = some (.slice A0_0 l0_0.length c0_0) := (blk_cell BK101.out 0).trans rfl; have hcz15_1 : w14.cell? ⟨gb101, 1, none⟩ = some (.slice A0_1 l0_1.length c0_1) := (blk_cell BK101.out 1).trans rfl; have hcz15_2 : w14.cell? ⟨gb101, 2, none⟩ = some (.int .i64 a0_2) := (blk_cell BK101.out 2).trans rfl; have hcz15_3 : w14.cell? ⟨gb101, 3, none⟩ = some (.int .i64 a0_3) := (blk_cell BK101.out 3).trans rfl; have hcz15_4 : w14.cell? ⟨gb101, 4, none⟩ = some (.int .i64 a0_4) := (blk_cell BK101.out 4).trans rfl; have hcz15_5 : w14.cell? ⟨gb101, 5, none⟩ = some (.int .u8 a0_5) := (blk_cell BK101.out 5).trans rfl; have hcz15_6 : w14.cell? ⟨gb101, 6, none⟩ = some (.int .i64 a0_6) := (blk_cell BK101.out 6).trans rfl; have hcz15_7 : w14.cell? ⟨gb101, 7, none⟩ = some (.slice A0_7 l0_7.length c0_7) := (blk_cell BK101.out 7).trans rfl; have hcz15_8 : w14.cell? ⟨gb101, 8, none⟩ = some (.bool a0_8) := (blk_cell BK101.out 8).trans rfl; have hcz15_9 : w14.cell? ⟨gb101, 9, none⟩ = some (.bool a0_9) := (blk_cell BK101.out 9).trans rfl; have hfz15_0 := blk_frozen BK101.out 0; have hfz15_1 := blk_frozen BK101.out 1; have hfz15_2 := blk_frozen BK101.out 2; have hfz15_3 := blk_frozen BK101.out 3; have hfz15_4 := blk_frozen BK101.out 4; have hfz15_5 := blk_frozen BK101.out 5; have hfz15_6 := blk_frozen BK101.out 6; have hfz15_7 := blk_frozen BK101.out 7; have hfz15_8 := blk_frozen BK101.out 8; have hfz15_9 := blk_frozen BK101.out 9) | (go_at_call 18; (with_reducible refine (rmay.calls k _ _ l0_0 _ _ l0_1 a0_2 a0_3 a0_4 a0_5 a0_6 _ _ l0_7 a0_8 a0_9 true _ ?side1 ?side2 ?side3 ?side4 ?side5 ?side6 A10.out).mono ?_); (case side1 => repeat (first | exact (Kd.C_below HR0_0.out HB.out) | (with_reducible refine Kd.C_alloc ?_ _) | (with_reducible refine Kd.C_drewN ?_ _) | (with_reducible refine Kd.C_drew ?_))); (case side2 => exact HC0_0.out); (case side3 => repeat (first | exact (Kd.C_below HR0_1.out HB.out) | (with_reducible refine Kd.C_alloc ?_ _) | (with_reducible refine Kd.C_drewN ?_ _) | (with_reducible refine Kd.C_drew ?_))); (case side4 => exact HC0_1.out); (case side5 => repeat (first | exact (Kd.C_below HR0_7.out HB.out) | (with_reducible refine Kd.C_alloc ?_ _) | (with_reducible refine Kd.C_drewN ?_ _) | (with_reducible refine Kd.C_drew ?_))); (case side6 => exact HC0_7.out); rintro e w16 ⟨rfl, hb⟩; have n0_ := Az (blk_below (g := gb101) (o := .cells #[.slice A0_0 l0_0.length c0_0, .slice A0_1 l0_1.length c0_1, .int .i64 a0_2, .int .i64 a0_3, .int .i64 a0_4, .int .u8 a0_5, .int .i64 a0_6, .slice A0_7 l0_7.length c0_7, .bool a0_8, .bool a0_9] 28 (0, 0)) (by (with_reducible repeat (first | refine blk_drewN ?_ _ | refine blk_drew ?_ | refine blk_alloc ?_ _)); exact BK101.out) hb); have n1_ := Az (below_step (low HB) hb); clear BK101; clear HB; have BK101 := n0_; have HB := n1_; clear n0_ n1_; (try clear hb); (try clear hb2); (try clear hk); (try clear hi)))
     go_meet
     case rel => exact ⟨_, (true), (by first | rfl | (simp; done) | (simp [*]; done)), H', ⟨by first | omega | exact Nat.le_refl _⟩, ⟨by (with_reducible repeat (first | refine blk_drewN ?_ _ | refine blk_drew ?_ | refine blk_alloc ?_ _)); exact BK101.out⟩, ⟨low HB⟩⟩
    ·
     rw [if_neg c12] at H
     have c12b0 : decide (a1 < 0) = false := decide_eq_false c12
     clear c12
     (first | rw [c12b0] | (simp only [i64_w, i32_w]; rw [c12b0]) | skip)
     have H' := Az H
     clear H
     have hcz17_0 : w5.cell? ⟨gb101, 0, none⟩ = some (.slice A0_0 l0_0.length c0_0) := (blk_cell BK101.out 0).trans rfl
     have hcz17_1 : w5.cell? ⟨gb101, 1, none⟩ = some (.slice A0_1 l0_1.length c0_1) := (blk_cell BK101.out 1).trans rfl
     have hcz17_2 : w5.cell? ⟨gb101, 2, none⟩ = some (.int .i64 a0_2) := (blk_cell BK101.out 2).trans rfl
     have hcz17_3 : w5.cell? ⟨gb101, 3, none⟩ = some (.int .i64 a0_3) := (blk_cell BK101.out 3).trans rfl
     have hcz17_4 : w5.cell? ⟨gb101, 4, none⟩ = some (.int .i64 a0_4) := (blk_cell BK101.out 4).trans rfl
     have hcz17_5 : w5.cell? ⟨gb101, 5, none⟩ = some (.int .u8 a0_5) := (blk_cell BK101.out 5).trans rfl
     have hcz17_6 : w5.cell? ⟨gb101, 6, none⟩ = some (.int .i64 a0_6) := (blk_cell BK101.out 6).trans rfl
     have hcz17_7 : w5.cell? ⟨gb101, 7, none⟩ = some (.slice A0_7 l0_7.length c0_7) := (blk_cell BK101.out 7).trans rfl
     have hcz17_8 : w5.cell? ⟨gb101, 8, none⟩ = some (.bool a0_8) := (blk_cell BK101.out 8).trans rfl
     have hcz17_9 : w5.cell? ⟨gb101, 9, none⟩ = some (.bool a0_9) := (blk_cell BK101.out 9).trans rfl
     have hfz17_0 := blk_frozen BK101.out 0
     have hfz17_1 := blk_frozen BK101.out 1
     have hfz17_2 := blk_frozen BK101.out 2
     have hfz17_3 := blk_frozen BK101.out 3
     have hfz17_4 := blk_frozen BK101.out 4
     have hfz17_5 := blk_frozen BK101.out 5
     have hfz17_6 := blk_frozen BK101.out 6
     have hfz17_7 := blk_frozen BK101.out 7
     have hfz17_8 := blk_frozen BK101.out 8
     have hfz17_9 := blk_frozen BK101.out 9
     go_wp2_with (first | ((with_reducible refine gate_callee (f := 15) rfl ?_); refine goesL_ (some 14) rfl rfl Try.func15 (by kernel_rfl) rfl #[.agg #[.slice A0_0 l0_0.length c0_0, .slice A0_1 l0_1.length c0_1, .int .i64 a0_2, .int .i64 a0_3, .int .i64 a0_4, .int .u8 a0_5, .int .i64 a0_6, .slice A0_7 l0_7.length c0_7, .bool a0_8, .bool a0_9]] rfl (by (try simp only [List.map_toArray, List.map_cons, List.map_nil]); first | done | rfl | (simp only [List.length_drop, List.length_take]; rfl)) ?_; (with_reducible refine (Pmga.joustlaw07_great.calls k _ _ l0_0 _ _ l0_1 a0_2 a0_3 a0_4 a0_5 a0_6 _ _ l0_7 a0_8 a0_9 false _ ?side1 ?side2 ?side3 ?side4 ?side5 ?side6 A6.out).mono ?_); (case side1 => repeat (first | exact (Kd.C_below HR0_0.out HB.out) | (with_reducible refine Kd.C_alloc ?_ _) | (with_reducible refine Kd.C_drewN ?_ _) | (with_reducible refine Kd.C_drew ?_))); (case side2 => exact HC0_0.out); (case side3 => repeat (first | exact (Kd.C_below HR0_1.out HB.out) | (with_reducible refine Kd.C_alloc ?_ _) | (with_reducible refine Kd.C_drewN ?_ _) | (with_reducible refine Kd.C_drew ?_))); (case side4 => exact HC0_1.out); (case side5 => repeat (first | exact (Kd.C_below HR0_7.out HB.out) | (with_reducible refine Kd.C_alloc ?_ _) | (with_reducible refine Kd.C_drewN ?_ _) | (with_reducible refine Kd.C_drew ?_))); (case side6 => exact HC0_7.out); rintro e w18 ⟨rfl, hb⟩; refine ⟨_, rfl, ?_⟩; have n0_ := Az (blk_below (g := gb101) (o := .cells #[.slice A0_0 l0_0.length c0_0, .slice A0_1 l0_1.length c0_1, .int .i64 a0_2, .int .i64 a0_3, .int .i64 a0_4, .int .u8 a0_5, .int .i64 a0_6, .slice A0_7 l0_7.length c0_7, .bool a0_8, .bool a0_9] 28 (0, 0)) (by (with_reducible repeat (first | refine blk_drewN ?_ _ | refine blk_drew ?_ | refine blk_alloc ?_ _)); exact BK101.out) hb); have n1_ := Az (below_step (low HB) hb); clear BK101; clear HB; have BK101 := n0_; have HB := n1_; clear n0_ n1_; (try clear hb); (try clear hb2); (try clear hk); (try clear hi); have hcz19_0 : w18.cell? ⟨gb101, 0, none⟩ = some (.slice A0_0 l0_0.length c0_0) := (blk_cell BK101.out 0).trans rfl; have hcz19_1 : w18.cell? ⟨gb101, 1, none⟩ = some (.slice A0_1 l0_1.length c0_1) := (blk_cell BK101.out 1).trans rfl; have hcz19_2 : w18.cell? ⟨gb101, 2, none⟩ = some (.int .i64 a0_2) := (blk_cell BK101.out 2).trans rfl; have hcz19_3 : w18.cell? ⟨gb101, 3, none⟩ = some (.int .i64 a0_3) := (blk_cell BK101.out 3).trans rfl; have hcz19_4 : w18.cell? ⟨gb101, 4, none⟩ = some (.int .i64 a0_4) := (blk_cell BK101.out 4).trans rfl; have hcz19_5 : w18.cell? ⟨gb101, 5, none⟩ = some (.int .u8 a0_5) := (blk_cell BK101.out 5).trans rfl; have hcz19_6 : w18.cell? ⟨gb101, 6, none⟩ = some (.int .i64 a0_6) := (blk_cell BK101.out 6).trans rfl; have hcz19_7 : w18.cell? ⟨gb101, 7, none⟩ = some (.slice A0_7 l0_7.length c0_7) := (blk_cell BK101.out 7).trans rfl; have hcz19_8 : w18.cell? ⟨gb101, 8, none⟩ = some (.bool a0_8) := (blk_cell BK101.out 8).trans rfl; have hcz19_9 : w18.cell? ⟨gb101, 9, none⟩ = some (.bool a0_9) := (blk_cell BK101.out 9).trans rfl; have hfz19_0 := blk_frozen BK101.out 0; have hfz19_1 := blk_frozen BK101.out 1; have hfz19_2 := blk_frozen BK101.out 2; have hfz19_3 := blk_frozen BK101.out 3; have hfz19_4 := blk_frozen BK101.out 4; have hfz19_5 := blk_frozen BK101.out 5; have hfz19_6 := blk_frozen BK101.out 6; have hfz19_7 := blk_frozen BK101.out 7; have hfz19_8 := blk_frozen BK101.out 8; have hfz19_9 := blk_frozen BK101.out 9) | (go_at_call 18; (with_reducible refine (rmay.calls k _ _ l0_0 _ _ l0_1 a0_2 a0_3 a0_4 a0_5 a0_6 _ _ l0_7 a0_8 a0_9 true _ ?side1 ?side2 ?side3 ?side4 ?side5 ?side6 A10.out).mono ?_); (case side1 => repeat (first | exact (Kd.C_below HR0_0.out HB.out) | (with_reducible refine Kd.C_alloc ?_ _) | (with_reducible refine Kd.C_drewN ?_ _) | (with_reducible refine Kd.C_drew ?_))); (case side2 => exact HC0_0.out); (case side3 => repeat (first | exact (Kd.C_below HR0_1.out HB.out) | (with_reducible refine Kd.C_alloc ?_ _) | (with_reducible refine Kd.C_drewN ?_ _) | (with_reducible refine Kd.C_drew ?_))); (case side4 => exact HC0_1.out); (case side5 => repeat (first | exact (Kd.C_below HR0_7.out HB.out) | (with_reducible refine Kd.C_alloc ?_ _) | (with_reducible refine Kd.C_drewN ?_ _) | (with_reducible refine Kd.C_drew ?_))); (case side6 => exact HC0_7.out); rintro e w20 ⟨rfl, hb⟩; have n0_ := Az (blk_below (g := gb101) (o := .cells #[.slice A0_0 l0_0.length c0_0, .slice A0_1 l0_1.length c0_1, .int .i64 a0_2, .int .i64 a0_3, .int .i64 a0_4, .int .u8 a0_5, .int .i64 a0_6, .slice A0_7 l0_7.length c0_7, .bool a0_8, .bool a0_9] 28 (0, 0)) (by (with_reducible repeat (first | refine blk_drewN ?_ _ | refine blk_drew ?_ | refine blk_alloc ?_ _)); exact BK101.out) hb); have n1_ := Az (below_step (low HB) hb); clear BK101; clear HB; have BK101 := n0_; have HB := n1_; clear n0_ n1_; (try clear hb); (try clear hb2); (try clear hk); (try clear hi); have hcz21_0 : w20.cell? ⟨gb101, 0, none⟩ = some (.slice A0_0 l0_0.length c0_0) := (blk_cell BK101.out 0).trans rfl; have hcz21_1 : w20.cell? ⟨gb101, 1, none⟩ = some (.slice A0_1 l0_1.length c0_1) := (blk_cell BK101.out 1).trans rfl; have hcz21_2 : w20.cell? ⟨gb101, 2, none⟩ = some (.int .i64 a0_2) := (blk_cell BK101.out 2).trans rfl; have hcz21_3 : w20.cell? ⟨gb101, 3, none⟩ = some (.int .i64 a0_3) := (blk_cell BK101.out 3).trans rfl; have hcz21_4 : w20.cell? ⟨gb101, 4, none⟩ = some (.int .i64 a0_4) := (blk_cell BK101.out 4).trans rfl; have hcz21_5 : w20.cell? ⟨gb101, 5, none⟩ = some (.int .u8 a0_5) := (blk_cell BK101.out 5).trans rfl; have hcz21_6 : w20.cell? ⟨gb101, 6, none⟩ = some (.int .i64 a0_6) := (blk_cell BK101.out 6).trans rfl; have hcz21_7 : w20.cell? ⟨gb101, 7, none⟩ = some (.slice A0_7 l0_7.length c0_7) := (blk_cell BK101.out 7).trans rfl; have hcz21_8 : w20.cell? ⟨gb101, 8, none⟩ = some (.bool a0_8) := (blk_cell BK101.out 8).trans rfl; have hcz21_9 : w20.cell? ⟨gb101, 9, none⟩ = some (.bool a0_9) := (blk_cell BK101.out 9).trans rfl; have hfz21_0 := blk_frozen BK101.out 0; have hfz21_1 := blk_frozen BK101.out 1; have hfz21_2 := blk_frozen BK101.out 2; have hfz21_3 := blk_frozen BK101.out 3; have hfz21_4 := blk_frozen BK101.out 4; have hfz21_5 := blk_frozen BK101.out 5; have hfz21_6 := blk_frozen BK101.out 6; have hfz21_7 := blk_frozen BK101.out 7; have hfz21_8 := blk_frozen BK101.out 8; have hfz21_9 := blk_frozen BK101.out 9))
     go_meet
     case rel => exact ⟨_, (decide (a1 ≥ (l0_1.length : Int))), (by first | rfl | (simp; done) | (simp [*]; done)), H', ⟨by first | omega | exact Nat.le_refl _⟩, ⟨by (with_reducible repeat (first | refine blk_drewN ?_ _ | refine blk_drew ?_ | refine blk_alloc ?_ _)); exact BK101.out⟩, ⟨low HB⟩⟩
   ·
    replace c11 := Bool.eq_false_iff.mpr c11
    subst c11
    have H1 : (joustlaw07_MightAuras.j0 k a1 a2 true l0_0 l0_1 a0_2 a0_3 a0_4 a0_5 a0_6 l0_7 a0_8 a0_9) = some r := by rw [if_neg (show ¬ (false = true) by decide)] at H; exact H
    clear H
    have H := H1
    clear H1
    have H' := Az H
    clear H
    have hcz22_0 : w5.cell? ⟨gb101, 0, none⟩ = some (.slice A0_0 l0_0.length c0_0) := (blk_cell BK101.out 0).trans rfl
    have hcz22_1 : w5.cell? ⟨gb101, 1, none⟩ = some (.slice A0_1 l0_1.length c0_1) := (blk_cell BK101.out 1).trans rfl
    have hcz22_2 : w5.cell? ⟨gb101, 2, none⟩ = some (.int .i64 a0_2) := (blk_cell BK101.out 2).trans rfl
    have hcz22_3 : w5.cell? ⟨gb101, 3, none⟩ = some (.int .i64 a0_3) := (blk_cell BK101.out 3).trans rfl
    have hcz22_4 : w5.cell? ⟨gb101, 4, none⟩ = some (.int .i64 a0_4) := (blk_cell BK101.out 4).trans rfl
    have hcz22_5 : w5.cell? ⟨gb101, 5, none⟩ = some (.int .u8 a0_5) := (blk_cell BK101.out 5).trans rfl
    have hcz22_6 : w5.cell? ⟨gb101, 6, none⟩ = some (.int .i64 a0_6) := (blk_cell BK101.out 6).trans rfl
    have hcz22_7 : w5.cell? ⟨gb101, 7, none⟩ = some (.slice A0_7 l0_7.length c0_7) := (blk_cell BK101.out 7).trans rfl
    have hcz22_8 : w5.cell? ⟨gb101, 8, none⟩ = some (.bool a0_8) := (blk_cell BK101.out 8).trans rfl
    have hcz22_9 : w5.cell? ⟨gb101, 9, none⟩ = some (.bool a0_9) := (blk_cell BK101.out 9).trans rfl
    have hfz22_0 := blk_frozen BK101.out 0
    have hfz22_1 := blk_frozen BK101.out 1
    have hfz22_2 := blk_frozen BK101.out 2
    have hfz22_3 := blk_frozen BK101.out 3
    have hfz22_4 := blk_frozen BK101.out 4
    have hfz22_5 := blk_frozen BK101.out 5
    have hfz22_6 := blk_frozen BK101.out 6
    have hfz22_7 := blk_frozen BK101.out 7
    have hfz22_8 := blk_frozen BK101.out 8
    have hfz22_9 := blk_frozen BK101.out 9
    go_wp2_with (first | ((with_reducible refine gate_callee (f := 15) rfl ?_); refine goesL_ (some 14) rfl rfl Try.func15 (by kernel_rfl) rfl #[.agg #[.slice A0_0 l0_0.length c0_0, .slice A0_1 l0_1.length c0_1, .int .i64 a0_2, .int .i64 a0_3, .int .i64 a0_4, .int .u8 a0_5, .int .i64 a0_6, .slice A0_7 l0_7.length c0_7, .bool a0_8, .bool a0_9]] rfl (by (try simp only [List.map_toArray, List.map_cons, List.map_nil]); first | done | rfl | (simp only [List.length_drop, List.length_take]; rfl)) ?_; (with_reducible refine (Pmga.joustlaw07_great.calls k _ _ l0_0 _ _ l0_1 a0_2 a0_3 a0_4 a0_5 a0_6 _ _ l0_7 a0_8 a0_9 false _ ?side1 ?side2 ?side3 ?side4 ?side5 ?side6 A6.out).mono ?_); (case side1 => repeat (first | exact (Kd.C_below HR0_0.out HB.out) | (with_reducible refine Kd.C_alloc ?_ _) | (with_reducible refine Kd.C_drewN ?_ _) | (with_reducible refine Kd.C_drew ?_))); (case side2 => exact HC0_0.out); (case side3 => repeat (first | exact (Kd.C_below HR0_1.out HB.out) | (with_reducible refine Kd.C_alloc ?_ _) | (with_reducible refine Kd.C_drewN ?_ _) | (with_reducible refine Kd.C_drew ?_))); (case side4 => exact HC0_1.out); (case side5 => repeat (first | exact (Kd.C_below HR0_7.out HB.out) | (with_reducible refine Kd.C_alloc ?_ _) | (with_reducible refine Kd.C_drewN ?_ _) | (with_reducible refine Kd.C_drew ?_))); (case side6 => exact HC0_7.out); rintro e w23 ⟨rfl, hb⟩; refine ⟨_, rfl, ?_⟩; have n0_ := Az (blk_below (g := gb101) (o := .cells #[.slice A0_0 l0_0.length c0_0, .slice A0_1 l0_1.length c0_1, .int .i64 a0_2, .int .i64 a0_3, .int .i64 a0_4, .int .u8 a0_5, .int .i64 a0_6, .slice A0_7 l0_7.length c0_7, .bool a0_8, .bool a0_9] 28 (0, 0)) (by (with_reducible repeat (first | refine blk_drewN ?_ _ | refine blk_drew ?_ | refine blk_alloc ?_ _)); exact BK101.out) hb); have n1_ := Az (below_step (low HB) hb); clear BK101; clear HB; have BK101 := n0_; have HB := n1_; clear n0_ n1_; (try clear hb); (try clear hb2); (try clear hk); (try clear hi); have hcz24_0 : w23.cell? ⟨gb101, 0, none⟩ = some (.slice A0_0 l0_0.length c0_0) := (blk_cell BK101.out 0).trans rfl; have hcz24_1 : w23.cell? ⟨gb101, 1, none⟩ = some (.slice A0_1 l0_1.length c0_1) := (blk_cell BK101.out 1).trans rfl; have hcz24_2 : w23.cell? ⟨gb101, 2, none⟩ = some (.int .i64 a0_2) := (blk_cell BK101.out 2).trans rfl; have hcz24_3 : w23.cell? ⟨gb101, 3, none⟩ = some (.int .i64 a0_3) := (blk_cell BK101.out 3).trans rfl; have hcz24_4 : w23.cell? ⟨gb101, 4, none⟩ = some (.int .i64 a0_4) := (blk_cell BK101.out 4).trans rfl; have hcz24_5 : w23.cell? ⟨gb101, 5, none⟩ = some (.int .u8 a0_5) := (blk_cell BK101.out 5).trans rfl; have hcz24_6 : w23.cell? ⟨gb101, 6, none⟩ = some (.int .i64 a0_6) := (blk_cell BK101.out 6).trans rfl; have hcz24_7 : w23.cell? ⟨gb101, 7, none⟩ = some (.slice A0_7 l0_7.length c0_7) := (blk_cell BK101.out 7).trans rfl; have hcz24_8 : w23.cell? ⟨gb101, 8, none⟩ = some (.bool a0_8) := (blk_cell BK101.out 8).trans rfl; have hcz24_9 : w23.cell? ⟨gb101, 9, none⟩ = some (.bool a0_9) := (blk_cell BK101.out 9).trans rfl; have hfz24_0 := blk_frozen BK101.out 0; have hfz24_1 := blk_frozen BK101.out 1; have hfz24_2 := blk_frozen BK101.out 2; have hfz24_3 := blk_frozen BK101.out 3; have hfz24_4 := blk_frozen BK101.out 4; have hfz24_5 := blk_frozen BK101.out 5; have hfz24_6 := blk_frozen BK101.out 6; have hfz24_7 := blk_frozen BK101.out 7; have hfz24_8 := blk_frozen BK101.out 8; have hfz24_9 := blk_frozen BK101.out 9) | (go_at_call 18; (with_reducible refine (rmay.calls k _ _ l0_0 _ _ l0_1 a0_2 a0_3 a0_4 a0_5 a0_6 _ _ l0_7 a0_8 a0_9 false _ ?side1 ?side2 ?side3 ?side4 ?side5 ?side6 A10.out).mono ?_); (case side1 => repeat (first | exact (Kd.C_below HR0_0.out HB.out) | (with_reducible refine Kd.C_alloc ?_ _) | (with_reducible refine Kd.C_drewN ?_ _) | (with_reducible refine Kd.C_drew ?_))); (case side2 => exact HC0_0.out); (case side3 => repeat (first | exact (Kd.C_below HR0_1.out HB.out) | (with_reducible refine Kd.C_alloc ?_ _) | (with_reducible refine Kd.C_drewN ?_ _) | (with_reducible refine Kd.C_drew ?_))); (case side4 => exact HC0_1.out); (case side5 => repeat (first | exact (Kd.C_below HR0_7.out HB.out) | (with_reducible refine Kd.C_alloc ?_ _) | (with_reducible refine Kd.C_drewN ?_ _) | (with_reducible refine Kd.C_drew ?_))); (case side6 => exact HC0_7.out); rintro e w25 ⟨rfl, hb⟩; have n0_ := Az (blk_below (g := gb101) (o := .cells #[.slice A0_0 l0_0.length c0_0, .slice A0_1 l0_1.length c0_1, .int .i64 a0_2, .int .i64 a0_3, .int .i64 a0_4, .int .u8 a0_5, .int .i64 a0_6, .slice A0_7 l0_7.length c0_7, .bool a0_8, .bool a0_9] 28 (0, 0)) (by (with_reducible repeat (first | refine blk_drewN ?_ _ | refine blk_drew ?_ | refine blk_alloc ?_ _)); exact BK101.out) hb); have n1_ := Az (below_step (low HB) hb); clear BK101; clear HB; have BK101 := n0_; have HB := n1_; clear n0_ n1_; (try clear hb); (try clear hb2); (try clear hk); (try clear hi)))
    go_meet
    case rel => exact ⟨_, (true), (by first | rfl | (simp; done) | (simp [*]; done)), H', ⟨by first | omega | exact Nat.le_refl _⟩, ⟨by (with_reducible repeat (first | refine blk_drewN ?_ _ | refine blk_drew ?_ | refine blk_alloc ?_ _)); exact BK101.out⟩, ⟨low HB⟩⟩
 case rest =>
  clear HC4
  try clear c1
  try clear p2
  try clear c4
  try clear c7
  try clear c11
  try clear c12
  try clear c12b0
  try clear c15
  try clear hcz13_0
  try clear hcz13_1
  try clear hcz13_2
  try clear hcz13_3
  try clear hcz13_4
  try clear hcz13_5
  try clear hcz13_6
  try clear hcz13_7
  try clear hcz13_8
  try clear hcz13_9
  try clear hcz15_0
  try clear hcz15_1
  try clear hcz15_2
  try clear hcz15_3
  try clear hcz15_4
  try clear hcz15_5
  try clear hcz15_6
  try clear hcz15_7
  try clear hcz15_8
  try clear hcz15_9
  try clear hcz17_0
  try clear hcz17_1
  try clear hcz17_2
  try clear hcz17_3
  try clear hcz17_4
  try clear hcz17_5
  try clear hcz17_6
  try clear hcz17_7
  try clear hcz17_8
  try clear hcz17_9
  try clear hcz19_0
  try clear hcz19_1
  try clear hcz19_2
  try clear hcz19_3
  try clear hcz19_4
  try clear hcz19_5
  try clear hcz19_6
  try clear hcz19_7
  try clear hcz19_8
  try clear hcz19_9
  try clear hcz21_0
  try clear hcz21_1
  try clear hcz21_2
  try clear hcz21_3
  try clear hcz21_4
  try clear hcz21_5
  try clear hcz21_6
  try clear hcz21_7
  try clear hcz21_8
  try clear hcz21_9
  try clear hcz22_0
  try clear hcz22_1
  try clear hcz22_2
  try clear hcz22_3
  try clear hcz22_4
  try clear hcz22_5
  try clear hcz22_6
  try clear hcz22_7
  try clear hcz22_8
  try clear hcz22_9
  try clear hcz24_0
  try clear hcz24_1
  try clear hcz24_2
  try clear hcz24_3
  try clear hcz24_4
  try clear hcz24_5
  try clear hcz24_6
  try clear hcz24_7
  try clear hcz24_8
  try clear hcz24_9
  try clear hcz8_0
  try clear hcz8_1
  try clear hcz8_2
  try clear hcz8_3
  try clear hcz8_4
  try clear hcz8_5
  try clear hcz8_6
  try clear hcz8_7
  try clear hcz8_8
  try clear hcz8_9
  try clear hfz13_0
  try clear hfz13_1
  try clear hfz13_2
  try clear hfz13_3
  try clear hfz13_4
  try clear hfz13_5
  try clear hfz13_6
  try clear hfz13_7
  try clear hfz13_8
  try clear hfz13_9
  try clear hfz15_0
  try clear hfz15_1
  try clear hfz15_2
  try clear hfz15_3
  try clear hfz15_4
  try clear hfz15_5
  try clear hfz15_6
  try clear hfz15_7
  try clear hfz15_8
  try clear hfz15_9
  try clear hfz17_0
  try clear hfz17_1
  try clear hfz17_2
  try clear hfz17_3
  try clear hfz17_4
  try clear hfz17_5
  try clear hfz17_6
  try clear hfz17_7
  try clear hfz17_8
  try clear hfz17_9
  try clear hfz19_0
  try clear hfz19_1
  try clear hfz19_2
  try clear hfz19_3
  try clear hfz19_4
  try clear hfz19_5
  try clear hfz19_6
  try clear hfz19_7
  try clear hfz19_8
  try clear hfz19_9
  try clear hfz21_0
  try clear hfz21_1
  try clear hfz21_2
  try clear hfz21_3
  try clear hfz21_4
  try clear hfz21_5
  try clear hfz21_6
  try clear hfz21_7
  try clear hfz21_8
  try clear hfz21_9
  try clear hfz22_0
  try clear hfz22_1
  try clear hfz22_2
  try clear hfz22_3
  try clear hfz22_4
  try clear hfz22_5
  try clear hfz22_6
  try clear hfz22_7
  try clear hfz22_8
  try clear hfz22_9
  try clear hfz24_0
  try clear hfz24_1
  try clear hfz24_2
  try clear hfz24_3
  try clear hfz24_4
  try clear hfz24_5
  try clear hfz24_6
  try clear hfz24_7
  try clear hfz24_8
  try clear hfz24_9
  try clear hfz8_0
  try clear hfz8_1
  try clear hfz8_2
  try clear hfz8_3
  try clear hfz8_4
  try clear hfz8_5
  try clear hfz8_6
  try clear hfz8_7
  try clear hfz8_8
  try clear hfz8_9
  obtain ⟨kq, x30_3, rfl, HA, HJ3, BK101, HB⟩ := hcut
  cases kq with
  | zero => exact absurd HA.out (by simp [joustlaw07_MightAuras.j0])
  | succ kj3 =>
   have H := HA.out
   clear HA
   simp only [joustlaw07_MightAuras.j0] at H
   by_cases c26 : x30_3 = true
   ·
    subst c26
    have H1 : ((might_Attack.f kj3 ([] : List (S97)) ([] : List (S35)) 0 0 0 0 0 ([] : List (S58)) false false a1).bind fun t104 => (if t104 = 0 then ((joustlaw07_lives.f).bind fun t105 => (some t105)) else (none))) = some r := by rw [if_pos rfl] at H; exact H
    clear H
    have H := H1
    clear H1
    replace H := Option.bind_eq_some_iff.mp H
    obtain ⟨t104, A270, H⟩ := H
    replace H : (if t104 = 0 then ((joustlaw07_lives.f).bind fun t105 => (some t105)) else (none)) = some r := H
    have A27 := Az A270
    clear A270
    by_cases c28 : t104 = 0
    ·
     rw [if_pos c28] at H
     have c28b0 : (t104 == 0) = true := beq_iff_eq.mpr c28
     have c28b1 : (t104 != 0) = false := bne_eq_false_iff_eq.mpr c28
     clear c28
     replace H := Option.bind_eq_some_iff.mp H
     obtain ⟨t105, A290, H⟩ := H
     replace H : (some t105) = some r := H
     have A29 := Az A290
     clear A290
     obtain rfl := Option.some.inj H
     go_wp2_with (first | ((with_reducible refine gate_callee (f := 19) rfl ?_); refine goesL_ (some 33) rfl rfl Try.func19 (by kernel_rfl) rfl #[.agg #[.slice none 0 0, .slice none 0 0, .int .i64 0, .int .i64 0, .int .i64 0, .int .u8 0, .int .i64 0, .slice none 0 0, .bool false, .bool false], .int .i64 a1] rfl (by (try simp only [List.map_toArray, List.map_cons, List.map_nil]); first | done | rfl | (simp only [List.length_drop, List.length_take]; rfl)) ?_; (refine (might_Attack.calls kj3 _ _ ([] : List (S97)) _ _ ([] : List (S35)) 0 0 0 0 0 _ _ ([] : List (S58)) false false a1 t104 _ ?side1 ?side2 ?side3 ?side4 ?side5 ?side6 A27.out).mono ?_); (case side1 => exact Kd.C_nil _ _); (case side2 => exact Nat.le_refl _); (case side3 => exact Kd.C_nil _ _); (case side4 => exact Nat.le_refl _); (case side5 => exact Kd.C_nil _ _); (case side6 => exact Nat.le_refl _); rintro e w30 ⟨rfl, hb⟩; refine ⟨_, rfl, ?_⟩; have n0_ := Az (blk_below (g := gb101) (o := .cells #[.slice A0_0 l0_0.length c0_0, .slice A0_1 l0_1.length c0_1, .int .i64 a0_2, .int .i64 a0_3, .int .i64 a0_4, .int .u8 a0_5, .int .i64 a0_6, .slice A0_7 l0_7.length c0_7, .bool a0_8, .bool a0_9] 28 (0, 0)) (by (with_reducible repeat (first | refine blk_drewN ?_ _ | refine blk_drew ?_ | refine blk_alloc ?_ _)); exact BK101.out) hb); have n1_ := Az (below_step (low HB) hb); clear BK101; clear HB; have BK101 := n0_; have HB := n1_; clear n0_ n1_; (try clear hb); (try clear hb2); (try clear hk); (try clear hi)) | (go_at_call 16; (with_reducible refine (joustlaw07_lives.calls  t105 _ A29.out).mono ?_); rintro e w31 ⟨rfl, hb⟩; have n0_ := Az (blk_below (g := gb101) (o := .cells #[.slice A0_0 l0_0.length c0_0, .slice A0_1 l0_1.length c0_1, .int .i64 a0_2, .int .i64 a0_3, .int .i64 a0_4, .int .u8 a0_5, .int .i64 a0_6, .slice A0_7 l0_7.length c0_7, .bool a0_8, .bool a0_9] 28 (0, 0)) (by (with_reducible repeat (first | refine blk_drewN ?_ _ | refine blk_drew ?_ | refine blk_alloc ?_ _)); exact BK101.out) hb); have n1_ := Az (below_step (low HB) hb); clear BK101; clear HB; have BK101 := n0_; have HB := n1_; clear n0_ n1_; (try clear hb); (try clear hb2); (try clear hk); (try clear hi)))
     go_ret
     exact ⟨by first | rfl | (simp [errW_none, errW_some] <;> rfl) | (simp [*, errW_none, errW_some] <;> rfl), low HB⟩
    ·
     rw [if_neg c28] at H
     exact absurd H (by simp)
   ·
    replace c26 := Bool.eq_false_iff.mpr c26
    subst c26
    have H1 : ((Pmga.joustref06_Copy.f kj3 l0_0 l0_1 a0_2 a0_3 a0_4 a0_5 a0_6 l0_7 a0_8 a0_9).bind fun bt106 => (joustlaw07_MightAuras.l0 kj3 a1 a2 (bt106.2.1.length : Int) 0 l0_0 l0_1 a0_2 a0_3 a0_4 a0_5 a0_6 l0_7 a0_8 a0_9 bt106.1 bt106.2.1 bt106.2.2.1 bt106.2.2.2.1 bt106.2.2.2.2.1 bt106.2.2.2.2.2.1 bt106.2.2.2.2.2.2.1 bt106.2.2.2.2.2.2.2.1 bt106.2.2.2.2.2.2.2.2.1 bt106.2.2.2.2.2.2.2.2.2)) = some r := by rw [if_neg (show ¬ (false = true) by decide)] at H; exact H
    clear H
    have H := H1
    clear H1
    replace H := Option.bind_eq_some_iff.mp H
    obtain ⟨⟨t106, t109, t112, t113, t114, t115, t116, t117, t120, t121⟩, A320, H⟩ := H
    replace H : (joustlaw07_MightAuras.l0 kj3 a1 a2 (t109.length : Int) 0 l0_0 l0_1 a0_2 a0_3 a0_4 a0_5 a0_6 l0_7 a0_8 a0_9 t106 t109 t112 t113 t114 t115 t116 t117 t120 t121) = some r := H
    have A32 := Az A320
    clear A320
    have H' := Az H
    clear H
    have hcz33_0 : wc.cell? ⟨gb101, 0, none⟩ = some (.slice A0_0 l0_0.length c0_0) := (blk_cell BK101.out 0).trans rfl
    have hcz33_1 : wc.cell? ⟨gb101, 1, none⟩ = some (.slice A0_1 l0_1.length c0_1) := (blk_cell BK101.out 1).trans rfl
    have hcz33_2 : wc.cell? ⟨gb101, 2, none⟩ = some (.int .i64 a0_2) := (blk_cell BK101.out 2).trans rfl
    have hcz33_3 : wc.cell? ⟨gb101, 3, none⟩ = some (.int .i64 a0_3) := (blk_cell BK101.out 3).trans rfl
    have hcz33_4 : wc.cell? ⟨gb101, 4, none⟩ = some (.int .i64 a0_4) := (blk_cell BK101.out 4).trans rfl
    have hcz33_5 : wc.cell? ⟨gb101, 5, none⟩ = some (.int .u8 a0_5) := (blk_cell BK101.out 5).trans rfl
    have hcz33_6 : wc.cell? ⟨gb101, 6, none⟩ = some (.int .i64 a0_6) := (blk_cell BK101.out 6).trans rfl
    have hcz33_7 : wc.cell? ⟨gb101, 7, none⟩ = some (.slice A0_7 l0_7.length c0_7) := (blk_cell BK101.out 7).trans rfl
    have hcz33_8 : wc.cell? ⟨gb101, 8, none⟩ = some (.bool a0_8) := (blk_cell BK101.out 8).trans rfl
    have hcz33_9 : wc.cell? ⟨gb101, 9, none⟩ = some (.bool a0_9) := (blk_cell BK101.out 9).trans rfl
    have hfz33_0 := blk_frozen BK101.out 0
    have hfz33_1 := blk_frozen BK101.out 1
    have hfz33_2 := blk_frozen BK101.out 2
    have hfz33_3 := blk_frozen BK101.out 3
    have hfz33_4 := blk_frozen BK101.out 4
    have hfz33_5 := blk_frozen BK101.out 5
    have hfz33_6 := blk_frozen BK101.out 6
    have hfz33_7 := blk_frozen BK101.out 7
    have hfz33_8 := blk_frozen BK101.out 8
    have hfz33_9 := blk_frozen BK101.out 9
    go_wp2_with (first | ((with_reducible refine gate_callee (f := 20) rfl ?_); refine goesL_ (some 39) rfl rfl Try.func20 (by kernel_rfl) rfl #[.agg #[.slice A0_0 l0_0.length c0_0, .slice A0_1 l0_1.length c0_1, .int .i64 a0_2, .int .i64 a0_3, .int .i64 a0_4, .int .u8 a0_5, .int .i64 a0_6, .slice A0_7 l0_7.length c0_7, .bool a0_8, .bool a0_9]] rfl (by (try simp only [List.map_toArray, List.map_cons, List.map_nil]); first | done | rfl | (simp only [List.length_drop, List.length_take]; rfl)) ?_; (with_reducible refine (Pmga.joustref06_Copy.calls kj3 _ _ l0_0 _ _ l0_1 a0_2 a0_3 a0_4 a0_5 a0_6 _ _ l0_7 a0_8 a0_9 t106 t109 t112 t113 t114 t115 t116 t117 t120 t121 _ ?side1 ?side2 ?side3 ?side4 ?side5 ?side6 A32.out).mono ?_); (case side1 => repeat (first | exact (Kd.C_below HR0_0.out HB.out) | (with_reducible refine Kd.C_alloc ?_ _) | (with_reducible refine Kd.C_drewN ?_ _) | (with_reducible refine Kd.C_drew ?_))); (case side2 => exact HC0_0.out); (case side3 => repeat (first | exact (Kd.C_below HR0_1.out HB.out) | (with_reducible refine Kd.C_alloc ?_ _) | (with_reducible refine Kd.C_drewN ?_ _) | (with_reducible refine Kd.C_drew ?_))); (case side4 => exact HC0_1.out); (case side5 => repeat (first | exact (Kd.C_below HR0_7.out HB.out) | (with_reducible refine Kd.C_alloc ?_ _) | (with_reducible refine Kd.C_drewN ?_ _) | (with_reducible refine Kd.C_drew ?_))); (case side6 => exact HC0_7.out); rintro e w34 ⟨v107, v110, v118, rfl, ho0, ho1, ho2, hb⟩; refine ⟨_, rfl, ?_⟩; have n0_ := Az (Kd.R_lower ho0 (below_size (low HB))); have n1_ := Az (Kd.R_lower ho1 (below_size (low HB))); have n2_ := Az (Kd.R_lower ho2 (below_size (low HB))); have n3_ := Az (blk_below (g := gb101) (o := .cells #[.slice A0_0 l0_0.length c0_0, .slice A0_1 l0_1.length c0_1, .int .i64 a0_2, .int .i64 a0_3, .int .i64 a0_4, .int .u8 a0_5, .int .i64 a0_6, .slice A0_7 l0_7.length c0_7, .bool a0_8, .bool a0_9] 28 (0, 0)) (by (with_reducible repeat (first | refine blk_drewN ?_ _ | refine blk_drew ?_ | refine blk_alloc ?_ _)); exact BK101.out) hb); have n4_ := Az (below_step (low HB) hb); clear BK101; clear HB; have HO108 := n0_; have HO111 := n1_; have HO119 := n2_; have BK101 := n3_; have HB := n4_; clear n0_ n1_ n2_ n3_ n4_; (try clear hb); (try clear hb2); (try clear hk); (try clear hi); (try clear ho0); (try clear ho1); (try clear ho2)) | ((with_reducible refine gate_dst (N := 7) rfl ?_); (try (refine gate_guard (by rfl) ?_; dsimp only)); refine box_event ?hg (N := 7) ?hd (cs := #[.slice none 0 0, .slice none 0 0, .int .i64 0, .int .i64 0, .int .i64 0, .int .u8 0, .int .i64 0, .slice none 0 0, .bool false, .bool false]) (t := 28) ?hr ?_; (case hd => rfl); (case hg => rfl); (case hr => first | (go_simp; done) | (go_simp; rfl)); intro gb122 hg w35 hbox hb; have n0_ := Az (Kd.R_below (by (with_reducible repeat (first | apply Kd.R_alloc | apply Kd.R_drewN | apply Kd.R_drew)); exact HO108.out) hb); have n1_ := Az (Kd.R_below (by (with_reducible repeat (first | apply Kd.R_alloc | apply Kd.R_drewN | apply Kd.R_drew)); exact HO111.out) hb); have n2_ := Az (Kd.R_below (by (with_reducible repeat (first | apply Kd.R_alloc | apply Kd.R_drewN | apply Kd.R_drew)); exact HO119.out) hb); have n3_ := Az (blk_below (g := gb101) (o := .cells #[.slice A0_0 l0_0.length c0_0, .slice A0_1 l0_1.length c0_1, .int .i64 a0_2, .int .i64 a0_3, .int .i64 a0_4, .int .u8 a0_5, .int .i64 a0_6, .slice A0_7 l0_7.length c0_7, .bool a0_8, .bool a0_9] 28 (0, 0)) (by (with_reducible repeat (first | refine blk_drewN ?_ _ | refine blk_drew ?_ | refine blk_alloc ?_ _)); exact BK101.out) hb); have n4_ := Az (below_step (low HB) hb); have n5_ := Az (hbox); have n6_ := Az ((by rw [hg]; exact (below_size (low HB)) : w.heap.size ≤ gb122)); have n7_ := Az ((by rw [hg]; exact (below_size (low HB)) : w.heap.size ≤ gb122)); have n8_ := Az ((by rw [hg]; exact Nat.ne_of_lt (blk_lt (g := gb101) (o := .cells #[.slice A0_0 l0_0.length c0_0, .slice A0_1 l0_1.length c0_1, .int .i64 a0_2, .int .i64 a0_3, .int .i64 a0_4, .int .u8 a0_5, .int .i64 a0_6, .slice A0_7 l0_7.length c0_7, .bool a0_8, .bool a0_9] 28 (0, 0)) (by (with_reducible repeat (first | refine blk_drewN ?_ _ | refine blk_drew ?_ | refine blk_alloc ?_ _)); exact BK101.out)) : gb101 ≠ gb122)); have n9_ := Az ((by rw [hg]; exact Nat.ne_of_gt (blk_lt (g := gb101) (o := .cells #[.slice A0_0 l0_0.length c0_0, .slice A0_1 l0_1.length c0_1, .int .i64 a0_2, .int .i64 a0_3, .int .i64 a0_4, .int .u8 a0_5, .int .i64 a0_6, .slice A0_7 l0_7.length c0_7, .bool a0_8, .bool a0_9] 28 (0, 0)) (by (with_reducible repeat (first | refine blk_drewN ?_ _ | refine blk_drew ?_ | refine blk_alloc ?_ _)); exact BK101.out)) : gb122 ≠ gb101)); clear HO108; clear HO111; clear HO119; clear BK101; clear HB; have HO108 := n0_; have HO111 := n1_; have HO119 := n2_; have BK101 := n3_; have HB := n4_; have BK122 := n5_; have GW122 := n6_; have GE122 := n7_; have NB101_122 := n8_; have NB122_101 := n9_; clear n0_ n1_ n2_ n3_ n4_ n5_ n6_ n7_ n8_ n9_; clear hb hbox hg; obtain ⟨Ao36, co36, eo36⟩ := Kd.R_slice HO108.out; subst eo36; have hnb37 := NB122_101.out; have hnc37 := NB101_122.out; have hcz38_0 : w35.cell? ⟨gb122, 0, none⟩ = some (.slice none 0 0) := (blk_cell BK122.out 0).trans rfl; have hcz38_1 : w35.cell? ⟨gb122, 1, none⟩ = some (.slice none 0 0) := (blk_cell BK122.out 1).trans rfl; have hcz38_2 : w35.cell? ⟨gb122, 2, none⟩ = some (.int .i64 0) := (blk_cell BK122.out 2).trans rfl; have hcz38_3 : w35.cell? ⟨gb122, 3, none⟩ = some (.int .i64 0) := (blk_cell BK122.out 3).trans rfl; have hcz38_4 : w35.cell? ⟨gb122, 4, none⟩ = some (.int .i64 0) := (blk_cell BK122.out 4).trans rfl; have hcz38_5 : w35.cell? ⟨gb122, 5, none⟩ = some (.int .u8 0) := (blk_cell BK122.out 5).trans rfl; have hcz38_6 : w35.cell? ⟨gb122, 6, none⟩ = some (.int .i64 0) := (blk_cell BK122.out 6).trans rfl; have hcz38_7 : w35.cell? ⟨gb122, 7, none⟩ = some (.slice none 0 0) := (blk_cell BK122.out 7).trans rfl; have hcz38_8 : w35.cell? ⟨gb122, 8, none⟩ = some (.bool false) := (blk_cell BK122.out 8).trans rfl; have hcz38_9 : w35.cell? ⟨gb122, 9, none⟩ = some (.bool false) := (blk_cell BK122.out 9).trans rfl; have hfz38_0 := blk_frozen BK122.out 0; have hfz38_1 := blk_frozen BK122.out 1; have hfz38_2 := blk_frozen BK122.out 2; have hfz38_3 := blk_frozen BK122.out 3; have hfz38_4 := blk_frozen BK122.out 4; have hfz38_5 := blk_frozen BK122.out 5; have hfz38_6 := blk_frozen BK122.out 6; have hfz38_7 := blk_frozen BK122.out 7; have hfz38_8 := blk_frozen BK122.out 8; have hfz38_9 := blk_frozen BK122.out 9; obtain ⟨Ao39, co39, eo39⟩ := Kd.R_slice HO111.out; subst eo39; obtain ⟨Ao40, co40, eo40⟩ := Kd.R_slice HO119.out; subst eo40))
    go_loopg [43] kj3 (fun kq v43 w' => ∃ (x43_2 : Int) (x123001_2 : List (S35)) (u123001 : Value), v43 = .int .i64 x43_2 ∧ Aside0 (joustlaw07_MightAuras.l0 kq a1 a2 (t109.length : Int) x43_2 l0_0 l0_1 a0_2 a0_3 a0_4 a0_5 a0_6 l0_7 a0_8 a0_9 t106 x123001_2 t112 t113 t114 t115 t116 t117 t120 t121 = some r) ∧ Aside0 (kq ≤ kj3) ∧ Aside0 (Kd.R k97 97 w' w.heap.size (fun _ => True) (.slice Ao36 t106.length co36) t106) ∧ Aside0 (Kd.R k35 35 w' w.heap.size (fun _ => True) u123001 x123001_2) ∧ Aside0 (Kd.R k58 58 w' w.heap.size (fun _ => True) (.slice Ao40 t117.length co40) t117) ∧ Aside0 (w'.heap[gb101]? = some (.cells #[(.slice A0_0 l0_0.length c0_0), (.slice A0_1 l0_1.length c0_1), .int .i64 a0_2, .int .i64 a0_3, .int .i64 a0_4, .int .u8 a0_5, .int .i64 a0_6, (.slice A0_7 l0_7.length c0_7), .bool a0_8, .bool a0_9] 28 (0, 0))) ∧ Aside0 (w'.heap[gb122]? = some (.cells #[(.slice Ao36 t106.length co36), u123001, .int .i64 t112, .int .i64 t113, .int .i64 t114, .int .u8 t115, .int .i64 t116, (.slice Ao40 t117.length co40), .bool t120, .bool t121] 28 (0, 0))) ∧ Aside0 (Below w.heap.size w w'))
    case atStart => exact ⟨(0), (t109), (.slice Ao39 t109.length co39), (by first | rfl | (simp; done) | (simp [*]; done)), H', ⟨Nat.le_refl _⟩, ⟨by (with_reducible repeat (first | apply Kd.R_alloc | apply Kd.R_drewN | apply Kd.R_drew)); exact Kd.R_mono (Kd.R_far (p := ⟨gb122, 9, none⟩) (Kd.R_far (p := ⟨gb122, 8, none⟩) (Kd.R_far (p := ⟨gb122, 7, none⟩) (Kd.R_far (p := ⟨gb122, 6, none⟩) (Kd.R_far (p := ⟨gb122, 5, none⟩) (Kd.R_far (p := ⟨gb122, 4, none⟩) (Kd.R_far (p := ⟨gb122, 3, none⟩) (Kd.R_far (p := ⟨gb122, 2, none⟩) (Kd.R_far (p := ⟨gb122, 1, none⟩) (Kd.R_far (p := ⟨gb122, 0, none⟩) (Kd.R_types HO108.out BK122.out (by decide)) (fun _ hk => hk.2) (.slice Ao36 t106.length co36)) (fun _ hk => hk.2) (.slice Ao39 t109.length co39)) (fun _ hk => hk.2) (.int .i64 t112)) (fun _ hk => hk.2) (.int .i64 t113)) (fun _ hk => hk.2) (.int .i64 t114)) (fun _ hk => hk.2) (.int .u8 t115)) (fun _ hk => hk.2) (.int .i64 t116)) (fun _ hk => hk.2) (.slice Ao40 t117.length co40)) (fun _ hk => hk.2) (.bool t120)) (fun _ hk => hk.2) (.bool t121)) (fun _ hk => trivial)⟩, ⟨by (with_reducible repeat (first | apply Kd.R_alloc | apply Kd.R_drewN | apply Kd.R_drew)); exact Kd.R_mono (Kd.R_far (p := ⟨gb122, 9, none⟩) (Kd.R_far (p := ⟨gb122, 8, none⟩) (Kd.R_far (p := ⟨gb122, 7, none⟩) (Kd.R_far (p := ⟨gb122, 6, none⟩) (Kd.R_far (p := ⟨gb122, 5, none⟩) (Kd.R_far (p := ⟨gb122, 4, none⟩) (Kd.R_far (p := ⟨gb122, 3, none⟩) (Kd.R_far (p := ⟨gb122, 2, none⟩) (Kd.R_far (p := ⟨gb122, 1, none⟩) (Kd.R_far (p := ⟨gb122, 0, none⟩) (Kd.R_types HO111.out BK122.out (by decide)) (fun _ hk => hk.2) (.slice Ao36 t106.length co36)) (fun _ hk => hk.2) (.slice Ao39 t109.length co39)) (fun _ hk => hk.2) (.int .i64 t112)) (fun _ hk => hk.2) (.int .i64 t113)) (fun _ hk => hk.2) (.int .i64 t114)) (fun _ hk => hk.2) (.int .u8 t115)) (fun _ hk => hk.2) (.int .i64 t116)) (fun _ hk => hk.2) (.slice Ao40 t117.length co40)) (fun _ hk => hk.2) (.bool t120)) (fun _ hk => hk.2) (.bool t121)) (fun _ hk => trivial)⟩, ⟨by (with_reducible repeat (first | apply Kd.R_alloc | apply Kd.R_drewN | apply Kd.R_drew)); exact Kd.R_mono (Kd.R_far (p := ⟨gb122, 9, none⟩) (Kd.R_far (p := ⟨gb122, 8, none⟩) (Kd.R_far (p := ⟨gb122, 7, none⟩) (Kd.R_far (p := ⟨gb122, 6, none⟩) (Kd.R_far (p := ⟨gb122, 5, none⟩) (Kd.R_far (p := ⟨gb122, 4, none⟩) (Kd.R_far (p := ⟨gb122, 3, none⟩) (Kd.R_far (p := ⟨gb122, 2, none⟩) (Kd.R_far (p := ⟨gb122, 1, none⟩) (Kd.R_far (p := ⟨gb122, 0, none⟩) (Kd.R_types HO119.out BK122.out (by decide)) (fun _ hk => hk.2) (.slice Ao36 t106.length co36)) (fun _ hk => hk.2) (.slice Ao39 t109.length co39)) (fun _ hk => hk.2) (.int .i64 t112)) (fun _ hk => hk.2) (.int .i64 t113)) (fun _ hk => hk.2) (.int .i64 t114)) (fun _ hk => hk.2) (.int .u8 t115)) (fun _ hk => hk.2) (.int .i64 t116)) (fun _ hk => hk.2) (.slice Ao40 t117.length co40)) (fun _ hk => hk.2) (.bool t120)) (fun _ hk => hk.2) (.bool t121)) (fun _ hk => trivial)⟩, ⟨by (with_reducible repeat (first | refine blk_drewN ?_ _ | refine blk_drew ?_ | refine blk_alloc ?_ _)); refine blk_far ?_ NB101_122.out _; (with_reducible repeat (first | refine blk_drewN ?_ _ | refine blk_drew ?_ | refine blk_alloc ?_ _)); refine blk_far ?_ NB101_122.out _; (with_reducible repeat (first | refine blk_drewN ?_ _ | refine blk_drew ?_ | refine blk_alloc ?_ _)); refine blk_far ?_ NB101_122.out _; (with_reducible repeat (first | refine blk_drewN ?_ _ | refine blk_drew ?_ | refine blk_alloc ?_ _)); refine blk_far ?_ NB101_122.out _; (with_reducible repeat (first | refine blk_drewN ?_ _ | refine blk_drew ?_ | refine blk_alloc ?_ _)); refine blk_far ?_ NB101_122.out _; (with_reducible repeat (first | refine blk_drewN ?_ _ | refine blk_drew ?_ | refine blk_alloc ?_ _)); refine blk_far ?_ NB101_122.out _; (with_reducible repeat (first | refine blk_drewN ?_ _ | refine blk_drew ?_ | refine blk_alloc ?_ _)); refine blk_far ?_ NB101_122.out _; (with_reducible repeat (first | refine blk_drewN ?_ _ | refine blk_drew ?_ | refine blk_alloc ?_ _)); refine blk_far ?_ NB101_122.out _; (with_reducible repeat (first | refine blk_drewN ?_ _ | refine blk_drew ?_ | refine blk_alloc ?_ _)); refine blk_far ?_ NB101_122.out _; (with_reducible repeat (first | refine blk_drewN ?_ _ | refine blk_drew ?_ | refine blk_alloc ?_ _)); refine blk_far ?_ NB101_122.out _; (with_reducible repeat (first | refine blk_drewN ?_ _ | refine blk_drew ?_ | refine blk_alloc ?_ _)); exact BK101.out⟩, ⟨by (with_reducible repeat (first | refine blk_drewN ?_ _ | refine blk_drew ?_ | refine blk_alloc ?_ _)); refine blk_put (cs := #[.slice Ao36 t106.length co36, .slice Ao39 t109.length co39, .int .i64 t112, .int .i64 t113, .int .i64 t114, .int .u8 t115, .int .i64 t116, .slice Ao40 t117.length co40, .bool t120, .bool false]) ?_ 9 _ rfl; (with_reducible repeat (first | refine blk_drewN ?_ _ | refine blk_drew ?_ | refine blk_alloc ?_ _)); refine blk_put (cs := #[.slice Ao36 t106.length co36, .slice Ao39 t109.length co39, .int .i64 t112, .int .i64 t113, .int .i64 t114, .int .u8 t115, .int .i64 t116, .slice Ao40 t117.length co40, .bool false, .bool false]) ?_ 8 _ rfl; (with_reducible repeat (first | refine blk_drewN ?_ _ | refine blk_drew ?_ | refine blk_alloc ?_ _)); refine blk_put (cs := #[.slice Ao36 t106.length co36, .slice Ao39 t109.length co39, .int .i64 t112, .int .i64 t113, .int .i64 t114, .int .u8 t115, .int .i64 t116, .slice none 0 0, .bool false, .bool false]) ?_ 7 _ rfl; (with_reducible repeat (first | refine blk_drewN ?_ _ | refine blk_drew ?_ | refine blk_alloc ?_ _)); refine blk_put (cs := #[.slice Ao36 t106.length co36, .slice Ao39 t109.length co39, .int .i64 t112, .int .i64 t113, .int .i64 t114, .int .u8 t115, .int .i64 0, .slice none 0 0, .bool false, .bool false]) ?_ 6 _ rfl; (with_reducible repeat (first | refine blk_drewN ?_ _ | refine blk_drew ?_ | refine blk_alloc ?_ _)); refine blk_put (cs := #[.slice Ao36 t106.length co36, .slice Ao39 t109.length co39, .int .i64 t112, .int .i64 t113, .int .i64 t114, .int .u8 0, .int .i64 0, .slice none 0 0, .bool false, .bool false]) ?_ 5 _ rfl; (with_reducible repeat (first | refine blk_drewN ?_ _ | refine blk_drew ?_ | refine blk_alloc ?_ _)); refine blk_put (cs := #[.slice Ao36 t106.length co36, .slice Ao39 t109.length co39, .int .i64 t112, .int .i64 t113, .int .i64 0, .int .u8 0, .int .i64 0, .slice none 0 0, .bool false, .bool false]) ?_ 4 _ rfl; (with_reducible repeat (first | refine blk_drewN ?_ _ | refine blk_drew ?_ | refine blk_alloc ?_ _)); refine blk_put (cs := #[.slice Ao36 t106.length co36, .slice Ao39 t109.length co39, .int .i64 t112, .int .i64 0, .int .i64 0, .int .u8 0, .int .i64 0, .slice none 0 0, .bool false, .bool false]) ?_ 3 _ rfl; (with_reducible repeat (first | refine blk_drewN ?_ _ | refine blk_drew ?_ | refine blk_alloc ?_ _)); refine blk_put (cs := #[.slice Ao36 t106.length co36, .slice Ao39 t109.length co39, .int .i64 0, .int .i64 0, .int .i64 0, .int .u8 0, .int .i64 0, .slice none 0 0, .bool false, .bool false]) ?_ 2 _ rfl; (with_reducible repeat (first | refine blk_drewN ?_ _ | refine blk_drew ?_ | refine blk_alloc ?_ _)); refine blk_put (cs := #[.slice Ao36 t106.length co36, .slice none 0 0, .int .i64 0, .int .i64 0, .int .i64 0, .int .u8 0, .int .i64 0, .slice none 0 0, .bool false, .bool false]) ?_ 1 _ rfl; (with_reducible repeat (first | refine blk_drewN ?_ _ | refine blk_drew ?_ | refine blk_alloc ?_ _)); refine blk_put (cs := #[.slice none 0 0, .slice none 0 0, .int .i64 0, .int .i64 0, .int .i64 0, .int .u8 0, .int .i64 0, .slice none 0 0, .bool false, .bool false]) ?_ 0 _ rfl; (with_reducible repeat (first | refine blk_drewN ?_ _ | refine blk_drew ?_ | refine blk_alloc ?_ _)); exact BK122.out⟩, ⟨low HB⟩⟩
    case round =>
     clear H'
     try clear c1
     try clear c2
     try clear p2
     try clear c3
     try clear c4
     try clear c7
     try clear c11
     try clear c12
     try clear c12b0
     try clear c15
     try clear c19
     try clear c20
     try clear c26
     try clear c28
     try clear c28b0
     try clear c28b1
     try clear c37
     try clear hcz13_0
     try clear hcz13_1
     try clear hcz13_2
     try clear hcz13_3
     try clear hcz13_4
     try clear hcz13_5
     try clear hcz13_6
     try clear hcz13_7
     try clear hcz13_8
     try clear hcz13_9
     try clear hcz15_0
     try clear hcz15_1
     try clear hcz15_2
     try clear hcz15_3
     try clear hcz15_4
     try clear hcz15_5
     try clear hcz15_6
     try clear hcz15_7
     try clear hcz15_8
     try clear hcz15_9
     try clear hcz17_0
     try clear hcz17_1
     try clear hcz17_2
     try clear hcz17_3
     try clear hcz17_4
     try clear hcz17_5
     try clear hcz17_6
     try clear hcz17_7
     try clear hcz17_8
     try clear hcz17_9
     try clear hcz19_0
     try clear hcz19_1
     try clear hcz19_2
     try clear hcz19_3
     try clear hcz19_4
     try clear hcz19_5
     try clear hcz19_6
     try clear hcz19_7
     try clear hcz19_8
     try clear hcz19_9
     try clear hcz21_0
     try clear hcz21_1
     try clear hcz21_2
     try clear hcz21_3
     try clear hcz21_4
     try clear hcz21_5
     try clear hcz21_6
     try clear hcz21_7
     try clear hcz21_8
     try clear hcz21_9
     try clear hcz22_0
     try clear hcz22_1
     try clear hcz22_2
     try clear hcz22_3
     try clear hcz22_4
     try clear hcz22_5
     try clear hcz22_6
     try clear hcz22_7
     try clear hcz22_8
     try clear hcz22_9
     try clear hcz24_0
     try clear hcz24_1
     try clear hcz24_2
     try clear hcz24_3
     try clear hcz24_4
     try clear hcz24_5
     try clear hcz24_6
     try clear hcz24_7
     try clear hcz24_8
     try clear hcz24_9
     try clear hcz33_0
     try clear hcz33_1
     try clear hcz33_2
     try clear hcz33_3
     try clear hcz33_4
     try clear hcz33_5
     try clear hcz33_6
     try clear hcz33_7
     try clear hcz33_8
     try clear hcz33_9
     try clear hcz38_0
     try clear hcz38_1
     try clear hcz38_2
     try clear hcz38_3
     try clear hcz38_4
     try clear hcz38_5
     try clear hcz38_6
     try clear hcz38_7
     try clear hcz38_8
     try clear hcz38_9
     try clear hcz8_0
     try clear hcz8_1
     try clear hcz8_2
     try clear hcz8_3
     try clear hcz8_4
     try clear hcz8_5
     try clear hcz8_6
     try clear hcz8_7
     try clear hcz8_8
     try clear hcz8_9
     try clear hfz13_0
     try clear hfz13_1
     try clear hfz13_2
     try clear hfz13_3
     try clear hfz13_4
     try clear hfz13_5
     try clear hfz13_6
     try clear hfz13_7
     try clear hfz13_8
     try clear hfz13_9
     try clear hfz15_0
     try clear hfz15_1
     try clear hfz15_2
     try clear hfz15_3
     try clear hfz15_4
     try clear hfz15_5
     try clear hfz15_6
     try clear hfz15_7
     try clear hfz15_8
     try clear hfz15_9
     try clear hfz17_0
     try clear hfz17_1
     try clear hfz17_2
     try clear hfz17_3
     try clear hfz17_4
     try clear hfz17_5
     try clear hfz17_6
     try clear hfz17_7
     try clear hfz17_8
     try clear hfz17_9
     try clear hfz19_0
     try clear hfz19_1
     try clear hfz19_2
     try clear hfz19_3
     try clear hfz19_4
     try clear hfz19_5
     try clear hfz19_6
     try clear hfz19_7
     try clear hfz19_8
     try clear hfz19_9
     try clear hfz21_0
     try clear hfz21_1
     try clear hfz21_2
     try clear hfz21_3
     try clear hfz21_4
     try clear hfz21_5
     try clear hfz21_6
     try clear hfz21_7
     try clear hfz21_8
     try clear hfz21_9
     try clear hfz22_0
     try clear hfz22_1
     try clear hfz22_2
     try clear hfz22_3
     try clear hfz22_4
     try clear hfz22_5
     try clear hfz22_6
     try clear hfz22_7
     try clear hfz22_8
     try clear hfz22_9
     try clear hfz24_0
     try clear hfz24_1
     try clear hfz24_2
     try clear hfz24_3
     try clear hfz24_4
     try clear hfz24_5
     try clear hfz24_6
     try clear hfz24_7
     try clear hfz24_8
     try clear hfz24_9
     try clear hfz33_0
     try clear hfz33_1
     try clear hfz33_2
     try clear hfz33_3
     try clear hfz33_4
     try clear hfz33_5
     try clear hfz33_6
     try clear hfz33_7
     try clear hfz33_8
     try clear hfz33_9
     try clear hfz38_0
     try clear hfz38_1
     try clear hfz38_2
     try clear hfz38_3
     try clear hfz38_4
     try clear hfz38_5
     try clear hfz38_6
     try clear hfz38_7
     try clear hfz38_8
     try clear hfz38_9
     try clear hfz8_0
     try clear hfz8_1
     try clear hfz8_2
     try clear hfz8_3
     try clear hfz8_4
     try clear hfz8_5
     try clear hfz8_6
     try clear hfz8_7
     try clear hfz8_8
     try clear hfz8_9
     try clear p2
     obtain ⟨x43_2, x123001_2, u123001, rfl, HA, HK2, HO_123000, HO_123001, HO_123007, BK101, BK122, HB⟩ := hrel
     cases gk with
     | zero => exact absurd HA.out (by simp [joustlaw07_MightAuras.l0])
     | succ k2 =>
      have H := HA.out
      clear HA
      simp only [joustlaw07_MightAuras.l0] at H
      by_cases c41 : x43_2 < (t109.length : Int)
      ·
       rw [if_pos c41] at H
       have c41b0 : decide (x43_2 < (t109.length : Int)) = true := decide_eq_true c41
       clear c41
       by_cases c42 : 0 ≤ x43_2
       ·
        rw [if_pos c42] at H
        have c42b0 : decide (0 ≤ x43_2) = true := decide_eq_true c42
        clear c42
        by_cases c43 : x43_2 < (x123001_2.length : Int)
        ·
         rw [if_pos c43] at H
         have c43b0 : decide (x43_2 < (x123001_2.length : Int)) = true := decide_eq_true c43
         clear c43
         obtain ⟨y123, hy123⟩ : ∃ y_ : List (S35), y_ = (x123001_2.set (x43_2 : Int).toNat (⟨(rd_T35 x123001_2 x43_2).f0, (rd_T35 x123001_2 x43_2).f1, (rd_T35 x123001_2 x43_2).f2, (rd_T35 x123001_2 x43_2).f3, (rd_T35 x123001_2 x43_2).f4, (rd_T35 x123001_2 x43_2).f5, (rd_T35 x123001_2 x43_2).f6, false, (rd_T35 x123001_2 x43_2).f8, (rd_T35 x123001_2 x43_2).f9, (rd_T35 x123001_2 x43_2).f10, (rd_T35 x123001_2 x43_2).f11, (rd_T35 x123001_2 x43_2).f12, (rd_T35 x123001_2 x43_2).f13⟩ : S35)) := ⟨_, rfl⟩
         replace H : (joustlaw07_MightAuras.l0 k2 a1 a2 (t109.length : Int) (wrap64 (x43_2 + 1)) l0_0 l0_1 a0_2 a0_3 a0_4 a0_5 a0_6 l0_7 a0_8 a0_9 t106 y123 t112 t113 t114 t115 t116 t117 t120 t121) = some r := by first | (rw [hy123]; with_reducible exact H) | (have H2_ := (Option.bind_some _ _).symm.trans H; rw [hy123]; with_reducible exact H2_) | (have H2_ := (Option.bind_some _ _).symm.trans H; with_reducible exact H2_) | with_reducible exact H | (rw [hy123]; exact H) | exact H
         have Ny123 := Az hy123
         clear hy123
         have H' := Az H
         clear H
         have hnb45 := NB122_101.out
         have hnc45 := NB101_122.out
         have hcz46_0 : wr.cell? ⟨gb122, 0, none⟩ = some (.slice Ao36 t106.length co36) := (blk_cell BK122.out 0).trans rfl
         have hcz46_1 : wr.cell? ⟨gb122, 1, none⟩ = some (u123001) := (blk_cell BK122.out 1).trans rfl
         have hcz46_2 : wr.cell? ⟨gb122, 2, none⟩ = some (.int .i64 t112) := (blk_cell BK122.out 2).trans rfl
         have hcz46_3 : wr.cell? ⟨gb122, 3, none⟩ = some (.int .i64 t113) := (blk_cell BK122.out 3).trans rfl
         have hcz46_4 : wr.cell? ⟨gb122, 4, none⟩ = some (.int .i64 t114) := (blk_cell BK122.out 4).trans rfl
         have hcz46_5 : wr.cell? ⟨gb122, 5, none⟩ = some (.int .u8 t115) := (blk_cell BK122.out 5).trans rfl
         have hcz46_6 : wr.cell? ⟨gb122, 6, none⟩ = some (.int .i64 t116) := (blk_cell BK122.out 6).trans rfl
         have hcz46_7 : wr.cell? ⟨gb122, 7, none⟩ = some (.slice Ao40 t117.length co40) := (blk_cell BK122.out 7).trans rfl
         have hcz46_8 : wr.cell? ⟨gb122, 8, none⟩ = some (.bool t120) := (blk_cell BK122.out 8).trans rfl
         have hcz46_9 : wr.cell? ⟨gb122, 9, none⟩ = some (.bool t121) := (blk_cell BK122.out 9).trans rfl
         have hfz46_0 := blk_frozen BK122.out 0
         have hfz46_1 := blk_frozen BK122.out 1
         have hfz46_2 := blk_frozen BK122.out 2
         have hfz46_3 := blk_frozen BK122.out 3
         have hfz46_4 := blk_frozen BK122.out 4
         have hfz46_5 := blk_frozen BK122.out 5
         have hfz46_6 := blk_frozen BK122.out 6
         have hfz46_7 := blk_frozen BK122.out 7
         have hfz46_8 := blk_frozen BK122.out 8
         have hfz46_9 := blk_frozen BK122.out 9
         have p44 : 0 ≤ (x43_2 : Int) := of_decide_eq_true (by first | (with_reducible assumption) | assumption)
         have q44 : (x43_2 : Int) < ((x123001_2.length : Int) : Int) := of_decide_eq_true (by first | (with_reducible assumption) | assumption)
         obtain ⟨go44, co44, eo44, gb44, gl44, cl44, HG44⟩ := Kd.R_form HO_123001.out (by omega)
         (first | cases eo44 | (injection eo44 with ea_ en_ ec_; (first | subst ea_ | (injection ea_ with ea_; subst ea_)); subst ec_; clear en_))
         have GB44 := Az gb44
         have GG44 := Az HG44
         clear gb44 gl44 HG44
         obtain ⟨ce44, hcl44, hM44, hcc44, hfr44⟩ := Kd.R_elem HO_123001.out z35 (x43_2 : Int) p44 q44
         obtain rfl := k35_openM hM44
         have hx44_0 : wr.cell? ⟨go44, (x43_2 : Int).toNat * 14, none⟩ = some (.int .i64 ((rd_T35 x123001_2 x43_2).f0)) := hcc44 0 _ rfl
         have hx44_1 : wr.cell? ⟨go44, (x43_2 : Int).toNat * 14 + 1, none⟩ = some (.int .i64 ((rd_T35 x123001_2 x43_2).f1)) := hcc44 1 _ rfl
         have hx44_2 : wr.cell? ⟨go44, (x43_2 : Int).toNat * 14 + 2, none⟩ = some (.int .i64 ((rd_T35 x123001_2 x43_2).f2)) := hcc44 2 _ rfl
         have hx44_3 : wr.cell? ⟨go44, (x43_2 : Int).toNat * 14 + 3, none⟩ = some (.int .u8 ((rd_T35 x123001_2 x43_2).f3)) := hcc44 3 _ rfl
         have hx44_4 : wr.cell? ⟨go44, (x43_2 : Int).toNat * 14 + 4, none⟩ = some (.int .u8 ((rd_T35 x123001_2 x43_2).f4)) := hcc44 4 _ rfl
         have hx44_5 : wr.cell? ⟨go44, (x43_2 : Int).toNat * 14 + 5, none⟩ = some (.int .u8 ((rd_T35 x123001_2 x43_2).f5)) := hcc44 5 _ rfl
         have hx44_6 : wr.cell? ⟨go44, (x43_2 : Int).toNat * 14 + 6, none⟩ = some (.int .i64 ((rd_T35 x123001_2 x43_2).f6)) := hcc44 6 _ rfl
         have hx44_7 : wr.cell? ⟨go44, (x43_2 : Int).toNat * 14 + 7, none⟩ = some (.bool ((rd_T35 x123001_2 x43_2).f7)) := hcc44 7 _ rfl
         have hx44_8 : wr.cell? ⟨go44, (x43_2 : Int).toNat * 14 + 8, none⟩ = some (.bool ((rd_T35 x123001_2 x43_2).f8)) := hcc44 8 _ rfl
         have hx44_9 : wr.cell? ⟨go44, (x43_2 : Int).toNat * 14 + 9, none⟩ = some (.int .i64 ((rd_T35 x123001_2 x43_2).f9)) := hcc44 9 _ rfl
         have hx44_10 : wr.cell? ⟨go44, (x43_2 : Int).toNat * 14 + 10, none⟩ = some (.int .u8 ((rd_T35 x123001_2 x43_2).f10)) := hcc44 10 _ rfl
         have hx44_11 : wr.cell? ⟨go44, (x43_2 : Int).toNat * 14 + 11, none⟩ = some (.bool ((rd_T35 x123001_2 x43_2).f11)) := hcc44 11 _ rfl
         have hx44_12 : wr.cell? ⟨go44, (x43_2 : Int).toNat * 14 + 12, none⟩ = some (.bool ((rd_T35 x123001_2 x43_2).f12)) := hcc44 12 _ rfl
         have hx44_13 : wr.cell? ⟨go44, (x43_2 : Int).toNat * 14 + 13, none⟩ = some (.int .i64 ((rd_T35 x123001_2 x43_2).f13)) := hcc44 13 _ rfl
         have hf44_0 : wr.frozen? ⟨go44, (x43_2 : Int).toNat * 14, none⟩ = false := hfr44 0
         have hf44_1 : wr.frozen? ⟨go44, (x43_2 : Int).toNat * 14 + 1, none⟩ = false := hfr44 1
         have hf44_2 : wr.frozen? ⟨go44, (x43_2 : Int).toNat * 14 + 2, none⟩ = false := hfr44 2
         have hf44_3 : wr.frozen? ⟨go44, (x43_2 : Int).toNat * 14 + 3, none⟩ = false := hfr44 3
         have hf44_4 : wr.frozen? ⟨go44, (x43_2 : Int).toNat * 14 + 4, none⟩ = false := hfr44 4
         have hf44_5 : wr.frozen? ⟨go44, (x43_2 : Int).toNat * 14 + 5, none⟩ = false := hfr44 5
         have hf44_6 : wr.frozen? ⟨go44, (x43_2 : Int).toNat * 14 + 6, none⟩ = false := hfr44 6
         have hf44_7 : wr.frozen? ⟨go44, (x43_2 : Int).toNat * 14 + 7, none⟩ = false := hfr44 7
         have hf44_8 : wr.frozen? ⟨go44, (x43_2 : Int).toNat * 14 + 8, none⟩ = false := hfr44 8
         have hf44_9 : wr.frozen? ⟨go44, (x43_2 : Int).toNat * 14 + 9, none⟩ = false := hfr44 9
         have hf44_10 : wr.frozen? ⟨go44, (x43_2 : Int).toNat * 14 + 10, none⟩ = false := hfr44 10
         have hf44_11 : wr.frozen? ⟨go44, (x43_2 : Int).toNat * 14 + 11, none⟩ = false := hfr44 11
         have hf44_12 : wr.frozen? ⟨go44, (x43_2 : Int).toNat * 14 + 12, none⟩ = false := hfr44 12
         have hf44_13 : wr.frozen? ⟨go44, (x43_2 : Int).toNat * 14 + 13, none⟩ = false := hfr44 13
         clear hcl44 hcc44 hfr44 hM44
         replace p44 := eq_true p44
         replace q44 := eq_true q44
         have HX47 := Az (show Kd.R k35 35 wr w.heap.size (fun _ => True) (.slice (some ⟨go44, 0, none⟩) x123001_2.length co44) x123001_2 from (by (with_reducible repeat (first | apply Kd.R_alloc | apply Kd.R_drewN | apply Kd.R_drew)); exact HO_123001.out))
         obtain ⟨ce47, hcl47, hM47, hcc47, hfr47⟩ := Kd.R_elem HX47.out z35 (x43_2 : Int) (of_decide_eq_true (by first | (with_reducible assumption) | assumption)) (by have h_ : (x43_2 : Int) < ((x123001_2.length : Int) : Int) := of_decide_eq_true (by first | (with_reducible assumption) | assumption); first | exact h_ | (have e_ := (Kd.R_reads' HO_123001.out).1; omega) | simpa using h_)
         obtain rfl := k35_openM hM47
         have HP47 := Kd.R_seg HX47.out (x43_2 : Int) (of_decide_eq_true (by first | (with_reducible assumption) | assumption)) (by have h_ : (x43_2 : Int) < ((x123001_2.length : Int) : Int) := of_decide_eq_true (by first | (with_reducible assumption) | assumption); first | exact h_ | (have e_ := (Kd.R_reads' HO_123001.out).1; omega) | simpa using h_) (seg := [.bool false]) (j := 7) hcl47 hcc47 (show 8 ≤ 14 from by decide) (x' := (⟨(rd_T35 x123001_2 x43_2).f0, (rd_T35 x123001_2 x43_2).f1, (rd_T35 x123001_2 x43_2).f2, (rd_T35 x123001_2 x43_2).f3, (rd_T35 x123001_2 x43_2).f4, (rd_T35 x123001_2 x43_2).f5, (rd_T35 x123001_2 x43_2).f6, false, (rd_T35 x123001_2 x43_2).f8, (rd_T35 x123001_2 x43_2).f9, (rd_T35 x123001_2 x43_2).f10, (rd_T35 x123001_2 x43_2).f11, (rd_T35 x123001_2 x43_2).f12, (rd_T35 x123001_2 x43_2).f13⟩ : S35)) (k35_mkM _ _ _ (⟨(rd_T35 x123001_2 x43_2).f0, (rd_T35 x123001_2 x43_2).f1, (rd_T35 x123001_2 x43_2).f2, (rd_T35 x123001_2 x43_2).f3, (rd_T35 x123001_2 x43_2).f4, (rd_T35 x123001_2 x43_2).f5, (rd_T35 x123001_2 x43_2).f6, false, (rd_T35 x123001_2 x43_2).f8, (rd_T35 x123001_2 x43_2).f9, (rd_T35 x123001_2 x43_2).f10, (rd_T35 x123001_2 x43_2).f11, (rd_T35 x123001_2 x43_2).f12, (rd_T35 x123001_2 x43_2).f13⟩ : S35) ) (fun _ hk => hk)
         have hx47_7 := hcc47 7 _ rfl
         (try simp only [show (k35).sz = 14 from rfl, Nat.mul_one, Nat.add_zero] at hx47_7)
         have hf47_7 := hfr47 7
         (try simp only [show (k35).sz = 14 from rfl, Nat.mul_one, Nat.add_zero] at hf47_7)
         clear hcl47 hcc47 hfr47 hM47
         go_wp2_with (first | ((with_reducible refine gate_store (t := 4) (p := 50) rfl ?_); refine store_event (t := 4) (p := 50) (v := ?vo_w48) (w1 := (wr.setCell ⟨go44, (x43_2 : Int).toNat * 14 + 7, none⟩ (.bool false))) ?hg ?ho ?hn ?hr ?_; (case ho => rfl); (case hg => rfl); (case hn => rfl); (case hr => first | (go_simp; done) | (go_simp; rfl)); intro w48 hw; have hg : wr.grownBy w48 (some go44) := (by rw [hw]; exact HP47.2); have hp_ : Kd.R k35 35 w48 w.heap.size (fun _ => True) (.slice (some ⟨go44, 0, none⟩) x123001_2.length co44) y123 := (by rw [hw, Ny123.out]; exact HP47.1); clear HP47; have n0_ := Az (Kd.R_over' (v := (.slice (some ⟨go44, 0, none⟩) x123001_2.length co44)) (by (with_reducible repeat (first | apply Kd.R_alloc | apply Kd.R_drewN | apply Kd.R_drew)); exact HO_123000.out) (Kd.R_typed HO_123001.out) (by decide) hg); have n1_ := Az (hp_); have n2_ := Az (Kd.R_over' (v := (.slice (some ⟨go44, 0, none⟩) x123001_2.length co44)) (by (with_reducible repeat (first | apply Kd.R_alloc | apply Kd.R_drewN | apply Kd.R_drew)); exact HO_123007.out) (Kd.R_typed HO_123001.out) (by decide) hg); have n3_ := Az (blk_grown (g := gb101) (o := .cells #[.slice A0_0 l0_0.length c0_0, .slice A0_1 l0_1.length c0_1, .int .i64 a0_2, .int .i64 a0_3, .int .i64 a0_4, .int .u8 a0_5, .int .i64 a0_6, .slice A0_7 l0_7.length c0_7, .bool a0_8, .bool a0_9] 28 (0, 0)) (by (with_reducible repeat (first | refine blk_drewN ?_ _ | refine blk_drew ?_ | refine blk_alloc ?_ _)); exact BK101.out) hg (Kd.R_ne HO_123001.out BK101.out (by decide))); have n4_ := Az (blk_grown (g := gb122) (o := .cells #[.slice Ao36 t106.length co36, .slice (some ⟨go44, 0, none⟩) x123001_2.length co44, .int .i64 t112, .int .i64 t113, .int .i64 t114, .int .u8 t115, .int .i64 t116, .slice Ao40 t117.length co40, .bool t120, .bool t121] 28 (0, 0)) (by (with_reducible repeat (first | refine blk_drewN ?_ _ | refine blk_drew ?_ | refine blk_alloc ?_ _)); exact BK122.out) hg (Kd.R_ne HO_123001.out BK122.out (by decide))); have n5_ := Az ((by rw [hw]; exact below_set (HB.out) GB44.out : Below w.heap.size w w48)); clear HO_123000; clear HO_123001; clear HO_123007; clear BK101; clear BK122; clear HB; have HO_123000 := n0_; have HO_123001 := n1_; have HO_123007 := n2_; have BK101 := n3_; have BK122 := n4_; have HB := n5_; clear n0_ n1_ n2_ n3_ n4_ n5_; clear hg hw hp_))
         go_roundg k2
         case measure => have := HJ3.out; have := HK2.out; omega
         case rel => exact ⟨(wrap64 (x43_2 + 1)), (y123), (.slice (some ⟨go44, 0, none⟩) x123001_2.length co44), (by first | rfl | (simp; done) | (simp [*]; done)), H', ⟨by have := HJ3.out; have := HK2.out; omega⟩, ⟨by (with_reducible repeat (first | apply Kd.R_alloc | apply Kd.R_drewN | apply Kd.R_drew)); exact HO_123000.out⟩, ⟨by (with_reducible repeat (first | apply Kd.R_alloc | apply Kd.R_drewN | apply Kd.R_drew)); exact HO_123001.out⟩, ⟨by (with_reducible repeat (first | apply Kd.R_alloc | apply Kd.R_drewN | apply Kd.R_drew)); exact HO_123007.out⟩, ⟨by (with_reducible repeat (first | refine blk_drewN ?_ _ | refine blk_drew ?_ | refine blk_alloc ?_ _)); exact BK101.out⟩, ⟨by (with_reducible repeat (first | refine blk_drewN ?_ _ | refine blk_drew ?_ | refine blk_alloc ?_ _)); exact BK122.out⟩, ⟨low HB⟩⟩
        ·
         rw [if_neg c43] at H
         exact absurd H (by simp)
       ·
        rw [if_neg c42] at H
        exact absurd H (by simp)
      ·
       rw [if_neg c41] at H
       have c41b0 : decide (x43_2 < (t109.length : Int)) = false := decide_eq_false c41
       clear c41
       by_cases c49 : 0 ≤ a1
       ·
        rw [if_pos c49] at H
        have c49b0 : decide (0 ≤ a1) = true := decide_eq_true c49
        clear c49
        by_cases c50 : a1 < (l0_1.length : Int)
        ·
         rw [if_pos c50] at H
         have c50b0 : decide (a1 < (l0_1.length : Int)) = true := decide_eq_true c50
         clear c50
         obtain ⟨ji51, hji51⟩ : ∃ j_ : Int, (mx ((rd_T35 l0_1 a1).f13) (-99999)) = j_ := ⟨_, rfl⟩
         replace H : ((might_Attack.f k2 l0_0 l0_1 a0_2 a0_3 a0_4 a0_5 a0_6 l0_7 a0_8 a0_9 a1).bind fun t126 => ((might_Attack.f k2 t106 x123001_2 t112 t113 t114 t115 t116 t117 t120 t121 a1).bind fun t127 => (if t127 = (mn (mx (wrap64 (((rd_T35 l0_1 a1).f1) + (mn (ji51) 99999))) 0) 99999) then (if t126 < (mn (mx (wrap64 (((rd_T35 l0_1 a1).f1) + (mn (ji51) 99999))) 0) 99999) then (joustlaw07_MightAuras.j2 k2 a1 a2 t126 true l0_0 l0_1 a0_2 a0_3 a0_4 a0_5 a0_6 l0_7 a0_8 a0_9) else (if t126 > 99999 then (joustlaw07_MightAuras.j2 k2 a1 a2 t126 true l0_0 l0_1 a0_2 a0_3 a0_4 a0_5 a0_6 l0_7 a0_8 a0_9) else (if ((rd_T35 l0_1 a1).f5) = 2 then (joustlaw07_MightAuras.j2 k2 a1 a2 t126 false l0_0 l0_1 a0_2 a0_3 a0_4 a0_5 a0_6 l0_7 a0_8 a0_9) else (joustlaw07_MightAuras.j2 k2 a1 a2 t126 (t126 != (mn (mx (wrap64 (((rd_T35 l0_1 a1).f1) + (mn (ji51) 99999))) 0) 99999)) l0_0 l0_1 a0_2 a0_3 a0_4 a0_5 a0_6 l0_7 a0_8 a0_9)))) else (joustlaw07_MightAuras.j2 k2 a1 a2 t126 true l0_0 l0_1 a0_2 a0_3 a0_4 a0_5 a0_6 l0_7 a0_8 a0_9)))) = some r := by first | (rw [hji51] at H; exact H) | (simp only [hji51] at H ⊢; exact H)
         have hji51_ : (if ((rd_T35 l0_1 a1).f13) < (-99999) then (-99999) else ((rd_T35 l0_1 a1).f13)) = ji51 := hji51
         obtain ⟨ji52, hji52⟩ : ∃ j_ : Int, (mn (ji51) 99999) = j_ := ⟨_, rfl⟩
         replace H : ((might_Attack.f k2 l0_0 l0_1 a0_2 a0_3 a0_4 a0_5 a0_6 l0_7 a0_8 a0_9 a1).bind fun t126 => ((might_Attack.f k2 t106 x123001_2 t112 t113 t114 t115 t116 t117 t120 t121 a1).bind fun t127 => (if t127 = (mn (mx (wrap64 (((rd_T35 l0_1 a1).f1) + (ji52))) 0) 99999) then (if t126 < (mn (mx (wrap64 (((rd_T35 l0_1 a1).f1) + (ji52))) 0) 99999) then (joustlaw07_MightAuras.j2 k2 a1 a2 t126 true l0_0 l0_1 a0_2 a0_3 a0_4 a0_5 a0_6 l0_7 a0_8 a0_9) else (if t126 > 99999 then (joustlaw07_MightAuras.j2 k2 a1 a2 t126 true l0_0 l0_1 a0_2 a0_3 a0_4 a0_5 a0_6 l0_7 a0_8 a0_9) else (if ((rd_T35 l0_1 a1).f5) = 2 then (joustlaw07_MightAuras.j2 k2 a1 a2 t126 false l0_0 l0_1 a0_2 a0_3 a0_4 a0_5 a0_6 l0_7 a0_8 a0_9) else (joustlaw07_MightAuras.j2 k2 a1 a2 t126 (t126 != (mn (mx (wrap64 (((rd_T35 l0_1 a1).f1) + (ji52))) 0) 99999)) l0_0 l0_1 a0_2 a0_3 a0_4 a0_5 a0_6 l0_7 a0_8 a0_9)))) else (joustlaw07_MightAuras.j2 k2 a1 a2 t126 true l0_0 l0_1 a0_2 a0_3 a0_4 a0_5 a0_6 l0_7 a0_8 a0_9)))) = some r := by first | (rw [hji52] at H; exact H) | (simp only [hji52] at H ⊢; exact H)
         have hji52_ : (if 99999 < (ji51) then 99999 else (ji51)) = ji52 := hji52
         obtain ⟨ji53, hji53⟩ : ∃ j_ : Int, (mx (wrap64 (((rd_T35 l0_1 a1).f1) + (ji52))) 0) = j_ := ⟨_, rfl⟩
         replace H : ((might_Attack.f k2 l0_0 l0_1 a0_2 a0_3 a0_4 a0_5 a0_6 l0_7 a0_8 a0_9 a1).bind fun t126 => ((might_Attack.f k2 t106 x123001_2 t112 t113 t114 t115 t116 t117 t120 t121 a1).bind fun t127 => (if t127 = (mn (ji53) 99999) then (if t126 < (mn (ji53) 99999) then (joustlaw07_MightAuras.j2 k2 a1 a2 t126 true l0_0 l0_1 a0_2 a0_3 a0_4 a0_5 a0_6 l0_7 a0_8 a0_9) else (if t126 > 99999 then (joustlaw07_MightAuras.j2 k2 a1 a2 t126 true l0_0 l0_1 a0_2 a0_3 a0_4 a0_5 a0_6 l0_7 a0_8 a0_9) else (if ((rd_T35 l0_1 a1).f5) = 2 then (joustlaw07_MightAuras.j2 k2 a1 a2 t126 false l0_0 l0_1 a0_2 a0_3 a0_4 a0_5 a0_6 l0_7 a0_8 a0_9) else (joustlaw07_MightAuras.j2 k2 a1 a2 t126 (t126 != (mn (ji53) 99999)) l0_0 l0_1 a0_2 a0_3 a0_4 a0_5 a0_6 l0_7 a0_8 a0_9)))) else (joustlaw07_MightAuras.j2 k2 a1 a2 t126 true l0_0 l0_1 a0_2 a0_3 a0_4 a0_5 a0_6 l0_7 a0_8 a0_9)))) = some r := by first | (rw [hji53] at H; exact H) | (simp only [hji53] at H ⊢; exact H)
         have hji53_ : (if (wrap64 (((rd_T35 l0_1 a1).f1) + (ji52))) < 0 then 0 else (wrap64 (((rd_T35 l0_1 a1).f1) + (ji52)))) = ji53 := hji53
         obtain ⟨ji54, hji54⟩ : ∃ j_ : Int, (mn (ji53) 99999) = j_ := ⟨_, rfl⟩
         replace H : ((might_Attack.f k2 l0_0 l0_1 a0_2 a0_3 a0_4 a0_5 a0_6 l0_7 a0_8 a0_9 a1).bind fun t126 => ((might_Attack.f k2 t106 x123001_2 t112 t113 t114 t115 t116 t117 t120 t121 a1).bind fun t127 => (if t127 = (ji54) then (if t126 < (ji54) then (joustlaw07_MightAuras.j2 k2 a1 a2 t126 true l0_0 l0_1 a0_2 a0_3 a0_4 a0_5 a0_6 l0_7 a0_8 a0_9) else (if t126 > 99999 then (joustlaw07_MightAuras.j2 k2 a1 a2 t126 true l0_0 l0_1 a0_2 a0_3 a0_4 a0_5 a0_6 l0_7 a0_8 a0_9) else (if ((rd_T35 l0_1 a1).f5) = 2 then (joustlaw07_MightAuras.j2 k2 a1 a2 t126 false l0_0 l0_1 a0_2 a0_3 a0_4 a0_5 a0_6 l0_7 a0_8 a0_9) else (joustlaw07_MightAuras.j2 k2 a1 a2 t126 (t126 != (ji54)) l0_0 l0_1 a0_2 a0_3 a0_4 a0_5 a0_6 l0_7 a0_8 a0_9)))) else (joustlaw07_MightAuras.j2 k2 a1 a2 t126 true l0_0 l0_1 a0_2 a0_3 a0_4 a0_5 a0_6 l0_7 a0_8 a0_9)))) = some r := by first | (rw [hji54] at H; exact H) | (simp only [hji54] at H ⊢; exact H)
         have hji54_ : (if 99999 < (ji53) then 99999 else (ji53)) = ji54 := hji54
         replace H := Option.bind_eq_some_iff.mp H
         obtain ⟨t126, A550, H⟩ := H
         replace H : ((might_Attack.f k2 t106 x123001_2 t112 t113 t114 t115 t116 t117 t120 t121 a1).bind fun t127 => (if t127 = (ji54) then (if t126 < (ji54) then (joustlaw07_MightAuras.j2 k2 a1 a2 t126 true l0_0 l0_1 a0_2 a0_3 a0_4 a0_5 a0_6 l0_7 a0_8 a0_9) else (if t126 > 99999 then (joustlaw07_MightAuras.j2 k2 a1 a2 t126 true l0_0 l0_1 a0_2 a0_3 a0_4 a0_5 a0_6 l0_7 a0_8 a0_9) else (if ((rd_T35 l0_1 a1).f5) = 2 then (joustlaw07_MightAuras.j2 k2 a1 a2 t126 false l0_0 l0_1 a0_2 a0_3 a0_4 a0_5 a0_6 l0_7 a0_8 a0_9) else (joustlaw07_MightAuras.j2 k2 a1 a2 t126 (t126 != (ji54)) l0_0 l0_1 a0_2 a0_3 a0_4 a0_5 a0_6 l0_7 a0_8 a0_9)))) else (joustlaw07_MightAuras.j2 k2 a1 a2 t126 true l0_0 l0_1 a0_2 a0_3 a0_4 a0_5 a0_6 l0_7 a0_8 a0_9))) = some r := H
         have A55 := Az A550
         clear A550
         have HC56 := Az H
         clear H
         have hnb57 := NB101_122.out
         have hnc57 := NB122_101.out
         have hcz58_0 : wr.cell? ⟨gb101, 0, none⟩ = some (.slice A0_0 l0_0.length c0_0) := (blk_cell BK101.out 0).trans rfl
         have hcz58_1 : wr.cell? ⟨gb101, 1, none⟩ = some (.slice A0_1 l0_1.length c0_1) := (blk_cell BK101.out 1).trans rfl
         have hcz58_2 : wr.cell? ⟨gb101, 2, none⟩ = some (.int .i64 a0_2) := (blk_cell BK101.out 2).trans rfl
         have hcz58_3 : wr.cell? ⟨gb101, 3, none⟩ = some (.int .i64 a0_3) := (blk_cell BK101.out 3).trans rfl
         have hcz58_4 : wr.cell? ⟨gb101, 4, none⟩ = some (.int .i64 a0_4) := (blk_cell BK101.out 4).trans rfl
         have hcz58_5 : wr.cell? ⟨gb101, 5, none⟩ = some (.int .u8 a0_5) := (blk_cell BK101.out 5).trans rfl
         have hcz58_6 : wr.cell? ⟨gb101, 6, none⟩ = some (.int .i64 a0_6) := (blk_cell BK101.out 6).trans rfl
         have hcz58_7 : wr.cell? ⟨gb101, 7, none⟩ = some (.slice A0_7 l0_7.length c0_7) := (blk_cell BK101.out 7).trans rfl
         have hcz58_8 : wr.cell? ⟨gb101, 8, none⟩ = some (.bool a0_8) := (blk_cell BK101.out 8).trans rfl
         have hcz58_9 : wr.cell? ⟨gb101, 9, none⟩ = some (.bool a0_9) := (blk_cell BK101.out 9).trans rfl
         have hfz58_0 := blk_frozen BK101.out 0
         have hfz58_1 := blk_frozen BK101.out 1
         have hfz58_2 := blk_frozen BK101.out 2
         have hfz58_3 := blk_frozen BK101.out 3
         have hfz58_4 := blk_frozen BK101.out 4
         have hfz58_5 := blk_frozen BK101.out 5
         have hfz58_6 := blk_frozen BK101.out 6
         have hfz58_7 := blk_frozen BK101.out 7
         have hfz58_8 := blk_frozen BK101.out 8
         have hfz58_9 := blk_frozen BK101.out 9
         have p124 : 0 ≤ (a1 : Int) := of_decide_eq_true (by first | (with_reducible assumption) | assumption)
         have q124 : a1 < (l0_1.length : Int) := of_decide_eq_true (by first | (with_reducible assumption) | assumption)
         obtain ⟨ad124, e124, hx124_0, hx124_1, hx124_2, hx124_3, hx124_4, hx124_5, hx124_6, hx124_7, hx124_8, hx124_9, hx124_10, hx124_11, hx124_12, hx124_13⟩ := at_T35 HR0_1.out a1 p124 q124
         cases e124
         replace hx124_0 := (HB.out.cell (World.block_lt_of_cell? w _ hx124_0)).trans hx124_0
         replace hx124_1 := (HB.out.cell (World.block_lt_of_cell? w _ hx124_1)).trans hx124_1
         replace hx124_2 := (HB.out.cell (World.block_lt_of_cell? w _ hx124_2)).trans hx124_2
         replace hx124_3 := (HB.out.cell (World.block_lt_of_cell? w _ hx124_3)).trans hx124_3
         replace hx124_4 := (HB.out.cell (World.block_lt_of_cell? w _ hx124_4)).trans hx124_4
         replace hx124_5 := (HB.out.cell (World.block_lt_of_cell? w _ hx124_5)).trans hx124_5
         replace hx124_6 := (HB.out.cell (World.block_lt_of_cell? w _ hx124_6)).trans hx124_6
         replace hx124_7 := (HB.out.cell (World.block_lt_of_cell? w _ hx124_7)).trans hx124_7
         replace hx124_8 := (HB.out.cell (World.block_lt_of_cell? w _ hx124_8)).trans hx124_8
         replace hx124_9 := (HB.out.cell (World.block_lt_of_cell? w _ hx124_9)).trans hx124_9
         replace hx124_10 := (HB.out.cell (World.block_lt_of_cell? w _ hx124_10)).trans hx124_10
         replace hx124_11 := (HB.out.cell (World.block_lt_of_cell? w _ hx124_11)).trans hx124_11
         replace hx124_12 := (HB.out.cell (World.block_lt_of_cell? w _ hx124_12)).trans hx124_12
         replace hx124_13 := (HB.out.cell (World.block_lt_of_cell? w _ hx124_13)).trans hx124_13
         replace p124 := eq_true p124
         replace q124 := eq_true q124
         go_upto_region 12 with (first | ((with_reducible refine gate_dst (N := 9) rfl ?_); (try (refine gate_guard (by rfl) ?_; dsimp only)); refine box_event ?hg (N := 9) ?hd (cs := #[.int .i64 0, .int .i64 0, .int .i64 0, .int .u8 0, .int .u8 0, .int .u8 0, .int .i64 0, .bool false, .bool false, .int .i64 0, .int .u8 0, .bool false, .bool false, .int .i64 0]) (t := 35) ?hr ?_; (case hd => rfl); (case hg => rfl); (case hr => first | (go_simp; done) | (go_simp; rfl)); intro gb125 hg w59 hbox hb; have n0_ := Az (Kd.R_below (by (with_reducible repeat (first | apply Kd.R_alloc | apply Kd.R_drewN | apply Kd.R_drew)); exact HO_123000.out) hb); have n1_ := Az (Kd.R_below (Kd.R_elderB (by (with_reducible repeat (first | apply Kd.R_alloc | apply Kd.R_drewN | apply Kd.R_drew)); exact HO_123001.out) gb125 (Nat.le_of_eq hg.symm)) hb); have n2_ := Az (Kd.R_below (by (with_reducible repeat (first | apply Kd.R_alloc | apply Kd.R_drewN | apply Kd.R_drew)); exact HO_123007.out) hb); have n3_ := Az (blk_below (g := gb101) (o := .cells #[.slice A0_0 l0_0.length c0_0, .slice (some ad124) l0_1.length c0_1, .int .i64 a0_2, .int .i64 a0_3, .int .i64 a0_4, .int .u8 a0_5, .int .i64 a0_6, .slice A0_7 l0_7.length c0_7, .bool a0_8, .bool a0_9] 28 (0, 0)) (by (with_reducible repeat (first | refine blk_drewN ?_ _ | refine blk_drew ?_ | refine blk_alloc ?_ _)); exact BK101.out) hb); have n4_ := Az (blk_below (g := gb122) (o := .cells #[.slice Ao36 t106.length co36, u123001, .int .i64 t112, .int .i64 t113, .int .i64 t114, .int .u8 t115, .int .i64 t116, .slice Ao40 t117.length co40, .bool t120, .bool t121] 28 (0, 0)) (by (with_reducible repeat (first | refine blk_drewN ?_ _ | refine blk_drew ?_ | refine blk_alloc ?_ _)); exact BK122.out) hb); have n5_ := Az (below_step (low HB) hb); have n6_ := Az (hbox); have n7_ := Az ((by rw [hg]; exact (below_size (low HB)) : w.heap.size ≤ gb125)); have n8_ := Az ((by rw [hg]; exact (below_size (low HB)) : w.heap.size ≤ gb125)); have n9_ := Az ((by rw [hg]; exact Nat.ne_of_lt (blk_lt (g := gb101) (o := .cells #[.slice A0_0 l0_0.length c0_0, .slice (some ad124) l0_1.length c0_1, .int .i64 a0_2, .int .i64 a0_3, .int .i64 a0_4, .int .u8 a0_5, .int .i64 a0_6, .slice A0_7 l0_7.length c0_7, .bool a0_8, .bool a0_9] 28 (0, 0)) (by (with_reducible repeat (first | refine blk_drewN ?_ _ | refine blk_drew ?_ | refine blk_alloc ?_ _)); exact BK101.out)) : gb101 ≠ gb125)); have n10_ := Az ((by rw [hg]; exact Nat.ne_of_gt (blk_lt (g := gb101) (o := .cells #[.slice A0_0 l0_0.length c0_0, .slice (some ad124) l0_1.length c0_1, .int .i64 a0_2, .int .i64 a0_3, .int .i64 a0_4, .int .u8 a0_5, .int .i64 a0_6, .slice A0_7 l0_7.length c0_7, .bool a0_8, .bool a0_9] 28 (0, 0)) (by (with_reducible repeat (first | refine blk_drewN ?_ _ | refine blk_drew ?_ | refine blk_alloc ?_ _)); exact BK101.out)) : gb125 ≠ gb101)); have n11_ := Az ((by rw [hg]; exact Nat.ne_of_lt (blk_lt (g := gb122) (o := .cells #[.slice Ao36 t106.length co36, u123001, .int .i64 t112, .int .i64 t113, .int .i64 t114, .int .u8 t115, .int .i64 t116, .slice Ao40 t117.length co40, .bool t120, .bool t121] 28 (0, 0)) (by (with_reducible repeat (first | refine blk_drewN ?_ _ | refine blk_drew ?_ | refine blk_alloc ?_ _)); exact BK122.out)) : gb122 ≠ gb125)); have n12_ := Az ((by rw [hg]; exact Nat.ne_of_gt (blk_lt (g := gb122) (o := .cells #[.slice Ao36 t106.length co36, u123001, .int .i64 t112, .int .i64 t113, .int .i64 t114, .int .u8 t115, .int .i64 t116, .slice Ao40 t117.length co40, .bool t120, .bool t121] 28 (0, 0)) (by (with_reducible repeat (first | refine blk_drewN ?_ _ | refine blk_drew ?_ | refine blk_alloc ?_ _)); exact BK122.out)) : gb125 ≠ gb122)); clear HO_123000; clear HO_123001; clear HO_123007; clear BK101; clear BK122; clear HB; have HO_123000 := n0_; have HO_123001 := n1_; have HO_123007 := n2_; have BK101 := n3_; have BK122 := n4_; have HB := n5_; have BK125 := n6_; have GW125 := n7_; have GE125 := n8_; have NB101_125 := n9_; have NB125_101 := n10_; have NB122_125 := n11_; have NB125_122 := n12_; clear n0_ n1_ n2_ n3_ n4_ n5_ n6_ n7_ n8_ n9_ n10_ n11_ n12_; clear hb hbox hg; have hnb60 := NB125_101.out; have hnc60 := NB101_125.out; have hnb61 := NB125_122.out; have hnc61 := NB122_125.out; have hcz62_0 : w59.cell? ⟨gb125, 0, none⟩ = some (.int .i64 0) := (blk_cell BK125.out 0).trans rfl; have hcz62_1 : w59.cell? ⟨gb125, 1, none⟩ = some (.int .i64 0) := (blk_cell BK125.out 1).trans rfl; have hcz62_2 : w59.cell? ⟨gb125, 2, none⟩ = some (.int .i64 0) := (blk_cell BK125.out 2).trans rfl; have hcz62_3 : w59.cell? ⟨gb125, 3, none⟩ = some (.int .u8 0) := (blk_cell BK125.out 3).trans rfl; have hcz62_4 : w59.cell? ⟨gb125, 4, none⟩ = some (.int .u8 0) := (blk_cell BK125.out 4).trans rfl; have hcz62_5 : w59.cell? ⟨gb125, 5, none⟩ = some (.int .u8 0) := (blk_cell BK125.out 5).trans rfl; have hcz62_6 : w59.cell? ⟨gb125, 6, none⟩ = some (.int .i64 0) := (blk_cell BK125.out 6).trans rfl; have hcz62_7 : w59.cell? ⟨gb125, 7, none⟩ = some (.bool false) := (blk_cell BK125.out 7).trans rfl; have hcz62_8 : w59.cell? ⟨gb125, 8, none⟩ = some (.bool false) := (blk_cell BK125.out 8).trans rfl; have hcz62_9 : w59.cell? ⟨gb125, 9, none⟩ = some (.int .i64 0) := (blk_cell BK125.out 9).trans rfl; have hcz62_10 : w59.cell? ⟨gb125, 10, none⟩ = some (.int .u8 0) := (blk_cell BK125.out 10).trans rfl; have hcz62_11 : w59.cell? ⟨gb125, 11, none⟩ = some (.bool false) := (blk_cell BK125.out 11).trans rfl; have hcz62_12 : w59.cell? ⟨gb125, 12, none⟩ = some (.bool false) := (blk_cell BK125.out 12).trans rfl; have hcz62_13 : w59.cell? ⟨gb125, 13, none⟩ = some (.int .i64 0) := (blk_cell BK125.out 13).trans rfl; have hfz62_0 := blk_frozen BK125.out 0; have hfz62_1 := blk_frozen BK125.out 1; have hfz62_2 := blk_frozen BK125.out 2; have hfz62_3 := blk_frozen BK125.out 3; have hfz62_4 := blk_frozen BK125.out 4; have hfz62_5 := blk_frozen BK125.out 5; have hfz62_6 := blk_frozen BK125.out 6; have hfz62_7 := blk_frozen BK125.out 7; have hfz62_8 := blk_frozen BK125.out 8; have hfz62_9 := blk_frozen BK125.out 9; have hfz62_10 := blk_frozen BK125.out 10; have hfz62_11 := blk_frozen BK125.out 11; have hfz62_12 := blk_frozen BK125.out 12; have hfz62_13 := blk_frozen BK125.out 13; have hcz63_0 : w59.cell? ⟨gb101, 0, none⟩ = some (.slice A0_0 l0_0.length c0_0) := (blk_cell BK101.out 0).trans rfl; have hcz63_1 : w59.cell? ⟨gb101, 1, none⟩ = some (.slice (some ad124) l0_1.length c0_1) := (blk_cell BK101.out 1).trans rfl; have hcz63_2 : w59.cell? ⟨gb101, 2, none⟩ = some (.int .i64 a0_2) := (blk_cell BK101.out 2).trans rfl; have hcz63_3 : w59.cell? ⟨gb101, 3, none⟩ = some (.int .i64 a0_3) := (blk_cell BK101.out 3).trans rfl; have hcz63_4 : w59.cell? ⟨gb101, 4, none⟩ = some (.int .i64 a0_4) := (blk_cell BK101.out 4).trans rfl; have hcz63_5 : w59.cell? ⟨gb101, 5, none⟩ = some (.int .u8 a0_5) := (blk_cell BK101.out 5).trans rfl; have hcz63_6 : w59.cell? ⟨gb101, 6, none⟩ = some (.int .i64 a0_6) := (blk_cell BK101.out 6).trans rfl; have hcz63_7 : w59.cell? ⟨gb101, 7, none⟩ = some (.slice A0_7 l0_7.length c0_7) := (blk_cell BK101.out 7).trans rfl; have hcz63_8 : w59.cell? ⟨gb101, 8, none⟩ = some (.bool a0_8) := (blk_cell BK101.out 8).trans rfl; have hcz63_9 : w59.cell? ⟨gb101, 9, none⟩ = some (.bool a0_9) := (blk_cell BK101.out 9).trans rfl; have hfz63_0 := blk_frozen BK101.out 0; have hfz63_1 := blk_frozen BK101.out 1; have hfz63_2 := blk_frozen BK101.out 2; have hfz63_3 := blk_frozen BK101.out 3; have hfz63_4 := blk_frozen BK101.out 4; have hfz63_5 := blk_frozen BK101.out 5; have hfz63_6 := blk_frozen BK101.out 6; have hfz63_7 := blk_frozen BK101.out 7; have hfz63_8 := blk_frozen BK101.out 8; have hfz63_9 := blk_frozen BK101.out 9) | ((with_reducible refine gate_callee (f := 19) rfl ?_); refine goesL_ (some 68) rfl rfl Try.func19 (by kernel_rfl) rfl #[.agg #[.slice A0_0 l0_0.length c0_0, .slice (some ad124) l0_1.length c0_1, .int .i64 a0_2, .int .i64 a0_3, .int .i64 a0_4, .int .u8 a0_5, .int .i64 a0_6, .slice A0_7 l0_7.length c0_7, .bool a0_8, .bool a0_9], .int .i64 a1] rfl (by (try simp only [List.map_toArray, List.map_cons, List.map_nil]); first | done | rfl | (simp only [List.length_drop, List.length_take]; rfl)) ?_; (with_reducible refine (might_Attack.calls k2 _ _ l0_0 _ _ l0_1 a0_2 a0_3 a0_4 a0_5 a0_6 _ _ l0_7 a0_8 a0_9 a1 t126 _ ?side1 ?side2 ?side3 ?side4 ?side5 ?side6 A55.out).mono ?_); (case side1 => exact Kd.C_below HR0_0.out (low HB)); (case side2 => exact HC0_0.out); (case side3 => exact Kd.C_below HR0_1.out (low HB)); (case side4 => exact HC0_1.out); (case side5 => exact Kd.C_below HR0_7.out (low HB)); (case side6 => exact HC0_7.out); rintro e w64 ⟨rfl, hb⟩; refine ⟨_, rfl, ?_⟩; have n0_ := Az (Kd.R_below (by (with_reducible repeat (first | apply Kd.R_alloc | apply Kd.R_drewN | apply Kd.R_drew)); exact (Kd.R_mono (Kd.R_far (p := ⟨gb125, 13, none⟩) (Kd.R_far (p := ⟨gb125, 12, none⟩) (Kd.R_far (p := ⟨gb125, 11, none⟩) (Kd.R_far (p := ⟨gb125, 10, none⟩) (Kd.R_far (p := ⟨gb125, 9, none⟩) (Kd.R_far (p := ⟨gb125, 8, none⟩) (Kd.R_far (p := ⟨gb125, 7, none⟩) (Kd.R_far (p := ⟨gb125, 6, none⟩) (Kd.R_far (p := ⟨gb125, 5, none⟩) (Kd.R_far (p := ⟨gb125, 4, none⟩) (Kd.R_far (p := ⟨gb125, 3, none⟩) (Kd.R_far (p := ⟨gb125, 2, none⟩) (Kd.R_far (p := ⟨gb125, 1, none⟩) (Kd.R_far (p := ⟨gb125, 0, none⟩) (Kd.R_types HO_123000.out BK125.out (by decide)) (fun _ hk => hk.2) (.int .i64 ((rd_T35 l0_1 a1).f0))) (fun _ hk => hk.2) (.int .i64 ((rd_T35 l0_1 a1).f1))) (fun _ hk => hk.2) (.int .i64 ((rd_T35 l0_1 a1).f2))) (fun _ hk => hk.2) (.int .u8 ((rd_T35 l0_1 a1).f3))) (fun _ hk => hk.2) (.int .u8 ((rd_T35 l0_1 a1).f4))) (fun _ hk => hk.2) (.int .u8 ((rd_T35 l0_1 a1).f5))) (fun _ hk => hk.2) (.int .i64 ((rd_T35 l0_1 a1).f6))) (fun _ hk => hk.2) (.bool ((rd_T35 l0_1 a1).f7))) (fun _ hk => hk.2) (.bool ((rd_T35 l0_1 a1).f8))) (fun _ hk => hk.2) (.int .i64 ((rd_T35 l0_1 a1).f9))) (fun _ hk => hk.2) (.int .u8 ((rd_T35 l0_1 a1).f10))) (fun _ hk => hk.2) (.bool ((rd_T35 l0_1 a1).f11))) (fun _ hk => hk.2) (.bool ((rd_T35 l0_1 a1).f12))) (fun _ hk => hk.2) (.int .i64 ((rd_T35 l0_1 a1).f13))) (fun _ h_ => h_.1))) hb); have n1_ := Az (Kd.R_below (by (with_reducible repeat (first | apply Kd.R_alloc | apply Kd.R_drewN | apply Kd.R_drew)); exact (Kd.R_mono (Kd.R_far (p := ⟨gb125, 13, none⟩) (Kd.R_far (p := ⟨gb125, 12, none⟩) (Kd.R_far (p := ⟨gb125, 11, none⟩) (Kd.R_far (p := ⟨gb125, 10, none⟩) (Kd.R_far (p := ⟨gb125, 9, none⟩) (Kd.R_far (p := ⟨gb125, 8, none⟩) (Kd.R_far (p := ⟨gb125, 7, none⟩) (Kd.R_far (p := ⟨gb125, 6, none⟩) (Kd.R_far (p := ⟨gb125, 5, none⟩) (Kd.R_far (p := ⟨gb125, 4, none⟩) (Kd.R_far (p := ⟨gb125, 3, none⟩) (Kd.R_far (p := ⟨gb125, 2, none⟩) (Kd.R_far (p := ⟨gb125, 1, none⟩) (Kd.R_far (p := ⟨gb125, 0, none⟩) (Kd.R_mono HO_123001.out (fun k_ hk => (⟨hk, hk.2⟩ : _ ∧ k_ ≠ gb125))) (fun _ hk => hk.2) (.int .i64 ((rd_T35 l0_1 a1).f0))) (fun _ hk => hk.2) (.int .i64 ((rd_T35 l0_1 a1).f1))) (fun _ hk => hk.2) (.int .i64 ((rd_T35 l0_1 a1).f2))) (fun _ hk => hk.2) (.int .u8 ((rd_T35 l0_1 a1).f3))) (fun _ hk => hk.2) (.int .u8 ((rd_T35 l0_1 a1).f4))) (fun _ hk => hk.2) (.int .u8 ((rd_T35 l0_1 a1).f5))) (fun _ hk => hk.2) (.int .i64 ((rd_T35 l0_1 a1).f6))) (fun _ hk => hk.2) (.bool ((rd_T35 l0_1 a1).f7))) (fun _ hk => hk.2) (.bool ((rd_T35 l0_1 a1).f8))) (fun _ hk => hk.2) (.int .i64 ((rd_T35 l0_1 a1).f9))) (fun _ hk => hk.2) (.int .u8 ((rd_T35 l0_1 a1).f10))) (fun _ hk => hk.2) (.bool ((rd_T35 l0_1 a1).f11))) (fun _ hk => hk.2) (.bool ((rd_T35 l0_1 a1).f12))) (fun _ hk => hk.2) (.int .i64 ((rd_T35 l0_1 a1).f13))) (fun _ h_ => h_.1))) hb); have n2_ := Az (Kd.R_below (by (with_reducible repeat (first | apply Kd.R_alloc | apply Kd.R_drewN | apply Kd.R_drew)); exact (Kd.R_mono (Kd.R_far (p := ⟨gb125, 13, none⟩) (Kd.R_far (p := ⟨gb125, 12, none⟩) (Kd.R_far (p := ⟨gb125, 11, none⟩) (Kd.R_far (p := ⟨gb125, 10, none⟩) (Kd.R_far (p := ⟨gb125, 9, none⟩) (Kd.R_far (p := ⟨gb125, 8, none⟩) (Kd.R_far (p := ⟨gb125, 7, none⟩) (Kd.R_far (p := ⟨gb125, 6, none⟩) (Kd.R_far (p := ⟨gb125, 5, none⟩) (Kd.R_far (p := ⟨gb125, 4, none⟩) (Kd.R_far (p := ⟨gb125, 3, none⟩) (Kd.R_far (p := ⟨gb125, 2, none⟩) (Kd.R_far (p := ⟨gb125, 1, none⟩) (Kd.R_far (p := ⟨gb125, 0, none⟩) (Kd.R_types HO_123007.out BK125.out (by decide)) (fun _ hk => hk.2) (.int .i64 ((rd_T35 l0_1 a1).f0))) (fun _ hk => hk.2) (.int .i64 ((rd_T35 l0_1 a1).f1))) (fun _ hk => hk.2) (.int .i64 ((rd_T35 l0_1 a1).f2))) (fun _ hk => hk.2) (.int .u8 ((rd_T35 l0_1 a1).f3))) (fun _ hk => hk.2) (.int .u8 ((rd_T35 l0_1 a1).f4))) (fun _ hk => hk.2) (.int .u8 ((rd_T35 l0_1 a1).f5))) (fun _ hk => hk.2) (.int .i64 ((rd_T35 l0_1 a1).f6))) (fun _ hk => hk.2) (.bool ((rd_T35 l0_1 a1).f7))) (fun _ hk => hk.2) (.bool ((rd_T35 l0_1 a1).f8))) (fun _ hk => hk.2) (.int .i64 ((rd_T35 l0_1 a1).f9))) (fun _ hk => hk.2) (.int .u8 ((rd_T35 l0_1 a1).f10))) (fun _ hk => hk.2) (.bool ((rd_T35 l0_1 a1).f11))) (fun _ hk => hk.2) (.bool ((rd_T35 l0_1 a1).f12))) (fun _ hk => hk.2) (.int .i64 ((rd_T35 l0_1 a1).f13))) (fun _ h_ => h_.1))) hb); have n3_ := Az (blk_below (g := gb101) (o := .cells #[.slice A0_0 l0_0.length c0_0, .slice (some ad124) l0_1.length c0_1, .int .i64 a0_2, .int .i64 a0_3, .int .i64 a0_4, .int .u8 a0_5, .int .i64 a0_6, .slice A0_7 l0_7.length c0_7, .bool a0_8, .bool a0_9] 28 (0, 0)) (by (with_reducible repeat (first | refine blk_drewN ?_ _ | refine blk_drew ?_ | refine blk_alloc ?_ _)); refine blk_far ?_ NB101_125.out _; (with_reducible repeat (first | refine blk_drewN ?_ _ | refine blk_drew ?_ | refine blk_alloc ?_ _)); refine blk_far ?_ NB101_125.out _; (with_reducible repeat (first | refine blk_drewN ?_ _ | refine blk_drew ?_ | refine blk_alloc ?_ _)); refine blk_far ?_ NB101_125.out _; (with_reducible repeat (first | refine blk_drewN ?_ _ | refine blk_drew ?_ | refine blk_alloc ?_ _)); refine blk_far ?_ NB101_125.out _; (with_reducible repeat (first | refine blk_drewN ?_ _ | refine blk_drew ?_ | refine blk_alloc ?_ _)); refine blk_far ?_ NB101_125.out _; (with_reducible repeat (first | refine blk_drewN ?_ _ | refine blk_drew ?_ | refine blk_alloc ?_ _)); refine blk_far ?_ NB101_125.out _; (with_reducible repeat (first | refine blk_drewN ?_ _ | refine blk_drew ?_ | refine blk_alloc ?_ _)); refine blk_far ?_ NB101_125.out _; (with_reducible repeat (first | refine blk_drewN ?_ _ | refine blk_drew ?_ | refine blk_alloc ?_ _)); refine blk_far ?_ NB101_125.out _; (with_reducible repeat (first | refine blk_drewN ?_ _ | refine blk_drew ?_ | refine blk_alloc ?_ _)); refine blk_far ?_ NB101_125.out _; (with_reducible repeat (first | refine blk_drewN ?_ _ | refine blk_drew ?_ | refine blk_alloc ?_ _)); refine blk_far ?_ NB101_125.out _; (with_reducible repeat (first | refine blk_drewN ?_ _ | refine blk_drew ?_ | refine blk_alloc ?_ _)); refine blk_far ?_ NB101_125.out _; (with_reducible repeat (first | refine blk_drewN ?_ _ | refine blk_drew ?_ | refine blk_alloc ?_ _)); refine blk_far ?_ NB101_125.out _; (with_reducible repeat (first | refine blk_drewN ?_ _ | refine blk_drew ?_ | refine blk_alloc ?_ _)); refine blk_far ?_ NB101_125.out _; (with_reducible repeat (first | refine blk_drewN ?_ _ | refine blk_drew ?_ | refine blk_alloc ?_ _)); refine blk_far ?_ NB101_125.out _; (with_reducible repeat (first | refine blk_drewN ?_ _ | refine blk_drew ?_ | refine blk_alloc ?_ _)); exact BK101.out) hb); have n4_ := Az (blk_below (g := gb122) (o := .cells #[.slice Ao36 t106.length co36, u123001, .int .i64 t112, .int .i64 t113, .int .i64 t114, .int .u8 t115, .int .i64 t116, .slice Ao40 t117.length co40, .bool t120, .bool t121] 28 (0, 0)) (by (with_reducible repeat (first | refine blk_drewN ?_ _ | refine blk_drew ?_ | refine blk_alloc ?_ _)); refine blk_far ?_ NB122_125.out _; (with_reducible repeat (first | refine blk_drewN ?_ _ | refine blk_drew ?_ | refine blk_alloc ?_ _)); refine blk_far ?_ NB122_125.out _; (with_reducible repeat (first | refine blk_drewN ?_ _ | refine blk_drew ?_ | refine blk_alloc ?_ _)); refine blk_far ?_ NB122_125.out _; (with_reducible repeat (first | refine blk_drewN ?_ _ | refine blk_drew ?_ | refine blk_alloc ?_ _)); refine blk_far ?_ NB122_125.out _; (with_reducible repeat (first | refine blk_drewN ?_ _ | refine blk_drew ?_ | refine blk_alloc ?_ _)); refine blk_far ?_ NB122_125.out _; (with_reducible repeat (first | refine blk_drewN ?_ _ | refine blk_drew ?_ | refine blk_alloc ?_ _)); refine blk_far ?_ NB122_125.out _; (with_reducible repeat (first | refine blk_drewN ?_ _ | refine blk_drew ?_ | refine blk_alloc ?_ _)); refine blk_far ?_ NB122_125.out _; (with_reducible repeat (first | refine blk_drewN ?_ _ | refine blk_drew ?_ | refine blk_alloc ?_ _)); refine blk_far ?_ NB122_125.out _; (with_reducible repeat (first | refine blk_drewN ?_ _ | refine blk_drew ?_ | refine blk_alloc ?_ _)); refine blk_far ?_ NB122_125.out _; (with_reducible repeat (first | refine blk_drewN ?_ _ | refine blk_drew ?_ | refine blk_alloc ?_ _)); refine blk_far ?_ NB122_125.out _; (with_reducible repeat (first | refine blk_drewN ?_ _ | refine blk_drew ?_ | refine blk_alloc ?_ _)); refine blk_far ?_ NB122_125.out _; (with_reducible repeat (first | refine blk_drewN ?_ _ | refine blk_drew ?_ | refine blk_alloc ?_ _)); refine blk_far ?_ NB122_125.out _; (with_reducible repeat (first | refine blk_drewN ?_ _ | refine blk_drew ?_ | refine blk_alloc ?_ _)); refine blk_far ?_ NB122_125.out _; (with_reducible repeat (first | refine blk_drewN ?_ _ | refine blk_drew ?_ | refine blk_alloc ?_ _)); refine blk_far ?_ NB122_125.out _; (with_reducible repeat (first | refine blk_drewN ?_ _ | refine blk_drew ?_ | refine blk_alloc ?_ _)); exact BK122.out) hb); have n5_ := Az (blk_below (g := gb125) (o := .cells #[.int .i64 ((rd_T35 l0_1 a1).f0), .int .i64 ((rd_T35 l0_1 a1).f1), .int .i64 ((rd_T35 l0_1 a1).f2), .int .u8 ((rd_T35 l0_1 a1).f3), .int .u8 ((rd_T35 l0_1 a1).f4), .int .u8 ((rd_T35 l0_1 a1).f5), .int .i64 ((rd_T35 l0_1 a1).f6), .bool ((rd_T35 l0_1 a1).f7), .bool ((rd_T35 l0_1 a1).f8), .int .i64 ((rd_T35 l0_1 a1).f9), .int .u8 ((rd_T35 l0_1 a1).f10), .bool ((rd_T35 l0_1 a1).f11), .bool ((rd_T35 l0_1 a1).f12), .int .i64 ((rd_T35 l0_1 a1).f13)] 35 (0, 0)) (by (with_reducible repeat (first | refine blk_drewN ?_ _ | refine blk_drew ?_ | refine blk_alloc ?_ _)); refine blk_put (cs := #[.int .i64 ((rd_T35 l0_1 a1).f0), .int .i64 ((rd_T35 l0_1 a1).f1), .int .i64 ((rd_T35 l0_1 a1).f2), .int .u8 ((rd_T35 l0_1 a1).f3), .int .u8 ((rd_T35 l0_1 a1).f4), .int .u8 ((rd_T35 l0_1 a1).f5), .int .i64 ((rd_T35 l0_1 a1).f6), .bool ((rd_T35 l0_1 a1).f7), .bool ((rd_T35 l0_1 a1).f8), .int .i64 ((rd_T35 l0_1 a1).f9), .int .u8 ((rd_T35 l0_1 a1).f10), .bool ((rd_T35 l0_1 a1).f11), .bool ((rd_T35 l0_1 a1).f12), .int .i64 0]) ?_ 13 _ rfl; (with_reducible repeat (first | refine blk_drewN ?_ _ | refine blk_drew ?_ | refine blk_alloc ?_ _)); refine blk_put (cs := #[.int .i64 ((rd_T35 l0_1 a1).f0), .int .i64 ((rd_T35 l0_1 a1).f1), .int .i64 ((rd_T35 l0_1 a1).f2), .int .u8 ((rd_T35 l0_1 a1).f3), .int .u8 ((rd_T35 l0_1 a1).f4), .int .u8 ((rd_T35 l0_1 a1).f5), .int .i64 ((rd_T35 l0_1 a1).f6), .bool ((rd_T35 l0_1 a1).f7), .bool ((rd_T35 l0_1 a1).f8), .int .i64 ((rd_T35 l0_1 a1).f9), .int .u8 ((rd_T35 l0_1 a1).f10), .bool ((rd_T35 l0_1 a1).f11), .bool false, .int .i64 0]) ?_ 12 _ rfl; (with_reducible repeat (first | refine blk_drewN ?_ _ | refine blk_drew ?_ | refine blk_alloc ?_ _)); refine blk_put (cs := #[.int .i64 ((rd_T35 l0_1 a1).f0), .int .i64 ((rd_T35 l0_1 a1).f1), .int .i64 ((rd_T35 l0_1 a1).f2), .int .u8 ((rd_T35 l0_1 a1).f3), .int .u8 ((rd_T35 l0_1 a1).f4), .int .u8 ((rd_T35 l0_1 a1).f5), .int .i64 ((rd_T35 l0_1 a1).f6), .bool ((rd_T35 l0_1 a1).f7), .bool ((rd_T35 l0_1 a1).f8), .int .i64 ((rd_T35 l0_1 a1).f9), .int .u8 ((rd_T35 l0_1 a1).f10), .bool false, .bool false, .int .i64 0]) ?_ 11 _ rfl; (with_reducible repeat (first | refine blk_drewN ?_ _ | refine blk_drew ?_ | refine blk_alloc ?_ _)); refine blk_put (cs := #[.int .i64 ((rd_T35 l0_1 a1).f0), .int .i64 ((rd_T35 l0_1 a1).f1), .int .i64 ((rd_T35 l0_1 a1).f2), .int .u8 ((rd_T35 l0_1 a1).f3), .int .u8 ((rd_T35 l0_1 a1).f4), .int .u8 ((rd_T35 l0_1 a1).f5), .int .i64 ((rd_T35 l0_1 a1).f6), .bool ((rd_T35 l0_1 a1).f7), .bool ((rd_T35 l0_1 a1).f8), .int .i64 ((rd_T35 l0_1 a1).f9), .int .u8 0, .bool false, .bool false, .int .i64 0]) ?_ 10 _ rfl; (with_reducible repeat (first | refine blk_drewN ?_ _ | refine blk_drew ?_ | refine blk_alloc ?_ _)); refine blk_put (cs := #[.int .i64 ((rd_T35 l0_1 a1).f0), .int .i64 ((rd_T35 l0_1 a1).f1), .int .i64 ((rd_T35 l0_1 a1).f2), .int .u8 ((rd_T35 l0_1 a1).f3), .int .u8 ((rd_T35 l0_1 a1).f4), .int .u8 ((rd_T35 l0_1 a1).f5), .int .i64 ((rd_T35 l0_1 a1).f6), .bool ((rd_T35 l0_1 a1).f7), .bool ((rd_T35 l0_1 a1).f8), .int .i64 0, .int .u8 0, .bool false, .bool false, .int .i64 0]) ?_ 9 _ rfl; (with_reducible repeat (first | refine blk_drewN ?_ _ | refine blk_drew ?_ | refine blk_alloc ?_ _)); refine blk_put (cs := #[.int .i64 ((rd_T35 l0_1 a1).f0), .int .i64 ((rd_T35 l0_1 a1).f1), .int .i64 ((rd_T35 l0_1 a1).f2), .int .u8 ((rd_T35 l0_1 a1).f3), .int .u8 ((rd_T35 l0_1 a1).f4), .int .u8 ((rd_T35 l0_1 a1).f5), .int .i64 ((rd_T35 l0_1 a1).f6), .bool ((rd_T35 l0_1 a1).f7), .bool false, .int .i64 0, .int .u8 0, .bool false, .bool false, .int .i64 0]) ?_ 8 _ rfl; (with_reducible repeat (first | refine blk_drewN ?_ _ | refine blk_drew ?_ | refine blk_alloc ?_ _)); refine blk_put (cs := #[.int .i64 ((rd_T35 l0_1 a1).f0), .int .i64 ((rd_T35 l0_1 a1).f1), .int .i64 ((rd_T35 l0_1 a1).f2), .int .u8 ((rd_T35 l0_1 a1).f3), .int .u8 ((rd_T35 l0_1 a1).f4), .int .u8 ((rd_T35 l0_1 a1).f5), .int .i64 ((rd_T35 l0_1 a1).f6), .bool false, .bool false, .int .i64 0, .int .u8 0, .bool false, .bool false, .int .i64 0]) ?_ 7 _ rfl; (with_reducible repeat (first | refine blk_drewN ?_ _ | refine blk_drew ?_ | refine blk_alloc ?_ _)); refine blk_put (cs := #[.int .i64 ((rd_T35 l0_1 a1).f0), .int .i64 ((rd_T35 l0_1 a1).f1), .int .i64 ((rd_T35 l0_1 a1).f2), .int .u8 ((rd_T35 l0_1 a1).f3), .int .u8 ((rd_T35 l0_1 a1).f4), .int .u8 ((rd_T35 l0_1 a1).f5), .int .i64 0, .bool false, .bool false, .int .i64 0, .int .u8 0, .bool false, .bool false, .int .i64 0]) ?_ 6 _ rfl; (with_reducible repeat (first | refine blk_drewN ?_ _ | refine blk_drew ?_ | refine blk_alloc ?_ _)); refine blk_put (cs := #[.int .i64 ((rd_T35 l0_1 a1).f0), .int .i64 ((rd_T35 l0_1 a1).f1), .int .i64 ((rd_T35 l0_1 a1).f2), .int .u8 ((rd_T35 l0_1 a1).f3), .int .u8 ((rd_T35 l0_1 a1).f4), .int .u8 0, .int .i64 0, .bool false, .bool false, .int .i64 0, .int .u8 0, .bool false, .bool false, .int .i64 0]) ?_ 5 _ rfl; (with_reducible repeat (first | refine blk_drewN ?_ _ | refine blk_drew ?_ | refine blk_alloc ?_ _)); refine blk_put (cs := #[.int .i64 ((rd_T35 l0_1 a1).f0), .int .i64 ((rd_T35 l0_1 a1).f1), .int .i64 ((rd_T35 l0_1 a1).f2), .int .u8 ((rd_T35 l0_1 a1).f3), .int .u8 0, .int .u8 0, .int .i64 0, .bool false, .bool false, .int .i64 0, .int .u8 0, .bool false, .bool false, .int .i64 0]) ?_ 4 _ rfl; (with_reducible repeat (first | refine blk_drewN ?_ _ | refine blk_drew ?_ | refine blk_alloc ?_ _)); refine blk_put (cs := #[.int .i64 ((rd_T35 l0_1 a1).f0), .int .i64 ((rd_T35 l0_1 a1).f1), .int .i64 ((rd_T35 l0_1 a1).f2), .int .u8 0, .int .u8 0, .int .u8 0, .int .i64 0, .bool false, .bool false, .int .i64 0, .int .u8 0, .bool false, .bool false, .int .i64 0]) ?_ 3 _ rfl; (with_reducible repeat (first | refine blk_drewN ?_ _ | refine blk_drew ?_ | refine blk_alloc ?_ _)); refine blk_put (cs := #[.int .i64 ((rd_T35 l0_1 a1).f0), .int .i64 ((rd_T35 l0_1 a1).f1), .int .i64 0, .int .u8 0, .int .u8 0, .int .u8 0, .int .i64 0, .bool false, .bool false, .int .i64 0, .int .u8 0, .bool false, .bool false, .int .i64 0]) ?_ 2 _ rfl; (with_reducible repeat (first | refine blk_drewN ?_ _ | refine blk_drew ?_ | refine blk_alloc ?_ _)); refine blk_put (cs := #[.int .i64 ((rd_T35 l0_1 a1).f0), .int .i64 0, .int .i64 0, .int .u8 0, .int .u8 0, .int .u8 0, .int .i64 0, .bool false, .bool false, .int .i64 0, .int .u8 0, .bool false, .bool false, .int .i64 0]) ?_ 1 _ rfl; (with_reducible repeat (first | refine blk_drewN ?_ _ | refine blk_drew ?_ | refine blk_alloc ?_ _)); refine blk_put (cs := #[.int .i64 0, .int .i64 0, .int .i64 0, .int .u8 0, .int .u8 0, .int .u8 0, .int .i64 0, .bool false, .bool false, .int .i64 0, .int .u8 0, .bool false, .bool false, .int .i64 0]) ?_ 0 _ rfl; (with_reducible repeat (first | refine blk_drewN ?_ _ | refine blk_drew ?_ | refine blk_alloc ?_ _)); exact BK125.out) hb); have n6_ := Az (below_step (low HB) hb); clear HO_123000; clear HO_123001; clear HO_123007; clear BK101; clear BK122; clear BK125; clear HB; have HO_123000 := n0_; have HO_123001 := n1_; have HO_123007 := n2_; have BK101 := n3_; have BK122 := n4_; have BK125 := n5_; have HB := n6_; clear n0_ n1_ n2_ n3_ n4_ n5_ n6_; (try clear hb); (try clear hb2); (try clear hk); (try clear hi)))
         (try simp only [Act.put, List.setIfInBounds_toArray, List.set_cons_zero, List.set_cons_succ])
         go_cut [92] (fun v92 wc => ∃ (kq : Nat) (x92_55 : Bool), v92 = .bool x92_55 ∧ Aside0 (joustlaw07_MightAuras.j2 kq a1 a2 t126 x92_55 l0_0 l0_1 a0_2 a0_3 a0_4 a0_5 a0_6 l0_7 a0_8 a0_9 = some r) ∧ Aside0 (kq ≤ k2) ∧ Aside0 (Kd.R k97 97 wc w.heap.size (fun _ => True) (.slice Ao36 t106.length co36) t106) ∧ Aside0 (Kd.R k35 35 wc w.heap.size (fun k_ => k_ ≠ gb125) u123001 x123001_2) ∧ Aside0 (Kd.R k58 58 wc w.heap.size (fun _ => True) (.slice Ao40 t117.length co40) t117) ∧ Aside0 (wc.heap[gb101]? = some (.cells #[(.slice A0_0 l0_0.length c0_0), (.slice (some ad124) l0_1.length c0_1), .int .i64 a0_2, .int .i64 a0_3, .int .i64 a0_4, .int .u8 a0_5, .int .i64 a0_6, (.slice A0_7 l0_7.length c0_7), .bool a0_8, .bool a0_9] 28 (0, 0))) ∧ Aside0 (wc.heap[gb122]? = some (.cells #[(.slice Ao36 t106.length co36), u123001, .int .i64 t112, .int .i64 t113, .int .i64 t114, .int .u8 t115, .int .i64 t116, (.slice Ao40 t117.length co40), .bool t120, .bool t121] 28 (0, 0))) ∧ Aside0 (wc.heap[gb125]? = some (.cells #[.int .i64 ((rd_T35 l0_1 a1).f0), .int .i64 ((rd_T35 l0_1 a1).f1), .int .i64 ((rd_T35 l0_1 a1).f2), .int .u8 ((rd_T35 l0_1 a1).f3), .int .u8 ((rd_T35 l0_1 a1).f4), .int .u8 ((rd_T35 l0_1 a1).f5), .int .i64 ((rd_T35 l0_1 a1).f6), .bool ((rd_T35 l0_1 a1).f7), .bool ((rd_T35 l0_1 a1).f8), .int .i64 ((rd_T35 l0_1 a1).f9), .int .u8 ((rd_T35 l0_1 a1).f10), .bool ((rd_T35 l0_1 a1).f11), .bool ((rd_T35 l0_1 a1).f12), .int .i64 ((rd_T35 l0_1 a1).f13)] 35 (0, 0))) ∧ Aside0 (Below w.heap.size w wc))
         case first =>
          have H := HC56.out
          clear HC56
          replace H := Option.bind_eq_some_iff.mp H
          obtain ⟨t127, A650, H⟩ := H
          replace H : (if t127 = (ji54) then (if t126 < (ji54) then (joustlaw07_MightAuras.j2 k2 a1 a2 t126 true l0_0 l0_1 a0_2 a0_3 a0_4 a0_5 a0_6 l0_7 a0_8 a0_9) else (if t126 > 99999 then (joustlaw07_MightAuras.j2 k2 a1 a2 t126 true l0_0 l0_1 a0_2 a0_3 a0_4 a0_5 a0_6 l0_7 a0_8 a0_9) else (if ((rd_T35 l0_1 a1).f5) = 2 then (joustlaw07_MightAuras.j2 k2 a1 a2 t126 false l0_0 l0_1 a0_2 a0_3 a0_4 a0_5 a0_6 l0_7 a0_8 a0_9) else (joustlaw07_MightAuras.j2 k2 a1 a2 t126 (t126 != (ji54)) l0_0 l0_1 a0_2 a0_3 a0_4 a0_5 a0_6 l0_7 a0_8 a0_9)))) else (joustlaw07_MightAuras.j2 k2 a1 a2 t126 true l0_0 l0_1 a0_2 a0_3 a0_4 a0_5 a0_6 l0_7 a0_8 a0_9)) = some r := H
          have A65 := Az A650
          clear A650
          by_cases c66 : t127 = (ji54)
          ·
           rw [if_pos c66] at H
           have c66b0 : (t127 == (ji54)) = true := beq_iff_eq.mpr c66
           have c66b1 : (t127 != (ji54)) = false := bne_eq_false_iff_eq.mpr c66
           clear c66
           (first | rw [c66b0] | (simp only [i64_w, i32_w]; rw [c66b0]) | skip)
           by_cases c67 : t126 < (ji54)
           ·
            rw [if_pos c67] at H
            have c67b0 : decide (t126 < (ji54)) = true := decide_eq_true c67
            clear c67
            have H' := Az H
            clear H
            have hnb68 := NB122_101.out
            have hnc68 := NB101_122.out
            have hnb69 := NB122_125.out
            have hnc69 := NB125_122.out
            have hcz70_0 : w64.cell? ⟨gb122, 0, none⟩ = some (.slice Ao36 t106.length co36) := (blk_cell BK122.out 0).trans rfl
            have hcz70_1 : w64.cell? ⟨gb122, 1, none⟩ = some (u123001) := (blk_cell BK122.out 1).trans rfl
            have hcz70_2 : w64.cell? ⟨gb122, 2, none⟩ = some (.int .i64 t112) := (blk_cell BK122.out 2).trans rfl
            have hcz70_3 : w64.cell? ⟨gb122, 3, none⟩ = some (.int .i64 t113) := (blk_cell BK122.out 3).trans rfl
            have hcz70_4 : w64.cell? ⟨gb122, 4, none⟩ = some (.int .i64 t114) := (blk_cell BK122.out 4).trans rfl
            have hcz70_5 : w64.cell? ⟨gb122, 5, none⟩ = some (.int .u8 t115) := (blk_cell BK122.out 5).trans rfl
            have hcz70_6 : w64.cell? ⟨gb122, 6, none⟩ = some (.int .i64 t116) := (blk_cell BK122.out 6).trans rfl
            have hcz70_7 : w64.cell? ⟨gb122, 7, none⟩ = some (.slice Ao40 t117.length co40) := (blk_cell BK122.out 7).trans rfl
            have hcz70_8 : w64.cell? ⟨gb122, 8, none⟩ = some (.bool t120) := (blk_cell BK122.out 8).trans rfl
            have hcz70_9 : w64.cell? ⟨gb122, 9, none⟩ = some (.bool t121) := (blk_cell BK122.out 9).trans rfl
            have hfz70_0 := blk_frozen BK122.out 0
            have hfz70_1 := blk_frozen BK122.out 1
            have hfz70_2 := blk_frozen BK122.out 2
            have hfz70_3 := blk_frozen BK122.out 3
            have hfz70_4 := blk_frozen BK122.out 4
            have hfz70_5 := blk_frozen BK122.out 5
            have hfz70_6 := blk_frozen BK122.out 6
            have hfz70_7 := blk_frozen BK122.out 7
            have hfz70_8 := blk_frozen BK122.out 8
            have hfz70_9 := blk_frozen BK122.out 9
            obtain ⟨Ao71, co71, eo71⟩ := Kd.R_slice HO_123001.out
            subst eo71
            go_wp2_with (first | ((with_reducible refine gate_callee (f := 19) rfl ?_); refine goesL_ (some 71) rfl rfl Try.func19 (by kernel_rfl) rfl #[.agg #[.slice Ao36 t106.length co36, .slice Ao71 x123001_2.length co71, .int .i64 t112, .int .i64 t113, .int .i64 t114, .int .u8 t115, .int .i64 t116, .slice Ao40 t117.length co40, .bool t120, .bool t121], .int .i64 a1] rfl (by (try simp only [List.map_toArray, List.map_cons, List.map_nil]); first | done | rfl | (simp only [List.length_drop, List.length_take]; rfl)) ?_; (with_reducible refine (might_Attack.calls k2 _ _ t106 _ _ x123001_2 t112 t113 t114 t115 t116 _ _ t117 t120 t121 a1 t127 _ ?side1 ?side2 ?side3 ?side4 ?side5 ?side6 A65.out).mono ?_); (case side1 => repeat (first | exact (Kd.R_reads' HO_123000.out).2.2 | (with_reducible refine Kd.C_alloc ?_ _) | (with_reducible refine Kd.C_drewN ?_ _) | (with_reducible refine Kd.C_drew ?_))); (case side2 => exact (Kd.R_reads' HO_123000.out).2.1); (case side3 => repeat (first | exact (Kd.R_reads' HO_123001.out).2.2 | (with_reducible refine Kd.C_alloc ?_ _) | (with_reducible refine Kd.C_drewN ?_ _) | (with_reducible refine Kd.C_drew ?_))); (case side4 => exact (Kd.R_reads' HO_123001.out).2.1); (case side5 => repeat (first | exact (Kd.R_reads' HO_123007.out).2.2 | (with_reducible refine Kd.C_alloc ?_ _) | (with_reducible refine Kd.C_drewN ?_ _) | (with_reducible refine Kd.C_drew ?_))); (case side6 => exact (Kd.R_reads' HO_123007.out).2.1); rintro e w72 ⟨rfl, hb⟩; refine ⟨_, rfl, ?_⟩; have n0_ := Az (Kd.R_below (by (with_reducible repeat (first | apply Kd.R_alloc | apply Kd.R_drewN | apply Kd.R_drew)); exact HO_123000.out) hb); have n1_ := Az (Kd.R_below (by (with_reducible repeat (first | apply Kd.R_alloc | apply Kd.R_drewN | apply Kd.R_drew)); exact HO_123001.out) hb); have n2_ := Az (Kd.R_below (by (with_reducible repeat (first | apply Kd.R_alloc | apply Kd.R_drewN | apply Kd.R_drew)); exact HO_123007.out) hb); have n3_ := Az (blk_below (g := gb101) (o := .cells #[.slice A0_0 l0_0.length c0_0, .slice (some ad124) l0_1.length c0_1, .int .i64 a0_2, .int .i64 a0_3, .int .i64 a0_4, .int .u8 a0_5, .int .i64 a0_6, .slice A0_7 l0_7.length c0_7, .bool a0_8, .bool a0_9] 28 (0, 0)) (by (with_reducible repeat (first | refine blk_drewN ?_ _ | refine blk_drew ?_ | refine blk_alloc ?_ _)); exact BK101.out) hb); have n4_ := Az (blk_below (g := gb122) (o := .cells #[.slice Ao36 t106.length co36, .slice Ao71 x123001_2.length co71, .int .i64 t112, .int .i64 t113, .int .i64 t114, .int .u8 t115, .int .i64 t116, .slice Ao40 t117.length co40, .bool t120, .bool t121] 28 (0, 0)) (by (with_reducible repeat (first | refine blk_drewN ?_ _ | refine blk_drew ?_ | refine blk_alloc ?_ _)); exact BK122.out) hb); have n5_ := Az (blk_below (g := gb125) (o := .cells #[.int .i64 ((rd_T35 l0_1 a1).f0), .int .i64 ((rd_T35 l0_1 a1).f1), .int .i64 ((rd_T35 l0_1 a1).f2), .int .u8 ((rd_T35 l0_1 a1).f3), .int .u8 ((rd_T35 l0_1 a1).f4), .int .u8 ((rd_T35 l0_1 a1).f5), .int .i64 ((rd_T35 l0_1 a1).f6), .bool ((rd_T35 l0_1 a1).f7), .bool ((rd_T35 l0_1 a1).f8), .int .i64 ((rd_T35 l0_1 a1).f9), .int .u8 ((rd_T35 l0_1 a1).f10), .bool ((rd_T35 l0_1 a1).f11), .bool ((rd_T35 l0_1 a1).f12), .int .i64 ((rd_T35 l0_1 a1).f13)] 35 (0, 0)) (by (with_reducible repeat (first | refine blk_drewN ?_ _ | refine blk_drew ?_ | refine blk_alloc ?_ _)); exact BK125.out) hb); have n6_ := Az (below_step (low HB) hb); clear HO_123000; clear HO_123001; clear HO_123007; clear BK101; clear BK122; clear BK125; clear HB; have HO_123000 := n0_; have HO_123001 := n1_; have HO_123007 := n2_; have BK101 := n3_; have BK122 := n4_; have BK125 := n5_; have HB := n6_; clear n0_ n1_ n2_ n3_ n4_ n5_ n6_; (try clear hb); (try clear hb2); (try clear hk); (try clear hi)))
            go_meet
            case rel => exact ⟨_, (true), (by first | rfl | (simp; done) | (simp [*]; done)), H', ⟨by have := HJ3.out; have := HK2.out; first | omega | exact Nat.le_refl _⟩, ⟨by (with_reducible repeat (first | apply Kd.R_alloc | apply Kd.R_drewN | apply Kd.R_drew)); exact HO_123000.out⟩, ⟨by (with_reducible repeat (first | apply Kd.R_alloc | apply Kd.R_drewN | apply Kd.R_drew)); exact Kd.R_mono HO_123001.out (fun _ hk => hk.2)⟩, ⟨by (with_reducible repeat (first | apply Kd.R_alloc | apply Kd.R_drewN | apply Kd.R_drew)); exact HO_123007.out⟩, ⟨by (with_reducible repeat (first | refine blk_drewN ?_ _ | refine blk_drew ?_ | refine blk_alloc ?_ _)); exact BK101.out⟩, ⟨by (with_reducible repeat (first | refine blk_drewN ?_ _ | refine blk_drew ?_ | refine blk_alloc ?_ _)); exact BK122.out⟩, ⟨by (with_reducible repeat (first | refine blk_drewN ?_ _ | refine blk_drew ?_ | refine blk_alloc ?_ _)); exact BK125.out⟩, ⟨low HB⟩⟩
           ·
            rw [if_neg c67] at H
            have c67b0 : decide (t126 < (ji54)) = false := decide_eq_false c67
            clear c67
            by_cases c73 : t126 > 99999
            ·
             rw [if_pos c73] at H
             have c73b0 : decide (99999 < t126) = true := decide_eq_true c73
             clear c73
             have H' := Az H
             clear H
             have hnb74 := NB122_101.out
             have hnc74 := NB101_122.out
             have hnb75 := NB122_125.out
             have hnc75 := NB125_122.out
             have hcz76_0 : w64.cell? ⟨gb122, 0, none⟩ = some (.slice Ao36 t106.length co36) := (blk_cell BK122.out 0).trans rfl
             have hcz76_1 : w64.cell? ⟨gb122, 1, none⟩ = some (u123001) := (blk_cell BK122.out 1).trans rfl
             have hcz76_2 : w64.cell? ⟨gb122, 2, none⟩ = some (.int .i64 t112) := (blk_cell BK122.out 2).trans rfl
             have hcz76_3 : w64.cell? ⟨gb122, 3, none⟩ = some (.int .i64 t113) := (blk_cell BK122.out 3).trans rfl
             have hcz76_4 : w64.cell? ⟨gb122, 4, none⟩ = some (.int .i64 t114) := (blk_cell BK122.out 4).trans rfl
             have hcz76_5 : w64.cell? ⟨gb122, 5, none⟩ = some (.int .u8 t115) := (blk_cell BK122.out 5).trans rfl
             have hcz76_6 : w64.cell? ⟨gb122, 6, none⟩ = some (.int .i64 t116) := (blk_cell BK122.out 6).trans rfl
             have hcz76_7 : w64.cell? ⟨gb122, 7, none⟩ = some (.slice Ao40 t117.length co40) := (blk_cell BK122.out 7).trans rfl
             have hcz76_8 : w64.cell? ⟨gb122, 8, none⟩ = some (.bool t120) := (blk_cell BK122.out 8).trans rfl
             have hcz76_9 : w64.cell? ⟨gb122, 9, none⟩ = some (.bool t121) := (blk_cell BK122.out 9).trans rfl
             have hfz76_0 := blk_frozen BK122.out 0
             have hfz76_1 := blk_frozen BK122.out 1
             have hfz76_2 := blk_frozen BK122.out 2
             have hfz76_3 := blk_frozen BK122.out 3
             have hfz76_4 := blk_frozen BK122.out 4
             have hfz76_5 := blk_frozen BK122.out 5
             have hfz76_6 := blk_frozen BK122.out 6
             have hfz76_7 := blk_frozen BK122.out 7
             have hfz76_8 := blk_frozen BK122.out 8
             have hfz76_9 := blk_frozen BK122.out 9
             obtain ⟨Ao77, co77, eo77⟩ := Kd.R_slice HO_123001.out
             subst eo77
             go_wp2_with (first | ((with_reducible refine gate_callee (f := 19) rfl ?_); refine goesL_ (some 71) rfl rfl Try.func19 (by kernel_rfl) rfl #[.agg #[.slice Ao36 t106.length co36, .slice Ao77 x123001_2.length co77, .int .i64 t112, .int .i64 t113, .int .i64 t114, .int .u8 t115, .int .i64 t116, .slice Ao40 t117.length co40, .bool t120, .bool t121], .int .i64 a1] rfl (by (try simp only [List.map_toArray, List.map_cons, List.map_nil]); first | done | rfl | (simp only [List.length_drop, List.length_take]; rfl)) ?_; (with_reducible refine (might_Attack.calls k2 _ _ t106 _ _ x123001_2 t112 t113 t114 t115 t116 _ _ t117 t120 t121 a1 t127 _ ?side1 ?side2 ?side3 ?side4 ?side5 ?side6 A65.out).mono ?_); (case side1 => repeat (first | exact (Kd.R_reads' HO_123000.out).2.2 | (with_reducible refine Kd.C_alloc ?_ _) | (with_reducible refine Kd.C_drewN ?_ _) | (with_reducible refine Kd.C_drew ?_))); (case side2 => exact (Kd.R_reads' HO_123000.out).2.1); (case side3 => repeat (first | exact (Kd.R_reads' HO_123001.out).2.2 | (with_reducible refine Kd.C_alloc ?_ _) | (with_reducible refine Kd.C_drewN ?_ _) | (with_reducible refine Kd.C_drew ?_))); (case side4 => exact (Kd.R_reads' HO_123001.out).2.1); (case side5 => repeat (first | exact (Kd.R_reads' HO_123007.out).2.2 | (with_reducible refine Kd.C_alloc ?_ _) | (with_reducible refine Kd.C_drewN ?_ _) | (with_reducible refine Kd.C_drew ?_))); (case side6 => exact (Kd.R_reads' HO_123007.out).2.1); rintro e w78 ⟨rfl, hb⟩; refine ⟨_, rfl, ?_⟩; have n0_ := Az (Kd.R_below (by (with_reducible repeat (first | apply Kd.R_alloc | apply Kd.R_drewN | apply Kd.R_drew)); exact HO_123000.out) hb); have n1_ := Az (Kd.R_below (by (with_reducible repeat (first | apply Kd.R_alloc | apply Kd.R_drewN | apply Kd.R_drew)); exact HO_123001.out) hb); have n2_ := Az (Kd.R_below (by (with_reducible repeat (first | apply Kd.R_alloc | apply Kd.R_drewN | apply Kd.R_drew)); exact HO_123007.out) hb); have n3_ := Az (blk_below (g := gb101) (o := .cells #[.slice A0_0 l0_0.length c0_0, .slice (some ad124) l0_1.length c0_1, .int .i64 a0_2, .int .i64 a0_3, .int .i64 a0_4, .int .u8 a0_5, .int .i64 a0_6, .slice A0_7 l0_7.length c0_7, .bool a0_8, .bool a0_9] 28 (0, 0)) (by (with_reducible repeat (first | refine blk_drewN ?_ _ | refine blk_drew ?_ | refine blk_alloc ?_ _)); exact BK101.out) hb); have n4_ := Az (blk_below (g := gb122) (o := .cells #[.slice Ao36 t106.length co36, .slice Ao77 x123001_2.length co77, .int .i64 t112, .int .i64 t113, .int .i64 t114, .int .u8 t115, .int .i64 t116, .slice Ao40 t117.length co40, .bool t120, .bool t121] 28 (0, 0)) (by (with_reducible repeat (first | refine blk_drewN ?_ _ | refine blk_drew ?_ | refine blk_alloc ?_ _)); exact BK122.out) hb); have n5_ := Az (blk_below (g := gb125) (o := .cells #[.int .i64 ((rd_T35 l0_1 a1).f0), .int .i64 ((rd_T35 l0_1 a1).f1), .int .i64 ((rd_T35 l0_1 a1).f2), .int .u8 ((rd_T35 l0_1 a1).f3), .int .u8 ((rd_T35 l0_1 a1).f4), .int .u8 ((rd_T35 l0_1 a1).f5), .int .i64 ((rd_T35 l0_1 a1).f6), .bool ((rd_T35 l0_1 a1).f7), .bool ((rd_T35 l0_1 a1).f8), .int .i64 ((rd_T35 l0_1 a1).f9), .int .u8 ((rd_T35 l0_1 a1).f10), .bool ((rd_T35 l0_1 a1).f11), .bool ((rd_T35 l0_1 a1).f12), .int .i64 ((rd_T35 l0_1 a1).f13)] 35 (0, 0)) (by (with_reducible repeat (first | refine blk_drewN ?_ _ | refine blk_drew ?_ | refine blk_alloc ?_ _)); exact BK125.out) hb); have n6_ := Az (below_step (low HB) hb); clear HO_123000; clear HO_123001; clear HO_123007; clear BK101; clear BK122; clear BK125; clear HB; have HO_123000 := n0_; have HO_123001 := n1_; have HO_123007 := n2_; have BK101 := n3_; have BK122 := n4_; have BK125 := n5_; have HB := n6_; clear n0_ n1_ n2_ n3_ n4_ n5_ n6_; (try clear hb); (try clear hb2); (try clear hk); (try clear hi)))
             go_meet
             case rel => exact ⟨_, (true), (by first | rfl | (simp; done) | (simp [*]; done)), H', ⟨by have := HJ3.out; have := HK2.out; first | omega | exact Nat.le_refl _⟩, ⟨by (with_reducible repeat (first | apply Kd.R_alloc | apply Kd.R_drewN | apply Kd.R_drew)); exact HO_123000.out⟩, ⟨by (with_reducible repeat (first | apply Kd.R_alloc | apply Kd.R_drewN | apply Kd.R_drew)); exact Kd.R_mono HO_123001.out (fun _ hk => hk.2)⟩, ⟨by (with_reducible repeat (first | apply Kd.R_alloc | apply Kd.R_drewN | apply Kd.R_drew)); exact HO_123007.out⟩, ⟨by (with_reducible repeat (first | refine blk_drewN ?_ _ | refine blk_drew ?_ | refine blk_alloc ?_ _)); exact BK101.out⟩, ⟨by (with_reducible repeat (first | refine blk_drewN ?_ _ | refine blk_drew ?_ | refine blk_alloc ?_ _)); exact BK122.out⟩, ⟨by (with_reducible repeat (first | refine blk_drewN ?_ _ | refine blk_drew ?_ | refine blk_alloc ?_ _)); exact BK125.out⟩, ⟨low HB⟩⟩
            ·
             rw [if_neg c73] at H
             have c73b0 : decide (99999 < t126) = false := decide_eq_false c73
             clear c73
             by_cases c79 : ((rd_T35 l0_1 a1).f5) = 2
             ·
              rw [if_pos c79] at H
              have c79b0 : (((rd_T35 l0_1 a1).f5) == 2) = true := beq_iff_eq.mpr c79
              have c79b1 : (((rd_T35 l0_1 a1).f5) != 2) = false := bne_eq_false_iff_eq.mpr c79
              clear c79
              have H' := Az H
              clear H
              have hnb80 := NB122_101.out
              have hnc80 := NB101_122.out
              have hnb81 := NB122_125.out
              have hnc81 := NB125_122.out
              have hcz82_0 : w64.cell? ⟨gb122, 0, none⟩ = some (.slice Ao36 t106.length co36) := (blk_cell BK122.out 0).trans rfl
              have hcz82_1 : w64.cell? ⟨gb122, 1, none⟩ = some (u123001) := (blk_cell BK122.out 1).trans rfl
              have hcz82_2 : w64.cell? ⟨gb122, 2, none⟩ = some (.int .i64 t112) := (blk_cell BK122.out 2).trans rfl
              have hcz82_3 : w64.cell? ⟨gb122, 3, none⟩ = some (.int .i64 t113) := (blk_cell BK122.out 3).trans rfl
              have hcz82_4 : w64.cell? ⟨gb122, 4, none⟩ = some (.int .i64 t114) := (blk_cell BK122.out 4).trans rfl
              have hcz82_5 : w64.cell? ⟨gb122, 5, none⟩ = some (.int .u8 t115) := (blk_cell BK122.out 5).trans rfl
              have hcz82_6 : w64.cell? ⟨gb122, 6, none⟩ = some (.int .i64 t116) := (blk_cell BK122.out 6).trans rfl
              have hcz82_7 : w64.cell? ⟨gb122, 7, none⟩ = some (.slice Ao40 t117.length co40) := (blk_cell BK122.out 7).trans rfl
              have hcz82_8 : w64.cell? ⟨gb122, 8, none⟩ = some (.bool t120) := (blk_cell BK122.out 8).trans rfl
              have hcz82_9 : w64.cell? ⟨gb122, 9, none⟩ = some (.bool t121) := (blk_cell BK122.out 9).trans rfl
              have hfz82_0 := blk_frozen BK122.out 0
              have hfz82_1 := blk_frozen BK122.out 1
              have hfz82_2 := blk_frozen BK122.out 2
              have hfz82_3 := blk_frozen BK122.out 3
              have hfz82_4 := blk_frozen BK122.out 4
              have hfz82_5 := blk_frozen BK122.out 5
              have hfz82_6 := blk_frozen BK122.out 6
              have hfz82_7 := blk_frozen BK122.out 7
              have hfz82_8 := blk_frozen BK122.out 8
              have hfz82_9 := blk_frozen BK122.out 9
              obtain ⟨Ao83, co83, eo83⟩ := Kd.R_slice HO_123001.out
              subst eo83
              go_wp2_with (first | ((with_reducible refine gate_callee (f := 19) rfl ?_); refine goesL_ (some 71) rfl rfl Try.func19 (by kernel_rfl) rfl #[.agg #[.slice Ao36 t106.length co36, .slice Ao83 x123001_2.length co83, .int .i64 t112, .int .i64 t113, .int .i64 t114, .int .u8 t115, .int .i64 t116, .slice Ao40 t117.length co40, .bool t120, .bool t121], .int .i64 a1] rfl (by (try simp only [List.map_toArray, List.map_cons, List.map_nil]); first | done | rfl | (simp only [List.length_drop, List.length_take]; rfl)) ?_; (with_reducible refine (might_Attack.calls k2 _ _ t106 _ _ x123001_2 t112 t113 t114 t115 t116 _ _ t117 t120 t121 a1 t127 _ ?side1 ?side2 ?side3 ?side4 ?side5 ?side6 A65.out).mono ?_); (case side1 => repeat (first | exact (Kd.R_reads' HO_123000.out).2.2 | (with_reducible refine Kd.C_alloc ?_ _) | (with_reducible refine Kd.C_drewN ?_ _) | (with_reducible refine Kd.C_drew ?_))); (case side2 => exact (Kd.R_reads' HO_123000.out).2.1); (case side3 => repeat (first | exact (Kd.R_reads' HO_123001.out).2.2 | (with_reducible refine Kd.C_alloc ?_ _) | (with_reducible refine Kd.C_drewN ?_ _) | (with_reducible refine Kd.C_drew ?_))); (case side4 => exact (Kd.R_reads' HO_123001.out).2.1); (case side5 => repeat (first | exact (Kd.R_reads' HO_123007.out).2.2 | (with_reducible refine Kd.C_alloc ?_ _) | (with_reducible refine Kd.C_drewN ?_ _) | (with_reducible refine Kd.C_drew ?_))); (case side6 => exact (Kd.R_reads' HO_123007.out).2.1); rintro e w84 ⟨rfl, hb⟩; refine ⟨_, rfl, ?_⟩; have n0_ := Az (Kd.R_below (by (with_reducible repeat (first | apply Kd.R_alloc | apply Kd.R_drewN | apply Kd.R_drew)); exact HO_123000.out) hb); have n1_ := Az (Kd.R_below (by (with_reducible repeat (first | apply Kd.R_alloc | apply Kd.R_drewN | apply Kd.R_drew)); exact HO_123001.out) hb); have n2_ := Az (Kd.R_below (by (with_reducible repeat (first | apply Kd.R_alloc | apply Kd.R_drewN | apply Kd.R_drew)); exact HO_123007.out) hb); have n3_ := Az (blk_below (g := gb101) (o := .cells #[.slice A0_0 l0_0.length c0_0, .slice (some ad124) l0_1.length c0_1, .int .i64 a0_2, .int .i64 a0_3, .int .i64 a0_4, .int .u8 a0_5, .int .i64 a0_6, .slice A0_7 l0_7.length c0_7, .bool a0_8, .bool a0_9] 28 (0, 0)) (by (with_reducible repeat (first | refine blk_drewN ?_ _ | refine blk_drew ?_ | refine blk_alloc ?_ _)); exact BK101.out) hb); have n4_ := Az (blk_below (g := gb122) (o := .cells #[.slice Ao36 t106.length co36, .slice Ao83 x123001_2.length co83, .int .i64 t112, .int .i64 t113, .int .i64 t114, .int .u8 t115, .int .i64 t116, .slice Ao40 t117.length co40, .bool t120, .bool t121] 28 (0, 0)) (by (with_reducible repeat (first | refine blk_drewN ?_ _ | refine blk_drew ?_ | refine blk_alloc ?_ _)); exact BK122.out) hb); have n5_ := Az (blk_below (g := gb125) (o := .cells #[.int .i64 ((rd_T35 l0_1 a1).f0), .int .i64 ((rd_T35 l0_1 a1).f1), .int .i64 ((rd_T35 l0_1 a1).f2), .int .u8 ((rd_T35 l0_1 a1).f3), .int .u8 ((rd_T35 l0_1 a1).f4), .int .u8 ((rd_T35 l0_1 a1).f5), .int .i64 ((rd_T35 l0_1 a1).f6), .bool ((rd_T35 l0_1 a1).f7), .bool ((rd_T35 l0_1 a1).f8), .int .i64 ((rd_T35 l0_1 a1).f9), .int .u8 ((rd_T35 l0_1 a1).f10), .bool ((rd_T35 l0_1 a1).f11), .bool ((rd_T35 l0_1 a1).f12), .int .i64 ((rd_T35 l0_1 a1).f13)] 35 (0, 0)) (by (with_reducible repeat (first | refine blk_drewN ?_ _ | refine blk_drew ?_ | refine blk_alloc ?_ _)); exact BK125.out) hb); have n6_ := Az (below_step (low HB) hb); clear HO_123000; clear HO_123001; clear HO_123007; clear BK101; clear BK122; clear BK125; clear HB; have HO_123000 := n0_; have HO_123001 := n1_; have HO_123007 := n2_; have BK101 := n3_; have BK122 := n4_; have BK125 := n5_; have HB := n6_; clear n0_ n1_ n2_ n3_ n4_ n5_ n6_; (try clear hb); (try clear hb2); (try clear hk); (try clear hi); have hnb85 := NB125_101.out; have hnc85 := NB101_125.out; have hcz86_0 : w84.cell? ⟨gb125, 0, none⟩ = some (.int .i64 ((rd_T35 l0_1 a1).f0)) := (blk_cell BK125.out 0).trans rfl; have hcz86_1 : w84.cell? ⟨gb125, 1, none⟩ = some (.int .i64 ((rd_T35 l0_1 a1).f1)) := (blk_cell BK125.out 1).trans rfl; have hcz86_2 : w84.cell? ⟨gb125, 2, none⟩ = some (.int .i64 ((rd_T35 l0_1 a1).f2)) := (blk_cell BK125.out 2).trans rfl; have hcz86_3 : w84.cell? ⟨gb125, 3, none⟩ = some (.int .u8 ((rd_T35 l0_1 a1).f3)) := (blk_cell BK125.out 3).trans rfl; have hcz86_4 : w84.cell? ⟨gb125, 4, none⟩ = some (.int .u8 ((rd_T35 l0_1 a1).f4)) := (blk_cell BK125.out 4).trans rfl; have hcz86_5 : w84.cell? ⟨gb125, 5, none⟩ = some (.int .u8 ((rd_T35 l0_1 a1).f5)) := (blk_cell BK125.out 5).trans rfl; have hcz86_6 : w84.cell? ⟨gb125, 6, none⟩ = some (.int .i64 ((rd_T35 l0_1 a1).f6)) := (blk_cell BK125.out 6).trans rfl; have hcz86_7 : w84.cell? ⟨gb125, 7, none⟩ = some (.bool ((rd_T35 l0_1 a1).f7)) := (blk_cell BK125.out 7).trans rfl; have hcz86_8 : w84.cell? ⟨gb125, 8, none⟩ = some (.bool ((rd_T35 l0_1 a1).f8)) := (blk_cell BK125.out 8).trans rfl; have hcz86_9 : w84.cell? ⟨gb125, 9, none⟩ = some (.int .i64 ((rd_T35 l0_1 a1).f9)) := (blk_cell BK125.out 9).trans rfl; have hcz86_10 : w84.cell? ⟨gb125, 10, none⟩ = some (.int .u8 ((rd_T35 l0_1 a1).f10)) := (blk_cell BK125.out 10).trans rfl; have hcz86_11 : w84.cell? ⟨gb125, 11, none⟩ = some (.bool ((rd_T35 l0_1 a1).f11)) := (blk_cell BK125.out 11).trans rfl; have hcz86_12 : w84.cell? ⟨gb125, 12, none⟩ = some (.bool ((rd_T35 l0_1 a1).f12)) := (blk_cell BK125.out 12).trans rfl; have hcz86_13 : w84.cell? ⟨gb125, 13, none⟩ = some (.int .i64 ((rd_T35 l0_1 a1).f13)) := (blk_cell BK125.out 13).trans rfl; have hfz86_0 := blk_frozen BK125.out 0; have hfz86_1 := blk_frozen BK125.out 1; have hfz86_2 := blk_frozen BK125.out 2; have hfz86_3 := blk_frozen BK125.out 3; have hfz86_4 := blk_frozen BK125.out 4; have hfz86_5 := blk_frozen BK125.out 5; have hfz86_6 := blk_frozen BK125.out 6; have hfz86_7 := blk_frozen BK125.out 7; have hfz86_8 := blk_frozen BK125.out 8; have hfz86_9 := blk_frozen BK125.out 9; have hfz86_10 := blk_frozen BK125.out 10; have hfz86_11 := blk_frozen BK125.out 11; have hfz86_12 := blk_frozen BK125.out 12; have hfz86_13 := blk_frozen BK125.out 13))
              go_meet
              case rel => exact ⟨_, (false), (by first | rfl | (simp; done) | (simp [*]; done)), H', ⟨by have := HJ3.out; have := HK2.out; first | omega | exact Nat.le_refl _⟩, ⟨by (with_reducible repeat (first | apply Kd.R_alloc | apply Kd.R_drewN | apply Kd.R_drew)); exact HO_123000.out⟩, ⟨by (with_reducible repeat (first | apply Kd.R_alloc | apply Kd.R_drewN | apply Kd.R_drew)); exact Kd.R_mono HO_123001.out (fun _ hk => hk.2)⟩, ⟨by (with_reducible repeat (first | apply Kd.R_alloc | apply Kd.R_drewN | apply Kd.R_drew)); exact HO_123007.out⟩, ⟨by (with_reducible repeat (first | refine blk_drewN ?_ _ | refine blk_drew ?_ | refine blk_alloc ?_ _)); exact BK101.out⟩, ⟨by (with_reducible repeat (first | refine blk_drewN ?_ _ | refine blk_drew ?_ | refine blk_alloc ?_ _)); exact BK122.out⟩, ⟨by (with_reducible repeat (first | refine blk_drewN ?_ _ | refine blk_drew ?_ | refine blk_alloc ?_ _)); exact BK125.out⟩, ⟨low HB⟩⟩
             ·
              rw [if_neg c79] at H
              have c79b0 : (((rd_T35 l0_1 a1).f5) == 2) = false := beq_eq_false_iff_ne.mpr c79
              have c79b1 : (((rd_T35 l0_1 a1).f5) != 2) = true := bne_iff_ne.mpr c79
              have H' := Az H
              clear H
              have hnb87 := NB122_101.out
              have hnc87 := NB101_122.out
              have hnb88 := NB122_125.out
              have hnc88 := NB125_122.out
              have hcz89_0 : w64.cell? ⟨gb122, 0, none⟩ = some (.slice Ao36 t106.length co36) := (blk_cell BK122.out 0).trans rfl
              have hcz89_1 : w64.cell? ⟨gb122, 1, none⟩ = some (u123001) := (blk_cell BK122.out 1).trans rfl
              have hcz89_2 : w64.cell? ⟨gb122, 2, none⟩ = some (.int .i64 t112) := (blk_cell BK122.out 2).trans rfl
              have hcz89_3 : w64.cell? ⟨gb122, 3, none⟩ = some (.int .i64 t113) := (blk_cell BK122.out 3).trans rfl
              have hcz89_4 : w64.cell? ⟨gb122, 4, none⟩ = some (.int .i64 t114) := (blk_cell BK122.out 4).trans rfl
              have hcz89_5 : w64.cell? ⟨gb122, 5, none⟩ = some (.int .u8 t115) := (blk_cell BK122.out 5).trans rfl
              have hcz89_6 : w64.cell? ⟨gb122, 6, none⟩ = some (.int .i64 t116) := (blk_cell BK122.out 6).trans rfl
              have hcz89_7 : w64.cell? ⟨gb122, 7, none⟩ = some (.slice Ao40 t117.length co40) := (blk_cell BK122.out 7).trans rfl
              have hcz89_8 : w64.cell? ⟨gb122, 8, none⟩ = some (.bool t120) := (blk_cell BK122.out 8).trans rfl
              have hcz89_9 : w64.cell? ⟨gb122, 9, none⟩ = some (.bool t121) := (blk_cell BK122.out 9).trans rfl
              have hfz89_0 := blk_frozen BK122.out 0
              have hfz89_1 := blk_frozen BK122.out 1
              have hfz89_2 := blk_frozen BK122.out 2
              have hfz89_3 := blk_frozen BK122.out 3
              have hfz89_4 := blk_frozen BK122.out 4
              have hfz89_5 := blk_frozen BK122.out 5
              have hfz89_6 := blk_frozen BK122.out 6
              have hfz89_7 := blk_frozen BK122.out 7
              have hfz89_8 := blk_frozen BK122.out 8
              have hfz89_9 := blk_frozen BK122.out 9
              obtain ⟨Ao90, co90, eo90⟩ := Kd.R_slice HO_123001.out
              subst eo90
              go_wp2_with (first | ((with_reducible refine gate_callee (f := 19) rfl ?_); refine goesL_ (some 71) rfl rfl Try.func19 (by kernel_rfl) rfl #[.agg #[.slice Ao36 t106.length co36, .slice Ao90 x123001_2.length co90, .int .i64 t112, .int .i64 t113, .int .i64 t114, .int .u8 t115, .int .i64 t116, .slice Ao40 t117.length co40, .bool t120, .bool t121], .int .i64 a1] rfl (by (try simp only [List.map_toArray, List.map_cons, List.map_nil]); first | done | rfl | (simp only [List.length_drop, List.length_take]; rfl)) ?_; (with_reducible refine (might_Attack.calls k2 _ _ t106 _ _ x123001_2 t112 t113 t114 t115 t116 _ _ t117 t120 t121 a1 t127 _ ?side1 ?side2 ?side3 ?side4 ?side5 ?side6 A65.out).mono ?_); (case side1 => repeat (first | exact (Kd.R_reads' HO_123000.out).2.2 | (with_reducible refine Kd.C_alloc ?_ _) | (with_reducible refine Kd.C_drewN ?_ _) | (with_reducible refine Kd.C_drew ?_))); (case side2 => exact (Kd.R_reads' HO_123000.out).2.1); (case side3 => repeat (first | exact (Kd.R_reads' HO_123001.out).2.2 | (with_reducible refine Kd.C_alloc ?_ _) | (with_reducible refine Kd.C_drewN ?_ _) | (with_reducible refine Kd.C_drew ?_))); (case side4 => exact (Kd.R_reads' HO_123001.out).2.1); (case side5 => repeat (first | exact (Kd.R_reads' HO_123007.out).2.2 | (with_reducible refine Kd.C_alloc ?_ _) | (with_reducible refine Kd.C_drewN ?_ _) | (with_reducible refine Kd.C_drew ?_))); (case side6 => exact (Kd.R_reads' HO_123007.out).2.1); rintro e w91 ⟨rfl, hb⟩; refine ⟨_, rfl, ?_⟩; have n0_ := Az (Kd.R_below (by (with_reducible repeat (first | apply Kd.R_alloc | apply Kd.R_drewN | apply Kd.R_drew)); exact HO_123000.out) hb); have n1_ := Az (Kd.R_below (by (with_reducible repeat (first | apply Kd.R_alloc | apply Kd.R_drewN | apply Kd.R_drew)); exact HO_123001.out) hb); have n2_ := Az (Kd.R_below (by (with_reducible repeat (first | apply Kd.R_alloc | apply Kd.R_drewN | apply Kd.R_drew)); exact HO_123007.out) hb); have n3_ := Az (blk_below (g := gb101) (o := .cells #[.slice A0_0 l0_0.length c0_0, .slice (some ad124) l0_1.length c0_1, .int .i64 a0_2, .int .i64 a0_3, .int .i64 a0_4, .int .u8 a0_5, .int .i64 a0_6, .slice A0_7 l0_7.length c0_7, .bool a0_8, .bool a0_9] 28 (0, 0)) (by (with_reducible repeat (first | refine blk_drewN ?_ _ | refine blk_drew ?_ | refine blk_alloc ?_ _)); exact BK101.out) hb); have n4_ := Az (blk_below (g := gb122) (o := .cells #[.slice Ao36 t106.length co36, .slice Ao90 x123001_2.length co90, .int .i64 t112, .int .i64 t113, .int .i64 t114, .int .u8 t115, .int .i64 t116, .slice Ao40 t117.length co40, .bool t120, .bool t121] 28 (0, 0)) (by (with_reducible repeat (first | refine blk_drewN ?_ _ | refine blk_drew ?_ | refine blk_alloc ?_ _)); exact BK122.out) hb); have n5_ := Az (blk_below (g := gb125) (o := .cells #[.int .i64 ((rd_T35 l0_1 a1).f0), .int .i64 ((rd_T35 l0_1 a1).f1), .int .i64 ((rd_T35 l0_1 a1).f2), .int .u8 ((rd_T35 l0_1 a1).f3), .int .u8 ((rd_T35 l0_1 a1).f4), .int .u8 ((rd_T35 l0_1 a1).f5), .int .i64 ((rd_T35 l0_1 a1).f6), .bool ((rd_T35 l0_1 a1).f7), .bool ((rd_T35 l0_1 a1).f8), .int .i64 ((rd_T35 l0_1 a1).f9), .int .u8 ((rd_T35 l0_1 a1).f10), .bool ((rd_T35 l0_1 a1).f11), .bool ((rd_T35 l0_1 a1).f12), .int .i64 ((rd_T35 l0_1 a1).f13)] 35 (0, 0)) (by (with_reducible repeat (first | refine blk_drewN ?_ _ | refine blk_drew ?_ | refine blk_alloc ?_ _)); exact BK125.out) hb); have n6_ := Az (below_step (low HB) hb); clear HO_123000; clear HO_123001; clear HO_123007; clear BK101; clear BK122; clear BK125; clear HB; have HO_123000 := n0_; have HO_123001 := n1_; have HO_123007 := n2_; have BK101 := n3_; have BK122 := n4_; have BK125 := n5_; have HB := n6_; clear n0_ n1_ n2_ n3_ n4_ n5_ n6_; (try clear hb); (try clear hb2); (try clear hk); (try clear hi); have hnb92 := NB125_101.out; have hnc92 := NB101_125.out; have hcz93_0 : w91.cell? ⟨gb125, 0, none⟩ = some (.int .i64 ((rd_T35 l0_1 a1).f0)) := (blk_cell BK125.out 0).trans rfl; have hcz93_1 : w91.cell? ⟨gb125, 1, none⟩ = some (.int .i64 ((rd_T35 l0_1 a1).f1)) := (blk_cell BK125.out 1).trans rfl; have hcz93_2 : w91.cell? ⟨gb125, 2, none⟩ = some (.int .i64 ((rd_T35 l0_1 a1).f2)) := (blk_cell BK125.out 2).trans rfl; have hcz93_3 : w91.cell? ⟨gb125, 3, none⟩ = some (.int .u8 ((rd_T35 l0_1 a1).f3)) := (blk_cell BK125.out 3).trans rfl; have hcz93_4 : w91.cell? ⟨gb125, 4, none⟩ = some (.int .u8 ((rd_T35 l0_1 a1).f4)) := (blk_cell BK125.out 4).trans rfl; have hcz93_5 : w91.cell? ⟨gb125, 5, none⟩ = some (.int .u8 ((rd_T35 l0_1 a1).f5)) := (blk_cell BK125.out 5).trans rfl; have hcz93_6 : w91.cell? ⟨gb125, 6, none⟩ = some (.int .i64 ((rd_T35 l0_1 a1).f6)) := (blk_cell BK125.out 6).trans rfl; have hcz93_7 : w91.cell? ⟨gb125, 7, none⟩ = some (.bool ((rd_T35 l0_1 a1).f7)) := (blk_cell BK125.out 7).trans rfl; have hcz93_8 : w91.cell? ⟨gb125, 8, none⟩ = some (.bool ((rd_T35 l0_1 a1).f8)) := (blk_cell BK125.out 8).trans rfl; have hcz93_9 : w91.cell? ⟨gb125, 9, none⟩ = some (.int .i64 ((rd_T35 l0_1 a1).f9)) := (blk_cell BK125.out 9).trans rfl; have hcz93_10 : w91.cell? ⟨gb125, 10, none⟩ = some (.int .u8 ((rd_T35 l0_1 a1).f10)) := (blk_cell BK125.out 10).trans rfl; have hcz93_11 : w91.cell? ⟨gb125, 11, none⟩ = some (.bool ((rd_T35 l0_1 a1).f11)) := (blk_cell BK125.out 11).trans rfl; have hcz93_12 : w91.cell? ⟨gb125, 12, none⟩ = some (.bool ((rd_T35 l0_1 a1).f12)) := (blk_cell BK125.out 12).trans rfl; have hcz93_13 : w91.cell? ⟨gb125, 13, none⟩ = some (.int .i64 ((rd_T35 l0_1 a1).f13)) := (blk_cell BK125.out 13).trans rfl; have hfz93_0 := blk_frozen BK125.out 0; have hfz93_1 := blk_frozen BK125.out 1; have hfz93_2 := blk_frozen BK125.out 2; have hfz93_3 := blk_frozen BK125.out 3; have hfz93_4 := blk_frozen BK125.out 4; have hfz93_5 := blk_frozen BK125.out 5; have hfz93_6 := blk_frozen BK125.out 6; have hfz93_7 := blk_frozen BK125.out 7; have hfz93_8 := blk_frozen BK125.out 8; have hfz93_9 := blk_frozen BK125.out 9; have hfz93_10 := blk_frozen BK125.out 10; have hfz93_11 := blk_frozen BK125.out 11; have hfz93_12 := blk_frozen BK125.out 12; have hfz93_13 := blk_frozen BK125.out 13))
              go_meet
              case rel => exact ⟨_, ((t126 != (ji54))), (by first | rfl | (simp; done) | (simp only [← hji54] <;> (first | rfl | simp)) | (simp [*]; done)), H', ⟨by have := HJ3.out; have := HK2.out; first | omega | exact Nat.le_refl _⟩, ⟨by (with_reducible repeat (first | apply Kd.R_alloc | apply Kd.R_drewN | apply Kd.R_drew)); exact HO_123000.out⟩, ⟨by (with_reducible repeat (first | apply Kd.R_alloc | apply Kd.R_drewN | apply Kd.R_drew)); exact Kd.R_mono HO_123001.out (fun _ hk => hk.2)⟩, ⟨by (with_reducible repeat (first | apply Kd.R_alloc | apply Kd.R_drewN | apply Kd.R_drew)); exact HO_123007.out⟩, ⟨by (with_reducible repeat (first | refine blk_drewN ?_ _ | refine blk_drew ?_ | refine blk_alloc ?_ _)); exact BK101.out⟩, ⟨by (with_reducible repeat (first | refine blk_drewN ?_ _ | refine blk_drew ?_ | refine blk_alloc ?_ _)); exact BK122.out⟩, ⟨by (with_reducible repeat (first | refine blk_drewN ?_ _ | refine blk_drew ?_ | refine blk_alloc ?_ _)); exact BK125.out⟩, ⟨low HB⟩⟩
          ·
           rw [if_neg c66] at H
           have c66b0 : (t127 == (ji54)) = false := beq_eq_false_iff_ne.mpr c66
           have c66b1 : (t127 != (ji54)) = true := bne_iff_ne.mpr c66
           (first | rw [c66b0] | (simp only [i64_w, i32_w]; rw [c66b0]) | skip)
           have H' := Az H
           clear H
           have hnb94 := NB122_101.out
           have hnc94 := NB101_122.out
           have hnb95 := NB122_125.out
           have hnc95 := NB125_122.out
           have hcz96_0 : w64.cell? ⟨gb122, 0, none⟩ = some (.slice Ao36 t106.length co36) := (blk_cell BK122.out 0).trans rfl
           have hcz96_1 : w64.cell? ⟨gb122, 1, none⟩ = some (u123001) := (blk_cell BK122.out 1).trans rfl
           have hcz96_2 : w64.cell? ⟨gb122, 2, none⟩ = some (.int .i64 t112) := (blk_cell BK122.out 2).trans rfl
           have hcz96_3 : w64.cell? ⟨gb122, 3, none⟩ = some (.int .i64 t113) := (blk_cell BK122.out 3).trans rfl
           have hcz96_4 : w64.cell? ⟨gb122, 4, none⟩ = some (.int .i64 t114) := (blk_cell BK122.out 4).trans rfl
           have hcz96_5 : w64.cell? ⟨gb122, 5, none⟩ = some (.int .u8 t115) := (blk_cell BK122.out 5).trans rfl
           have hcz96_6 : w64.cell? ⟨gb122, 6, none⟩ = some (.int .i64 t116) := (blk_cell BK122.out 6).trans rfl
           have hcz96_7 : w64.cell? ⟨gb122, 7, none⟩ = some (.slice Ao40 t117.length co40) := (blk_cell BK122.out 7).trans rfl
           have hcz96_8 : w64.cell? ⟨gb122, 8, none⟩ = some (.bool t120) := (blk_cell BK122.out 8).trans rfl
           have hcz96_9 : w64.cell? ⟨gb122, 9, none⟩ = some (.bool t121) := (blk_cell BK122.out 9).trans rfl
           have hfz96_0 := blk_frozen BK122.out 0
           have hfz96_1 := blk_frozen BK122.out 1
           have hfz96_2 := blk_frozen BK122.out 2
           have hfz96_3 := blk_frozen BK122.out 3
           have hfz96_4 := blk_frozen BK122.out 4
           have hfz96_5 := blk_frozen BK122.out 5
           have hfz96_6 := blk_frozen BK122.out 6
           have hfz96_7 := blk_frozen BK122.out 7
           have hfz96_8 := blk_frozen BK122.out 8
           have hfz96_9 := blk_frozen BK122.out 9
           obtain ⟨Ao97, co97, eo97⟩ := Kd.R_slice HO_123001.out
           subst eo97
           go_wp2_with (first | ((with_reducible refine gate_callee (f := 19) rfl ?_); refine goesL_ (some 71) rfl rfl Try.func19 (by kernel_rfl) rfl #[.agg #[.slice Ao36 t106.length co36, .slice Ao97 x123001_2.length co97, .int .i64 t112, .int .i64 t113, .int .i64 t114, .int .u8 t115, .int .i64 t116, .slice Ao40 t117.length co40, .bool t120, .bool t121], .int .i64 a1] rfl (by (try simp only [List.map_toArray, List.map_cons, List.map_nil]); first | done | rfl | (simp only [List.length_drop, List.length_take]; rfl)) ?_; (with_reducible refine (might_Attack.calls k2 _ _ t106 _ _ x123001_2 t112 t113 t114 t115 t116 _ _ t117 t120 t121 a1 t127 _ ?side1 ?side2 ?side3 ?side4 ?side5 ?side6 A65.out).mono ?_); (case side1 => repeat (first | exact (Kd.R_reads' HO_123000.out).2.2 | (with_reducible refine Kd.C_alloc ?_ _) | (with_reducible refine Kd.C_drewN ?_ _) | (with_reducible refine Kd.C_drew ?_))); (case side2 => exact (Kd.R_reads' HO_123000.out).2.1); (case side3 => repeat (first | exact (Kd.R_reads' HO_123001.out).2.2 | (with_reducible refine Kd.C_alloc ?_ _) | (with_reducible refine Kd.C_drewN ?_ _) | (with_reducible refine Kd.C_drew ?_))); (case side4 => exact (Kd.R_reads' HO_123001.out).2.1); (case side5 => repeat (first | exact (Kd.R_reads' HO_123007.out).2.2 | (with_reducible refine Kd.C_alloc ?_ _) | (with_reducible refine Kd.C_drewN ?_ _) | (with_reducible refine Kd.C_drew ?_))); (case side6 => exact (Kd.R_reads' HO_123007.out).2.1); rintro e w98 ⟨rfl, hb⟩; refine ⟨_, rfl, ?_⟩; have n0_ := Az (Kd.R_below (by (with_reducible repeat (first | apply Kd.R_alloc | apply Kd.R_drewN | apply Kd.R_drew)); exact HO_123000.out) hb); have n1_ := Az (Kd.R_below (by (with_reducible repeat (first | apply Kd.R_alloc | apply Kd.R_drewN | apply Kd.R_drew)); exact HO_123001.out) hb); have n2_ := Az (Kd.R_below (by (with_reducible repeat (first | apply Kd.R_alloc | apply Kd.R_drewN | apply Kd.R_drew)); exact HO_123007.out) hb); have n3_ := Az (blk_below (g := gb101) (o := .cells #[.slice A0_0 l0_0.length c0_0, .slice (some ad124) l0_1.length c0_1, .int .i64 a0_2, .int .i64 a0_3, .int .i64 a0_4, .int .u8 a0_5, .int .i64 a0_6, .slice A0_7 l0_7.length c0_7, .bool a0_8, .bool a0_9] 28 (0, 0)) (by (with_reducible repeat (first | refine blk_drewN ?_ _ | refine blk_drew ?_ | refine blk_alloc ?_ _)); exact BK101.out) hb); have n4_ := Az (blk_below (g := gb122) (o := .cells #[.slice Ao36 t106.length co36, .slice Ao97 x123001_2.length co97, .int .i64 t112, .int .i64 t113, .int .i64 t114, .int .u8 t115, .int .i64 t116, .slice Ao40 t117.length co40, .bool t120, .bool t121] 28 (0, 0)) (by (with_reducible repeat (first | refine blk_drewN ?_ _ | refine blk_drew ?_ | refine blk_alloc ?_ _)); exact BK122.out) hb); have n5_ := Az (blk_below (g := gb125) (o := .cells #[.int .i64 ((rd_T35 l0_1 a1).f0), .int .i64 ((rd_T35 l0_1 a1).f1), .int .i64 ((rd_T35 l0_1 a1).f2), .int .u8 ((rd_T35 l0_1 a1).f3), .int .u8 ((rd_T35 l0_1 a1).f4), .int .u8 ((rd_T35 l0_1 a1).f5), .int .i64 ((rd_T35 l0_1 a1).f6), .bool ((rd_T35 l0_1 a1).f7), .bool ((rd_T35 l0_1 a1).f8), .int .i64 ((rd_T35 l0_1 a1).f9), .int .u8 ((rd_T35 l0_1 a1).f10), .bool ((rd_T35 l0_1 a1).f11), .bool ((rd_T35 l0_1 a1).f12), .int .i64 ((rd_T35 l0_1 a1).f13)] 35 (0, 0)) (by (with_reducible repeat (first | refine blk_drewN ?_ _ | refine blk_drew ?_ | refine blk_alloc ?_ _)); exact BK125.out) hb); have n6_ := Az (below_step (low HB) hb); clear HO_123000; clear HO_123001; clear HO_123007; clear BK101; clear BK122; clear BK125; clear HB; have HO_123000 := n0_; have HO_123001 := n1_; have HO_123007 := n2_; have BK101 := n3_; have BK122 := n4_; have BK125 := n5_; have HB := n6_; clear n0_ n1_ n2_ n3_ n4_ n5_ n6_; (try clear hb); (try clear hb2); (try clear hk); (try clear hi)))
           go_meet
           case rel => exact ⟨_, (true), (by first | rfl | (simp; done) | (simp [*]; done)), H', ⟨by have := HJ3.out; have := HK2.out; first | omega | exact Nat.le_refl _⟩, ⟨by (with_reducible repeat (first | apply Kd.R_alloc | apply Kd.R_drewN | apply Kd.R_drew)); exact HO_123000.out⟩, ⟨by (with_reducible repeat (first | apply Kd.R_alloc | apply Kd.R_drewN | apply Kd.R_drew)); exact Kd.R_mono HO_123001.out (fun _ hk => hk.2)⟩, ⟨by (with_reducible repeat (first | apply Kd.R_alloc | apply Kd.R_drewN | apply Kd.R_drew)); exact HO_123007.out⟩, ⟨by (with_reducible repeat (first | refine blk_drewN ?_ _ | refine blk_drew ?_ | refine blk_alloc ?_ _)); exact BK101.out⟩, ⟨by (with_reducible repeat (first | refine blk_drewN ?_ _ | refine blk_drew ?_ | refine blk_alloc ?_ _)); exact BK122.out⟩, ⟨by (with_reducible repeat (first | refine blk_drewN ?_ _ | refine blk_drew ?_ | refine blk_alloc ?_ _)); exact BK125.out⟩, ⟨low HB⟩⟩
         case rest =>
          clear HC56
          try clear c1
          try clear p1
          try clear q1
          try clear hx1
          try clear c2
          try clear p2
          try clear c3
          try clear c4
          try clear p4
          try clear q4
          try clear hx4
          try clear hf4
          try clear c5
          try clear c6
          try clear p6
          try clear c7
          try clear c8
          try clear c9
          try clear c11
          try clear c12
          try clear c12b0
          try clear p12
          try clear q12
          try clear hx12
          try clear c15
          try clear c19
          try clear c20
          try clear c26
          try clear c28
          try clear c28b0
          try clear c28b1
          try clear c37
          try clear c41
          try clear c41b0
          try clear c42
          try clear c42b0
          try clear c43
          try clear c43b0
          try clear c44
          try clear p44
          try clear q44
          try clear hx44
          try clear hf44
          try clear c45
          try clear c47
          try clear hx47
          try clear hf47
          try clear c49
          try clear c49b0
          try clear c50
          try clear c50b0
          try clear c57
          try clear c60
          try clear c61
          try clear p64
          try clear c66
          try clear c66b0
          try clear c66b1
          try clear c67
          try clear c67b0
          try clear c68
          try clear c69
          try clear c73
          try clear c73b0
          try clear c74
          try clear c75
          try clear c79
          try clear c79b0
          try clear c79b1
          try clear c80
          try clear c81
          try clear c85
          try clear c87
          try clear c88
          try clear c92
          try clear c94
          try clear c95
          try clear hcz13_0
          try clear hcz13_1
          try clear hcz13_2
          try clear hcz13_3
          try clear hcz13_4
          try clear hcz13_5
          try clear hcz13_6
          try clear hcz13_7
          try clear hcz13_8
          try clear hcz13_9
          try clear hcz15_0
          try clear hcz15_1
          try clear hcz15_2
          try clear hcz15_3
          try clear hcz15_4
          try clear hcz15_5
          try clear hcz15_6
          try clear hcz15_7
          try clear hcz15_8
          try clear hcz15_9
          try clear hcz17_0
          try clear hcz17_1
          try clear hcz17_2
          try clear hcz17_3
          try clear hcz17_4
          try clear hcz17_5
          try clear hcz17_6
          try clear hcz17_7
          try clear hcz17_8
          try clear hcz17_9
          try clear hcz19_0
          try clear hcz19_1
          try clear hcz19_2
          try clear hcz19_3
          try clear hcz19_4
          try clear hcz19_5
          try clear hcz19_6
          try clear hcz19_7
          try clear hcz19_8
          try clear hcz19_9
          try clear hcz21_0
          try clear hcz21_1
          try clear hcz21_2
          try clear hcz21_3
          try clear hcz21_4
          try clear hcz21_5
          try clear hcz21_6
          try clear hcz21_7
          try clear hcz21_8
          try clear hcz21_9
          try clear hcz22_0
          try clear hcz22_1
          try clear hcz22_2
          try clear hcz22_3
          try clear hcz22_4
          try clear hcz22_5
          try clear hcz22_6
          try clear hcz22_7
          try clear hcz22_8
          try clear hcz22_9
          try clear hcz24_0
          try clear hcz24_1
          try clear hcz24_2
          try clear hcz24_3
          try clear hcz24_4
          try clear hcz24_5
          try clear hcz24_6
          try clear hcz24_7
          try clear hcz24_8
          try clear hcz24_9
          try clear hcz33_0
          try clear hcz33_1
          try clear hcz33_2
          try clear hcz33_3
          try clear hcz33_4
          try clear hcz33_5
          try clear hcz33_6
          try clear hcz33_7
          try clear hcz33_8
          try clear hcz33_9
          try clear hcz38_0
          try clear hcz38_1
          try clear hcz38_2
          try clear hcz38_3
          try clear hcz38_4
          try clear hcz38_5
          try clear hcz38_6
          try clear hcz38_7
          try clear hcz38_8
          try clear hcz38_9
          try clear hcz46_0
          try clear hcz46_1
          try clear hcz46_2
          try clear hcz46_3
          try clear hcz46_4
          try clear hcz46_5
          try clear hcz46_6
          try clear hcz46_7
          try clear hcz46_8
          try clear hcz46_9
          try clear hcz58_0
          try clear hcz58_1
          try clear hcz58_2
          try clear hcz58_3
          try clear hcz58_4
          try clear hcz58_5
          try clear hcz58_6
          try clear hcz58_7
          try clear hcz58_8
          try clear hcz58_9
          try clear hcz62_0
          try clear hcz62_1
          try clear hcz62_10
          try clear hcz62_11
          try clear hcz62_12
          try clear hcz62_13
          try clear hcz62_2
          try clear hcz62_3
          try clear hcz62_4
          try clear hcz62_5
          try clear hcz62_6
          try clear hcz62_7
          try clear hcz62_8
          try clear hcz62_9
          try clear hcz63_0
          try clear hcz63_1
          try clear hcz63_2
          try clear hcz63_3
          try clear hcz63_4
          try clear hcz63_5
          try clear hcz63_6
          try clear hcz63_7
          try clear hcz63_8
          try clear hcz63_9
          try clear hcz70_0
          try clear hcz70_1
          try clear hcz70_2
          try clear hcz70_3
          try clear hcz70_4
          try clear hcz70_5
          try clear hcz70_6
          try clear hcz70_7
          try clear hcz70_8
          try clear hcz70_9
          try clear hcz76_0
          try clear hcz76_1
          try clear hcz76_2
          try clear hcz76_3
          try clear hcz76_4
          try clear hcz76_5
          try clear hcz76_6
          try clear hcz76_7
          try clear hcz76_8
          try clear hcz76_9
          try clear hcz82_0
          try clear hcz82_1
          try clear hcz82_2
          try clear hcz82_3
          try clear hcz82_4
          try clear hcz82_5
          try clear hcz82_6
          try clear hcz82_7
          try clear hcz82_8
          try clear hcz82_9
          try clear hcz86_0
          try clear hcz86_1
          try clear hcz86_10
          try clear hcz86_11
          try clear hcz86_12
          try clear hcz86_13
          try clear hcz86_2
          try clear hcz86_3
          try clear hcz86_4
          try clear hcz86_5
          try clear hcz86_6
          try clear hcz86_7
          try clear hcz86_8
          try clear hcz86_9
          try clear hcz89_0
          try clear hcz89_1
          try clear hcz89_2
          try clear hcz89_3
          try clear hcz89_4
          try clear hcz89_5
          try clear hcz89_6
          try clear hcz89_7
          try clear hcz89_8
          try clear hcz89_9
          try clear hcz8_0
          try clear hcz8_1
          try clear hcz8_2
          try clear hcz8_3
          try clear hcz8_4
          try clear hcz8_5
          try clear hcz8_6
          try clear hcz8_7
          try clear hcz8_8
          try clear hcz8_9
          try clear hcz93_0
          try clear hcz93_1
          try clear hcz93_10
          try clear hcz93_11
          try clear hcz93_12
          try clear hcz93_13
          try clear hcz93_2
          try clear hcz93_3
          try clear hcz93_4
          try clear hcz93_5
          try clear hcz93_6
          try clear hcz93_7
          try clear hcz93_8
          try clear hcz93_9
          try clear hcz96_0
          try clear hcz96_1
          try clear hcz96_2
          try clear hcz96_3
          try clear hcz96_4
          try clear hcz96_5
          try clear hcz96_6
          try clear hcz96_7
          try clear hcz96_8
          try clear hcz96_9
          try clear hfz13_0
          try clear hfz13_1
          try clear hfz13_2
          try clear hfz13_3
          try clear hfz13_4
          try clear hfz13_5
          try clear hfz13_6
          try clear hfz13_7
          try clear hfz13_8
          try clear hfz13_9
          try clear hfz15_0
          try clear hfz15_1
          try clear hfz15_2
          try clear hfz15_3
          try clear hfz15_4
          try clear hfz15_5
          try clear hfz15_6
          try clear hfz15_7
          try clear hfz15_8
          try clear hfz15_9
          try clear hfz17_0
          try clear hfz17_1
          try clear hfz17_2
          try clear hfz17_3
          try clear hfz17_4
          try clear hfz17_5
          try clear hfz17_6
          try clear hfz17_7
          try clear hfz17_8
          try clear hfz17_9
          try clear hfz19_0
          try clear hfz19_1
          try clear hfz19_2
          try clear hfz19_3
          try clear hfz19_4
          try clear hfz19_5
          try clear hfz19_6
          try clear hfz19_7
          try clear hfz19_8
          try clear hfz19_9
          try clear hfz21_0
          try clear hfz21_1
          try clear hfz21_2
          try clear hfz21_3
          try clear hfz21_4
          try clear hfz21_5
          try clear hfz21_6
          try clear hfz21_7
          try clear hfz21_8
          try clear hfz21_9
          try clear hfz22_0
          try clear hfz22_1
          try clear hfz22_2
          try clear hfz22_3
          try clear hfz22_4
          try clear hfz22_5
          try clear hfz22_6
          try clear hfz22_7
          try clear hfz22_8
          try clear hfz22_9
          try clear hfz24_0
          try clear hfz24_1
          try clear hfz24_2
          try clear hfz24_3
          try clear hfz24_4
          try clear hfz24_5
          try clear hfz24_6
          try clear hfz24_7
          try clear hfz24_8
          try clear hfz24_9
          try clear hfz33_0
          try clear hfz33_1
          try clear hfz33_2
          try clear hfz33_3
          try clear hfz33_4
          try clear hfz33_5
          try clear hfz33_6
          try clear hfz33_7
          try clear hfz33_8
          try clear hfz33_9
          try clear hfz38_0
          try clear hfz38_1
          try clear hfz38_2
          try clear hfz38_3
          try clear hfz38_4
          try clear hfz38_5
          try clear hfz38_6
          try clear hfz38_7
          try clear hfz38_8
          try clear hfz38_9
          try clear hfz46_0
          try clear hfz46_1
          try clear hfz46_2
          try clear hfz46_3
          try clear hfz46_4
          try clear hfz46_5
          try clear hfz46_6
          try clear hfz46_7
          try clear hfz46_8
          try clear hfz46_9
          try clear hfz58_0
          try clear hfz58_1
          try clear hfz58_2
          try clear hfz58_3
          try clear hfz58_4
          try clear hfz58_5
          try clear hfz58_6
          try clear hfz58_7
          try clear hfz58_8
          try clear hfz58_9
          try clear hfz62_0
          try clear hfz62_1
          try clear hfz62_10
          try clear hfz62_11
          try clear hfz62_12
          try clear hfz62_13
          try clear hfz62_2
          try clear hfz62_3
          try clear hfz62_4
          try clear hfz62_5
          try clear hfz62_6
          try clear hfz62_7
          try clear hfz62_8
          try clear hfz62_9
          try clear hfz63_0
          try clear hfz63_1
          try clear hfz63_2
          try clear hfz63_3
          try clear hfz63_4
          try clear hfz63_5
          try clear hfz63_6
          try clear hfz63_7
          try clear hfz63_8
          try clear hfz63_9
          try clear hfz70_0
          try clear hfz70_1
          try clear hfz70_2
          try clear hfz70_3
          try clear hfz70_4
          try clear hfz70_5
          try clear hfz70_6
          try clear hfz70_7
          try clear hfz70_8
          try clear hfz70_9
          try clear hfz76_0
          try clear hfz76_1
          try clear hfz76_2
          try clear hfz76_3
          try clear hfz76_4
          try clear hfz76_5
          try clear hfz76_6
          try clear hfz76_7
          try clear hfz76_8
          try clear hfz76_9
          try clear hfz82_0
          try clear hfz82_1
          try clear hfz82_2
          try clear hfz82_3
          try clear hfz82_4
          try clear hfz82_5
          try clear hfz82_6
          try clear hfz82_7
          try clear hfz82_8
          try clear hfz82_9
          try clear hfz86_0
          try clear hfz86_1
          try clear hfz86_10
          try clear hfz86_11
          try clear hfz86_12
          try clear hfz86_13
          try clear hfz86_2
          try clear hfz86_3
          try clear hfz86_4
          try clear hfz86_5
          try clear hfz86_6
          try clear hfz86_7
          try clear hfz86_8
          try clear hfz86_9
          try clear hfz89_0
          try clear hfz89_1
          try clear hfz89_2
          try clear hfz89_3
          try clear hfz89_4
          try clear hfz89_5
          try clear hfz89_6
          try clear hfz89_7
          try clear hfz89_8
          try clear hfz89_9
          try clear hfz8_0
          try clear hfz8_1
          try clear hfz8_2
          try clear hfz8_3
          try clear hfz8_4
          try clear hfz8_5
          try clear hfz8_6
          try clear hfz8_7
          try clear hfz8_8
          try clear hfz8_9
          try clear hfz93_0
          try clear hfz93_1
          try clear hfz93_10
          try clear hfz93_11
          try clear hfz93_12
          try clear hfz93_13
          try clear hfz93_2
          try clear hfz93_3
          try clear hfz93_4
          try clear hfz93_5
          try clear hfz93_6
          try clear hfz93_7
          try clear hfz93_8
          try clear hfz93_9
          try clear hfz96_0
          try clear hfz96_1
          try clear hfz96_2
          try clear hfz96_3
          try clear hfz96_4
          try clear hfz96_5
          try clear hfz96_6
          try clear hfz96_7
          try clear hfz96_8
          try clear hfz96_9
          try clear hx124_0
          try clear hx124_1
          try clear hx124_10
          try clear hx124_11
          try clear hx124_12
          try clear hx124_13
          try clear hx124_2
          try clear hx124_3
          try clear hx124_4
          try clear hx124_5
          try clear hx124_6
          try clear hx124_7
          try clear hx124_8
          try clear hx124_9
          try clear hx44_0
          try clear hx44_1
          try clear hx44_10
          try clear hx44_11
          try clear hx44_12
          try clear hx44_13
          try clear hx44_2
          try clear hx44_3
          try clear hx44_4
          try clear hx44_5
          try clear hx44_6
          try clear hx44_7
          try clear hx44_8
          try clear hx44_9
          try clear hx47_7
          try clear p124
          try clear p2
          try clear p44
          try clear q124
          try clear q44
          obtain ⟨kq, x92_55, rfl, HA, HJ55, HO_123000, HO_123001, HO_123007, BK101, BK122, BK125, HB⟩ := hcut
          cases kq with
          | zero => exact absurd HA.out (by simp [joustlaw07_MightAuras.j2])
          | succ kj55 =>
           have H := HA.out
           clear HA
           simp only [joustlaw07_MightAuras.j2] at H
           by_cases c99 : x92_55 = true
           ·
            subst c99
            have H1 : (none) = some r := by rw [if_pos rfl] at H; exact H
            clear H
            have H := H1
            clear H1
            exact absurd H (by simp)
           ·
            replace c99 := Bool.eq_false_iff.mpr c99
            subst c99
            have H1 : (if a2 < 0 then (joustlaw07_MightAuras.j3 kj55 a1 a2 t126 true l0_0 l0_1 a0_2 a0_3 a0_4 a0_5 a0_6 l0_7 a0_8 a0_9) else (joustlaw07_MightAuras.j3 kj55 a1 a2 t126 (decide (a2 ≥ (l0_1.length : Int))) l0_0 l0_1 a0_2 a0_3 a0_4 a0_5 a0_6 l0_7 a0_8 a0_9)) = some r := by rw [if_neg (show ¬ (false = true) by decide)] at H; exact H
            clear H
            have H := H1
            clear H1
            have HC100 := Az H
            clear H
            go_upto_region 14 with (fail)
            go_cut [101] (fun v101 wc => ∃ (kq : Nat) (x101_99 : Bool), v101 = .bool x101_99 ∧ Aside0 (joustlaw07_MightAuras.j3 kq a1 a2 t126 x101_99 l0_0 l0_1 a0_2 a0_3 a0_4 a0_5 a0_6 l0_7 a0_8 a0_9 = some r) ∧ Aside0 (kq ≤ kj55) ∧ Aside0 (Kd.R k97 97 wc w.heap.size (fun _ => True) (.slice Ao36 t106.length co36) t106) ∧ Aside0 (Kd.R k35 35 wc w.heap.size (fun k_ => k_ ≠ gb125) u123001 x123001_2) ∧ Aside0 (Kd.R k58 58 wc w.heap.size (fun _ => True) (.slice Ao40 t117.length co40) t117) ∧ Aside0 (wc.heap[gb101]? = some (.cells #[(.slice A0_0 l0_0.length c0_0), (.slice (some ad124) l0_1.length c0_1), .int .i64 a0_2, .int .i64 a0_3, .int .i64 a0_4, .int .u8 a0_5, .int .i64 a0_6, (.slice A0_7 l0_7.length c0_7), .bool a0_8, .bool a0_9] 28 (0, 0))) ∧ Aside0 (wc.heap[gb122]? = some (.cells #[(.slice Ao36 t106.length co36), u123001, .int .i64 t112, .int .i64 t113, .int .i64 t114, .int .u8 t115, .int .i64 t116, (.slice Ao40 t117.length co40), .bool t120, .bool t121] 28 (0, 0))) ∧ Aside0 (wc.heap[gb125]? = some (.cells #[.int .i64 ((rd_T35 l0_1 a1).f0), .int .i64 ((rd_T35 l0_1 a1).f1), .int .i64 ((rd_T35 l0_1 a1).f2), .int .u8 ((rd_T35 l0_1 a1).f3), .int .u8 ((rd_T35 l0_1 a1).f4), .int .u8 ((rd_T35 l0_1 a1).f5), .int .i64 ((rd_T35 l0_1 a1).f6), .bool ((rd_T35 l0_1 a1).f7), .bool ((rd_T35 l0_1 a1).f8), .int .i64 ((rd_T35 l0_1 a1).f9), .int .u8 ((rd_T35 l0_1 a1).f10), .bool ((rd_T35 l0_1 a1).f11), .bool ((rd_T35 l0_1 a1).f12), .int .i64 ((rd_T35 l0_1 a1).f13)] 35 (0, 0))) ∧ Aside0 (Below w.heap.size w wc))
            case first =>
             have H := HC100.out
             clear HC100
             by_cases c101 : a2 < 0
             ·
              rw [if_pos c101] at H
              have c101b0 : decide (a2 < 0) = true := decide_eq_true c101
              clear c101
              (first | rw [c101b0] | (simp only [i64_w, i32_w]; rw [c101b0]) | skip)
              have H' := Az H
              clear H
              go_wp2
              go_meet
              case rel => exact ⟨_, (true), (by first | rfl | (simp; done) | (simp [*]; done)), H', ⟨by have := HJ3.out; have := HK2.out; have := HJ55.out; first | omega | exact Nat.le_refl _⟩, ⟨by (with_reducible repeat (first | apply Kd.R_alloc | apply Kd.R_drewN | apply Kd.R_drew)); exact HO_123000.out⟩, ⟨by (with_reducible repeat (first | apply Kd.R_alloc | apply Kd.R_drewN | apply Kd.R_drew)); exact HO_123001.out⟩, ⟨by (with_reducible repeat (first | apply Kd.R_alloc | apply Kd.R_drewN | apply Kd.R_drew)); exact HO_123007.out⟩, ⟨by (with_reducible repeat (first | refine blk_drewN ?_ _ | refine blk_drew ?_ | refine blk_alloc ?_ _)); exact BK101.out⟩, ⟨by (with_reducible repeat (first | refine blk_drewN ?_ _ | refine blk_drew ?_ | refine blk_alloc ?_ _)); exact BK122.out⟩, ⟨by (with_reducible repeat (first | refine blk_drewN ?_ _ | refine blk_drew ?_ | refine blk_alloc ?_ _)); exact BK125.out⟩, ⟨low HB⟩⟩
             ·
              rw [if_neg c101] at H
              have c101b0 : decide (a2 < 0) = false := decide_eq_false c101
              clear c101
              (first | rw [c101b0] | (simp only [i64_w, i32_w]; rw [c101b0]) | skip)
              have H' := Az H
              clear H
              have hnb102 := NB101_122.out
              have hnc102 := NB122_101.out
              have hnb103 := NB101_125.out
              have hnc103 := NB125_101.out
              have hcz104_0 : wc.cell? ⟨gb101, 0, none⟩ = some (.slice A0_0 l0_0.length c0_0) := (blk_cell BK101.out 0).trans rfl
              have hcz104_1 : wc.cell? ⟨gb101, 1, none⟩ = some (.slice (some ad124) l0_1.length c0_1) := (blk_cell BK101.out 1).trans rfl
              have hcz104_2 : wc.cell? ⟨gb101, 2, none⟩ = some (.int .i64 a0_2) := (blk_cell BK101.out 2).trans rfl
              have hcz104_3 : wc.cell? ⟨gb101, 3, none⟩ = some (.int .i64 a0_3) := (blk_cell BK101.out 3).trans rfl
              have hcz104_4 : wc.cell? ⟨gb101, 4, none⟩ = some (.int .i64 a0_4) := (blk_cell BK101.out 4).trans rfl
              have hcz104_5 : wc.cell? ⟨gb101, 5, none⟩ = some (.int .u8 a0_5) := (blk_cell BK101.out 5).trans rfl
              have hcz104_6 : wc.cell? ⟨gb101, 6, none⟩ = some (.int .i64 a0_6) := (blk_cell BK101.out 6).trans rfl
              have hcz104_7 : wc.cell? ⟨gb101, 7, none⟩ = some (.slice A0_7 l0_7.length c0_7) := (blk_cell BK101.out 7).trans rfl
              have hcz104_8 : wc.cell? ⟨gb101, 8, none⟩ = some (.bool a0_8) := (blk_cell BK101.out 8).trans rfl
              have hcz104_9 : wc.cell? ⟨gb101, 9, none⟩ = some (.bool a0_9) := (blk_cell BK101.out 9).trans rfl
              have hfz104_0 := blk_frozen BK101.out 0
              have hfz104_1 := blk_frozen BK101.out 1
              have hfz104_2 := blk_frozen BK101.out 2
              have hfz104_3 := blk_frozen BK101.out 3
              have hfz104_4 := blk_frozen BK101.out 4
              have hfz104_5 := blk_frozen BK101.out 5
              have hfz104_6 := blk_frozen BK101.out 6
              have hfz104_7 := blk_frozen BK101.out 7
              have hfz104_8 := blk_frozen BK101.out 8
              have hfz104_9 := blk_frozen BK101.out 9
              go_wp2
              go_meet
              case rel => exact ⟨_, (decide (a2 ≥ (l0_1.length : Int))), (by first | rfl | (simp; done) | (simp [*]; done)), H', ⟨by have := HJ3.out; have := HK2.out; have := HJ55.out; first | omega | exact Nat.le_refl _⟩, ⟨by (with_reducible repeat (first | apply Kd.R_alloc | apply Kd.R_drewN | apply Kd.R_drew)); exact HO_123000.out⟩, ⟨by (with_reducible repeat (first | apply Kd.R_alloc | apply Kd.R_drewN | apply Kd.R_drew)); exact HO_123001.out⟩, ⟨by (with_reducible repeat (first | apply Kd.R_alloc | apply Kd.R_drewN | apply Kd.R_drew)); exact HO_123007.out⟩, ⟨by (with_reducible repeat (first | refine blk_drewN ?_ _ | refine blk_drew ?_ | refine blk_alloc ?_ _)); exact BK101.out⟩, ⟨by (with_reducible repeat (first | refine blk_drewN ?_ _ | refine blk_drew ?_ | refine blk_alloc ?_ _)); exact BK122.out⟩, ⟨by (with_reducible repeat (first | refine blk_drewN ?_ _ | refine blk_drew ?_ | refine blk_alloc ?_ _)); exact BK125.out⟩, ⟨low HB⟩⟩
            case rest =>
             clear HC100
             try clear c1
             try clear p1
             try clear q1
             try clear hx1
             try clear c2
             try clear p2
             try clear c3
             try clear c4
             try clear p4
             try clear q4
             try clear hx4
             try clear hf4
             try clear c5
             try clear c6
             try clear p6
             try clear c7
             try clear c8
             try clear c9
             try clear c10
             try clear p12
             try clear q12
             try clear hx12
             try clear c26
             try clear c28
             try clear c28b0
             try clear c28b1
             try clear c37
             try clear c41
             try clear c41b0
             try clear c42
             try clear c42b0
             try clear c43
             try clear c43b0
             try clear c44
             try clear p44
             try clear q44
             try clear hx44
             try clear hf44
             try clear c45
             try clear c47
             try clear hx47
             try clear hf47
             try clear c49
             try clear c49b0
             try clear c50
             try clear c50b0
             try clear c57
             try clear c60
             try clear c61
             try clear p64
             try clear c66
             try clear c66b0
             try clear c66b1
             try clear c67
             try clear c67b0
             try clear c68
             try clear c69
             try clear c73
             try clear c73b0
             try clear c74
             try clear c75
             try clear c79
             try clear c79b0
             try clear c79b1
             try clear c80
             try clear c81
             try clear c85
             try clear c87
             try clear c88
             try clear c92
             try clear c94
             try clear c95
             try clear c99
             try clear c101
             try clear c101b0
             try clear c102
             try clear c103
             try clear hcz104_0
             try clear hcz104_1
             try clear hcz104_2
             try clear hcz104_3
             try clear hcz104_4
             try clear hcz104_5
             try clear hcz104_6
             try clear hcz104_7
             try clear hcz104_8
             try clear hcz104_9
             try clear hcz13_0
             try clear hcz13_1
             try clear hcz13_2
             try clear hcz13_3
             try clear hcz13_4
             try clear hcz13_5
             try clear hcz13_6
             try clear hcz13_7
             try clear hcz13_8
             try clear hcz13_9
             try clear hcz15_0
             try clear hcz15_1
             try clear hcz15_2
             try clear hcz15_3
             try clear hcz15_4
             try clear hcz15_5
             try clear hcz15_6
             try clear hcz15_7
             try clear hcz15_8
             try clear hcz15_9
             try clear hcz17_0
             try clear hcz17_1
             try clear hcz17_2
             try clear hcz17_3
             try clear hcz17_4
             try clear hcz17_5
             try clear hcz17_6
             try clear hcz17_7
             try clear hcz17_8
             try clear hcz17_9
             try clear hcz19_0
             try clear hcz19_1
             try clear hcz19_2
             try clear hcz19_3
             try clear hcz19_4
             try clear hcz19_5
             try clear hcz19_6
             try clear hcz19_7
             try clear hcz19_8
             try clear hcz19_9
             try clear hcz21_0
             try clear hcz21_1
             try clear hcz21_2
             try clear hcz21_3
             try clear hcz21_4
             try clear hcz21_5
             try clear hcz21_6
             try clear hcz21_7
             try clear hcz21_8
             try clear hcz21_9
             try clear hcz22_0
             try clear hcz22_1
             try clear hcz22_2
             try clear hcz22_3
             try clear hcz22_4
             try clear hcz22_5
             try clear hcz22_6
             try clear hcz22_7
             try clear hcz22_8
             try clear hcz22_9
             try clear hcz24_0
             try clear hcz24_1
             try clear hcz24_2
             try clear hcz24_3
             try clear hcz24_4
             try clear hcz24_5
             try clear hcz24_6
             try clear hcz24_7
             try clear hcz24_8
             try clear hcz24_9
             try clear hcz33_0
             try clear hcz33_1
             try clear hcz33_2
             try clear hcz33_3
             try clear hcz33_4
             try clear hcz33_5
             try clear hcz33_6
             try clear hcz33_7
             try clear hcz33_8
             try clear hcz33_9
             try clear hcz38_0
             try clear hcz38_1
             try clear hcz38_2
             try clear hcz38_3
             try clear hcz38_4
             try clear hcz38_5
             try clear hcz38_6
             try clear hcz38_7
             try clear hcz38_8
             try clear hcz38_9
             try clear hcz46_0
             try clear hcz46_1
             try clear hcz46_2
             try clear hcz46_3
             try clear hcz46_4
             try clear hcz46_5
             try clear hcz46_6
             try clear hcz46_7
             try clear hcz46_8
             try clear hcz46_9
             try clear hcz58_0
             try clear hcz58_1
             try clear hcz58_2
             try clear hcz58_3
             try clear hcz58_4
             try clear hcz58_5
             try clear hcz58_6
             try clear hcz58_7
             try clear hcz58_8
             try clear hcz58_9
             try clear hcz62_0
             try clear hcz62_1
             try clear hcz62_10
             try clear hcz62_11
             try clear hcz62_12
             try clear hcz62_13
             try clear hcz62_2
             try clear hcz62_3
             try clear hcz62_4
             try clear hcz62_5
             try clear hcz62_6
             try clear hcz62_7
             try clear hcz62_8
             try clear hcz62_9
             try clear hcz63_0
             try clear hcz63_1
             try clear hcz63_2
             try clear hcz63_3
             try clear hcz63_4
             try clear hcz63_5
             try clear hcz63_6
             try clear hcz63_7
             try clear hcz63_8
             try clear hcz63_9
             try clear hcz70_0
             try clear hcz70_1
             try clear hcz70_2
             try clear hcz70_3
             try clear hcz70_4
             try clear hcz70_5
             try clear hcz70_6
             try clear hcz70_7
             try clear hcz70_8
             try clear hcz70_9
             try clear hcz76_0
             try clear hcz76_1
             try clear hcz76_2
             try clear hcz76_3
             try clear hcz76_4
             try clear hcz76_5
             try clear hcz76_6
             try clear hcz76_7
             try clear hcz76_8
             try clear hcz76_9
             try clear hcz82_0
             try clear hcz82_1
             try clear hcz82_2
             try clear hcz82_3
             try clear hcz82_4
             try clear hcz82_5
             try clear hcz82_6
             try clear hcz82_7
             try clear hcz82_8
             try clear hcz82_9
             try clear hcz86_0
             try clear hcz86_1
             try clear hcz86_10
             try clear hcz86_11
             try clear hcz86_12
             try clear hcz86_13
             try clear hcz86_2
             try clear hcz86_3
             try clear hcz86_4
             try clear hcz86_5
             try clear hcz86_6
             try clear hcz86_7
             try clear hcz86_8
             try clear hcz86_9
             try clear hcz89_0
             try clear hcz89_1
             try clear hcz89_2
             try clear hcz89_3
             try clear hcz89_4
             try clear hcz89_5
             try clear hcz89_6
             try clear hcz89_7
             try clear hcz89_8
             try clear hcz89_9
             try clear hcz8_0
             try clear hcz8_1
             try clear hcz8_2
             try clear hcz8_3
             try clear hcz8_4
             try clear hcz8_5
             try clear hcz8_6
             try clear hcz8_7
             try clear hcz8_8
             try clear hcz8_9
             try clear hcz93_0
             try clear hcz93_1
             try clear hcz93_10
             try clear hcz93_11
             try clear hcz93_12
             try clear hcz93_13
             try clear hcz93_2
             try clear hcz93_3
             try clear hcz93_4
             try clear hcz93_5
             try clear hcz93_6
             try clear hcz93_7
             try clear hcz93_8
             try clear hcz93_9
             try clear hcz96_0
             try clear hcz96_1
             try clear hcz96_2
             try clear hcz96_3
             try clear hcz96_4
             try clear hcz96_5
             try clear hcz96_6
             try clear hcz96_7
             try clear hcz96_8
             try clear hcz96_9
             try clear hfz104_0
             try clear hfz104_1
             try clear hfz104_2
             try clear hfz104_3
             try clear hfz104_4
             try clear hfz104_5
             try clear hfz104_6
             try clear hfz104_7
             try clear hfz104_8
             try clear hfz104_9
             try clear hfz13_0
             try clear hfz13_1
             try clear hfz13_2
             try clear hfz13_3
             try clear hfz13_4
             try clear hfz13_5
             try clear hfz13_6
             try clear hfz13_7
             try clear hfz13_8
             try clear hfz13_9
             try clear hfz15_0
             try clear hfz15_1
             try clear hfz15_2
             try clear hfz15_3
             try clear hfz15_4
             try clear hfz15_5
             try clear hfz15_6
             try clear hfz15_7
             try clear hfz15_8
             try clear hfz15_9
             try clear hfz17_0
             try clear hfz17_1
             try clear hfz17_2
             try clear hfz17_3
             try clear hfz17_4
             try clear hfz17_5
             try clear hfz17_6
             try clear hfz17_7
             try clear hfz17_8
             try clear hfz17_9
             try clear hfz19_0
             try clear hfz19_1
             try clear hfz19_2
             try clear hfz19_3
             try clear hfz19_4
             try clear hfz19_5
             try clear hfz19_6
             try clear hfz19_7
             try clear hfz19_8
             try clear hfz19_9
             try clear hfz21_0
             try clear hfz21_1
             try clear hfz21_2
             try clear hfz21_3
             try clear hfz21_4
             try clear hfz21_5
             try clear hfz21_6
             try clear hfz21_7
             try clear hfz21_8
             try clear hfz21_9
             try clear hfz22_0
             try clear hfz22_1
             try clear hfz22_2
             try clear hfz22_3
             try clear hfz22_4
             try clear hfz22_5
             try clear hfz22_6
             try clear hfz22_7
             try clear hfz22_8
             try clear hfz22_9
             try clear hfz24_0
             try clear hfz24_1
             try clear hfz24_2
             try clear hfz24_3
             try clear hfz24_4
             try clear hfz24_5
             try clear hfz24_6
             try clear hfz24_7
             try clear hfz24_8
             try clear hfz24_9
             try clear hfz33_0
             try clear hfz33_1
             try clear hfz33_2
             try clear hfz33_3
             try clear hfz33_4
             try clear hfz33_5
             try clear hfz33_6
             try clear hfz33_7
             try clear hfz33_8
             try clear hfz33_9
             try clear hfz38_0
             try clear hfz38_1
             try clear hfz38_2
             try clear hfz38_3
             try clear hfz38_4
             try clear hfz38_5
             try clear hfz38_6
             try clear hfz38_7
             try clear hfz38_8
             try clear hfz38_9
             try clear hfz46_0
             try clear hfz46_1
             try clear hfz46_2
             try clear hfz46_3
             try clear hfz46_4
             try clear hfz46_5
             try clear hfz46_6
             try clear hfz46_7
             try clear hfz46_8
             try clear hfz46_9
             try clear hfz58_0
             try clear hfz58_1
             try clear hfz58_2
             try clear hfz58_3
             try clear hfz58_4
             try clear hfz58_5
             try clear hfz58_6
             try clear hfz58_7
             try clear hfz58_8
             try clear hfz58_9
             try clear hfz62_0
             try clear hfz62_1
             try clear hfz62_10
             try clear hfz62_11
             try clear hfz62_12
             try clear hfz62_13
             try clear hfz62_2
             try clear hfz62_3
             try clear hfz62_4
             try clear hfz62_5
             try clear hfz62_6
             try clear hfz62_7
             try clear hfz62_8
             try clear hfz62_9
             try clear hfz63_0
             try clear hfz63_1
             try clear hfz63_2
             try clear hfz63_3
             try clear hfz63_4
             try clear hfz63_5
             try clear hfz63_6
             try clear hfz63_7
             try clear hfz63_8
             try clear hfz63_9
             try clear hfz70_0
             try clear hfz70_1
             try clear hfz70_2
             try clear hfz70_3
             try clear hfz70_4
             try clear hfz70_5
             try clear hfz70_6
             try clear hfz70_7
             try clear hfz70_8
             try clear hfz70_9
             try clear hfz76_0
             try clear hfz76_1
             try clear hfz76_2
             try clear hfz76_3
             try clear hfz76_4
             try clear hfz76_5
             try clear hfz76_6
             try clear hfz76_7
             try clear hfz76_8
             try clear hfz76_9
             try clear hfz82_0
             try clear hfz82_1
             try clear hfz82_2
             try clear hfz82_3
             try clear hfz82_4
             try clear hfz82_5
             try clear hfz82_6
             try clear hfz82_7
             try clear hfz82_8
             try clear hfz82_9
             try clear hfz86_0
             try clear hfz86_1
             try clear hfz86_10
             try clear hfz86_11
             try clear hfz86_12
             try clear hfz86_13
             try clear hfz86_2
             try clear hfz86_3
             try clear hfz86_4
             try clear hfz86_5
             try clear hfz86_6
             try clear hfz86_7
             try clear hfz86_8
             try clear hfz86_9
             try clear hfz89_0
             try clear hfz89_1
             try clear hfz89_2
             try clear hfz89_3
             try clear hfz89_4
             try clear hfz89_5
             try clear hfz89_6
             try clear hfz89_7
             try clear hfz89_8
             try clear hfz89_9
             try clear hfz8_0
             try clear hfz8_1
             try clear hfz8_2
             try clear hfz8_3
             try clear hfz8_4
             try clear hfz8_5
             try clear hfz8_6
             try clear hfz8_7
             try clear hfz8_8
             try clear hfz8_9
             try clear hfz93_0
             try clear hfz93_1
             try clear hfz93_10
             try clear hfz93_11
             try clear hfz93_12
             try clear hfz93_13
             try clear hfz93_2
             try clear hfz93_3
             try clear hfz93_4
             try clear hfz93_5
             try clear hfz93_6
             try clear hfz93_7
             try clear hfz93_8
             try clear hfz93_9
             try clear hfz96_0
             try clear hfz96_1
             try clear hfz96_2
             try clear hfz96_3
             try clear hfz96_4
             try clear hfz96_5
             try clear hfz96_6
             try clear hfz96_7
             try clear hfz96_8
             try clear hfz96_9
             try clear hx124_0
             try clear hx124_1
             try clear hx124_10
             try clear hx124_11
             try clear hx124_12
             try clear hx124_13
             try clear hx124_2
             try clear hx124_3
             try clear hx124_4
             try clear hx124_5
             try clear hx124_6
             try clear hx124_7
             try clear hx124_8
             try clear hx124_9
             try clear hx44_0
             try clear hx44_1
             try clear hx44_10
             try clear hx44_11
             try clear hx44_12
             try clear hx44_13
             try clear hx44_2
             try clear hx44_3
             try clear hx44_4
             try clear hx44_5
             try clear hx44_6
             try clear hx44_7
             try clear hx44_8
             try clear hx44_9
             try clear hx47_7
             try clear p124
             try clear p2
             try clear p44
             try clear p64
             try clear q124
             try clear q44
             obtain ⟨kq, x101_99, rfl, HA, HJ99, HO_123000, HO_123001, HO_123007, BK101, BK122, BK125, HB⟩ := hcut
             cases kq with
             | zero => exact absurd HA.out (by simp [joustlaw07_MightAuras.j3])
             | succ kj99 =>
              have H := HA.out
              clear HA
              simp only [joustlaw07_MightAuras.j3] at H
              by_cases c105 : x101_99 = true
              ·
               subst c105
               have H1 : ((joustlaw07_lives.f).bind fun t128 => (some t128)) = some r := by rw [if_pos rfl] at H; exact H
               clear H
               have H := H1
               clear H1
               replace H := Option.bind_eq_some_iff.mp H
               obtain ⟨t128, A1060, H⟩ := H
               replace H : (some t128) = some r := H
               have A106 := Az A1060
               clear A1060
               obtain rfl := Option.some.inj H
               go_wp2_with (first | ((with_reducible refine gate_callee (f := 16) rfl ?_); refine goesL_ (some 102) rfl rfl Try.func16 (by kernel_rfl) rfl #[] rfl (by (try simp only [List.map_toArray, List.map_cons, List.map_nil]); first | done | rfl | (simp only [List.length_drop, List.length_take]; rfl)) ?_; (with_reducible refine (joustlaw07_lives.calls  t128 _ A106.out).mono ?_); rintro e w107 ⟨rfl, hb⟩; refine ⟨_, rfl, ?_⟩; have n0_ := Az (Kd.R_below (by (with_reducible repeat (first | apply Kd.R_alloc | apply Kd.R_drewN | apply Kd.R_drew)); exact HO_123000.out) hb); have n1_ := Az (Kd.R_below (by (with_reducible repeat (first | apply Kd.R_alloc | apply Kd.R_drewN | apply Kd.R_drew)); exact HO_123001.out) hb); have n2_ := Az (Kd.R_below (by (with_reducible repeat (first | apply Kd.R_alloc | apply Kd.R_drewN | apply Kd.R_drew)); exact HO_123007.out) hb); have n3_ := Az (blk_below (g := gb101) (o := .cells #[.slice A0_0 l0_0.length c0_0, .slice (some ad124) l0_1.length c0_1, .int .i64 a0_2, .int .i64 a0_3, .int .i64 a0_4, .int .u8 a0_5, .int .i64 a0_6, .slice A0_7 l0_7.length c0_7, .bool a0_8, .bool a0_9] 28 (0, 0)) (by (with_reducible repeat (first | refine blk_drewN ?_ _ | refine blk_drew ?_ | refine blk_alloc ?_ _)); exact BK101.out) hb); have n4_ := Az (blk_below (g := gb122) (o := .cells #[.slice Ao36 t106.length co36, u123001, .int .i64 t112, .int .i64 t113, .int .i64 t114, .int .u8 t115, .int .i64 t116, .slice Ao40 t117.length co40, .bool t120, .bool t121] 28 (0, 0)) (by (with_reducible repeat (first | refine blk_drewN ?_ _ | refine blk_drew ?_ | refine blk_alloc ?_ _)); exact BK122.out) hb); have n5_ := Az (blk_below (g := gb125) (o := .cells #[.int .i64 ((rd_T35 l0_1 a1).f0), .int .i64 ((rd_T35 l0_1 a1).f1), .int .i64 ((rd_T35 l0_1 a1).f2), .int .u8 ((rd_T35 l0_1 a1).f3), .int .u8 ((rd_T35 l0_1 a1).f4), .int .u8 ((rd_T35 l0_1 a1).f5), .int .i64 ((rd_T35 l0_1 a1).f6), .bool ((rd_T35 l0_1 a1).f7), .bool ((rd_T35 l0_1 a1).f8), .int .i64 ((rd_T35 l0_1 a1).f9), .int .u8 ((rd_T35 l0_1 a1).f10), .bool ((rd_T35 l0_1 a1).f11), .bool ((rd_T35 l0_1 a1).f12), .int .i64 ((rd_T35 l0_1 a1).f13)] 35 (0, 0)) (by (with_reducible repeat (first | refine blk_drewN ?_ _ | refine blk_drew ?_ | refine blk_alloc ?_ _)); exact BK125.out) hb); have n6_ := Az (below_step (low HB) hb); clear HO_123000; clear HO_123001; clear HO_123007; clear BK101; clear BK122; clear BK125; clear HB; have HO_123000 := n0_; have HO_123001 := n1_; have HO_123007 := n2_; have BK101 := n3_; have BK122 := n4_; have BK125 := n5_; have HB := n6_; clear n0_ n1_ n2_ n3_ n4_ n5_ n6_; (try clear hb); (try clear hb2); (try clear hk); (try clear hi)))
               go_ret
               exact ⟨by first | rfl | (simp [errW_none, errW_some] <;> rfl) | (simp only [← hji51, ← hji52, ← hji53, ← hji54]; first | rfl | (simp [errW_none, errW_some] <;> rfl)) | (simp [*, errW_none, errW_some] <;> rfl), low HB⟩
              ·
               replace c105 := Bool.eq_false_iff.mpr c105
               subst c105
               have H1 : ((Pmga.joustref06_Copy.f kj99 l0_0 l0_1 a0_2 a0_3 a0_4 a0_5 a0_6 l0_7 a0_8 a0_9).bind fun bt129 => (if 0 ≤ a2 then (if a2 < (bt129.2.1.length : Int) then ((might_Attack.f kj99 bt129.1 (bt129.2.1.set (a2 : Int).toNat (⟨(rd_T35 bt129.2.1 a2).f0, (rd_T35 bt129.2.1 a2).f1, (rd_T35 bt129.2.1 a2).f2, (rd_T35 bt129.2.1 a2).f3, (rd_T35 bt129.2.1 a2).f4, (rd_T35 bt129.2.1 a2).f5, (rd_T35 bt129.2.1 a2).f6, true, (rd_T35 bt129.2.1 a2).f8, (rd_T35 bt129.2.1 a2).f9, (rd_T35 bt129.2.1 a2).f10, (rd_T35 bt129.2.1 a2).f11, (rd_T35 bt129.2.1 a2).f12, (rd_T35 bt129.2.1 a2).f13⟩ : S35)) bt129.2.2.1 bt129.2.2.2.1 bt129.2.2.2.2.1 bt129.2.2.2.2.2.1 bt129.2.2.2.2.2.2.1 bt129.2.2.2.2.2.2.2.1 bt129.2.2.2.2.2.2.2.2.1 bt129.2.2.2.2.2.2.2.2.2 a1).bind fun t147 => (if t147 ≥ t126 then ((joustlaw07_lives.f).bind fun t148 => (some t148)) else (none))) else (none)) else (none))) = some r := by rw [if_neg (show ¬ (false = true) by decide)] at H; exact H
               clear H
               have H := H1
               clear H1
               replace H := Option.bind_eq_some_iff.mp H
               obtain ⟨⟨t129, t132, t135, t136, t137, t138, t139, t140, t143, t144⟩, A1080, H⟩ := H
               replace H : (if 0 ≤ a2 then (if a2 < (t132.length : Int) then ((might_Attack.f kj99 t129 (t132.set (a2 : Int).toNat (⟨(rd_T35 t132 a2).f0, (rd_T35 t132 a2).f1, (rd_T35 t132 a2).f2, (rd_T35 t132 a2).f3, (rd_T35 t132 a2).f4, (rd_T35 t132 a2).f5, (rd_T35 t132 a2).f6, true, (rd_T35 t132 a2).f8, (rd_T35 t132 a2).f9, (rd_T35 t132 a2).f10, (rd_T35 t132 a2).f11, (rd_T35 t132 a2).f12, (rd_T35 t132 a2).f13⟩ : S35)) t135 t136 t137 t138 t139 t140 t143 t144 a1).bind fun t147 => (if t147 ≥ t126 then ((joustlaw07_lives.f).bind fun t148 => (some t148)) else (none))) else (none)) else (none)) = some r := H
               have A108 := Az A1080
               clear A1080
               by_cases c109 : 0 ≤ a2
               ·
                rw [if_pos c109] at H
                have c109b0 : decide (0 ≤ a2) = true := decide_eq_true c109
                clear c109
                by_cases c110 : a2 < (t132.length : Int)
                ·
                 rw [if_pos c110] at H
                 have c110b0 : decide (a2 < (t132.length : Int)) = true := decide_eq_true c110
                 clear c110
                 obtain ⟨y146, hy146⟩ : ∃ y_ : List (S35), y_ = (t132.set (a2 : Int).toNat (⟨(rd_T35 t132 a2).f0, (rd_T35 t132 a2).f1, (rd_T35 t132 a2).f2, (rd_T35 t132 a2).f3, (rd_T35 t132 a2).f4, (rd_T35 t132 a2).f5, (rd_T35 t132 a2).f6, true, (rd_T35 t132 a2).f8, (rd_T35 t132 a2).f9, (rd_T35 t132 a2).f10, (rd_T35 t132 a2).f11, (rd_T35 t132 a2).f12, (rd_T35 t132 a2).f13⟩ : S35)) := ⟨_, rfl⟩
                 replace H : ((might_Attack.f kj99 t129 y146 t135 t136 t137 t138 t139 t140 t143 t144 a1).bind fun t147 => (if t147 ≥ t126 then ((joustlaw07_lives.f).bind fun t148 => (some t148)) else (none))) = some r := by first | (rw [hy146]; with_reducible exact H) | (have H2_ := (Option.bind_some _ _).symm.trans H; rw [hy146]; with_reducible exact H2_) | (have H2_ := (Option.bind_some _ _).symm.trans H; with_reducible exact H2_) | with_reducible exact H | (rw [hy146]; exact H) | exact H
                 have Ny146 := Az hy146
                 clear hy146
                 replace H := Option.bind_eq_some_iff.mp H
                 obtain ⟨t147, A1120, H⟩ := H
                 replace H : (if t147 ≥ t126 then ((joustlaw07_lives.f).bind fun t148 => (some t148)) else (none)) = some r := H
                 have A112 := Az A1120
                 clear A1120
                 by_cases c113 : t147 ≥ t126
                 ·
                  rw [if_pos c113] at H
                  have c113b0 : decide (t126 ≤ t147) = true := decide_eq_true c113
                  clear c113
                  replace H := Option.bind_eq_some_iff.mp H
                  obtain ⟨t148, A1140, H⟩ := H
                  replace H : (some t148) = some r := H
                  have A114 := Az A1140
                  clear A1140
                  obtain rfl := Option.some.inj H
                  have hnb115 := NB101_122.out
                  have hnc115 := NB122_101.out
                  have hnb116 := NB101_125.out
                  have hnc116 := NB125_101.out
                  have hcz117_0 : wc.cell? ⟨gb101, 0, none⟩ = some (.slice A0_0 l0_0.length c0_0) := (blk_cell BK101.out 0).trans rfl
                  have hcz117_1 : wc.cell? ⟨gb101, 1, none⟩ = some (.slice (some ad124) l0_1.length c0_1) := (blk_cell BK101.out 1).trans rfl
                  have hcz117_2 : wc.cell? ⟨gb101, 2, none⟩ = some (.int .i64 a0_2) := (blk_cell BK101.out 2).trans rfl
                  have hcz117_3 : wc.cell? ⟨gb101, 3, none⟩ = some (.int .i64 a0_3) := (blk_cell BK101.out 3).trans rfl
                  have hcz117_4 : wc.cell? ⟨gb101, 4, none⟩ = some (.int .i64 a0_4) := (blk_cell BK101.out 4).trans rfl
                  have hcz117_5 : wc.cell? ⟨gb101, 5, none⟩ = some (.int .u8 a0_5) := (blk_cell BK101.out 5).trans rfl
                  have hcz117_6 : wc.cell? ⟨gb101, 6, none⟩ = some (.int .i64 a0_6) := (blk_cell BK101.out 6).trans rfl
                  have hcz117_7 : wc.cell? ⟨gb101, 7, none⟩ = some (.slice A0_7 l0_7.length c0_7) := (blk_cell BK101.out 7).trans rfl
                  have hcz117_8 : wc.cell? ⟨gb101, 8, none⟩ = some (.bool a0_8) := (blk_cell BK101.out 8).trans rfl
                  have hcz117_9 : wc.cell? ⟨gb101, 9, none⟩ = some (.bool a0_9) := (blk_cell BK101.out 9).trans rfl
                  have hfz117_0 := blk_frozen BK101.out 0
                  have hfz117_1 := blk_frozen BK101.out 1
                  have hfz117_2 := blk_frozen BK101.out 2
                  have hfz117_3 := blk_frozen BK101.out 3
                  have hfz117_4 := blk_frozen BK101.out 4
                  have hfz117_5 := blk_frozen BK101.out 5
                  have hfz117_6 := blk_frozen BK101.out 6
                  have hfz117_7 := blk_frozen BK101.out 7
                  have hfz117_8 := blk_frozen BK101.out 8
                  have hfz117_9 := blk_frozen BK101.out 9
                  go_wp2_with (first | ((with_reducible refine gate_callee (f := 20) rfl ?_); refine goesL_ (some 104) rfl rfl Try.func20 (by kernel_rfl) rfl #[.agg #[.slice A0_0 l0_0.length c0_0, .slice (some ad124) l0_1.length c0_1, .int .i64 a0_2, .int .i64 a0_3, .int .i64 a0_4, .int .u8 a0_5, .int .i64 a0_6, .slice A0_7 l0_7.length c0_7, .bool a0_8, .bool a0_9]] rfl (by (try simp only [List.map_toArray, List.map_cons, List.map_nil]); first | done | rfl | (simp only [List.length_drop, List.length_take]; rfl)) ?_; (with_reducible refine (Pmga.joustref06_Copy.calls kj99 _ _ l0_0 _ _ l0_1 a0_2 a0_3 a0_4 a0_5 a0_6 _ _ l0_7 a0_8 a0_9 t129 t132 t135 t136 t137 t138 t139 t140 t143 t144 _ ?side1 ?side2 ?side3 ?side4 ?side5 ?side6 A108.out).mono ?_); (case side1 => repeat (first | exact (Kd.C_below HR0_0.out HB.out) | (with_reducible refine Kd.C_alloc ?_ _) | (with_reducible refine Kd.C_drewN ?_ _) | (with_reducible refine Kd.C_drew ?_))); (case side2 => exact HC0_0.out); (case side3 => repeat (first | exact (Kd.C_below HR0_1.out HB.out) | (with_reducible refine Kd.C_alloc ?_ _) | (with_reducible refine Kd.C_drewN ?_ _) | (with_reducible refine Kd.C_drew ?_))); (case side4 => exact HC0_1.out); (case side5 => repeat (first | exact (Kd.C_below HR0_7.out HB.out) | (with_reducible refine Kd.C_alloc ?_ _) | (with_reducible refine Kd.C_drewN ?_ _) | (with_reducible refine Kd.C_drew ?_))); (case side6 => exact HC0_7.out); rintro e w118 ⟨v130, v133, v141, rfl, ho0, ho1, ho2, hb⟩; refine ⟨_, rfl, ?_⟩; have n0_ := Az (Kd.R_elder' (by (with_reducible repeat (first | apply Kd.R_alloc | apply Kd.R_drewN | apply Kd.R_drew)); exact HO_123000.out) (Kd.R_base ho0) hb); have n1_ := Az (Kd.R_elder' (by (with_reducible repeat (first | apply Kd.R_alloc | apply Kd.R_drewN | apply Kd.R_drew)); exact HO_123001.out) (Kd.R_base ho1) hb); have n2_ := Az (Kd.R_elder' (by (with_reducible repeat (first | apply Kd.R_alloc | apply Kd.R_drewN | apply Kd.R_drew)); exact HO_123007.out) (Kd.R_base ho2) hb); have n3_ := Az (Kd.R_lower (Kd.R_new' ho0 (Kd.R_lt (by (with_reducible repeat (first | apply Kd.R_alloc | apply Kd.R_drewN | apply Kd.R_drew)); exact HO_123000.out))) (below_size (low HB))); have n4_ := Az (Kd.R_lower (Kd.R_newB (Kd.R_new' ho1 (Kd.R_lt (by (with_reducible repeat (first | apply Kd.R_alloc | apply Kd.R_drewN | apply Kd.R_drew)); exact HO_123001.out))) (g := gb125) (o := .cells #[.int .i64 ((rd_T35 l0_1 a1).f0), .int .i64 ((rd_T35 l0_1 a1).f1), .int .i64 ((rd_T35 l0_1 a1).f2), .int .u8 ((rd_T35 l0_1 a1).f3), .int .u8 ((rd_T35 l0_1 a1).f4), .int .u8 ((rd_T35 l0_1 a1).f5), .int .i64 ((rd_T35 l0_1 a1).f6), .bool ((rd_T35 l0_1 a1).f7), .bool ((rd_T35 l0_1 a1).f8), .int .i64 ((rd_T35 l0_1 a1).f9), .int .u8 ((rd_T35 l0_1 a1).f10), .bool ((rd_T35 l0_1 a1).f11), .bool ((rd_T35 l0_1 a1).f12), .int .i64 ((rd_T35 l0_1 a1).f13)] 35 (0, 0)) (by (with_reducible repeat (first | refine blk_drewN ?_ _ | refine blk_drew ?_ | refine blk_alloc ?_ _)); exact BK125.out)) (below_size (low HB))); have n5_ := Az (Kd.R_lower (Kd.R_new' ho2 (Kd.R_lt (by (with_reducible repeat (first | apply Kd.R_alloc | apply Kd.R_drewN | apply Kd.R_drew)); exact HO_123007.out))) (below_size (low HB))); have n6_ := Az (blk_below (g := gb101) (o := .cells #[.slice A0_0 l0_0.length c0_0, .slice (some ad124) l0_1.length c0_1, .int .i64 a0_2, .int .i64 a0_3, .int .i64 a0_4, .int .u8 a0_5, .int .i64 a0_6, .slice A0_7 l0_7.length c0_7, .bool a0_8, .bool a0_9] 28 (0, 0)) (by (with_reducible repeat (first | refine blk_drewN ?_ _ | refine blk_drew ?_ | refine blk_alloc ?_ _)); exact BK101.out) hb); have n7_ := Az (blk_below (g := gb122) (o := .cells #[.slice Ao36 t106.length co36, u123001, .int .i64 t112, .int .i64 t113, .int .i64 t114, .int .u8 t115, .int .i64 t116, .slice Ao40 t117.length co40, .bool t120, .bool t121] 28 (0, 0)) (by (with_reducible repeat (first | refine blk_drewN ?_ _ | refine blk_drew ?_ | refine blk_alloc ?_ _)); exact BK122.out) hb); have n8_ := Az (blk_below (g := gb125) (o := .cells #[.int .i64 ((rd_T35 l0_1 a1).f0), .int .i64 ((rd_T35 l0_1 a1).f1), .int .i64 ((rd_T35 l0_1 a1).f2), .int .u8 ((rd_T35 l0_1 a1).f3), .int .u8 ((rd_T35 l0_1 a1).f4), .int .u8 ((rd_T35 l0_1 a1).f5), .int .i64 ((rd_T35 l0_1 a1).f6), .bool ((rd_T35 l0_1 a1).f7), .bool ((rd_T35 l0_1 a1).f8), .int .i64 ((rd_T35 l0_1 a1).f9), .int .u8 ((rd_T35 l0_1 a1).f10), .bool ((rd_T35 l0_1 a1).f11), .bool ((rd_T35 l0_1 a1).f12), .int .i64 ((rd_T35 l0_1 a1).f13)] 35 (0, 0)) (by (with_reducible repeat (first | refine blk_drewN ?_ _ | refine blk_drew ?_ | refine blk_alloc ?_ _)); exact BK125.out) hb); have n9_ := Az (below_step (low HB) hb); clear HO_123000; clear HO_123001; clear HO_123007; clear BK101; clear BK122; clear BK125; clear HB; have HO_123000 := n0_; have HO_123001 := n1_; have HO_123007 := n2_; have HO131 := n3_; have HO134 := n4_; have HO142 := n5_; have BK101 := n6_; have BK122 := n7_; have BK125 := n8_; have HB := n9_; clear n0_ n1_ n2_ n3_ n4_ n5_ n6_ n7_ n8_ n9_; (try clear hb); (try clear hb2); (try clear hk); (try clear hi); (try clear ho0); (try clear ho1); (try clear ho2)) | ((with_reducible refine gate_dst (N := 12) rfl ?_); (try (refine gate_guard (by rfl) ?_; dsimp only)); refine box_event ?hg (N := 12) ?hd (cs := #[.slice none 0 0, .slice none 0 0, .int .i64 0, .int .i64 0, .int .i64 0, .int .u8 0, .int .i64 0, .slice none 0 0, .bool false, .bool false]) (t := 28) ?hr ?_; (case hd => rfl); (case hg => rfl); (case hr => first | (go_simp; done) | (go_simp; rfl)); intro gb145 hg w119 hbox hb; have n0_ := Az (Kd.R_below (by (with_reducible repeat (first | apply Kd.R_alloc | apply Kd.R_drewN | apply Kd.R_drew)); exact HO_123000.out) hb); have n1_ := Az (Kd.R_below (by (with_reducible repeat (first | apply Kd.R_alloc | apply Kd.R_drewN | apply Kd.R_drew)); exact HO_123001.out) hb); have n2_ := Az (Kd.R_below (by (with_reducible repeat (first | apply Kd.R_alloc | apply Kd.R_drewN | apply Kd.R_drew)); exact HO_123007.out) hb); have n3_ := Az (Kd.R_below (by (with_reducible repeat (first | apply Kd.R_alloc | apply Kd.R_drewN | apply Kd.R_drew)); exact HO131.out) hb); have n4_ := Az (Kd.R_below (by (with_reducible repeat (first | apply Kd.R_alloc | apply Kd.R_drewN | apply Kd.R_drew)); exact HO134.out) hb); have n5_ := Az (Kd.R_below (by (with_reducible repeat (first | apply Kd.R_alloc | apply Kd.R_drewN | apply Kd.R_drew)); exact HO142.out) hb); have n6_ := Az (blk_below (g := gb101) (o := .cells #[.slice A0_0 l0_0.length c0_0, .slice (some ad124) l0_1.length c0_1, .int .i64 a0_2, .int .i64 a0_3, .int .i64 a0_4, .int .u8 a0_5, .int .i64 a0_6, .slice A0_7 l0_7.length c0_7, .bool a0_8, .bool a0_9] 28 (0, 0)) (by (with_reducible repeat (first | refine blk_drewN ?_ _ | refine blk_drew ?_ | refine blk_alloc ?_ _)); exact BK101.out) hb); have n7_ := Az (blk_below (g := gb122) (o := .cells #[.slice Ao36 t106.length co36, u123001, .int .i64 t112, .int .i64 t113, .int .i64 t114, .int .u8 t115, .int .i64 t116, .slice Ao40 t117.length co40, .bool t120, .bool t121] 28 (0, 0)) (by (with_reducible repeat (first | refine blk_drewN ?_ _ | refine blk_drew ?_ | refine blk_alloc ?_ _)); exact BK122.out) hb); have n8_ := Az (blk_below (g := gb125) (o := .cells #[.int .i64 ((rd_T35 l0_1 a1).f0), .int .i64 ((rd_T35 l0_1 a1).f1), .int .i64 ((rd_T35 l0_1 a1).f2), .int .u8 ((rd_T35 l0_1 a1).f3), .int .u8 ((rd_T35 l0_1 a1).f4), .int .u8 ((rd_T35 l0_1 a1).f5), .int .i64 ((rd_T35 l0_1 a1).f6), .bool ((rd_T35 l0_1 a1).f7), .bool ((rd_T35 l0_1 a1).f8), .int .i64 ((rd_T35 l0_1 a1).f9), .int .u8 ((rd_T35 l0_1 a1).f10), .bool ((rd_T35 l0_1 a1).f11), .bool ((rd_T35 l0_1 a1).f12), .int .i64 ((rd_T35 l0_1 a1).f13)] 35 (0, 0)) (by (with_reducible repeat (first | refine blk_drewN ?_ _ | refine blk_drew ?_ | refine blk_alloc ?_ _)); exact BK125.out) hb); have n9_ := Az (below_step (low HB) hb); have n10_ := Az (hbox); have n11_ := Az ((by rw [hg]; exact (below_size (low HB)) : w.heap.size ≤ gb145)); have n12_ := Az ((by rw [hg]; exact (below_size (low HB)) : w.heap.size ≤ gb145)); have n13_ := Az ((by rw [hg]; exact Nat.ne_of_lt (blk_lt (g := gb101) (o := .cells #[.slice A0_0 l0_0.length c0_0, .slice (some ad124) l0_1.length c0_1, .int .i64 a0_2, .int .i64 a0_3, .int .i64 a0_4, .int .u8 a0_5, .int .i64 a0_6, .slice A0_7 l0_7.length c0_7, .bool a0_8, .bool a0_9] 28 (0, 0)) (by (with_reducible repeat (first | refine blk_drewN ?_ _ | refine blk_drew ?_ | refine blk_alloc ?_ _)); exact BK101.out)) : gb101 ≠ gb145)); have n14_ := Az ((by rw [hg]; exact Nat.ne_of_gt (blk_lt (g := gb101) (o := .cells #[.slice A0_0 l0_0.length c0_0, .slice (some ad124) l0_1.length c0_1, .int .i64 a0_2, .int .i64 a0_3, .int .i64 a0_4, .int .u8 a0_5, .int .i64 a0_6, .slice A0_7 l0_7.length c0_7, .bool a0_8, .bool a0_9] 28 (0, 0)) (by (with_reducible repeat (first | refine blk_drewN ?_ _ | refine blk_drew ?_ | refine blk_alloc ?_ _)); exact BK101.out)) : gb145 ≠ gb101)); have n15_ := Az ((by rw [hg]; exact Nat.ne_of_lt (blk_lt (g := gb122) (o := .cells #[.slice Ao36 t106.length co36, u123001, .int .i64 t112, .int .i64 t113, .int .i64 t114, .int .u8 t115, .int .i64 t116, .slice Ao40 t117.length co40, .bool t120, .bool t121] 28 (0, 0)) (by (with_reducible repeat (first | refine blk_drewN ?_ _ | refine blk_drew ?_ | refine blk_alloc ?_ _)); exact BK122.out)) : gb122 ≠ gb145)); have n16_ := Az ((by rw [hg]; exact Nat.ne_of_gt (blk_lt (g := gb122) (o := .cells #[.slice Ao36 t106.length co36, u123001, .int .i64 t112, .int .i64 t113, .int .i64 t114, .int .u8 t115, .int .i64 t116, .slice Ao40 t117.length co40, .bool t120, .bool t121] 28 (0, 0)) (by (with_reducible repeat (first | refine blk_drewN ?_ _ | refine blk_drew ?_ | refine blk_alloc ?_ _)); exact BK122.out)) : gb145 ≠ gb122)); have n17_ := Az ((by rw [hg]; exact Nat.ne_of_lt (blk_lt (g := gb125) (o := .cells #[.int .i64 ((rd_T35 l0_1 a1).f0), .int .i64 ((rd_T35 l0_1 a1).f1), .int .i64 ((rd_T35 l0_1 a1).f2), .int .u8 ((rd_T35 l0_1 a1).f3), .int .u8 ((rd_T35 l0_1 a1).f4), .int .u8 ((rd_T35 l0_1 a1).f5), .int .i64 ((rd_T35 l0_1 a1).f6), .bool ((rd_T35 l0_1 a1).f7), .bool ((rd_T35 l0_1 a1).f8), .int .i64 ((rd_T35 l0_1 a1).f9), .int .u8 ((rd_T35 l0_1 a1).f10), .bool ((rd_T35 l0_1 a1).f11), .bool ((rd_T35 l0_1 a1).f12), .int .i64 ((rd_T35 l0_1 a1).f13)] 35 (0, 0)) (by (with_reducible repeat (first | refine blk_drewN ?_ _ | refine blk_drew ?_ | refine blk_alloc ?_ _)); exact BK125.out)) : gb125 ≠ gb145)); have n18_ := Az ((by rw [hg]; exact Nat.ne_of_gt (blk_lt (g := gb125) (o := .cells #[.int .i64 ((rd_T35 l0_1 a1).f0), .int .i64 ((rd_T35 l0_1 a1).f1), .int .i64 ((rd_T35 l0_1 a1).f2), .int .u8 ((rd_T35 l0_1 a1).f3), .int .u8 ((rd_T35 l0_1 a1).f4), .int .u8 ((rd_T35 l0_1 a1).f5), .int .i64 ((rd_T35 l0_1 a1).f6), .bool ((rd_T35 l0_1 a1).f7), .bool ((rd_T35 l0_1 a1).f8), .int .i64 ((rd_T35 l0_1 a1).f9), .int .u8 ((rd_T35 l0_1 a1).f10), .bool ((rd_T35 l0_1 a1).f11), .bool ((rd_T35 l0_1 a1).f12), .int .i64 ((rd_T35 l0_1 a1).f13)] 35 (0, 0)) (by (with_reducible repeat (first | refine blk_drewN ?_ _ | refine blk_drew ?_ | refine blk_alloc ?_ _)); exact BK125.out)) : gb145 ≠ gb125)); clear HO_123000; clear HO_123001; clear HO_123007; clear HO131; clear HO134; clear HO142; clear BK101; clear BK122; clear BK125; clear HB; have HO_123000 := n0_; have HO_123001 := n1_; have HO_123007 := n2_; have HO131 := n3_; have HO134 := n4_; have HO142 := n5_; have BK101 := n6_; have BK122 := n7_; have BK125 := n8_; have HB := n9_; have BK145 := n10_; have GW145 := n11_; have GE145 := n12_; have NB101_145 := n13_; have NB145_101 := n14_; have NB122_145 := n15_; have NB145_122 := n16_; have NB125_145 := n17_; have NB145_125 := n18_; clear n0_ n1_ n2_ n3_ n4_ n5_ n6_ n7_ n8_ n9_ n10_ n11_ n12_ n13_ n14_ n15_ n16_ n17_ n18_; clear hb hbox hg; obtain ⟨Ao120, co120, eo120⟩ := Kd.R_slice HO131.out; subst eo120; have hnb121 := NB145_101.out; have hnc121 := NB101_145.out; have hnb122 := NB145_122.out; have hnc122 := NB122_145.out; have hnb123 := NB145_125.out; have hnc123 := NB125_145.out; have hcz124_0 : w119.cell? ⟨gb145, 0, none⟩ = some (.slice none 0 0) := (blk_cell BK145.out 0).trans rfl; have hcz124_1 : w119.cell? ⟨gb145, 1, none⟩ = some (.slice none 0 0) := (blk_cell BK145.out 1).trans rfl; have hcz124_2 : w119.cell? ⟨gb145, 2, none⟩ = some (.int .i64 0) := (blk_cell BK145.out 2).trans rfl; have hcz124_3 : w119.cell? ⟨gb145, 3, none⟩ = some (.int .i64 0) := (blk_cell BK145.out 3).trans rfl; have hcz124_4 : w119.cell? ⟨gb145, 4, none⟩ = some (.int .i64 0) := (blk_cell BK145.out 4).trans rfl; have hcz124_5 : w119.cell? ⟨gb145, 5, none⟩ = some (.int .u8 0) := (blk_cell BK145.out 5).trans rfl; have hcz124_6 : w119.cell? ⟨gb145, 6, none⟩ = some (.int .i64 0) := (blk_cell BK145.out 6).trans rfl; have hcz124_7 : w119.cell? ⟨gb145, 7, none⟩ = some (.slice none 0 0) := (blk_cell BK145.out 7).trans rfl; have hcz124_8 : w119.cell? ⟨gb145, 8, none⟩ = some (.bool false) := (blk_cell BK145.out 8).trans rfl; have hcz124_9 : w119.cell? ⟨gb145, 9, none⟩ = some (.bool false) := (blk_cell BK145.out 9).trans rfl; have hfz124_0 := blk_frozen BK145.out 0; have hfz124_1 := blk_frozen BK145.out 1; have hfz124_2 := blk_frozen BK145.out 2; have hfz124_3 := blk_frozen BK145.out 3; have hfz124_4 := blk_frozen BK145.out 4; have hfz124_5 := blk_frozen BK145.out 5; have hfz124_6 := blk_frozen BK145.out 6; have hfz124_7 := blk_frozen BK145.out 7; have hfz124_8 := blk_frozen BK145.out 8; have hfz124_9 := blk_frozen BK145.out 9; obtain ⟨Ao125, co125, eo125⟩ := Kd.R_slice HO134.out; subst eo125; obtain ⟨Ao126, co126, eo126⟩ := Kd.R_slice HO142.out; subst eo126) | ((with_reducible refine gate_store (t := 28) (p := 12) rfl ?_); refine store_event (t := 28) (p := 12) (v := ?vo_w127) (w1 := ((((((((((w119.setCell ⟨gb145, 0, none⟩ (.slice Ao120 t129.length co120)).setCell ⟨gb145, 1, none⟩ (.slice Ao125 t132.length co125)).setCell ⟨gb145, 2, none⟩ (.int .i64 t135)).setCell ⟨gb145, 3, none⟩ (.int .i64 t136)).setCell ⟨gb145, 4, none⟩ (.int .i64 t137)).setCell ⟨gb145, 5, none⟩ (.int .u8 t138)).setCell ⟨gb145, 6, none⟩ (.int .i64 t139)).setCell ⟨gb145, 7, none⟩ (.slice Ao126 t140.length co126)).setCell ⟨gb145, 8, none⟩ (.bool t143)).setCell ⟨gb145, 9, none⟩ (.bool t144))) ?hg ?ho ?hn ?hr ?_; (case ho => rfl); (case hg => rfl); (case hn => rfl); (case hr => first | (go_simp; done) | (go_simp; rfl)); intro w127 hw; have n0_ : Aside0 (Kd.R k97 97 w127 w.heap.size (fun k_ => some k_ ≠ (.slice Ao120 t129.length co120 : Value).ownBlock) (.slice Ao36 t106.length co36) t106) := ⟨(by rw [hw]; exact (by (with_reducible repeat (first | apply Kd.R_alloc | apply Kd.R_drewN | apply Kd.R_drew)); exact Kd.R_mono (Kd.R_far (p := ⟨gb145, 9, none⟩) (Kd.R_far (p := ⟨gb145, 8, none⟩) (Kd.R_far (p := ⟨gb145, 7, none⟩) (Kd.R_far (p := ⟨gb145, 6, none⟩) (Kd.R_far (p := ⟨gb145, 5, none⟩) (Kd.R_far (p := ⟨gb145, 4, none⟩) (Kd.R_far (p := ⟨gb145, 3, none⟩) (Kd.R_far (p := ⟨gb145, 2, none⟩) (Kd.R_far (p := ⟨gb145, 1, none⟩) (Kd.R_far (p := ⟨gb145, 0, none⟩) (Kd.R_types HO_123000.out BK145.out (by decide)) (fun _ hk => hk.2) (.slice Ao120 t129.length co120)) (fun _ hk => hk.2) (.slice Ao125 t132.length co125)) (fun _ hk => hk.2) (.int .i64 t135)) (fun _ hk => hk.2) (.int .i64 t136)) (fun _ hk => hk.2) (.int .i64 t137)) (fun _ hk => hk.2) (.int .u8 t138)) (fun _ hk => hk.2) (.int .i64 t139)) (fun _ hk => hk.2) (.slice Ao126 t140.length co126)) (fun _ hk => hk.2) (.bool t143)) (fun _ hk => hk.2) (.bool t144)) (fun _ hk => hk.1.2)))⟩; have n1_ : Aside0 (Kd.R k35 35 w127 w.heap.size (fun k_ => some k_ ≠ (.slice Ao125 t132.length co125 : Value).ownBlock ∧ k_ ≠ gb125) u123001 x123001_2) := ⟨(by rw [hw]; exact (by (with_reducible repeat (first | apply Kd.R_alloc | apply Kd.R_drewN | apply Kd.R_drew)); exact Kd.R_mono (Kd.R_far (p := ⟨gb145, 9, none⟩) (Kd.R_far (p := ⟨gb145, 8, none⟩) (Kd.R_far (p := ⟨gb145, 7, none⟩) (Kd.R_far (p := ⟨gb145, 6, none⟩) (Kd.R_far (p := ⟨gb145, 5, none⟩) (Kd.R_far (p := ⟨gb145, 4, none⟩) (Kd.R_far (p := ⟨gb145, 3, none⟩) (Kd.R_far (p := ⟨gb145, 2, none⟩) (Kd.R_far (p := ⟨gb145, 1, none⟩) (Kd.R_far (p := ⟨gb145, 0, none⟩) (Kd.R_types HO_123001.out BK145.out (by decide)) (fun _ hk => hk.2) (.slice Ao120 t129.length co120)) (fun _ hk => hk.2) (.slice Ao125 t132.length co125)) (fun _ hk => hk.2) (.int .i64 t135)) (fun _ hk => hk.2) (.int .i64 t136)) (fun _ hk => hk.2) (.int .i64 t137)) (fun _ hk => hk.2) (.int .u8 t138)) (fun _ hk => hk.2) (.int .i64 t139)) (fun _ hk => hk.2) (.slice Ao126 t140.length co126)) (fun _ hk => hk.2) (.bool t143)) (fun _ hk => hk.2) (.bool t144)) (fun _ hk => ⟨hk.1.2, hk.1.1⟩)))⟩; have n2_ : Aside0 (Kd.R k58 58 w127 w.heap.size (fun k_ => some k_ ≠ (.slice Ao126 t140.length co126 : Value).ownBlock) (.slice Ao40 t117.length co40) t117) := ⟨(by rw [hw]; exact (by (with_reducible repeat (first | apply Kd.R_alloc | apply Kd.R_drewN | apply Kd.R_drew)); exact Kd.R_mono (Kd.R_far (p := ⟨gb145, 9, none⟩) (Kd.R_far (p := ⟨gb145, 8, none⟩) (Kd.R_far (p := ⟨gb145, 7, none⟩) (Kd.R_far (p := ⟨gb145, 6, none⟩) (Kd.R_far (p := ⟨gb145, 5, none⟩) (Kd.R_far (p := ⟨gb145, 4, none⟩) (Kd.R_far (p := ⟨gb145, 3, none⟩) (Kd.R_far (p := ⟨gb145, 2, none⟩) (Kd.R_far (p := ⟨gb145, 1, none⟩) (Kd.R_far (p := ⟨gb145, 0, none⟩) (Kd.R_types HO_123007.out BK145.out (by decide)) (fun _ hk => hk.2) (.slice Ao120 t129.length co120)) (fun _ hk => hk.2) (.slice Ao125 t132.length co125)) (fun _ hk => hk.2) (.int .i64 t135)) (fun _ hk => hk.2) (.int .i64 t136)) (fun _ hk => hk.2) (.int .i64 t137)) (fun _ hk => hk.2) (.int .u8 t138)) (fun _ hk => hk.2) (.int .i64 t139)) (fun _ hk => hk.2) (.slice Ao126 t140.length co126)) (fun _ hk => hk.2) (.bool t143)) (fun _ hk => hk.2) (.bool t144)) (fun _ hk => hk.1.2)))⟩; have n3_ : Aside0 (Kd.R k97 97 w127 w.heap.size (fun k_ => some k_ ≠ (.slice Ao36 t106.length co36 : Value).ownBlock) (.slice Ao120 t129.length co120) t129) := ⟨(by rw [hw]; exact (by (with_reducible repeat (first | apply Kd.R_alloc | apply Kd.R_drewN | apply Kd.R_drew)); exact Kd.R_mono (Kd.R_far (p := ⟨gb145, 9, none⟩) (Kd.R_far (p := ⟨gb145, 8, none⟩) (Kd.R_far (p := ⟨gb145, 7, none⟩) (Kd.R_far (p := ⟨gb145, 6, none⟩) (Kd.R_far (p := ⟨gb145, 5, none⟩) (Kd.R_far (p := ⟨gb145, 4, none⟩) (Kd.R_far (p := ⟨gb145, 3, none⟩) (Kd.R_far (p := ⟨gb145, 2, none⟩) (Kd.R_far (p := ⟨gb145, 1, none⟩) (Kd.R_far (p := ⟨gb145, 0, none⟩) (Kd.R_types HO131.out BK145.out (by decide)) (fun _ hk => hk.2) (.slice Ao120 t129.length co120)) (fun _ hk => hk.2) (.slice Ao125 t132.length co125)) (fun _ hk => hk.2) (.int .i64 t135)) (fun _ hk => hk.2) (.int .i64 t136)) (fun _ hk => hk.2) (.int .i64 t137)) (fun _ hk => hk.2) (.int .u8 t138)) (fun _ hk => hk.2) (.int .i64 t139)) (fun _ hk => hk.2) (.slice Ao126 t140.length co126)) (fun _ hk => hk.2) (.bool t143)) (fun _ hk => hk.2) (.bool t144)) (fun _ hk => hk.1.2)))⟩; have n4_ : Aside0 (Kd.R k35 35 w127 w.heap.size (fun k_ => some k_ ≠ (u123001 : Value).ownBlock ∧ k_ ≠ gb125) (.slice Ao125 t132.length co125) t132) := ⟨(by rw [hw]; exact (by (with_reducible repeat (first | apply Kd.R_alloc | apply Kd.R_drewN | apply Kd.R_drew)); exact Kd.R_mono (Kd.R_far (p := ⟨gb145, 9, none⟩) (Kd.R_far (p := ⟨gb145, 8, none⟩) (Kd.R_far (p := ⟨gb145, 7, none⟩) (Kd.R_far (p := ⟨gb145, 6, none⟩) (Kd.R_far (p := ⟨gb145, 5, none⟩) (Kd.R_far (p := ⟨gb145, 4, none⟩) (Kd.R_far (p := ⟨gb145, 3, none⟩) (Kd.R_far (p := ⟨gb145, 2, none⟩) (Kd.R_far (p := ⟨gb145, 1, none⟩) (Kd.R_far (p := ⟨gb145, 0, none⟩) (Kd.R_types HO134.out BK145.out (by decide)) (fun _ hk => hk.2) (.slice Ao120 t129.length co120)) (fun _ hk => hk.2) (.slice Ao125 t132.length co125)) (fun _ hk => hk.2) (.int .i64 t135)) (fun _ hk => hk.2) (.int .i64 t136)) (fun _ hk => hk.2) (.int .i64 t137)) (fun _ hk => hk.2) (.int .u8 t138)) (fun _ hk => hk.2) (.int .i64 t139)) (fun _ hk => hk.2) (.slice Ao126 t140.length co126)) (fun _ hk => hk.2) (.bool t143)) (fun _ hk => hk.2) (.bool t144)) (fun _ hk => ⟨hk.1.1.2, hk.1.2⟩)))⟩; have n5_ : Aside0 (Kd.R k58 58 w127 w.heap.size (fun k_ => some k_ ≠ (.slice Ao40 t117.length co40 : Value).ownBlock) (.slice Ao126 t140.length co126) t140) := ⟨(by rw [hw]; exact (by (with_reducible repeat (first | apply Kd.R_alloc | apply Kd.R_drewN | apply Kd.R_drew)); exact Kd.R_mono (Kd.R_far (p := ⟨gb145, 9, none⟩) (Kd.R_far (p := ⟨gb145, 8, none⟩) (Kd.R_far (p := ⟨gb145, 7, none⟩) (Kd.R_far (p := ⟨gb145, 6, none⟩) (Kd.R_far (p := ⟨gb145, 5, none⟩) (Kd.R_far (p := ⟨gb145, 4, none⟩) (Kd.R_far (p := ⟨gb145, 3, none⟩) (Kd.R_far (p := ⟨gb145, 2, none⟩) (Kd.R_far (p := ⟨gb145, 1, none⟩) (Kd.R_far (p := ⟨gb145, 0, none⟩) (Kd.R_types HO142.out BK145.out (by decide)) (fun _ hk => hk.2) (.slice Ao120 t129.length co120)) (fun _ hk => hk.2) (.slice Ao125 t132.length co125)) (fun _ hk => hk.2) (.int .i64 t135)) (fun _ hk => hk.2) (.int .i64 t136)) (fun _ hk => hk.2) (.int .i64 t137)) (fun _ hk => hk.2) (.int .u8 t138)) (fun _ hk => hk.2) (.int .i64 t139)) (fun _ hk => hk.2) (.slice Ao126 t140.length co126)) (fun _ hk => hk.2) (.bool t143)) (fun _ hk => hk.2) (.bool t144)) (fun _ hk => hk.1.2)))⟩; have n6_ : Aside0 (w127.heap[gb101]? = some (.cells #[.slice A0_0 l0_0.length c0_0, .slice (some ad124) l0_1.length c0_1, .int .i64 a0_2, .int .i64 a0_3, .int .i64 a0_4, .int .u8 a0_5, .int .i64 a0_6, .slice A0_7 l0_7.length c0_7, .bool a0_8, .bool a0_9] 28 (0, 0))) := ⟨(by rw [hw]; exact (by (with_reducible repeat (first | refine blk_drewN ?_ _ | refine blk_drew ?_ | refine blk_alloc ?_ _)); refine blk_far ?_ NB101_145.out _; (with_reducible repeat (first | refine blk_drewN ?_ _ | refine blk_drew ?_ | refine blk_alloc ?_ _)); refine blk_far ?_ NB101_145.out _; (with_reducible repeat (first | refine blk_drewN ?_ _ | refine blk_drew ?_ | refine blk_alloc ?_ _)); refine blk_far ?_ NB101_145.out _; (with_reducible repeat (first | refine blk_drewN ?_ _ | refine blk_drew ?_ | refine blk_alloc ?_ _)); refine blk_far ?_ NB101_145.out _; (with_reducible repeat (first | refine blk_drewN ?_ _ | refine blk_drew ?_ | refine blk_alloc ?_ _)); refine blk_far ?_ NB101_145.out _; (with_reducible repeat (first | refine blk_drewN ?_ _ | refine blk_drew ?_ | refine blk_alloc ?_ _)); refine blk_far ?_ NB101_145.out _; (with_reducible repeat (first | refine blk_drewN ?_ _ | refine blk_drew ?_ | refine blk_alloc ?_ _)); refine blk_far ?_ NB101_145.out _; (with_reducible repeat (first | refine blk_drewN ?_ _ | refine blk_drew ?_ | refine blk_alloc ?_ _)); refine blk_far ?_ NB101_145.out _; (with_reducible repeat (first | refine blk_drewN ?_ _ | refine blk_drew ?_ | refine blk_alloc ?_ _)); refine blk_far ?_ NB101_145.out _; (with_reducible repeat (first | refine blk_drewN ?_ _ | refine blk_drew ?_ | refine blk_alloc ?_ _)); refine blk_far ?_ NB101_145.out _; (with_reducible repeat (first | refine blk_drewN ?_ _ | refine blk_drew ?_ | refine blk_alloc ?_ _)); exact BK101.out))⟩; have n7_ : Aside0 (w127.heap[gb122]? = some (.cells #[.slice Ao36 t106.length co36, u123001, .int .i64 t112, .int .i64 t113, .int .i64 t114, .int .u8 t115, .int .i64 t116, .slice Ao40 t117.length co40, .bool t120, .bool t121] 28 (0, 0))) := ⟨(by rw [hw]; exact (by (with_reducible repeat (first | refine blk_drewN ?_ _ | refine blk_drew ?_ | refine blk_alloc ?_ _)); refine blk_far ?_ NB122_145.out _; (with_reducible repeat (first | refine blk_drewN ?_ _ | refine blk_drew ?_ | refine blk_alloc ?_ _)); refine blk_far ?_ NB122_145.out _; (with_reducible repeat (first | refine blk_drewN ?_ _ | refine blk_drew ?_ | refine blk_alloc ?_ _)); refine blk_far ?_ NB122_145.out _; (with_reducible repeat (first | refine blk_drewN ?_ _ | refine blk_drew ?_ | refine blk_alloc ?_ _)); refine blk_far ?_ NB122_145.out _; (with_reducible repeat (first | refine blk_drewN ?_ _ | refine blk_drew ?_ | refine blk_alloc ?_ _)); refine blk_far ?_ NB122_145.out _; (with_reducible repeat (first | refine blk_drewN ?_ _ | refine blk_drew ?_ | refine blk_alloc ?_ _)); refine blk_far ?_ NB122_145.out _; (with_reducible repeat (first | refine blk_drewN ?_ _ | refine blk_drew ?_ | refine blk_alloc ?_ _)); refine blk_far ?_ NB122_145.out _; (with_reducible repeat (first | refine blk_drewN ?_ _ | refine blk_drew ?_ | refine blk_alloc ?_ _)); refine blk_far ?_ NB122_145.out _; (with_reducible repeat (first | refine blk_drewN ?_ _ | refine blk_drew ?_ | refine blk_alloc ?_ _)); refine blk_far ?_ NB122_145.out _; (with_reducible repeat (first | refine blk_drewN ?_ _ | refine blk_drew ?_ | refine blk_alloc ?_ _)); refine blk_far ?_ NB122_145.out _; (with_reducible repeat (first | refine blk_drewN ?_ _ | refine blk_drew ?_ | refine blk_alloc ?_ _)); exact BK122.out))⟩; have n8_ : Aside0 (w127.heap[gb125]? = some (.cells #[.int .i64 ((rd_T35 l0_1 a1).f0), .int .i64 ((rd_T35 l0_1 a1).f1), .int .i64 ((rd_T35 l0_1 a1).f2), .int .u8 ((rd_T35 l0_1 a1).f3), .int .u8 ((rd_T35 l0_1 a1).f4), .int .u8 ((rd_T35 l0_1 a1).f5), .int .i64 ((rd_T35 l0_1 a1).f6), .bool ((rd_T35 l0_1 a1).f7), .bool ((rd_T35 l0_1 a1).f8), .int .i64 ((rd_T35 l0_1 a1).f9), .int .u8 ((rd_T35 l0_1 a1).f10), .bool ((rd_T35 l0_1 a1).f11), .bool ((rd_T35 l0_1 a1).f12), .int .i64 ((rd_T35 l0_1 a1).f13)] 35 (0, 0))) := ⟨(by rw [hw]; exact (by (with_reducible repeat (first | refine blk_drewN ?_ _ | refine blk_drew ?_ | refine blk_alloc ?_ _)); refine blk_far ?_ NB125_145.out _; (with_reducible repeat (first | refine blk_drewN ?_ _ | refine blk_drew ?_ | refine blk_alloc ?_ _)); refine blk_far ?_ NB125_145.out _; (with_reducible repeat (first | refine blk_drewN ?_ _ | refine blk_drew ?_ | refine blk_alloc ?_ _)); refine blk_far ?_ NB125_145.out _; (with_reducible repeat (first | refine blk_drewN ?_ _ | refine blk_drew ?_ | refine blk_alloc ?_ _)); refine blk_far ?_ NB125_145.out _; (with_reducible repeat (first | refine blk_drewN ?_ _ | refine blk_drew ?_ | refine blk_alloc ?_ _)); refine blk_far ?_ NB125_145.out _; (with_reducible repeat (first | refine blk_drewN ?_ _ | refine blk_drew ?_ | refine blk_alloc ?_ _)); refine blk_far ?_ NB125_145.out _; (with_reducible repeat (first | refine blk_drewN ?_ _ | refine blk_drew ?_ | refine blk_alloc ?_ _)); refine blk_far ?_ NB125_145.out _; (with_reducible repeat (first | refine blk_drewN ?_ _ | refine blk_drew ?_ | refine blk_alloc ?_ _)); refine blk_far ?_ NB125_145.out _; (with_reducible repeat (first | refine blk_drewN ?_ _ | refine blk_drew ?_ | refine blk_alloc ?_ _)); refine blk_far ?_ NB125_145.out _; (with_reducible repeat (first | refine blk_drewN ?_ _ | refine blk_drew ?_ | refine blk_alloc ?_ _)); refine blk_far ?_ NB125_145.out _; (with_reducible repeat (first | refine blk_drewN ?_ _ | refine blk_drew ?_ | refine blk_alloc ?_ _)); exact BK125.out))⟩; have n9_ : Aside0 (w127.heap[gb145]? = some (.cells #[.slice Ao120 t129.length co120, .slice Ao125 t132.length co125, .int .i64 t135, .int .i64 t136, .int .i64 t137, .int .u8 t138, .int .i64 t139, .slice Ao126 t140.length co126, .bool t143, .bool t144] 28 (0, 0))) := ⟨(by rw [hw]; exact (by (with_reducible repeat (first | refine blk_drewN ?_ _ | refine blk_drew ?_ | refine blk_alloc ?_ _)); refine blk_put (cs := #[.slice Ao120 t129.length co120, .slice Ao125 t132.length co125, .int .i64 t135, .int .i64 t136, .int .i64 t137, .int .u8 t138, .int .i64 t139, .slice Ao126 t140.length co126, .bool t143, .bool false]) ?_ 9 _ rfl; (with_reducible repeat (first | refine blk_drewN ?_ _ | refine blk_drew ?_ | refine blk_alloc ?_ _)); refine blk_put (cs := #[.slice Ao120 t129.length co120, .slice Ao125 t132.length co125, .int .i64 t135, .int .i64 t136, .int .i64 t137, .int .u8 t138, .int .i64 t139, .slice Ao126 t140.length co126, .bool false, .bool false]) ?_ 8 _ rfl; (with_reducible repeat (first | refine blk_drewN ?_ _ | refine blk_drew ?_ | refine blk_alloc ?_ _)); refine blk_put (cs := #[.slice Ao120 t129.length co120, .slice Ao125 t132.length co125, .int .i64 t135, .int .i64 t136, .int .i64 t137, .int .u8 t138, .int .i64 t139, .slice none 0 0, .bool false, .bool false]) ?_ 7 _ rfl; (with_reducible repeat (first | refine blk_drewN ?_ _ | refine blk_drew ?_ | refine blk_alloc ?_ _)); refine blk_put (cs := #[.slice Ao120 t129.length co120, .slice Ao125 t132.length co125, .int .i64 t135, .int .i64 t136, .int .i64 t137, .int .u8 t138, .int .i64 0, .slice none 0 0, .bool false, .bool false]) ?_ 6 _ rfl; (with_reducible repeat (first | refine blk_drewN ?_ _ | refine blk_drew ?_ | refine blk_alloc ?_ _)); refine blk_put (cs := #[.slice Ao120 t129.length co120, .slice Ao125 t132.length co125, .int .i64 t135, .int .i64 t136, .int .i64 t137, .int .u8 0, .int .i64 0, .slice none 0 0, .bool false, .bool false]) ?_ 5 _ rfl; (with_reducible repeat (first | refine blk_drewN ?_ _ | refine blk_drew ?_ | refine blk_alloc ?_ _)); refine blk_put (cs := #[.slice Ao120 t129.length co120, .slice Ao125 t132.length co125, .int .i64 t135, .int .i64 t136, .int .i64 0, .int .u8 0, .int .i64 0, .slice none 0 0, .bool false, .bool false]) ?_ 4 _ rfl; (with_reducible repeat (first | refine blk_drewN ?_ _ | refine blk_drew ?_ | refine blk_alloc ?_ _)); refine blk_put (cs := #[.slice Ao120 t129.length co120, .slice Ao125 t132.length co125, .int .i64 t135, .int .i64 0, .int .i64 0, .int .u8 0, .int .i64 0, .slice none 0 0, .bool false, .bool false]) ?_ 3 _ rfl; (with_reducible repeat (first | refine blk_drewN ?_ _ | refine blk_drew ?_ | refine blk_alloc ?_ _)); refine blk_put (cs := #[.slice Ao120 t129.length co120, .slice Ao125 t132.length co125, .int .i64 0, .int .i64 0, .int .i64 0, .int .u8 0, .int .i64 0, .slice none 0 0, .bool false, .bool false]) ?_ 2 _ rfl; (with_reducible repeat (first | refine blk_drewN ?_ _ | refine blk_drew ?_ | refine blk_alloc ?_ _)); refine blk_put (cs := #[.slice Ao120 t129.length co120, .slice none 0 0, .int .i64 0, .int .i64 0, .int .i64 0, .int .u8 0, .int .i64 0, .slice none 0 0, .bool false, .bool false]) ?_ 1 _ rfl; (with_reducible repeat (first | refine blk_drewN ?_ _ | refine blk_drew ?_ | refine blk_alloc ?_ _)); refine blk_put (cs := #[.slice none 0 0, .slice none 0 0, .int .i64 0, .int .i64 0, .int .i64 0, .int .u8 0, .int .i64 0, .slice none 0 0, .bool false, .bool false]) ?_ 0 _ rfl; (with_reducible repeat (first | refine blk_drewN ?_ _ | refine blk_drew ?_ | refine blk_alloc ?_ _)); exact BK145.out))⟩; have n10_ : Aside0 (Below w.heap.size w w127) := ⟨(by rw [hw]; exact (low HB))⟩; clear hw; clear HO_123000; clear HO_123001; clear HO_123007; clear HO131; clear HO134; clear HO142; clear BK101; clear BK122; clear BK125; clear BK145; clear HB; have HO_123000 := n0_; have HO_123001 := n1_; have HO_123007 := n2_; have HO131 := n3_; have HO134 := n4_; have HO142 := n5_; have BK101 := n6_; have BK122 := n7_; have BK125 := n8_; have BK145 := n9_; have HB := n10_; clear n0_ n1_ n2_ n3_ n4_ n5_ n6_ n7_ n8_ n9_ n10_; have hcz128_0 : w127.cell? ⟨gb145, 0, none⟩ = some (.slice Ao120 t129.length co120) := (blk_cell BK145.out 0).trans rfl; have hcz128_1 : w127.cell? ⟨gb145, 1, none⟩ = some (.slice Ao125 t132.length co125) := (blk_cell BK145.out 1).trans rfl; have hcz128_2 : w127.cell? ⟨gb145, 2, none⟩ = some (.int .i64 t135) := (blk_cell BK145.out 2).trans rfl; have hcz128_3 : w127.cell? ⟨gb145, 3, none⟩ = some (.int .i64 t136) := (blk_cell BK145.out 3).trans rfl; have hcz128_4 : w127.cell? ⟨gb145, 4, none⟩ = some (.int .i64 t137) := (blk_cell BK145.out 4).trans rfl; have hcz128_5 : w127.cell? ⟨gb145, 5, none⟩ = some (.int .u8 t138) := (blk_cell BK145.out 5).trans rfl; have hcz128_6 : w127.cell? ⟨gb145, 6, none⟩ = some (.int .i64 t139) := (blk_cell BK145.out 6).trans rfl; have hcz128_7 : w127.cell? ⟨gb145, 7, none⟩ = some (.slice Ao126 t140.length co126) := (blk_cell BK145.out 7).trans rfl; have hcz128_8 : w127.cell? ⟨gb145, 8, none⟩ = some (.bool t143) := (blk_cell BK145.out 8).trans rfl; have hcz128_9 : w127.cell? ⟨gb145, 9, none⟩ = some (.bool t144) := (blk_cell BK145.out 9).trans rfl; have hfz128_0 := blk_frozen BK145.out 0; have hfz128_1 := blk_frozen BK145.out 1; have hfz128_2 := blk_frozen BK145.out 2; have hfz128_3 := blk_frozen BK145.out 3; have hfz128_4 := blk_frozen BK145.out 4; have hfz128_5 := blk_frozen BK145.out 5; have hfz128_6 := blk_frozen BK145.out 6; have hfz128_7 := blk_frozen BK145.out 7; have hfz128_8 := blk_frozen BK145.out 8; have hfz128_9 := blk_frozen BK145.out 9; have p111 : 0 ≤ (a2 : Int) := of_decide_eq_true (by first | (with_reducible assumption) | assumption); have q111 : (a2 : Int) < ((t132.length : Int) : Int) := of_decide_eq_true (by first | (with_reducible assumption) | assumption); obtain ⟨go111, co111, eo111, gb111, gl111, cl111, HG111⟩ := Kd.R_form HO134.out (by omega); (first | cases eo111 | (injection eo111 with ea_ en_ ec_; (first | subst ea_ | (injection ea_ with ea_; subst ea_)); subst ec_; clear en_)); have GB111 := Az gb111; have GG111 := Az HG111; clear gb111 gl111 HG111; obtain ⟨ce111, hcl111, hM111, hcc111, hfr111⟩ := Kd.R_elem HO134.out z35 (a2 : Int) p111 q111; obtain rfl := k35_openM hM111; have hx111_0 : w127.cell? ⟨go111, (a2 : Int).toNat * 14, none⟩ = some (.int .i64 ((rd_T35 t132 a2).f0)) := hcc111 0 _ rfl; have hx111_1 : w127.cell? ⟨go111, (a2 : Int).toNat * 14 + 1, none⟩ = some (.int .i64 ((rd_T35 t132 a2).f1)) := hcc111 1 _ rfl; have hx111_2 : w127.cell? ⟨go111, (a2 : Int).toNat * 14 + 2, none⟩ = some (.int .i64 ((rd_T35 t132 a2).f2)) := hcc111 2 _ rfl; have hx111_3 : w127.cell? ⟨go111, (a2 : Int).toNat * 14 + 3, none⟩ = some (.int .u8 ((rd_T35 t132 a2).f3)) := hcc111 3 _ rfl; have hx111_4 : w127.cell? ⟨go111, (a2 : Int).toNat * 14 + 4, none⟩ = some (.int .u8 ((rd_T35 t132 a2).f4)) := hcc111 4 _ rfl; have hx111_5 : w127.cell? ⟨go111, (a2 : Int).toNat * 14 + 5, none⟩ = some (.int .u8 ((rd_T35 t132 a2).f5)) := hcc111 5 _ rfl; have hx111_6 : w127.cell? ⟨go111, (a2 : Int).toNat * 14 + 6, none⟩ = some (.int .i64 ((rd_T35 t132 a2).f6)) := hcc111 6 _ rfl; have hx111_7 : w127.cell? ⟨go111, (a2 : Int).toNat * 14 + 7, none⟩ = some (.bool ((rd_T35 t132 a2).f7)) := hcc111 7 _ rfl; have hx111_8 : w127.cell? ⟨go111, (a2 : Int).toNat * 14 + 8, none⟩ = some (.bool ((rd_T35 t132 a2).f8)) := hcc111 8 _ rfl; have hx111_9 : w127.cell? ⟨go111, (a2 : Int).toNat * 14 + 9, none⟩ = some (.int .i64 ((rd_T35 t132 a2).f9)) := hcc111 9 _ rfl; have hx111_10 : w127.cell? ⟨go111, (a2 : Int).toNat * 14 + 10, none⟩ = some (.int .u8 ((rd_T35 t132 a2).f10)) := hcc111 10 _ rfl; have hx111_11 : w127.cell? ⟨go111, (a2 : Int).toNat * 14 + 11, none⟩ = some (.bool ((rd_T35 t132 a2).f11)) := hcc111 11 _ rfl; have hx111_12 : w127.cell? ⟨go111, (a2 : Int).toNat * 14 + 12, none⟩ = some (.bool ((rd_T35 t132 a2).f12)) := hcc111 12 _ rfl; have hx111_13 : w127.cell? ⟨go111, (a2 : Int).toNat * 14 + 13, none⟩ = some (.int .i64 ((rd_T35 t132 a2).f13)) := hcc111 13 _ rfl; have hf111_0 : w127.frozen? ⟨go111, (a2 : Int).toNat * 14, none⟩ = false := hfr111 0; have hf111_1 : w127.frozen? ⟨go111, (a2 : Int).toNat * 14 + 1, none⟩ = false := hfr111 1; have hf111_2 : w127.frozen? ⟨go111, (a2 : Int).toNat * 14 + 2, none⟩ = false := hfr111 2; have hf111_3 : w127.frozen? ⟨go111, (a2 : Int).toNat * 14 + 3, none⟩ = false := hfr111 3; have hf111_4 : w127.frozen? ⟨go111, (a2 : Int).toNat * 14 + 4, none⟩ = false := hfr111 4; have hf111_5 : w127.frozen? ⟨go111, (a2 : Int).toNat * 14 + 5, none⟩ = false := hfr111 5; have hf111_6 : w127.frozen? ⟨go111, (a2 : Int).toNat * 14 + 6, none⟩ = false := hfr111 6; have hf111_7 : w127.frozen? ⟨go111, (a2 : Int).toNat * 14 + 7, none⟩ = false := hfr111 7; have hf111_8 : w127.frozen? ⟨go111, (a2 : Int).toNat * 14 + 8, none⟩ = false := hfr111 8; have hf111_9 : w127.frozen? ⟨go111, (a2 : Int).toNat * 14 + 9, none⟩ = false := hfr111 9; have hf111_10 : w127.frozen? ⟨go111, (a2 : Int).toNat * 14 + 10, none⟩ = false := hfr111 10; have hf111_11 : w127.frozen? ⟨go111, (a2 : Int).toNat * 14 + 11, none⟩ = false := hfr111 11; have hf111_12 : w127.frozen? ⟨go111, (a2 : Int).toNat * 14 + 12, none⟩ = false := hfr111 12; have hf111_13 : w127.frozen? ⟨go111, (a2 : Int).toNat * 14 + 13, none⟩ = false := hfr111 13; clear hcl111 hcc111 hfr111 hM111; replace p111 := eq_true p111; replace q111 := eq_true q111; have HX129 := Az (show Kd.R k35 35 w127 w.heap.size (fun k_ => some k_ ≠ (u123001 : Value).ownBlock ∧ k_ ≠ gb125) (.slice (some ⟨go111, 0, none⟩) t132.length co125) t132 from (by (with_reducible repeat (first | apply Kd.R_alloc | apply Kd.R_drewN | apply Kd.R_drew)); exact HO134.out)); obtain ⟨ce129, hcl129, hM129, hcc129, hfr129⟩ := Kd.R_elem HX129.out z35 (a2 : Int) (of_decide_eq_true (by first | (with_reducible assumption) | assumption)) (by have h_ : (a2 : Int) < ((t132.length : Int) : Int) := of_decide_eq_true (by first | (with_reducible assumption) | assumption); first | exact h_ | (have e_ := (Kd.R_reads' HO134.out).1; omega) | simpa using h_); obtain rfl := k35_openM hM129; have HP129 := Kd.R_seg HX129.out (a2 : Int) (of_decide_eq_true (by first | (with_reducible assumption) | assumption)) (by have h_ : (a2 : Int) < ((t132.length : Int) : Int) := of_decide_eq_true (by first | (with_reducible assumption) | assumption); first | exact h_ | (have e_ := (Kd.R_reads' HO134.out).1; omega) | simpa using h_) (seg := [.bool true]) (j := 7) hcl129 hcc129 (show 8 ≤ 14 from by decide) (x' := (⟨(rd_T35 t132 a2).f0, (rd_T35 t132 a2).f1, (rd_T35 t132 a2).f2, (rd_T35 t132 a2).f3, (rd_T35 t132 a2).f4, (rd_T35 t132 a2).f5, (rd_T35 t132 a2).f6, true, (rd_T35 t132 a2).f8, (rd_T35 t132 a2).f9, (rd_T35 t132 a2).f10, (rd_T35 t132 a2).f11, (rd_T35 t132 a2).f12, (rd_T35 t132 a2).f13⟩ : S35)) (k35_mkM _ _ _ (⟨(rd_T35 t132 a2).f0, (rd_T35 t132 a2).f1, (rd_T35 t132 a2).f2, (rd_T35 t132 a2).f3, (rd_T35 t132 a2).f4, (rd_T35 t132 a2).f5, (rd_T35 t132 a2).f6, true, (rd_T35 t132 a2).f8, (rd_T35 t132 a2).f9, (rd_T35 t132 a2).f10, (rd_T35 t132 a2).f11, (rd_T35 t132 a2).f12, (rd_T35 t132 a2).f13⟩ : S35) ) (fun _ hk => hk); have hx129_7 := hcc129 7 _ rfl; (try simp only [show (k35).sz = 14 from rfl, Nat.mul_one, Nat.add_zero] at hx129_7); have hf129_7 := hfr129 7; (try simp only [show (k35).sz = 14 from rfl, Nat.mul_one, Nat.add_zero] at hf129_7); clear hcl129 hcc129 hfr129 hM129) | ((with_reducible refine gate_store (t := 4) (p := 109) rfl ?_); refine store_event (t := 4) (p := 109) (v := ?vo_w130) (w1 := (w127.setCell ⟨go111, (a2 : Int).toNat * 14 + 7, none⟩ (.bool true))) ?hg ?ho ?hn ?hr ?_; (case ho => rfl); (case hg => rfl); (case hn => rfl); (case hr => first | (go_simp; done) | (go_simp; rfl)); intro w130 hw; have hg : w127.grownBy w130 (some go111) := (by rw [hw]; exact HP129.2); have hp_ : Kd.R k35 35 w130 w.heap.size (fun k_ => some k_ ≠ (u123001 : Value).ownBlock ∧ k_ ≠ gb125) (.slice (some ⟨go111, 0, none⟩) t132.length co125) y146 := (by rw [hw, Ny146.out]; exact HP129.1); clear HP129; have n0_ := Az (Kd.R_over' (v := (.slice (some ⟨go111, 0, none⟩) t132.length co125)) (by (with_reducible repeat (first | apply Kd.R_alloc | apply Kd.R_drewN | apply Kd.R_drew)); exact HO_123000.out) (Kd.R_typed HO134.out) (by decide) hg); have n1_ := Az (Kd.R_after (v := (.slice (some ⟨go111, 0, none⟩) t132.length co125)) (v1 := (.slice (some ⟨go111, 0, none⟩) t132.length co125)) (ok := (fun k_ => k_ ≠ gb125)) (by (with_reducible repeat (first | apply Kd.R_alloc | apply Kd.R_drewN | apply Kd.R_drew)); exact Kd.R_mono HO_123001.out (fun _ hk => ⟨hk.2, hk.1⟩)) hg (.inl rfl)); have n2_ := Az (Kd.R_over' (v := (.slice (some ⟨go111, 0, none⟩) t132.length co125)) (by (with_reducible repeat (first | apply Kd.R_alloc | apply Kd.R_drewN | apply Kd.R_drew)); exact HO_123007.out) (Kd.R_typed HO134.out) (by decide) hg); have n3_ := Az (blk_grown (g := gb101) (o := .cells #[.slice A0_0 l0_0.length c0_0, .slice (some ad124) l0_1.length c0_1, .int .i64 a0_2, .int .i64 a0_3, .int .i64 a0_4, .int .u8 a0_5, .int .i64 a0_6, .slice A0_7 l0_7.length c0_7, .bool a0_8, .bool a0_9] 28 (0, 0)) (by (with_reducible repeat (first | refine blk_drewN ?_ _ | refine blk_drew ?_ | refine blk_alloc ?_ _)); exact BK101.out) hg (Kd.R_ne HO134.out BK101.out (by decide))); have n4_ := Az (blk_grown (g := gb122) (o := .cells #[.slice Ao36 t106.length co36, u123001, .int .i64 t112, .int .i64 t113, .int .i64 t114, .int .u8 t115, .int .i64 t116, .slice Ao40 t117.length co40, .bool t120, .bool t121] 28 (0, 0)) (by (with_reducible repeat (first | refine blk_drewN ?_ _ | refine blk_drew ?_ | refine blk_alloc ?_ _)); exact BK122.out) hg (Kd.R_ne HO134.out BK122.out (by decide))); have n5_ := Az (blk_grown (g := gb125) (o := .cells #[.int .i64 ((rd_T35 l0_1 a1).f0), .int .i64 ((rd_T35 l0_1 a1).f1), .int .i64 ((rd_T35 l0_1 a1).f2), .int .u8 ((rd_T35 l0_1 a1).f3), .int .u8 ((rd_T35 l0_1 a1).f4), .int .u8 ((rd_T35 l0_1 a1).f5), .int .i64 ((rd_T35 l0_1 a1).f6), .bool ((rd_T35 l0_1 a1).f7), .bool ((rd_T35 l0_1 a1).f8), .int .i64 ((rd_T35 l0_1 a1).f9), .int .u8 ((rd_T35 l0_1 a1).f10), .bool ((rd_T35 l0_1 a1).f11), .bool ((rd_T35 l0_1 a1).f12), .int .i64 ((rd_T35 l0_1 a1).f13)] 35 (0, 0)) (by (with_reducible repeat (first | refine blk_drewN ?_ _ | refine blk_drew ?_ | refine blk_alloc ?_ _)); exact BK125.out) hg (Kd.R_away HO134.out (fun _ hk => hk.2))); have n6_ := Az (Kd.R_over' (v := (.slice (some ⟨go111, 0, none⟩) t132.length co125)) (by (with_reducible repeat (first | apply Kd.R_alloc | apply Kd.R_drewN | apply Kd.R_drew)); exact HO131.out) (Kd.R_typed HO134.out) (by decide) hg); have n7_ := Az (hp_); have n8_ := Az (Kd.R_over' (v := (.slice (some ⟨go111, 0, none⟩) t132.length co125)) (by (with_reducible repeat (first | apply Kd.R_alloc | apply Kd.R_drewN | apply Kd.R_drew)); exact HO142.out) (Kd.R_typed HO134.out) (by decide) hg); have n9_ := Az (blk_grown (g := gb145) (o := .cells #[.slice Ao120 t129.length co120, .slice (some ⟨go111, 0, none⟩) t132.length co125, .int .i64 t135, .int .i64 t136, .int .i64 t137, .int .u8 t138, .int .i64 t139, .slice Ao126 t140.length co126, .bool t143, .bool t144] 28 (0, 0)) (by (with_reducible repeat (first | refine blk_drewN ?_ _ | refine blk_drew ?_ | refine blk_alloc ?_ _)); exact BK145.out) hg (Kd.R_ne HO134.out BK145.out (by decide))); have n10_ := Az ((by rw [hw]; exact below_set (HB.out) GB111.out : Below w.heap.size w w130)); clear HO_123000; clear HO_123001; clear HO_123007; clear BK101; clear BK122; clear BK125; clear HO131; clear HO134; clear HO142; clear BK145; clear HB; have HO_123000 := n0_; have HO_123001 := n1_; have HO_123007 := n2_; have BK101 := n3_; have BK122 := n4_; have BK125 := n5_; have HO131 := n6_; have HO134 := n7_; have HO142 := n8_; have BK145 := n9_; have HB := n10_; clear n0_ n1_ n2_ n3_ n4_ n5_ n6_ n7_ n8_ n9_ n10_; clear hg hw hp_; have hcz131_0 : w130.cell? ⟨gb145, 0, none⟩ = some (.slice Ao120 t129.length co120) := (blk_cell BK145.out 0).trans rfl; have hcz131_1 : w130.cell? ⟨gb145, 1, none⟩ = some (.slice (some ⟨go111, 0, none⟩) t132.length co125) := (blk_cell BK145.out 1).trans rfl; have hcz131_2 : w130.cell? ⟨gb145, 2, none⟩ = some (.int .i64 t135) := (blk_cell BK145.out 2).trans rfl; have hcz131_3 : w130.cell? ⟨gb145, 3, none⟩ = some (.int .i64 t136) := (blk_cell BK145.out 3).trans rfl; have hcz131_4 : w130.cell? ⟨gb145, 4, none⟩ = some (.int .i64 t137) := (blk_cell BK145.out 4).trans rfl; have hcz131_5 : w130.cell? ⟨gb145, 5, none⟩ = some (.int .u8 t138) := (blk_cell BK145.out 5).trans rfl; have hcz131_6 : w130.cell? ⟨gb145, 6, none⟩ = some (.int .i64 t139) := (blk_cell BK145.out 6).trans rfl; have hcz131_7 : w130.cell? ⟨gb145, 7, none⟩ = some (.slice Ao126 t140.length co126) := (blk_cell BK145.out 7).trans rfl; have hcz131_8 : w130.cell? ⟨gb145, 8, none⟩ = some (.bool t143) := (blk_cell BK145.out 8).trans rfl; have hcz131_9 : w130.cell? ⟨gb145, 9, none⟩ = some (.bool t144) := (blk_cell BK145.out 9).trans rfl; have hfz131_0 := blk_frozen BK145.out 0; have hfz131_1 := blk_frozen BK145.out 1; have hfz131_2 := blk_frozen BK145.out 2; have hfz131_3 := blk_frozen BK145.out 3; have hfz131_4 := blk_frozen BK145.out 4; have hfz131_5 := blk_frozen BK145.out 5; have hfz131_6 := blk_frozen BK145.out 6; have hfz131_7 := blk_frozen BK145.out 7; have hfz131_8 := blk_frozen BK145.out 8; have hfz131_9 := blk_frozen BK145.out 9) | ((with_reducible refine gate_callee (f := 19) rfl ?_); refine goesL_ (some 112) rfl rfl Try.func19 (by kernel_rfl) rfl #[.agg #[.slice Ao120 t129.length co120, .slice (some ⟨go111, 0, none⟩) y146.length co125, .int .i64 t135, .int .i64 t136, .int .i64 t137, .int .u8 t138, .int .i64 t139, .slice Ao126 t140.length co126, .bool t143, .bool t144], .int .i64 a1] rfl (by (try simp only [List.map_toArray, List.map_cons, List.map_nil]); first | done | (rw [show y146.length = t132.length from (Kd.R_reads' HO134.out).1.symm] <;> rfl) | rfl | (simp only [List.length_drop, List.length_take]; rfl)) ?_; (with_reducible refine (might_Attack.calls kj99 _ _ t129 _ _ y146 t135 t136 t137 t138 t139 _ _ t140 t143 t144 a1 t147 _ ?side1 ?side2 ?side3 ?side4 ?side5 ?side6 A112.out).mono ?_); (case side1 => repeat (first | exact (Kd.R_reads' HO131.out).2.2 | (with_reducible refine Kd.C_alloc ?_ _) | (with_reducible refine Kd.C_drewN ?_ _) | (with_reducible refine Kd.C_drew ?_))); (case side2 => exact (Kd.R_reads' HO131.out).2.1); (case side3 => repeat (first | exact (Kd.R_reads' HO134.out).2.2 | (with_reducible refine Kd.C_alloc ?_ _) | (with_reducible refine Kd.C_drewN ?_ _) | (with_reducible refine Kd.C_drew ?_))); (case side4 => rw [show y146.length = t132.length from (Kd.R_reads' HO134.out).1.symm]; exact (Kd.R_reads' HO134.out).2.1); (case side5 => repeat (first | exact (Kd.R_reads' HO142.out).2.2 | (with_reducible refine Kd.C_alloc ?_ _) | (with_reducible refine Kd.C_drewN ?_ _) | (with_reducible refine Kd.C_drew ?_))); (case side6 => exact (Kd.R_reads' HO142.out).2.1); rintro e w132 ⟨rfl, hb⟩; refine ⟨_, rfl, ?_⟩; have n0_ := Az (Kd.R_below (by (with_reducible repeat (first | apply Kd.R_alloc | apply Kd.R_drewN | apply Kd.R_drew)); exact HO_123000.out) hb); have n1_ := Az (Kd.R_below (by (with_reducible repeat (first | apply Kd.R_alloc | apply Kd.R_drewN | apply Kd.R_drew)); exact HO_123001.out) hb); have n2_ := Az (Kd.R_below (by (with_reducible repeat (first | apply Kd.R_alloc | apply Kd.R_drewN | apply Kd.R_drew)); exact HO_123007.out) hb); have n3_ := Az (Kd.R_below (by (with_reducible repeat (first | apply Kd.R_alloc | apply Kd.R_drewN | apply Kd.R_drew)); exact HO131.out) hb); have n4_ := Az (Kd.R_below (by (with_reducible repeat (first | apply Kd.R_alloc | apply Kd.R_drewN | apply Kd.R_drew)); exact HO134.out) hb); have n5_ := Az (Kd.R_below (by (with_reducible repeat (first | apply Kd.R_alloc | apply Kd.R_drewN | apply Kd.R_drew)); exact HO142.out) hb); have n6_ := Az (blk_below (g := gb101) (o := .cells #[.slice A0_0 l0_0.length c0_0, .slice (some ad124) l0_1.length c0_1, .int .i64 a0_2, .int .i64 a0_3, .int .i64 a0_4, .int .u8 a0_5, .int .i64 a0_6, .slice A0_7 l0_7.length c0_7, .bool a0_8, .bool a0_9] 28 (0, 0)) (by (with_reducible repeat (first | refine blk_drewN ?_ _ | refine blk_drew ?_ | refine blk_alloc ?_ _)); exact BK101.out) hb); have n7_ := Az (blk_below (g := gb122) (o := .cells #[.slice Ao36 t106.length co36, u123001, .int .i64 t112, .int .i64 t113, .int .i64 t114, .int .u8 t115, .int .i64 t116, .slice Ao40 t117.length co40, .bool t120, .bool t121] 28 (0, 0)) (by (with_reducible repeat (first | refine blk_drewN ?_ _ | refine blk_drew ?_ | refine blk_alloc ?_ _)); exact BK122.out) hb); have n8_ := Az (blk_below (g := gb125) (o := .cells #[.int .i64 ((rd_T35 l0_1 a1).f0), .int .i64 ((rd_T35 l0_1 a1).f1), .int .i64 ((rd_T35 l0_1 a1).f2), .int .u8 ((rd_T35 l0_1 a1).f3), .int .u8 ((rd_T35 l0_1 a1).f4), .int .u8 ((rd_T35 l0_1 a1).f5), .int .i64 ((rd_T35 l0_1 a1).f6), .bool ((rd_T35 l0_1 a1).f7), .bool ((rd_T35 l0_1 a1).f8), .int .i64 ((rd_T35 l0_1 a1).f9), .int .u8 ((rd_T35 l0_1 a1).f10), .bool ((rd_T35 l0_1 a1).f11), .bool ((rd_T35 l0_1 a1).f12), .int .i64 ((rd_T35 l0_1 a1).f13)] 35 (0, 0)) (by (with_reducible repeat (first | refine blk_drewN ?_ _ | refine blk_drew ?_ | refine blk_alloc ?_ _)); exact BK125.out) hb); have n9_ := Az (blk_below (g := gb145) (o := .cells #[.slice Ao120 t129.length co120, .slice (some ⟨go111, 0, none⟩) t132.length co125, .int .i64 t135, .int .i64 t136, .int .i64 t137, .int .u8 t138, .int .i64 t139, .slice Ao126 t140.length co126, .bool t143, .bool t144] 28 (0, 0)) (by (with_reducible repeat (first | refine blk_drewN ?_ _ | refine blk_drew ?_ | refine blk_alloc ?_ _)); exact BK145.out) hb); have n10_ := Az (below_step (low HB) hb); clear HO_123000; clear HO_123001; clear HO_123007; clear HO131; clear HO134; clear HO142; clear BK101; clear BK122; clear BK125; clear BK145; clear HB; have HO_123000 := n0_; have HO_123001 := n1_; have HO_123007 := n2_; have HO131 := n3_; have HO134 := n4_; have HO142 := n5_; have BK101 := n6_; have BK122 := n7_; have BK125 := n8_; have BK145 := n9_; have HB := n10_; clear n0_ n1_ n2_ n3_ n4_ n5_ n6_ n7_ n8_ n9_ n10_; (try clear hb); (try clear hb2); (try clear hk); (try clear hi)) | (go_at_call 16; (with_reducible refine (joustlaw07_lives.calls  t148 _ A114.out).mono ?_); rintro e w133 ⟨rfl, hb⟩; have n0_ := Az (Kd.R_below (by (with_reducible repeat (first | apply Kd.R_alloc | apply Kd.R_drewN | apply Kd.R_drew)); exact HO_123000.out) hb); have n1_ := Az (Kd.R_below (by (with_reducible repeat (first | apply Kd.R_alloc | apply Kd.R_drewN | apply Kd.R_drew)); exact HO_123001.out) hb); have n2_ := Az (Kd.R_below (by (with_reducible repeat (first | apply Kd.R_alloc | apply Kd.R_drewN | apply Kd.R_drew)); exact HO_123007.out) hb); have n3_ := Az (Kd.R_below (by (with_reducible repeat (first | apply Kd.R_alloc | apply Kd.R_drewN | apply Kd.R_drew)); exact HO131.out) hb); have n4_ := Az (Kd.R_below (by (with_reducible repeat (first | apply Kd.R_alloc | apply Kd.R_drewN | apply Kd.R_drew)); exact HO134.out) hb); have n5_ := Az (Kd.R_below (by (with_reducible repeat (first | apply Kd.R_alloc | apply Kd.R_drewN | apply Kd.R_drew)); exact HO142.out) hb); have n6_ := Az (blk_below (g := gb101) (o := .cells #[.slice A0_0 l0_0.length c0_0, .slice (some ad124) l0_1.length c0_1, .int .i64 a0_2, .int .i64 a0_3, .int .i64 a0_4, .int .u8 a0_5, .int .i64 a0_6, .slice A0_7 l0_7.length c0_7, .bool a0_8, .bool a0_9] 28 (0, 0)) (by (with_reducible repeat (first | refine blk_drewN ?_ _ | refine blk_drew ?_ | refine blk_alloc ?_ _)); exact BK101.out) hb); have n7_ := Az (blk_below (g := gb122) (o := .cells #[.slice Ao36 t106.length co36, u123001, .int .i64 t112, .int .i64 t113, .int .i64 t114, .int .u8 t115, .int .i64 t116, .slice Ao40 t117.length co40, .bool t120, .bool t121] 28 (0, 0)) (by (with_reducible repeat (first | refine blk_drewN ?_ _ | refine blk_drew ?_ | refine blk_alloc ?_ _)); exact BK122.out) hb); have n8_ := Az (blk_below (g := gb125) (o := .cells #[.int .i64 ((rd_T35 l0_1 a1).f0), .int .i64 ((rd_T35 l0_1 a1).f1), .int .i64 ((rd_T35 l0_1 a1).f2), .int .u8 ((rd_T35 l0_1 a1).f3), .int .u8 ((rd_T35 l0_1 a1).f4), .int .u8 ((rd_T35 l0_1 a1).f5), .int .i64 ((rd_T35 l0_1 a1).f6), .bool ((rd_T35 l0_1 a1).f7), .bool ((rd_T35 l0_1 a1).f8), .int .i64 ((rd_T35 l0_1 a1).f9), .int .u8 ((rd_T35 l0_1 a1).f10), .bool ((rd_T35 l0_1 a1).f11), .bool ((rd_T35 l0_1 a1).f12), .int .i64 ((rd_T35 l0_1 a1).f13)] 35 (0, 0)) (by (with_reducible repeat (first | refine blk_drewN ?_ _ | refine blk_drew ?_ | refine blk_alloc ?_ _)); exact BK125.out) hb); have n9_ := Az (blk_below (g := gb145) (o := .cells #[.slice Ao120 t129.length co120, .slice (some ⟨go111, 0, none⟩) t132.length co125, .int .i64 t135, .int .i64 t136, .int .i64 t137, .int .u8 t138, .int .i64 t139, .slice Ao126 t140.length co126, .bool t143, .bool t144] 28 (0, 0)) (by (with_reducible repeat (first | refine blk_drewN ?_ _ | refine blk_drew ?_ | refine blk_alloc ?_ _)); exact BK145.out) hb); have n10_ := Az (below_step (low HB) hb); clear HO_123000; clear HO_123001; clear HO_123007; clear HO131; clear HO134; clear HO142; clear BK101; clear BK122; clear BK125; clear BK145; clear HB; have HO_123000 := n0_; have HO_123001 := n1_; have HO_123007 := n2_; have HO131 := n3_; have HO134 := n4_; have HO142 := n5_; have BK101 := n6_; have BK122 := n7_; have BK125 := n8_; have BK145 := n9_; have HB := n10_; clear n0_ n1_ n2_ n3_ n4_ n5_ n6_ n7_ n8_ n9_ n10_; (try clear hb); (try clear hb2); (try clear hk); (try clear hi)))
                  go_ret
                  exact ⟨by first | rfl | (simp [errW_none, errW_some] <;> rfl) | (simp only [← hji51, ← hji52, ← hji53, ← hji54]; first | rfl | (simp [errW_none, errW_some] <;> rfl)) | (simp [*, errW_none, errW_some] <;> rfl), low HB⟩
                 ·
                  rw [if_neg c113] at H
                  exact absurd H (by simp)
                ·
                 rw [if_neg c110] at H
                 exact absurd H (by simp)
               ·
                rw [if_neg c109] at H
                exact absurd H (by simp)
        ·
         rw [if_neg c50] at H
         exact absurd H (by simp)
       ·
        rw [if_neg c49] at H
        exact absurd H (by simp)
end Go.Proofs.Ytlldpdhajddmiaa.Pmgu
end
