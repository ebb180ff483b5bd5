/- Joined by a program of this session (pack.py) out of: Pilx Pily BaseMw Pio -/
import Derived.Lib.Hide
import Derived.Test.YtnceobnglofnmaaKmps2
import Derived.Test.YtnceobnglofnmaaKmps4
import Derived.Test.YtnceobnglofnmaaKmps11
section
/- What an option is worth: the walk through the map of ways. -/
namespace Go.Proofs.Ytnceobnglofnmaa.Pil
open Go Go.RowKit Go.Proofs.Ytnceobnglofnmaa.Base Go.Proofs.YtnceobnglofnmaaW.PrintWords Go.Proofs.Ytnceobnglofnmaa.Ppia

theorem putObj_same {W : World} {r : Nat} {o o' : Obj} (h : W.heap[r]? = some o) : (W.putObj r o').heap[r]? = some o' := World.putObj_heap_same (Array.getElem?_eq_some_iff.1 h).1
theorem below_putObj {n r : Nat} {A W : World} {o : Obj} (h : Below n A W) (hl : n ≤ r) : Below n A (W.putObj r o) :=
  h.trans ⟨rfl, rfl, rfl, by simp [World.putObj], fun k hk => World.putObj_heap_other (by omega)⟩
/-- The map of ways, made. -/
theorem made_map (W2 : World) (r : Nat) (hr : W2.heap.size = r) : ∃ W3 W4 W5 W6 W7 : World,
    (Instr.makeMap 135 none).run Try.prog W2 = .ok (.map (some r)) W3 ∧
    (Instr.mapUpdate 135 (.map (some r)) (.int .u8 8) (.func (.func 81) #[] #[])).run Try.prog W3 = .ok () W4 ∧
    (Instr.mapUpdate 135 (.map (some r)) (.int .u8 1) (.func (.func 82) #[] #[])).run Try.prog W4 = .ok () W5 ∧
    (Instr.mapUpdate 135 (.map (some r)) (.int .u8 2) (.func (.func 83) #[] #[])).run Try.prog W5 = .ok () W6 ∧
    (Instr.mapUpdate 135 (.map (some r)) (.int .u8 11) (.func (.func 84) #[] #[])).run Try.prog W6 = .ok () W7 ∧
    W7.heap[r]? = some (.map #[⟨.int .u8 8, .func (.func 81) #[] #[], 0⟩, ⟨.int .u8 1, .func (.func 82) #[] #[], 1⟩, ⟨.int .u8 2, .func (.func 83) #[] #[], 2⟩, ⟨.int .u8 11, .func (.func 84) #[] #[], 3⟩] 4) ∧ Below W2.heap.size W2 W7 := by
  have h0 : (W2.alloc (.map #[] 0)).heap[r]? = some (.map #[] 0) := by rw [← hr]; exact World.alloc_heap_new W2 _
  have ht := Try.underlying135
  have hk := Try.underlying5
  have h1 := putObj_same (o' := .map #[⟨.int .u8 8, .func (.func 81) #[] #[], 0⟩] 1) h0
  have h2 := putObj_same (o' := .map #[⟨.int .u8 8, .func (.func 81) #[] #[], 0⟩, ⟨.int .u8 1, .func (.func 82) #[] #[], 1⟩] 2) h1
  have h3 := putObj_same (o' := .map #[⟨.int .u8 8, .func (.func 81) #[] #[], 0⟩, ⟨.int .u8 1, .func (.func 82) #[] #[], 1⟩, ⟨.int .u8 2, .func (.func 83) #[] #[], 2⟩] 3) h2
  have h4 := putObj_same (o' := .map #[⟨.int .u8 8, .func (.func 81) #[] #[], 0⟩, ⟨.int .u8 1, .func (.func 82) #[] #[], 1⟩, ⟨.int .u8 2, .func (.func 83) #[] #[], 2⟩, ⟨.int .u8 11, .func (.func 84) #[] #[], 3⟩] 4) h3
  refine ⟨_, _, _, _, _, by rw [run_makeMap_plain, hr], run_mapPut8 ht hk h0 rfl, run_mapPut8 ht hk h1 rfl, run_mapPut8 ht hk h2 rfl, run_mapPut8 ht hk h3 rfl, h4, ?_⟩
  exact below_putObj (below_putObj (below_putObj (below_putObj ((Below.refl _ _).alloc (Nat.le_refl _) _) (by omega)) (by omega)) (by omega)) (by omega)
set_option maxRecDepth 100000 in
set_option maxHeartbeats 2000000 in
theorem worth_summon (A0 : Option Addr) (c0 : Nat) (l0 : List S123) (p1 p2 p3 p4 p5 p6 : Int) (A7 : Option Addr) (c7 : Nat) (l7 : List S133) (n : Nat) (w : World)
    (hr0 : Kd.C k123 w A0 l0.length l0) (hr7 : Kd.C k133 w A7 l7.length l7) (hc7 : l7.length ≤ c7) (hn : n < l7.length) (hl : l7.length ≤ 9223372036854775807) (h2 : (rd_T133 l7 n).f0 = 2) (r : Int)
    (hcall : ∀ W', Below w.heap.size w W' → Calls Try.prog 83 #[.agg #[.slice A0 l0.length c0, .int .i64 p1, .int .i64 p2, .int .u8 p3, .int .i64 p4, .int .u8 p5, .int .u8 p6, .slice A7 l7.length c7], .agg #[.int .u8 2, .int .i64 (rd_T133 l7 n).f1, .int .i64 (rd_T133 l7 n).f2]] W' fun e w'' => e = .returned (.int .i64 r) ∧ Below W'.heap.size W' w'') :
    Calls Try.prog 55 #[.agg #[.slice A0 l0.length c0, .int .i64 p1, .int .i64 p2, .int .u8 p3, .int .i64 p4, .int .u8 p5, .int .u8 p6, .slice A7 l7.length c7], .int .i64 n] w fun e w' => e = .returned (.tuple #[.int .i64 r, .bool true]) ∧ Below w.heap.size w w' := by
  obtain ⟨ad, rfl, g0, g1, g2⟩ := at_T133 hr7 (n : Int) (by omega) (by omega)
  rw [h2] at g0
  have m0 := g0
  have hnn : (0 : Int) ≤ (n : Int) := by omega
  have hnl : (n : Int) < (l7.length : Int) := by omega
  have e0 : decide ((n : Int) < 0) = false := decide_eq_false (by omega)
  have e1 : decide ((n : Int) ≥ (l7.length : Int)) = false := decide_eq_false (by omega)
  simp only [Int.toNat_natCast] at g0 g1 g2
  have hA := World.block_lt_of_cell? w _ g0
  have e2 : decide (l7.length ≤ n) = false := decide_eq_false (by omega)
  have HCALL := Lib.hid hcall
  have HR0 := Lib.hid hr0
  have HR7 := Lib.hid hr7
  have HC7 := Lib.hid hc7
  have HN := Lib.hid hn
  have HL := Lib.hid hl
  clear hcall hr0 hr7 hc7 hn hl m0 h2
  go_enter Try.func55, Try.ntmps55
  go_wp2_with fail
  have b0 := Blk.new w 78 #[.slice A0 l0.length c0, .int .i64 p1, .int .i64 p2, .int .u8 p3, .int .i64 p4, .int .u8 p5, .int .u8 p6, .slice (some ad) l7.length c7]
  have b1 := Blk.new (w.alloc (.cells #[.slice A0 l0.length c0, .int .i64 p1, .int .i64 p2, .int .u8 p3, .int .i64 p4, .int .u8 p5, .int .u8 p6, .slice (some ad) l7.length c7] 78)) 133 #[.int .u8 2, .int .i64 (rd_T133 l7 n).f1, .int .i64 (rd_T133 l7 n).f2]
  replace b0 := b0.alloc (.cells #[.int .u8 2, .int .i64 (rd_T133 l7 n).f1, .int .i64 (rd_T133 l7 n).f2] 133)
  have hB : Below w.heap.size w ((w.alloc (.cells #[.slice A0 l0.length c0, .int .i64 p1, .int .i64 p2, .int .u8 p3, .int .i64 p4, .int .u8 p5, .int .u8 p6, .slice (some ad) l7.length c7] 78)).alloc (.cells #[.int .u8 2, .int .i64 (rd_T133 l7 n).f1, .int .i64 (rd_T133 l7 n).f2] 133)) := balloc (balloc (Below.refl _ _) _) _
  have hZ : ((w.alloc (.cells #[.slice A0 l0.length c0, .int .i64 p1, .int .i64 p2, .int .u8 p3, .int .i64 p4, .int .u8 p5, .int .u8 p6, .slice (some ad) l7.length c7] 78)).alloc (.cells #[.int .u8 2, .int .i64 (rd_T133 l7 n).f1, .int .i64 (rd_T133 l7 n).f2] 133)).heap.size = w.heap.size + 1 + 1 := by simp only [World.size_alloc]
  simp only [World.size_alloc] at b1
  generalize (w.alloc (.cells #[.slice A0 l0.length c0, .int .i64 p1, .int .i64 p2, .int .u8 p3, .int .i64 p4, .int .u8 p5, .int .u8 p6, .slice (some ad) l7.length c7] 78)).alloc (.cells #[.int .u8 2, .int .i64 (rd_T133 l7 n).f1, .int .i64 (rd_T133 l7 n).f2] 133) = W2 at b0 b1 hB hZ ⊢
  obtain ⟨g, hg⟩ : ∃ g, w.heap.size = g := ⟨_, rfl⟩
  rw [hg] at b0 b1 hB hZ ⊢
  obtain ⟨W3, W4, W5, W6, W7, q3, q4, q5, q6, q7, hm, hb7⟩ := made_map W2 (g + 1 + 1) (by rw [hZ])
  rw [hZ] at hb7
  have hget := run_mapGet8 (P := Try.prog) (t := 135) (k := 2) (i := 2) (v := .func (.func 83) #[] #[]) Try.underlying135 Try.underlying5 hm rfl
  have k0 := b0.below hb7 (by omega)
  have k1 := b1.below hb7 (by omega)
  have d0 := k0.cell 0
  have d1 := k0.cell 1
  have d2 := k0.cell 2
  have d3 := k0.cell 3
  have d4 := k0.cell 4
  have d5 := k0.cell 5
  have d6 := k0.cell 6
  have d7 := k0.cell 7
  have f0 := k1.cell 0
  have f1 := k1.cell 1
  have f2 := k1.cell 2
  simp only [List.getElem?_toArray, List.getElem?_cons_zero, List.getElem?_cons_succ] at d0 d1 d2 d3 d4 d5 d6 d7 f0 f1 f2
  have HB7 := Lib.hid hb7
  have HB := Lib.hid hB
  have HM := Lib.hid hm
  have K0 := Lib.hid k0
  have K1 := Lib.hid k1
  have HZ := Lib.hid hZ
  have HG := Lib.hid hg
  clear hb7 hB hm k0 k1 b0 b1 hZ hg
  simp only [q3, Result.andThen_ok]
  go_wp2_with fail
  have hW := HB.out.trans (HB7.out.mono (by omega))
  rw [← HG.out] at hW
  refine (HCALL.out W7 hW).mono ?_
  rintro e w8 ⟨rfl, hb8⟩
  have HB8 := Lib.hid hb8
  have HW := Lib.hid hW
  clear hb8 hW hget q3 q4 q5 q6 q7 d0 d1 d2 d3 d4 d5 d6 d7 f0 f1 f2
  go_wp2_with fail
  go_ret2
  refine ⟨rfl, bstep ?_ HB8.out⟩
  rw [HG.out] at *
  exact HW.out
set_option maxRecDepth 100000 in
set_option maxHeartbeats 2000000 in
theorem worth_plain (A0 : Option Addr) (c0 : Nat) (l0 : List S123) (p1 p2 p3 p4 p5 p6 : Int) (A7 : Option Addr) (c7 : Nat) (l7 : List S133) (n : Nat) (w : World)
    (hr0 : Kd.C k123 w A0 l0.length l0) (hr7 : Kd.C k133 w A7 l7.length l7) (hc7 : l7.length ≤ c7) (hn : n < l7.length) (hl : l7.length ≤ 9223372036854775807) (x : Int) (h2 : (rd_T133 l7 n).f0 = x) (x8 : x ≠ 8) (x1 : x ≠ 1) (x2 : x ≠ 2) (x11 : x ≠ 11) (r : Int)
    (hcall : ∀ W', Below w.heap.size w W' → Calls Try.prog 85 #[.int .u8 x] W' fun e w'' => e = .returned (.int .i64 r) ∧ Below W'.heap.size W' w'') :
    Calls Try.prog 55 #[.agg #[.slice A0 l0.length c0, .int .i64 p1, .int .i64 p2, .int .u8 p3, .int .i64 p4, .int .u8 p5, .int .u8 p6, .slice A7 l7.length c7], .int .i64 n] w fun e w' => e = .returned (.tuple #[.int .i64 r, .bool true]) ∧ Below w.heap.size w w' := by
  obtain ⟨ad, rfl, g0, g1, g2⟩ := at_T133 hr7 (n : Int) (by omega) (by omega)
  rw [h2] at g0
  have m0 := g0
  have hnn : (0 : Int) ≤ (n : Int) := by omega
  have hnl : (n : Int) < (l7.length : Int) := by omega
  have e0 : decide ((n : Int) < 0) = false := decide_eq_false (by omega)
  have e1 : decide ((n : Int) ≥ (l7.length : Int)) = false := decide_eq_false (by omega)
  simp only [Int.toNat_natCast] at g0 g1 g2
  have hA := World.block_lt_of_cell? w _ g0
  have e2 : decide (l7.length ≤ n) = false := decide_eq_false (by omega)
  have HCALL := Lib.hid hcall
  have HR0 := Lib.hid hr0
  have HR7 := Lib.hid hr7
  have HC7 := Lib.hid hc7
  have HN := Lib.hid hn
  have HL := Lib.hid hl
  clear hcall hr0 hr7 hc7 hn hl m0 h2
  go_enter Try.func55, Try.ntmps55
  go_wp2_with fail
  have b0 := Blk.new w 78 #[.slice A0 l0.length c0, .int .i64 p1, .int .i64 p2, .int .u8 p3, .int .i64 p4, .int .u8 p5, .int .u8 p6, .slice (some ad) l7.length c7]
  have b1 := Blk.new (w.alloc (.cells #[.slice A0 l0.length c0, .int .i64 p1, .int .i64 p2, .int .u8 p3, .int .i64 p4, .int .u8 p5, .int .u8 p6, .slice (some ad) l7.length c7] 78)) 133 #[.int .u8 x, .int .i64 (rd_T133 l7 n).f1, .int .i64 (rd_T133 l7 n).f2]
  replace b0 := b0.alloc (.cells #[.int .u8 x, .int .i64 (rd_T133 l7 n).f1, .int .i64 (rd_T133 l7 n).f2] 133)
  have hB : Below w.heap.size w ((w.alloc (.cells #[.slice A0 l0.length c0, .int .i64 p1, .int .i64 p2, .int .u8 p3, .int .i64 p4, .int .u8 p5, .int .u8 p6, .slice (some ad) l7.length c7] 78)).alloc (.cells #[.int .u8 x, .int .i64 (rd_T133 l7 n).f1, .int .i64 (rd_T133 l7 n).f2] 133)) := balloc (balloc (Below.refl _ _) _) _
  have hZ : ((w.alloc (.cells #[.slice A0 l0.length c0, .int .i64 p1, .int .i64 p2, .int .u8 p3, .int .i64 p4, .int .u8 p5, .int .u8 p6, .slice (some ad) l7.length c7] 78)).alloc (.cells #[.int .u8 x, .int .i64 (rd_T133 l7 n).f1, .int .i64 (rd_T133 l7 n).f2] 133)).heap.size = w.heap.size + 1 + 1 := by simp only [World.size_alloc]
  simp only [World.size_alloc] at b1
  generalize (w.alloc (.cells #[.slice A0 l0.length c0, .int .i64 p1, .int .i64 p2, .int .u8 p3, .int .i64 p4, .int .u8 p5, .int .u8 p6, .slice (some ad) l7.length c7] 78)).alloc (.cells #[.int .u8 x, .int .i64 (rd_T133 l7 n).f1, .int .i64 (rd_T133 l7 n).f2] 133) = W2 at b0 b1 hB hZ ⊢
  obtain ⟨g, hg⟩ : ∃ g, w.heap.size = g := ⟨_, rfl⟩
  rw [hg] at b0 b1 hB hZ ⊢
  obtain ⟨W3, W4, W5, W6, W7, q3, q4, q5, q6, q7, hm, hb7⟩ := made_map W2 (g + 1 + 1) (by rw [hZ])
  rw [hZ] at hb7
  have hfind : Instr.findNow (.int .u8) (.int .u8 x) [⟨.int .u8 8, .func (.func 81) #[] #[], 0⟩, ⟨.int .u8 1, .func (.func 82) #[] #[], 1⟩, ⟨.int .u8 2, .func (.func 83) #[] #[], 2⟩, ⟨.int .u8 11, .func (.func 84) #[] #[], 3⟩] 0 = some none := by
    have y8 : (x == 8) = false := beq_eq_false_iff_ne.mpr x8
    have y1 : (x == 1) = false := beq_eq_false_iff_ne.mpr x1
    have y2 : (x == 2) = false := beq_eq_false_iff_ne.mpr x2
    have y11 : (x == 11) = false := beq_eq_false_iff_ne.mpr x11
    simp [Instr.findNow, Instr.sameNow, y8, y1, y2, y11]
  have hget := run_mapMiss8 (P := Try.prog) (t := 135) (k := x) Try.underlying135 Try.underlying5 hm hfind (Try.zeroValue134 _)
  clear hfind
  have k0 := b0.below hb7 (by omega)
  have k1 := b1.below hb7 (by omega)
  have d0 := k0.cell 0
  have d1 := k0.cell 1
  have d2 := k0.cell 2
  have d3 := k0.cell 3
  have d4 := k0.cell 4
  have d5 := k0.cell 5
  have d6 := k0.cell 6
  have d7 := k0.cell 7
  have f0 := k1.cell 0
  have f1 := k1.cell 1
  have f2 := k1.cell 2
  simp only [List.getElem?_toArray, List.getElem?_cons_zero, List.getElem?_cons_succ] at d0 d1 d2 d3 d4 d5 d6 d7 f0 f1 f2
  have HB7 := Lib.hid hb7
  have HB := Lib.hid hB
  have HM := Lib.hid hm
  have K0 := Lib.hid k0
  have K1 := Lib.hid k1
  have HZ := Lib.hid hZ
  have HG := Lib.hid hg
  clear hb7 hB hm k0 k1 b0 b1 hZ hg
  simp only [q3, Result.andThen_ok]
  go_wp2_with fail
  have hW := HB.out.trans (HB7.out.mono (by omega))
  rw [← HG.out] at hW
  refine (HCALL.out W7 hW).mono ?_
  rintro e w8 ⟨rfl, hb8⟩
  have HB8 := Lib.hid hb8
  have HW := Lib.hid hW
  clear hb8 hW hget q3 q4 q5 q6 q7 d0 d1 d2 d3 d4 d5 d6 d7 f0 f1 f2
  go_wp2_with fail
  go_ret2
  refine ⟨rfl, bstep ?_ HB8.out⟩
  rw [HG.out] at *
  exact HW.out
set_option maxRecDepth 100000 in
set_option maxHeartbeats 2000000 in
theorem worth_none (A0 : Option Addr) (c0 : Nat) (l0 : List S123) (p1 p2 p3 p4 p5 p6 : Int) (A7 : Option Addr) (c7 : Nat) (l7 : List S133) (n : Int) (w : World) (h : n < 0 ∨ (l7.length : Int) ≤ n) :
    Calls Try.prog 55 #[.agg #[.slice A0 l0.length c0, .int .i64 p1, .int .i64 p2, .int .u8 p3, .int .i64 p4, .int .u8 p5, .int .u8 p6, .slice A7 l7.length c7], .int .i64 n] w fun e w' => e = .returned (.tuple #[.int .i64 0, .bool false]) ∧ Below w.heap.size w w' := by
  by_cases h0 : n < 0
  · have e0 : decide (n < 0) = true := decide_eq_true h0
    clear h h0
    go_enter Try.func55, Try.ntmps55
    go_wp2_with fail
    go_ret2
    exact ⟨rfl, balloc (Below.refl _ _) _⟩
  · have e0 : decide (n < 0) = false := decide_eq_false h0
    have e1 : decide (n ≥ (l7.length : Int)) = true := decide_eq_true (by omega)
    clear h h0
    go_enter Try.func55, Try.ntmps55
    go_wp2_with fail
    go_ret2
    exact ⟨rfl, balloc (Below.refl _ _) _⟩
end Go.Proofs.Ytnceobnglofnmaa.Pil
end
section
/- What an option is worth, as a contract for the prints: a summon, or what is told by the kind alone (the others: nothing is told here). -/
namespace Go.Proofs.Ytnceobnglofnmaa.Base
open Go Go.RowKit Go.Proofs.YtnceobnglofnmaaW.PrintWords Go.Proofs.Ytnceobnglofnmaa.Ppia Go.Proofs.Ytnceobnglofnmaa.Pil

def pilot_Worth.f (l0_0 : List S123) (a0_1 a0_2 a0_3 a0_4 a0_5 a0_6 : Int) (l0_7 : List S133) (a1 : Int) : Option (Int × Bool) :=
  if a1 < 0 then some (0, false) else if (l0_7.length : Int) ≤ a1 then some (0, false) else
  if (rd_T133 l0_7 a1).f0 = 8 then none else if (rd_T133 l0_7 a1).f0 = 1 then none else if (rd_T133 l0_7 a1).f0 = 11 then none else
  if (rd_T133 l0_7 a1).f0 = 2 then (pilot_summon.f l0_0 a0_1 a0_2 a0_3 a0_4 a0_5 a0_6 l0_7 2 (rd_T133 l0_7 a1).f1 (rd_T133 l0_7 a1).f2).bind fun t => some (t, true)
  else (pilot_plain.f (rd_T133 l0_7 a1).f0).bind fun t => some (t, true)
theorem pilot_Worth.calls (A0_0 : Option Addr) (c0_0 : Nat) (l0_0 : List S123) (a0_1 a0_2 a0_3 a0_4 a0_5 a0_6 : Int) (A0_7 : Option Addr) (c0_7 : Nat) (l0_7 : List S133) (a1 : Int) (r1 : Int) (r2 : Bool) (w : World)
    (hr0_0 : Kd.C k123 w A0_0 l0_0.length l0_0) (hc0_0 : l0_0.length ≤ c0_0) (hr0_7 : Kd.C k133 w A0_7 l0_7.length l0_7) (hc0_7 : l0_7.length ≤ c0_7) (h : pilot_Worth.f l0_0 a0_1 a0_2 a0_3 a0_4 a0_5 a0_6 l0_7 a1 = some (r1, r2)) :
    Calls Try.prog 55 #[.agg #[.slice A0_0 l0_0.length c0_0, .int .i64 a0_1, .int .i64 a0_2, .int .u8 a0_3, .int .i64 a0_4, .int .u8 a0_5, .int .u8 a0_6, .slice A0_7 l0_7.length c0_7], .int .i64 a1] w fun e w' =>
      e = .returned (.tuple #[.int .i64 r1, .bool r2]) ∧ Below w.heap.size w w' := by
  unfold pilot_Worth.f at h
  by_cases h0 : a1 < 0
  · rw [if_pos h0] at h
    obtain ⟨rfl, rfl⟩ := Prod.mk.inj (Option.some.inj h)
    exact worth_none _ _ _ _ _ _ _ _ _ _ _ _ _ _ (.inl h0)
  rw [if_neg h0] at h
  by_cases h1 : (l0_7.length : Int) ≤ a1
  · rw [if_pos h1] at h
    obtain ⟨rfl, rfl⟩ := Prod.mk.inj (Option.some.inj h)
    exact worth_none _ _ _ _ _ _ _ _ _ _ _ _ _ _ (.inr h1)
  rw [if_neg h1] at h
  obtain ⟨n, rfl⟩ := Int.eq_ofNat_of_zero_le (show 0 ≤ a1 by omega)
  have hl : l0_7.length ≤ 9223372036854775807 := hr0_7.2.1
  by_cases h8 : (rd_T133 l0_7 (n : Int)).f0 = 8
  · rw [if_pos h8] at h; cases h
  rw [if_neg h8] at h
  by_cases h01 : (rd_T133 l0_7 (n : Int)).f0 = 1
  · rw [if_pos h01] at h; cases h
  rw [if_neg h01] at h
  by_cases h11 : (rd_T133 l0_7 (n : Int)).f0 = 11
  · rw [if_pos h11] at h; cases h
  rw [if_neg h11] at h
  by_cases h2 : (rd_T133 l0_7 (n : Int)).f0 = 2
  · rw [if_pos h2] at h
    obtain ⟨t, ht, h⟩ := Option.bind_eq_some_iff.1 h
    obtain ⟨rfl, rfl⟩ := Prod.mk.inj (Option.some.inj h)
    exact worth_summon A0_0 c0_0 l0_0 _ _ _ _ _ _ A0_7 c0_7 l0_7 n w hr0_0 hr0_7 hc0_7 (by omega) hl h2 _ fun W' hb =>
      pilot_summon.calls A0_0 c0_0 l0_0 _ _ _ _ _ _ A0_7 c0_7 l0_7 _ _ _ _ W' (Kd.C_below hr0_0 hb) hc0_0 (Kd.C_below hr0_7 hb) hc0_7 ht
  · rw [if_neg h2] at h
    obtain ⟨t, ht, h⟩ := Option.bind_eq_some_iff.1 h
    obtain ⟨rfl, rfl⟩ := Prod.mk.inj (Option.some.inj h)
    refine worth_plain A0_0 c0_0 l0_0 _ _ _ _ _ _ A0_7 c0_7 l0_7 n w hr0_0 hr0_7 hc0_7 (by omega) hl _ rfl h8 h01 h2 h11 _ fun W' hb => ?_
    refine (pilot_plain.calls _ _ W' ht).mono ?_
    rintro e w'' ⟨he, m, rfl⟩
    exact ⟨he, bdrewN (Below.refl _ _) m⟩
end Go.Proofs.Ytnceobnglofnmaa.Base
end
section
/- What is given ahead of the ways to choose. -/
end
section
/- How arguments of struct types read: for the rows. -/
namespace Go.Proofs.Ytnceobnglofnmaa.Opens
open Go.ChangeShapes Go.WideShapes Go.Deep Go.RowKit Go.Proofs.YtnceobnglofnmaaW.PrintWords Go.Proofs.Ytnceobnglofnmaa.Ppia
set_option maxRecDepth 100000
def ok123 (x : S123) : Prop := ((Lit.int .u8 x.f0).wf = true) ∧ ((Lit.int .i64 x.f1).wf = true) ∧ ((Lit.int .u8 x.f2).wf = true) ∧ ((Lit.int .u8 x.f3).wf = true) ∧ True ∧ ((Lit.int .i64 x.f5).wf = true) ∧ ((Lit.int .i64 x.f6).wf = true) ∧ True ∧ True
theorem opens123 : Opens Try.prog 123 k123 ok123 := by
  have h : Opens Try.prog 123 (Kd.iso _ (fun x : S123 => (x.f0, x.f1, x.f2, x.f3, x.f4, x.f5, x.f6, x.f7, x.f8))) _ := Opens.struct Try.underlying123 (by kernel_rfl) (fun x : S123 => (x.f0, x.f1, x.f2, x.f3, x.f4, x.f5, x.f6, x.f7, x.f8)) (fun p => ⟨p.1, p.2.1, p.2.2.1, p.2.2.2.1, p.2.2.2.2.1, p.2.2.2.2.2.1, p.2.2.2.2.2.2.1, p.2.2.2.2.2.2.2.1, p.2.2.2.2.2.2.2.2⟩) (fun _ => rfl) (fun m => (fs_cons ((Opens.int Try.underlying5) m) (by rfl) (by kernel_rfl) (by kernel_rfl) (fs_cons ((Opens.int Try.underlying3) m) (by rfl) (by kernel_rfl) (by kernel_rfl) (fs_cons ((Opens.int Try.underlying5) m) (by rfl) (by kernel_rfl) (by kernel_rfl) (fs_cons ((Opens.int Try.underlying5) m) (by rfl) (by kernel_rfl) (by kernel_rfl) (fs_cons ((Opens.bool Try.underlying4) m) (by rfl) (by kernel_rfl) (by kernel_rfl) (fs_cons ((Opens.int Try.underlying3) m) (by rfl) (by kernel_rfl) (by kernel_rfl) (fs_cons ((Opens.int Try.underlying3) m) (by rfl) (by kernel_rfl) (by kernel_rfl) (fs_cons ((Opens.bool Try.underlying4) m) (by rfl) (by kernel_rfl) (by kernel_rfl) (fs_last ((Opens.bool Try.underlying4) m) (by rfl) (by kernel_rfl)))))))))))
  exact h
def ok133 (x : S133) : Prop := ((Lit.int .u8 x.f0).wf = true) ∧ ((Lit.int .i64 x.f1).wf = true) ∧ ((Lit.int .i64 x.f2).wf = true)
theorem opens133 : Opens Try.prog 133 k133 ok133 := by
  have h : Opens Try.prog 133 (Kd.iso _ (fun x : S133 => (x.f0, x.f1, x.f2))) _ := Opens.struct Try.underlying133 (by kernel_rfl) (fun x : S133 => (x.f0, x.f1, x.f2)) (fun p => ⟨p.1, p.2.1, p.2.2⟩) (fun _ => rfl) (fun m => (fs_cons ((Opens.int Try.underlying5) m) (by rfl) (by kernel_rfl) (by kernel_rfl) (fs_cons ((Opens.int Try.underlying3) m) (by rfl) (by kernel_rfl) (by kernel_rfl) (fs_last ((Opens.int Try.underlying3) m) (by rfl) (by kernel_rfl)))))
  exact h
end Go.Proofs.Ytnceobnglofnmaa.Opens
end
