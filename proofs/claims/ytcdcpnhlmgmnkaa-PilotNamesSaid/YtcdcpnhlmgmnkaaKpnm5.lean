/- Joined by a program of this session (pack.py) out of: Map8 Pilx Pilz Pily BaseMw Ev -/
import Derived.Laws.Bits64
import Derived.Lib.Hide
import Derived.RangeFuncRecord
import Derived.WideMake
import Derived.Test.YtcdcpnhlmgmnkaaKpnm1
import Derived.Test.YtcdcpnhlmgmnkaaKpnm3
import Derived.Test.YtcdcpnhlmgmnkaaKpnm4
section
/- A map whose keys are bytes: a new entry, a look-up, where the entries are known. -/
namespace Go.Proofs.Ytcdcpnhlmgmnkaa.Base
open Go Go.RowKit
section
variable {P : Program} {t kt et : TypeId} {W : World} {r c : Nat} {es : Array MapEntry} {k : Int} {v : Value}
theorem run_getMap (h : W.heap[r]? = some (.map es c)) : (getObj r).run P W = .ok (.map es c) W := by simp [getObj, Sem.run, h]
theorem run_setMap (o : Obj) (h : W.heap[r]? = some (.map es c)) : (setObj r o).run P W = .ok () (W.putObj r o) := by simp [setObj, Sem.run, h, World.putObj]
theorem run_checkKey8 (b : Bool) (hk : P.underlying kt = some (.int .u8)) : (Instr.checkKey b 10000 kt (.int .u8 k)).run P W = .ok () W := by
  rw [show (10000 : Nat) = 9999 + 1 from rfl, Instr.checkKey]
  simp only [Sem.run_bind, run_underlying hk, Result.andThen_ok]
  rfl
theorem run_findKey8 {l : List MapEntry} {x : Option (Nat × Value)} (hk : P.underlying kt = some (.int .u8)) (hn : Instr.findNow (.int .u8) (.int .u8 k) l 0 = some x) : (Instr.findKey kt (.int .u8 k) l).run P W = .ok x W := by
  unfold Instr.findKey
  simp only [Sem.run_bind, run_underlying hk, Result.andThen_ok, hn]
  rfl
theorem run_mapPut8 (ht : P.underlying t = some (.map kt et)) (hk : P.underlying kt = some (.int .u8)) (h : W.heap[r]? = some (.map es c)) (hn : Instr.findNow (.int .u8) (.int .u8 k) es.toList 0 = some none) :
    (Instr.mapUpdate t (.map (some r)) (.int .u8 k) v).run P W = .ok () (W.putObj r (.map (es.push { key := .int .u8 k, val := v, born := c }) (c + 1))) := by
  unfold Instr.mapUpdate
  simp only [Sem.run_bind, run_underlying ht, Result.andThen_ok, run_getMap h, run_checkKey8 false hk, run_findKey8 hk hn, run_setMap _ h]
theorem run_mapGet8 {i : Nat} (ht : P.underlying t = some (.map kt et)) (hk : P.underlying kt = some (.int .u8)) (h : W.heap[r]? = some (.map es c)) (hn : Instr.findNow (.int .u8) (.int .u8 k) es.toList 0 = some (some (i, v))) :
    (Instr.lookup t (.map (some r)) (.int .u8 k) true).run P W = .ok (.tuple #[v, .bool true]) W := by
  unfold Instr.lookup
  simp only [Sem.run_bind, run_underlying ht, Result.andThen_ok, run_getMap h, run_checkKey8 _ hk, run_findKey8 hk hn, Sem.run_pure]
  rfl
theorem run_mapMiss8 {z : Value} (ht : P.underlying t = some (.map kt et)) (hk : P.underlying kt = some (.int .u8)) (h : W.heap[r]? = some (.map es c)) (hn : Instr.findNow (.int .u8) (.int .u8 k) es.toList 0 = some none)
    (hz : (zeroValue et).run P W = .ok z W) : (Instr.lookup t (.map (some r)) (.int .u8 k) true).run P W = .ok (.tuple #[z, .bool false]) W := by
  unfold Instr.lookup
  simp only [Sem.run_bind, run_underlying ht, Result.andThen_ok, run_getMap h, run_checkKey8 _ hk, run_findKey8 hk hn, hz, Sem.run_pure]
  rfl
end
end Go.Proofs.Ytcdcpnhlmgmnkaa.Base
end
section
/- What an option is worth: the walk through the map of ways. -/
namespace Go.Proofs.Ytcdcpnhlmgmnkaa.Pil
open Go Go.RowKit Go.Proofs.Ytcdcpnhlmgmnkaa.Base Go.Proofs.YtcdcpnhlmgmnkaaW.PrintWords Go.Proofs.Ytcdcpnhlmgmnkaa.Ppia

theorem putObj_same {W : World} {r : Nat} {o o' : Obj} (h : W.heap[r]? = some o) : (W.putObj r o').heap[r]? = some o' := World.putObj_heap_same (Array.getElem?_eq_some_iff.1 h).1
theorem below_putObj {n r : Nat} {A W : World} {o : Obj} (h : Below n A W) (hl : n ≤ r) : Below n A (W.putObj r o) :=
  h.trans ⟨rfl, rfl, rfl, by simp [World.putObj], fun k hk => World.putObj_heap_other (by omega)⟩
/-- The map of ways, made. -/
theorem made_map (W2 : World) (r : Nat) (hr : W2.heap.size = r) : ∃ W3 W4 W5 W6 W7 : World,
    (Instr.makeMap 56 none).run Try.prog W2 = .ok (.map (some r)) W3 ∧
    (Instr.mapUpdate 56 (.map (some r)) (.int .u8 8) (.func (.func 17) #[] #[])).run Try.prog W3 = .ok () W4 ∧
    (Instr.mapUpdate 56 (.map (some r)) (.int .u8 1) (.func (.func 18) #[] #[])).run Try.prog W4 = .ok () W5 ∧
    (Instr.mapUpdate 56 (.map (some r)) (.int .u8 2) (.func (.func 19) #[] #[])).run Try.prog W5 = .ok () W6 ∧
    (Instr.mapUpdate 56 (.map (some r)) (.int .u8 11) (.func (.func 20) #[] #[])).run Try.prog W6 = .ok () W7 ∧
    W7.heap[r]? = some (.map #[⟨.int .u8 8, .func (.func 17) #[] #[], 0⟩, ⟨.int .u8 1, .func (.func 18) #[] #[], 1⟩, ⟨.int .u8 2, .func (.func 19) #[] #[], 2⟩, ⟨.int .u8 11, .func (.func 20) #[] #[], 3⟩] 4) ∧ Below W2.heap.size W2 W7 := by
  have h0 : (W2.alloc (.map #[] 0)).heap[r]? = some (.map #[] 0) := by rw [← hr]; exact World.alloc_heap_new W2 _
  have ht := Try.underlying56
  have hk := Try.underlying5
  have h1 := putObj_same (o' := .map #[⟨.int .u8 8, .func (.func 17) #[] #[], 0⟩] 1) h0
  have h2 := putObj_same (o' := .map #[⟨.int .u8 8, .func (.func 17) #[] #[], 0⟩, ⟨.int .u8 1, .func (.func 18) #[] #[], 1⟩] 2) h1
  have h3 := putObj_same (o' := .map #[⟨.int .u8 8, .func (.func 17) #[] #[], 0⟩, ⟨.int .u8 1, .func (.func 18) #[] #[], 1⟩, ⟨.int .u8 2, .func (.func 19) #[] #[], 2⟩] 3) h2
  have h4 := putObj_same (o' := .map #[⟨.int .u8 8, .func (.func 17) #[] #[], 0⟩, ⟨.int .u8 1, .func (.func 18) #[] #[], 1⟩, ⟨.int .u8 2, .func (.func 19) #[] #[], 2⟩, ⟨.int .u8 11, .func (.func 20) #[] #[], 3⟩] 4) h3
  refine ⟨_, _, _, _, _, by rw [run_makeMap_plain, hr], run_mapPut8 ht hk h0 rfl, run_mapPut8 ht hk h1 rfl, run_mapPut8 ht hk h2 rfl, run_mapPut8 ht hk h3 rfl, h4, ?_⟩
  exact below_putObj (below_putObj (below_putObj (below_putObj ((Below.refl _ _).alloc (Nat.le_refl _) _) (by omega)) (by omega)) (by omega)) (by omega)
set_option maxRecDepth 100000 in
set_option maxHeartbeats 2000000 in
theorem worth_attack (A0 : Option Addr) (c0 : Nat) (l0 : List S52) (p1 p2 p3 p4 p5 p6 : Int) (A7 : Option Addr) (c7 : Nat) (l7 : List S54) (n : Nat) (w : World)
    (hr0 : Kd.C k52 w A0 l0.length l0) (hr7 : Kd.C k54 w A7 l7.length l7) (hc7 : l7.length ≤ c7) (hn : n < l7.length) (hl : l7.length ≤ 9223372036854775807) (h2 : (rd_T54 l7 n).f0 = 8) (r : Int)
    (hcall : ∀ W', Below w.heap.size w W' → Calls Try.prog 17 #[.agg #[.slice A0 l0.length c0, .int .i64 p1, .int .i64 p2, .int .u8 p3, .int .i64 p4, .int .u8 p5, .int .u8 p6, .slice A7 l7.length c7], .agg #[.int .u8 8, .int .i64 (rd_T54 l7 n).f1, .int .i64 (rd_T54 l7 n).f2]] W' fun e w'' => e = .returned (.int .i64 r) ∧ Below W'.heap.size W' w'') :
    Calls Try.prog 15 #[.agg #[.slice A0 l0.length c0, .int .i64 p1, .int .i64 p2, .int .u8 p3, .int .i64 p4, .int .u8 p5, .int .u8 p6, .slice A7 l7.length c7], .int .i64 n] w fun e w' => e = .returned (.tuple #[.int .i64 r, .bool true]) ∧ Below w.heap.size w w' := by
  obtain ⟨ad, rfl, g0, g1, g2⟩ := at_T54 hr7 (n : Int) (by omega) (by omega)
  rw [h2] at g0
  have m0 := g0
  have hnn : (0 : Int) ≤ (n : Int) := by omega
  have hnl : (n : Int) < (l7.length : Int) := by omega
  have e0 : decide ((n : Int) < 0) = false := decide_eq_false (by omega)
  have e1 : decide ((n : Int) ≥ (l7.length : Int)) = false := decide_eq_false (by omega)
  simp only [Int.toNat_natCast] at g0 g1 g2
  have hA := World.block_lt_of_cell? w _ g0
  have e2 : decide (l7.length ≤ n) = false := decide_eq_false (by omega)
  have HCALL := Lib.hid hcall
  have HR0 := Lib.hid hr0
  have HR7 := Lib.hid hr7
  have HC7 := Lib.hid hc7
  have HN := Lib.hid hn
  have HL := Lib.hid hl
  clear hcall hr0 hr7 hc7 hn hl m0 h2
  go_enter Try.func15, Try.ntmps15
  go_wp2_with fail
  have b0 := Blk.new w 41 #[.slice A0 l0.length c0, .int .i64 p1, .int .i64 p2, .int .u8 p3, .int .i64 p4, .int .u8 p5, .int .u8 p6, .slice (some ad) l7.length c7]
  have b1 := Blk.new (w.alloc (.cells #[.slice A0 l0.length c0, .int .i64 p1, .int .i64 p2, .int .u8 p3, .int .i64 p4, .int .u8 p5, .int .u8 p6, .slice (some ad) l7.length c7] 41)) 54 #[.int .u8 8, .int .i64 (rd_T54 l7 n).f1, .int .i64 (rd_T54 l7 n).f2]
  replace b0 := b0.alloc (.cells #[.int .u8 8, .int .i64 (rd_T54 l7 n).f1, .int .i64 (rd_T54 l7 n).f2] 54)
  have hB : Below w.heap.size w ((w.alloc (.cells #[.slice A0 l0.length c0, .int .i64 p1, .int .i64 p2, .int .u8 p3, .int .i64 p4, .int .u8 p5, .int .u8 p6, .slice (some ad) l7.length c7] 41)).alloc (.cells #[.int .u8 8, .int .i64 (rd_T54 l7 n).f1, .int .i64 (rd_T54 l7 n).f2] 54)) := balloc (balloc (Below.refl _ _) _) _
  have hZ : ((w.alloc (.cells #[.slice A0 l0.length c0, .int .i64 p1, .int .i64 p2, .int .u8 p3, .int .i64 p4, .int .u8 p5, .int .u8 p6, .slice (some ad) l7.length c7] 41)).alloc (.cells #[.int .u8 8, .int .i64 (rd_T54 l7 n).f1, .int .i64 (rd_T54 l7 n).f2] 54)).heap.size = w.heap.size + 1 + 1 := by simp only [World.size_alloc]
  simp only [World.size_alloc] at b1
  generalize (w.alloc (.cells #[.slice A0 l0.length c0, .int .i64 p1, .int .i64 p2, .int .u8 p3, .int .i64 p4, .int .u8 p5, .int .u8 p6, .slice (some ad) l7.length c7] 41)).alloc (.cells #[.int .u8 8, .int .i64 (rd_T54 l7 n).f1, .int .i64 (rd_T54 l7 n).f2] 54) = W2 at b0 b1 hB hZ ⊢
  obtain ⟨g, hg⟩ : ∃ g, w.heap.size = g := ⟨_, rfl⟩
  rw [hg] at b0 b1 hB hZ ⊢
  obtain ⟨W3, W4, W5, W6, W7, q3, q4, q5, q6, q7, hm, hb7⟩ := made_map W2 (g + 1 + 1) (by rw [hZ])
  rw [hZ] at hb7
  have hget := run_mapGet8 (P := Try.prog) (t := 56) (k := 8) (i := 0) (v := .func (.func 17) #[] #[]) Try.underlying56 Try.underlying5 hm rfl
  have k0 := b0.below hb7 (by omega)
  have k1 := b1.below hb7 (by omega)
  have d0 := k0.cell 0
  have d1 := k0.cell 1
  have d2 := k0.cell 2
  have d3 := k0.cell 3
  have d4 := k0.cell 4
  have d5 := k0.cell 5
  have d6 := k0.cell 6
  have d7 := k0.cell 7
  have f0 := k1.cell 0
  have f1 := k1.cell 1
  have f2 := k1.cell 2
  simp only [List.getElem?_toArray, List.getElem?_cons_zero, List.getElem?_cons_succ] at d0 d1 d2 d3 d4 d5 d6 d7 f0 f1 f2
  have HB7 := Lib.hid hb7
  have HB := Lib.hid hB
  have HM := Lib.hid hm
  have K0 := Lib.hid k0
  have K1 := Lib.hid k1
  have HZ := Lib.hid hZ
  have HG := Lib.hid hg
  clear hb7 hB hm k0 k1 b0 b1 hZ hg
  simp only [q3, Result.andThen_ok]
  go_wp2_with fail
  have hW := HB.out.trans (HB7.out.mono (by omega))
  rw [← HG.out] at hW
  refine (HCALL.out W7 hW).mono ?_
  rintro e w8 ⟨rfl, hb8⟩
  have HB8 := Lib.hid hb8
  have HW := Lib.hid hW
  clear hb8 hW hget q3 q4 q5 q6 q7 d0 d1 d2 d3 d4 d5 d6 d7 f0 f1 f2
  go_wp2_with fail
  go_ret2
  refine ⟨rfl, bstep ?_ HB8.out⟩
  rw [HG.out] at *
  exact HW.out
set_option maxRecDepth 100000 in
set_option maxHeartbeats 2000000 in
theorem worth_card (A0 : Option Addr) (c0 : Nat) (l0 : List S52) (p1 p2 p3 p4 p5 p6 : Int) (A7 : Option Addr) (c7 : Nat) (l7 : List S54) (n : Nat) (w : World)
    (hr0 : Kd.C k52 w A0 l0.length l0) (hr7 : Kd.C k54 w A7 l7.length l7) (hc7 : l7.length ≤ c7) (hn : n < l7.length) (hl : l7.length ≤ 9223372036854775807) (h2 : (rd_T54 l7 n).f0 = 1) (r : Int)
    (hcall : ∀ W', Below w.heap.size w W' → Calls Try.prog 18 #[.agg #[.slice A0 l0.length c0, .int .i64 p1, .int .i64 p2, .int .u8 p3, .int .i64 p4, .int .u8 p5, .int .u8 p6, .slice A7 l7.length c7], .agg #[.int .u8 1, .int .i64 (rd_T54 l7 n).f1, .int .i64 (rd_T54 l7 n).f2]] W' fun e w'' => e = .returned (.int .i64 r) ∧ Below W'.heap.size W' w'') :
    Calls Try.prog 15 #[.agg #[.slice A0 l0.length c0, .int .i64 p1, .int .i64 p2, .int .u8 p3, .int .i64 p4, .int .u8 p5, .int .u8 p6, .slice A7 l7.length c7], .int .i64 n] w fun e w' => e = .returned (.tuple #[.int .i64 r, .bool true]) ∧ Below w.heap.size w w' := by
  obtain ⟨ad, rfl, g0, g1, g2⟩ := at_T54 hr7 (n : Int) (by omega) (by omega)
  rw [h2] at g0
  have m0 := g0
  have hnn : (0 : Int) ≤ (n : Int) := by omega
  have hnl : (n : Int) < (l7.length : Int) := by omega
  have e0 : decide ((n : Int) < 0) = false := decide_eq_false (by omega)
  have e1 : decide ((n : Int) ≥ (l7.length : Int)) = false := decide_eq_false (by omega)
  simp only [Int.toNat_natCast] at g0 g1 g2
  have hA := World.block_lt_of_cell? w _ g0
  have e2 : decide (l7.length ≤ n) = false := decide_eq_false (by omega)
  have HCALL := Lib.hid hcall
  have HR0 := Lib.hid hr0
  have HR7 := Lib.hid hr7
  have HC7 := Lib.hid hc7
  have HN := Lib.hid hn
  have HL := Lib.hid hl
  clear hcall hr0 hr7 hc7 hn hl m0 h2
  go_enter Try.func15, Try.ntmps15
  go_wp2_with fail
  have b0 := Blk.new w 41 #[.slice A0 l0.length c0, .int .i64 p1, .int .i64 p2, .int .u8 p3, .int .i64 p4, .int .u8 p5, .int .u8 p6, .slice (some ad) l7.length c7]
  have b1 := Blk.new (w.alloc (.cells #[.slice A0 l0.length c0, .int .i64 p1, .int .i64 p2, .int .u8 p3, .int .i64 p4, .int .u8 p5, .int .u8 p6, .slice (some ad) l7.length c7] 41)) 54 #[.int .u8 1, .int .i64 (rd_T54 l7 n).f1, .int .i64 (rd_T54 l7 n).f2]
  replace b0 := b0.alloc (.cells #[.int .u8 1, .int .i64 (rd_T54 l7 n).f1, .int .i64 (rd_T54 l7 n).f2] 54)
  have hB : Below w.heap.size w ((w.alloc (.cells #[.slice A0 l0.length c0, .int .i64 p1, .int .i64 p2, .int .u8 p3, .int .i64 p4, .int .u8 p5, .int .u8 p6, .slice (some ad) l7.length c7] 41)).alloc (.cells #[.int .u8 1, .int .i64 (rd_T54 l7 n).f1, .int .i64 (rd_T54 l7 n).f2] 54)) := balloc (balloc (Below.refl _ _) _) _
  have hZ : ((w.alloc (.cells #[.slice A0 l0.length c0, .int .i64 p1, .int .i64 p2, .int .u8 p3, .int .i64 p4, .int .u8 p5, .int .u8 p6, .slice (some ad) l7.length c7] 41)).alloc (.cells #[.int .u8 1, .int .i64 (rd_T54 l7 n).f1, .int .i64 (rd_T54 l7 n).f2] 54)).heap.size = w.heap.size + 1 + 1 := by simp only [World.size_alloc]
  simp only [World.size_alloc] at b1
  generalize (w.alloc (.cells #[.slice A0 l0.length c0, .int .i64 p1, .int .i64 p2, .int .u8 p3, .int .i64 p4, .int .u8 p5, .int .u8 p6, .slice (some ad) l7.length c7] 41)).alloc (.cells #[.int .u8 1, .int .i64 (rd_T54 l7 n).f1, .int .i64 (rd_T54 l7 n).f2] 54) = W2 at b0 b1 hB hZ ⊢
  obtain ⟨g, hg⟩ : ∃ g, w.heap.size = g := ⟨_, rfl⟩
  rw [hg] at b0 b1 hB hZ ⊢
  obtain ⟨W3, W4, W5, W6, W7, q3, q4, q5, q6, q7, hm, hb7⟩ := made_map W2 (g + 1 + 1) (by rw [hZ])
  rw [hZ] at hb7
  have hget := run_mapGet8 (P := Try.prog) (t := 56) (k := 1) (i := 1) (v := .func (.func 18) #[] #[]) Try.underlying56 Try.underlying5 hm rfl
  have k0 := b0.below hb7 (by omega)
  have k1 := b1.below hb7 (by omega)
  have d0 := k0.cell 0
  have d1 := k0.cell 1
  have d2 := k0.cell 2
  have d3 := k0.cell 3
  have d4 := k0.cell 4
  have d5 := k0.cell 5
  have d6 := k0.cell 6
  have d7 := k0.cell 7
  have f0 := k1.cell 0
  have f1 := k1.cell 1
  have f2 := k1.cell 2
  simp only [List.getElem?_toArray, List.getElem?_cons_zero, List.getElem?_cons_succ] at d0 d1 d2 d3 d4 d5 d6 d7 f0 f1 f2
  have HB7 := Lib.hid hb7
  have HB := Lib.hid hB
  have HM := Lib.hid hm
  have K0 := Lib.hid k0
  have K1 := Lib.hid k1
  have HZ := Lib.hid hZ
  have HG := Lib.hid hg
  clear hb7 hB hm k0 k1 b0 b1 hZ hg
  simp only [q3, Result.andThen_ok]
  go_wp2_with fail
  have hW := HB.out.trans (HB7.out.mono (by omega))
  rw [← HG.out] at hW
  refine (HCALL.out W7 hW).mono ?_
  rintro e w8 ⟨rfl, hb8⟩
  have HB8 := Lib.hid hb8
  have HW := Lib.hid hW
  clear hb8 hW hget q3 q4 q5 q6 q7 d0 d1 d2 d3 d4 d5 d6 d7 f0 f1 f2
  go_wp2_with fail
  go_ret2
  refine ⟨rfl, bstep ?_ HB8.out⟩
  rw [HG.out] at *
  exact HW.out
set_option maxRecDepth 100000 in
set_option maxHeartbeats 2000000 in
theorem worth_summon (A0 : Option Addr) (c0 : Nat) (l0 : List S52) (p1 p2 p3 p4 p5 p6 : Int) (A7 : Option Addr) (c7 : Nat) (l7 : List S54) (n : Nat) (w : World)
    (hr0 : Kd.C k52 w A0 l0.length l0) (hr7 : Kd.C k54 w A7 l7.length l7) (hc7 : l7.length ≤ c7) (hn : n < l7.length) (hl : l7.length ≤ 9223372036854775807) (h2 : (rd_T54 l7 n).f0 = 2) (r : Int)
    (hcall : ∀ W', Below w.heap.size w W' → Calls Try.prog 19 #[.agg #[.slice A0 l0.length c0, .int .i64 p1, .int .i64 p2, .int .u8 p3, .int .i64 p4, .int .u8 p5, .int .u8 p6, .slice A7 l7.length c7], .agg #[.int .u8 2, .int .i64 (rd_T54 l7 n).f1, .int .i64 (rd_T54 l7 n).f2]] W' fun e w'' => e = .returned (.int .i64 r) ∧ Below W'.heap.size W' w'') :
    Calls Try.prog 15 #[.agg #[.slice A0 l0.length c0, .int .i64 p1, .int .i64 p2, .int .u8 p3, .int .i64 p4, .int .u8 p5, .int .u8 p6, .slice A7 l7.length c7], .int .i64 n] w fun e w' => e = .returned (.tuple #[.int .i64 r, .bool true]) ∧ Below w.heap.size w w' := by
  obtain ⟨ad, rfl, g0, g1, g2⟩ := at_T54 hr7 (n : Int) (by omega) (by omega)
  rw [h2] at g0
  have m0 := g0
  have hnn : (0 : Int) ≤ (n : Int) := by omega
  have hnl : (n : Int) < (l7.length : Int) := by omega
  have e0 : decide ((n : Int) < 0) = false := decide_eq_false (by omega)
  have e1 : decide ((n : Int) ≥ (l7.length : Int)) = false := decide_eq_false (by omega)
  simp only [Int.toNat_natCast] at g0 g1 g2
  have hA := World.block_lt_of_cell? w _ g0
  have e2 : decide (l7.length ≤ n) = false := decide_eq_false (by omega)
  have HCALL := Lib.hid hcall
  have HR0 := Lib.hid hr0
  have HR7 := Lib.hid hr7
  have HC7 := Lib.hid hc7
  have HN := Lib.hid hn
  have HL := Lib.hid hl
  clear hcall hr0 hr7 hc7 hn hl m0 h2
  go_enter Try.func15, Try.ntmps15
  go_wp2_with fail
  have b0 := Blk.new w 41 #[.slice A0 l0.length c0, .int .i64 p1, .int .i64 p2, .int .u8 p3, .int .i64 p4, .int .u8 p5, .int .u8 p6, .slice (some ad) l7.length c7]
  have b1 := Blk.new (w.alloc (.cells #[.slice A0 l0.length c0, .int .i64 p1, .int .i64 p2, .int .u8 p3, .int .i64 p4, .int .u8 p5, .int .u8 p6, .slice (some ad) l7.length c7] 41)) 54 #[.int .u8 2, .int .i64 (rd_T54 l7 n).f1, .int .i64 (rd_T54 l7 n).f2]
  replace b0 := b0.alloc (.cells #[.int .u8 2, .int .i64 (rd_T54 l7 n).f1, .int .i64 (rd_T54 l7 n).f2] 54)
  have hB : Below w.heap.size w ((w.alloc (.cells #[.slice A0 l0.length c0, .int .i64 p1, .int .i64 p2, .int .u8 p3, .int .i64 p4, .int .u8 p5, .int .u8 p6, .slice (some ad) l7.length c7] 41)).alloc (.cells #[.int .u8 2, .int .i64 (rd_T54 l7 n).f1, .int .i64 (rd_T54 l7 n).f2] 54)) := balloc (balloc (Below.refl _ _) _) _
  have hZ : ((w.alloc (.cells #[.slice A0 l0.length c0, .int .i64 p1, .int .i64 p2, .int .u8 p3, .int .i64 p4, .int .u8 p5, .int .u8 p6, .slice (some ad) l7.length c7] 41)).alloc (.cells #[.int .u8 2, .int .i64 (rd_T54 l7 n).f1, .int .i64 (rd_T54 l7 n).f2] 54)).heap.size = w.heap.size + 1 + 1 := by simp only [World.size_alloc]
  simp only [World.size_alloc] at b1
  generalize (w.alloc (.cells #[.slice A0 l0.length c0, .int .i64 p1, .int .i64 p2, .int .u8 p3, .int .i64 p4, .int .u8 p5, .int .u8 p6, .slice (some ad) l7.length c7] 41)).alloc (.cells #[.int .u8 2, .int .i64 (rd_T54 l7 n).f1, .int .i64 (rd_T54 l7 n).f2] 54) = W2 at b0 b1 hB hZ ⊢
  obtain ⟨g, hg⟩ : ∃ g, w.heap.size = g := ⟨_, rfl⟩
  rw [hg] at b0 b1 hB hZ ⊢
  obtain ⟨W3, W4, W5, W6, W7, q3, q4, q5, q6, q7, hm, hb7⟩ := made_map W2 (g + 1 + 1) (by rw [hZ])
  rw [hZ] at hb7
  have hget := run_mapGet8 (P := Try.prog) (t := 56) (k := 2) (i := 2) (v := .func (.func 19) #[] #[]) Try.underlying56 Try.underlying5 hm rfl
  have k0 := b0.below hb7 (by omega)
  have k1 := b1.below hb7 (by omega)
  have d0 := k0.cell 0
  have d1 := k0.cell 1
  have d2 := k0.cell 2
  have d3 := k0.cell 3
  have d4 := k0.cell 4
  have d5 := k0.cell 5
  have d6 := k0.cell 6
  have d7 := k0.cell 7
  have f0 := k1.cell 0
  have f1 := k1.cell 1
  have f2 := k1.cell 2
  simp only [List.getElem?_toArray, List.getElem?_cons_zero, List.getElem?_cons_succ] at d0 d1 d2 d3 d4 d5 d6 d7 f0 f1 f2
  have HB7 := Lib.hid hb7
  have HB := Lib.hid hB
  have HM := Lib.hid hm
  have K0 := Lib.hid k0
  have K1 := Lib.hid k1
  have HZ := Lib.hid hZ
  have HG := Lib.hid hg
  clear hb7 hB hm k0 k1 b0 b1 hZ hg
  simp only [q3, Result.andThen_ok]
  go_wp2_with fail
  have hW := HB.out.trans (HB7.out.mono (by omega))
  rw [← HG.out] at hW
  refine (HCALL.out W7 hW).mono ?_
  rintro e w8 ⟨rfl, hb8⟩
  have HB8 := Lib.hid hb8
  have HW := Lib.hid hW
  clear hb8 hW hget q3 q4 q5 q6 q7 d0 d1 d2 d3 d4 d5 d6 d7 f0 f1 f2
  go_wp2_with fail
  go_ret2
  refine ⟨rfl, bstep ?_ HB8.out⟩
  rw [HG.out] at *
  exact HW.out
set_option maxRecDepth 100000 in
set_option maxHeartbeats 2000000 in
theorem worth_drop (A0 : Option Addr) (c0 : Nat) (l0 : List S52) (p1 p2 p3 p4 p5 p6 : Int) (A7 : Option Addr) (c7 : Nat) (l7 : List S54) (n : Nat) (w : World)
    (hr0 : Kd.C k52 w A0 l0.length l0) (hr7 : Kd.C k54 w A7 l7.length l7) (hc7 : l7.length ≤ c7) (hn : n < l7.length) (hl : l7.length ≤ 9223372036854775807) (h2 : (rd_T54 l7 n).f0 = 11) (r : Int)
    (hcall : ∀ W', Below w.heap.size w W' → Calls Try.prog 20 #[.agg #[.slice A0 l0.length c0, .int .i64 p1, .int .i64 p2, .int .u8 p3, .int .i64 p4, .int .u8 p5, .int .u8 p6, .slice A7 l7.length c7], .agg #[.int .u8 11, .int .i64 (rd_T54 l7 n).f1, .int .i64 (rd_T54 l7 n).f2]] W' fun e w'' => e = .returned (.int .i64 r) ∧ Below W'.heap.size W' w'') :
    Calls Try.prog 15 #[.agg #[.slice A0 l0.length c0, .int .i64 p1, .int .i64 p2, .int .u8 p3, .int .i64 p4, .int .u8 p5, .int .u8 p6, .slice A7 l7.length c7], .int .i64 n] w fun e w' => e = .returned (.tuple #[.int .i64 r, .bool true]) ∧ Below w.heap.size w w' := by
  obtain ⟨ad, rfl, g0, g1, g2⟩ := at_T54 hr7 (n : Int) (by omega) (by omega)
  rw [h2] at g0
  have m0 := g0
  have hnn : (0 : Int) ≤ (n : Int) := by omega
  have hnl : (n : Int) < (l7.length : Int) := by omega
  have e0 : decide ((n : Int) < 0) = false := decide_eq_false (by omega)
  have e1 : decide ((n : Int) ≥ (l7.length : Int)) = false := decide_eq_false (by omega)
  simp only [Int.toNat_natCast] at g0 g1 g2
  have hA := World.block_lt_of_cell? w _ g0
  have e2 : decide (l7.length ≤ n) = false := decide_eq_false (by omega)
  have HCALL := Lib.hid hcall
  have HR0 := Lib.hid hr0
  have HR7 := Lib.hid hr7
  have HC7 := Lib.hid hc7
  have HN := Lib.hid hn
  have HL := Lib.hid hl
  clear hcall hr0 hr7 hc7 hn hl m0 h2
  go_enter Try.func15, Try.ntmps15
  go_wp2_with fail
  have b0 := Blk.new w 41 #[.slice A0 l0.length c0, .int .i64 p1, .int .i64 p2, .int .u8 p3, .int .i64 p4, .int .u8 p5, .int .u8 p6, .slice (some ad) l7.length c7]
  have b1 := Blk.new (w.alloc (.cells #[.slice A0 l0.length c0, .int .i64 p1, .int .i64 p2, .int .u8 p3, .int .i64 p4, .int .u8 p5, .int .u8 p6, .slice (some ad) l7.length c7] 41)) 54 #[.int .u8 11, .int .i64 (rd_T54 l7 n).f1, .int .i64 (rd_T54 l7 n).f2]
  replace b0 := b0.alloc (.cells #[.int .u8 11, .int .i64 (rd_T54 l7 n).f1, .int .i64 (rd_T54 l7 n).f2] 54)
  have hB : Below w.heap.size w ((w.alloc (.cells #[.slice A0 l0.length c0, .int .i64 p1, .int .i64 p2, .int .u8 p3, .int .i64 p4, .int .u8 p5, .int .u8 p6, .slice (some ad) l7.length c7] 41)).alloc (.cells #[.int .u8 11, .int .i64 (rd_T54 l7 n).f1, .int .i64 (rd_T54 l7 n).f2] 54)) := balloc (balloc (Below.refl _ _) _) _
  have hZ : ((w.alloc (.cells #[.slice A0 l0.length c0, .int .i64 p1, .int .i64 p2, .int .u8 p3, .int .i64 p4, .int .u8 p5, .int .u8 p6, .slice (some ad) l7.length c7] 41)).alloc (.cells #[.int .u8 11, .int .i64 (rd_T54 l7 n).f1, .int .i64 (rd_T54 l7 n).f2] 54)).heap.size = w.heap.size + 1 + 1 := by simp only [World.size_alloc]
  simp only [World.size_alloc] at b1
  generalize (w.alloc (.cells #[.slice A0 l0.length c0, .int .i64 p1, .int .i64 p2, .int .u8 p3, .int .i64 p4, .int .u8 p5, .int .u8 p6, .slice (some ad) l7.length c7] 41)).alloc (.cells #[.int .u8 11, .int .i64 (rd_T54 l7 n).f1, .int .i64 (rd_T54 l7 n).f2] 54) = W2 at b0 b1 hB hZ ⊢
  obtain ⟨g, hg⟩ : ∃ g, w.heap.size = g := ⟨_, rfl⟩
  rw [hg] at b0 b1 hB hZ ⊢
  obtain ⟨W3, W4, W5, W6, W7, q3, q4, q5, q6, q7, hm, hb7⟩ := made_map W2 (g + 1 + 1) (by rw [hZ])
  rw [hZ] at hb7
  have hget := run_mapGet8 (P := Try.prog) (t := 56) (k := 11) (i := 3) (v := .func (.func 20) #[] #[]) Try.underlying56 Try.underlying5 hm rfl
  have k0 := b0.below hb7 (by omega)
  have k1 := b1.below hb7 (by omega)
  have d0 := k0.cell 0
  have d1 := k0.cell 1
  have d2 := k0.cell 2
  have d3 := k0.cell 3
  have d4 := k0.cell 4
  have d5 := k0.cell 5
  have d6 := k0.cell 6
  have d7 := k0.cell 7
  have f0 := k1.cell 0
  have f1 := k1.cell 1
  have f2 := k1.cell 2
  simp only [List.getElem?_toArray, List.getElem?_cons_zero, List.getElem?_cons_succ] at d0 d1 d2 d3 d4 d5 d6 d7 f0 f1 f2
  have HB7 := Lib.hid hb7
  have HB := Lib.hid hB
  have HM := Lib.hid hm
  have K0 := Lib.hid k0
  have K1 := Lib.hid k1
  have HZ := Lib.hid hZ
  have HG := Lib.hid hg
  clear hb7 hB hm k0 k1 b0 b1 hZ hg
  simp only [q3, Result.andThen_ok]
  go_wp2_with fail
  have hW := HB.out.trans (HB7.out.mono (by omega))
  rw [← HG.out] at hW
  refine (HCALL.out W7 hW).mono ?_
  rintro e w8 ⟨rfl, hb8⟩
  have HB8 := Lib.hid hb8
  have HW := Lib.hid hW
  clear hb8 hW hget q3 q4 q5 q6 q7 d0 d1 d2 d3 d4 d5 d6 d7 f0 f1 f2
  go_wp2_with fail
  go_ret2
  refine ⟨rfl, bstep ?_ HB8.out⟩
  rw [HG.out] at *
  exact HW.out
set_option maxRecDepth 100000 in
set_option maxHeartbeats 2000000 in
theorem worth_plain (A0 : Option Addr) (c0 : Nat) (l0 : List S52) (p1 p2 p3 p4 p5 p6 : Int) (A7 : Option Addr) (c7 : Nat) (l7 : List S54) (n : Nat) (w : World)
    (hr0 : Kd.C k52 w A0 l0.length l0) (hr7 : Kd.C k54 w A7 l7.length l7) (hc7 : l7.length ≤ c7) (hn : n < l7.length) (hl : l7.length ≤ 9223372036854775807) (x : Int) (h2 : (rd_T54 l7 n).f0 = x) (x8 : x ≠ 8) (x1 : x ≠ 1) (x2 : x ≠ 2) (x11 : x ≠ 11) (r : Int)
    (hcall : ∀ W', Below w.heap.size w W' → Calls Try.prog 21 #[.int .u8 x] W' fun e w'' => e = .returned (.int .i64 r) ∧ Below W'.heap.size W' w'') :
    Calls Try.prog 15 #[.agg #[.slice A0 l0.length c0, .int .i64 p1, .int .i64 p2, .int .u8 p3, .int .i64 p4, .int .u8 p5, .int .u8 p6, .slice A7 l7.length c7], .int .i64 n] w fun e w' => e = .returned (.tuple #[.int .i64 r, .bool true]) ∧ Below w.heap.size w w' := by
  obtain ⟨ad, rfl, g0, g1, g2⟩ := at_T54 hr7 (n : Int) (by omega) (by omega)
  rw [h2] at g0
  have m0 := g0
  have hnn : (0 : Int) ≤ (n : Int) := by omega
  have hnl : (n : Int) < (l7.length : Int) := by omega
  have e0 : decide ((n : Int) < 0) = false := decide_eq_false (by omega)
  have e1 : decide ((n : Int) ≥ (l7.length : Int)) = false := decide_eq_false (by omega)
  simp only [Int.toNat_natCast] at g0 g1 g2
  have hA := World.block_lt_of_cell? w _ g0
  have e2 : decide (l7.length ≤ n) = false := decide_eq_false (by omega)
  have HCALL := Lib.hid hcall
  have HR0 := Lib.hid hr0
  have HR7 := Lib.hid hr7
  have HC7 := Lib.hid hc7
  have HN := Lib.hid hn
  have HL := Lib.hid hl
  clear hcall hr0 hr7 hc7 hn hl m0 h2
  go_enter Try.func15, Try.ntmps15
  go_wp2_with fail
  have b0 := Blk.new w 41 #[.slice A0 l0.length c0, .int .i64 p1, .int .i64 p2, .int .u8 p3, .int .i64 p4, .int .u8 p5, .int .u8 p6, .slice (some ad) l7.length c7]
  have b1 := Blk.new (w.alloc (.cells #[.slice A0 l0.length c0, .int .i64 p1, .int .i64 p2, .int .u8 p3, .int .i64 p4, .int .u8 p5, .int .u8 p6, .slice (some ad) l7.length c7] 41)) 54 #[.int .u8 x, .int .i64 (rd_T54 l7 n).f1, .int .i64 (rd_T54 l7 n).f2]
  replace b0 := b0.alloc (.cells #[.int .u8 x, .int .i64 (rd_T54 l7 n).f1, .int .i64 (rd_T54 l7 n).f2] 54)
  have hB : Below w.heap.size w ((w.alloc (.cells #[.slice A0 l0.length c0, .int .i64 p1, .int .i64 p2, .int .u8 p3, .int .i64 p4, .int .u8 p5, .int .u8 p6, .slice (some ad) l7.length c7] 41)).alloc (.cells #[.int .u8 x, .int .i64 (rd_T54 l7 n).f1, .int .i64 (rd_T54 l7 n).f2] 54)) := balloc (balloc (Below.refl _ _) _) _
  have hZ : ((w.alloc (.cells #[.slice A0 l0.length c0, .int .i64 p1, .int .i64 p2, .int .u8 p3, .int .i64 p4, .int .u8 p5, .int .u8 p6, .slice (some ad) l7.length c7] 41)).alloc (.cells #[.int .u8 x, .int .i64 (rd_T54 l7 n).f1, .int .i64 (rd_T54 l7 n).f2] 54)).heap.size = w.heap.size + 1 + 1 := by simp only [World.size_alloc]
  simp only [World.size_alloc] at b1
  generalize (w.alloc (.cells #[.slice A0 l0.length c0, .int .i64 p1, .int .i64 p2, .int .u8 p3, .int .i64 p4, .int .u8 p5, .int .u8 p6, .slice (some ad) l7.length c7] 41)).alloc (.cells #[.int .u8 x, .int .i64 (rd_T54 l7 n).f1, .int .i64 (rd_T54 l7 n).f2] 54) = W2 at b0 b1 hB hZ ⊢
  obtain ⟨g, hg⟩ : ∃ g, w.heap.size = g := ⟨_, rfl⟩
  rw [hg] at b0 b1 hB hZ ⊢
  obtain ⟨W3, W4, W5, W6, W7, q3, q4, q5, q6, q7, hm, hb7⟩ := made_map W2 (g + 1 + 1) (by rw [hZ])
  rw [hZ] at hb7
  have hfind : Instr.findNow (.int .u8) (.int .u8 x) [⟨.int .u8 8, .func (.func 17) #[] #[], 0⟩, ⟨.int .u8 1, .func (.func 18) #[] #[], 1⟩, ⟨.int .u8 2, .func (.func 19) #[] #[], 2⟩, ⟨.int .u8 11, .func (.func 20) #[] #[], 3⟩] 0 = some none := by
    have y8 : (x == 8) = false := beq_eq_false_iff_ne.mpr x8
    have y1 : (x == 1) = false := beq_eq_false_iff_ne.mpr x1
    have y2 : (x == 2) = false := beq_eq_false_iff_ne.mpr x2
    have y11 : (x == 11) = false := beq_eq_false_iff_ne.mpr x11
    simp [Instr.findNow, Instr.sameNow, y8, y1, y2, y11]
  have hget := run_mapMiss8 (P := Try.prog) (t := 56) (k := x) Try.underlying56 Try.underlying5 hm hfind (Try.zeroValue55 _)
  clear hfind
  have k0 := b0.below hb7 (by omega)
  have k1 := b1.below hb7 (by omega)
  have d0 := k0.cell 0
  have d1 := k0.cell 1
  have d2 := k0.cell 2
  have d3 := k0.cell 3
  have d4 := k0.cell 4
  have d5 := k0.cell 5
  have d6 := k0.cell 6
  have d7 := k0.cell 7
  have f0 := k1.cell 0
  have f1 := k1.cell 1
  have f2 := k1.cell 2
  simp only [List.getElem?_toArray, List.getElem?_cons_zero, List.getElem?_cons_succ] at d0 d1 d2 d3 d4 d5 d6 d7 f0 f1 f2
  have HB7 := Lib.hid hb7
  have HB := Lib.hid hB
  have HM := Lib.hid hm
  have K0 := Lib.hid k0
  have K1 := Lib.hid k1
  have HZ := Lib.hid hZ
  have HG := Lib.hid hg
  clear hb7 hB hm k0 k1 b0 b1 hZ hg
  simp only [q3, Result.andThen_ok]
  go_wp2_with fail
  have hW := HB.out.trans (HB7.out.mono (by omega))
  rw [← HG.out] at hW
  refine (HCALL.out W7 hW).mono ?_
  rintro e w8 ⟨rfl, hb8⟩
  have HB8 := Lib.hid hb8
  have HW := Lib.hid hW
  clear hb8 hW hget q3 q4 q5 q6 q7 d0 d1 d2 d3 d4 d5 d6 d7 f0 f1 f2
  go_wp2_with fail
  go_ret2
  refine ⟨rfl, bstep ?_ HB8.out⟩
  rw [HG.out] at *
  exact HW.out
set_option maxRecDepth 100000 in
set_option maxHeartbeats 2000000 in
theorem worth_none (A0 : Option Addr) (c0 : Nat) (l0 : List S52) (p1 p2 p3 p4 p5 p6 : Int) (A7 : Option Addr) (c7 : Nat) (l7 : List S54) (n : Int) (w : World) (h : n < 0 ∨ (l7.length : Int) ≤ n) :
    Calls Try.prog 15 #[.agg #[.slice A0 l0.length c0, .int .i64 p1, .int .i64 p2, .int .u8 p3, .int .i64 p4, .int .u8 p5, .int .u8 p6, .slice A7 l7.length c7], .int .i64 n] w fun e w' => e = .returned (.tuple #[.int .i64 0, .bool false]) ∧ Below w.heap.size w w' := by
  by_cases h0 : n < 0
  · have e0 : decide (n < 0) = true := decide_eq_true h0
    clear h h0
    go_enter Try.func15, Try.ntmps15
    go_wp2_with fail
    go_ret2
    exact ⟨rfl, balloc (Below.refl _ _) _⟩
  · have e0 : decide (n < 0) = false := decide_eq_false h0
    have e1 : decide (n ≥ (l7.length : Int)) = true := decide_eq_true (by omega)
    clear h h0
    go_enter Try.func15, Try.ntmps15
    go_wp2_with fail
    go_ret2
    exact ⟨rfl, balloc (Below.refl _ _) _⟩
end Go.Proofs.Ytcdcpnhlmgmnkaa.Pil
end
section
/- What an attack is worth: walked, both lines by contract. -/
namespace Go.Proofs.Ytcdcpnhlmgmnkaa.Pil
open Go Go.RowKit Go.Proofs.Ytcdcpnhlmgmnkaa.Base Go.Proofs.YtcdcpnhlmgmnkaaW.PrintWords Go.Proofs.YtcdcpnhlmgmnkaaW.PrintLast Go.Proofs.YtcdcpnhlmgmnkaaW.PrintMore Go.Proofs.Ytcdcpnhlmgmnkaa.Ppia
theorem bdrewZ {w W : World} (h : Below w.heap.size w W) : Below w.heap.size w W.drew := ⟨h.os, h.tape, h.output, h.size, h.block⟩
theorem cell_keepZ {W w1 : World} {a : Addr} {v : Value} (hb : Below W.heap.size W w1) (h : W.cell? a = some v) : w1.cell? a = some v := (hb.cell (p := a) (World.block_lt_of_cell? W _ h)).trans h
def Z9 : Array Value := #[.int .u8 0, .int .i64 0, .int .u8 0, .int .u8 0, .bool false, .int .i64 0, .int .i64 0, .bool false, .bool false]
/-- Where the walk stands between the calls and the two new blocks. -/
structure St (W2 : World) (mx my : Option Nat) (w : World) : Prop where
  b : Below W2.heap.size W2 w
  x : ∀ r, mx = some r → W2.heap.size ≤ r ∧ Blk w r 52 Z9
  y : ∀ r, my = some r → W2.heap.size ≤ r ∧ Blk w r 52 Z9
  ne : ∀ r s, mx = some r → my = some s → r ≠ s
theorem St.call {W2 w w' : World} {mx my : Option Nat} (h : St W2 mx my w) (k : Below w.heap.size w w') : St W2 mx my w' :=
  ⟨bstep h.b k, fun r e => ⟨(h.x r e).1, (h.x r e).2.after k⟩, fun r e => ⟨(h.y r e).1, (h.y r e).2.after k⟩, h.ne⟩
theorem St.ax {W2 w : World} {my : Option Nat} (h : St W2 none my w) : St W2 (some w.heap.size) my (w.alloc (.cells Z9 52)) :=
  ⟨balloc h.b _, fun r e => by cases e; exact ⟨h.b.size, Blk.new _ _ _⟩, fun r e => ⟨(h.y r e).1, (h.y r e).2.alloc _⟩, fun r s e f => by cases e; exact Nat.ne_of_gt (h.y s f).2.lt⟩
theorem St.ay {W2 w : World} {mx : Option Nat} (h : St W2 mx none w) : St W2 mx (some w.heap.size) (w.alloc (.cells Z9 52)) :=
  ⟨balloc h.b _, fun r e => ⟨(h.x r e).1, (h.x r e).2.alloc _⟩, fun r e => by cases e; exact ⟨h.b.size, Blk.new _ _ _⟩, fun r s e f => by cases f; exact Nat.ne_of_lt (h.x r e).2.lt⟩
theorem far9 {W : World} {g : Nat} {t : TypeId} {cs : Array Value} {b : Nat} {v0 v1 v2 v3 v4 v5 v6 v7 v8 : Value} (h : Blk W g t cs) (hn : g ≠ b) : Blk (((((((((W.setCell ⟨b, 0, none⟩ v0).setCell ⟨b, 1, none⟩ v1).setCell ⟨b, 2, none⟩ v2).setCell ⟨b, 3, none⟩ v3).setCell ⟨b, 4, none⟩ v4).setCell ⟨b, 5, none⟩ v5).setCell ⟨b, 6, none⟩ v6).setCell ⟨b, 7, none⟩ v7).setCell ⟨b, 8, none⟩ v8) g t cs :=
  ((((((((h.far (p := ⟨b, 0, none⟩) hn v0).far (p := ⟨b, 1, none⟩) hn v1).far (p := ⟨b, 2, none⟩) hn v2).far (p := ⟨b, 3, none⟩) hn v3).far (p := ⟨b, 4, none⟩) hn v4).far (p := ⟨b, 5, none⟩) hn v5).far (p := ⟨b, 6, none⟩) hn v6).far (p := ⟨b, 7, none⟩) hn v7).far (p := ⟨b, 8, none⟩) hn v8
theorem on9 {W : World} {b : Nat} {t : TypeId} {u0 u1 u2 u3 u4 u5 u6 u7 u8 v0 v1 v2 v3 v4 v5 v6 v7 v8 : Value} (h : Blk W b t #[u0, u1, u2, u3, u4, u5, u6, u7, u8]) : Blk (((((((((W.setCell ⟨b, 0, none⟩ v0).setCell ⟨b, 1, none⟩ v1).setCell ⟨b, 2, none⟩ v2).setCell ⟨b, 3, none⟩ v3).setCell ⟨b, 4, none⟩ v4).setCell ⟨b, 5, none⟩ v5).setCell ⟨b, 6, none⟩ v6).setCell ⟨b, 7, none⟩ v7).setCell ⟨b, 8, none⟩ v8) b t #[v0, v1, v2, v3, v4, v5, v6, v7, v8] :=
  (((((((((h.set_ 0 v0).set_ 1 v1).set_ 2 v2).set_ 3 v3).set_ 4 v4).set_ 5 v5).set_ 6 v6).set_ 7 v7).set_ 8 v8).to (by simp only [List.setIfInBounds_toArray, List.set_cons_zero, List.set_cons_succ])
theorem below9 {w W : World} {b : Nat} {v0 v1 v2 v3 v4 v5 v6 v7 v8 : Value} (h : Below w.heap.size w W) (hb : w.heap.size ≤ b) : Below w.heap.size w (((((((((W.setCell ⟨b, 0, none⟩ v0).setCell ⟨b, 1, none⟩ v1).setCell ⟨b, 2, none⟩ v2).setCell ⟨b, 3, none⟩ v3).setCell ⟨b, 4, none⟩ v4).setCell ⟨b, 5, none⟩ v5).setCell ⟨b, 6, none⟩ v6).setCell ⟨b, 7, none⟩ v7).setCell ⟨b, 8, none⟩ v8) :=
  bset (bset (bset (bset (bset (bset (bset (bset (bset h hb) hb) hb) hb) hb) hb) hb) hb) hb
def attackV (o2 x6 : Int) (y4 : Bool) (y6 : Int) (y8 : Bool) : Int := if o2 = -1 then wrap64 (40000 + x6) else if y4 = true then (if x6 > y6 then wrap64 (wrap64 (30000 + x6) - y6) else if y8 = true then wrap64 (wrap64 (30000 + x6) - y6) else 1) else 25000
set_option maxRecDepth 100000 in
set_option maxHeartbeats 8000000 in
theorem attack_walk (A0 : Option Addr) (c0 : Nat) (l0 : List S52) (p1 p2 p3 p4 p5 p6 : Int) (A7 : Option Addr) (c7 : Nat) (l7 : List S54) (o0 o1 o2 : Int) (w : World)
    (x0 x1 x2 x3 : Int) (x4 : Bool) (x5 x6 : Int) (x7 x8 : Bool) (y0 y1 y2 y3 : Int) (y4 : Bool) (y5 y6 : Int) (y7 y8 : Bool)
    (ha : ∀ W', Below w.heap.size w W' → Calls Try.prog 22 #[.agg #[.slice A0 l0.length c0, .int .i64 p1, .int .i64 p2, .int .u8 p3, .int .i64 p4, .int .u8 p5, .int .u8 p6, .slice A7 l7.length c7], .int .i64 o1] W' fun e w'' => e = .returned (.agg #[.int .u8 x0, .int .i64 x1, .int .u8 x2, .int .u8 x3, .bool x4, .int .i64 x5, .int .i64 x6, .bool x7, .bool x8]) ∧ Below W'.heap.size W' w'')
    (hb : ∀ W', Below w.heap.size w W' → Calls Try.prog 22 #[.agg #[.slice A0 l0.length c0, .int .i64 p1, .int .i64 p2, .int .u8 p3, .int .i64 p4, .int .u8 p5, .int .u8 p6, .slice A7 l7.length c7], .int .i64 o2] W' fun e w'' => e = .returned (.agg #[.int .u8 y0, .int .i64 y1, .int .u8 y2, .int .u8 y3, .bool y4, .int .i64 y5, .int .i64 y6, .bool y7, .bool y8]) ∧ Below W'.heap.size W' w'') :
    Calls Try.prog 17 #[.agg #[.slice A0 l0.length c0, .int .i64 p1, .int .i64 p2, .int .u8 p3, .int .i64 p4, .int .u8 p5, .int .u8 p6, .slice A7 l7.length c7], .agg #[.int .u8 o0, .int .i64 o1, .int .i64 o2]] w fun e w' => e = .returned (.int .i64 (attackV o2 x6 y4 y6 y8)) ∧ Below w.heap.size w w' := by
  have HA := Lib.hid ha
  have HB := Lib.hid hb
  clear ha hb
  have hu78 := Try.underlying41
  have hu133 := Try.underlying54
  have hu123 := Try.underlying52
  go_enter Try.func17, Try.ntmps17
  go_wp2_with fail
  have b0 := (Blk.new w 41 #[.slice A0 l0.length c0, .int .i64 p1, .int .i64 p2, .int .u8 p3, .int .i64 p4, .int .u8 p5, .int .u8 p6, .slice A7 l7.length c7]).alloc (.cells #[.int .u8 o0, .int .i64 o1, .int .i64 o2] 54)
  have b1 := Blk.new (w.alloc (.cells #[.slice A0 l0.length c0, .int .i64 p1, .int .i64 p2, .int .u8 p3, .int .i64 p4, .int .u8 p5, .int .u8 p6, .slice A7 l7.length c7] 41)) 54 #[.int .u8 o0, .int .i64 o1, .int .i64 o2]
  have hB : Below w.heap.size w ((w.alloc (.cells #[.slice A0 l0.length c0, .int .i64 p1, .int .i64 p2, .int .u8 p3, .int .i64 p4, .int .u8 p5, .int .u8 p6, .slice A7 l7.length c7] 41)).alloc (.cells #[.int .u8 o0, .int .i64 o1, .int .i64 o2] 54)) := balloc (balloc (Below.refl _ _) _) _
  simp only [World.size_alloc] at b1
  generalize (w.alloc (.cells #[.slice A0 l0.length c0, .int .i64 p1, .int .i64 p2, .int .u8 p3, .int .i64 p4, .int .u8 p5, .int .u8 p6, .slice A7 l7.length c7] 41)).alloc (.cells #[.int .u8 o0, .int .i64 o1, .int .i64 o2] 54) = W2 at b0 b1 hB ⊢
  have c00 := b0.cell 0
  have c01 := b0.cell 1
  have c02 := b0.cell 2
  have c03 := b0.cell 3
  have c04 := b0.cell 4
  have c05 := b0.cell 5
  have c06 := b0.cell 6
  have c07 := b0.cell 7
  have c11 := b1.cell 1
  have c12 := b1.cell 2
  simp only [List.getElem?_toArray, List.getElem?_cons_zero, List.getElem?_cons_succ] at c00 c01 c02 c03 c04 c05 c06 c07 c11 c12
  have HB2 := Lib.hid hB
  clear hB b0 b1
  obtain ⟨g, hg⟩ : ∃ g, w.heap.size = g := ⟨_, rfl⟩
  have hgW : g ≤ W2.heap.size := by rw [← hg]; exact HB2.out.size
  rw [hg] at c00 c01 c02 c03 c04 c05 c06 c07 c11 c12 ⊢
  have HG := Lib.hid hg
  have HGW := Lib.hid hgW
  clear hg hgW
  refine start_ (n := 12) (S := fun w' => Below W2.heap.size W2 w') (ds := []) #[false, false, false, false, false, false, false, false, false, false, false, false] (by kernel_rfl) rfl (by kernel_rfl) (bdrewZ (Below.refl _ _)) (fun hHeld => ?_)
  refine pure_ (i := 1) (N := some 8) (v := ?_) (a' := ?_) #[false, true, false, false, false, false, false, false, false, false, false, false] rfl rfl (by kernel_rfl) (fun _ _ _ h => h) (Or.inl ⟨by rfl, ?_⟩) ?_ ?_
  rotate_left
  · intro w'
    go_simp
    with_reducible rfl
  rotate_left
  · try simp only [Act.put, List.setIfInBounds_toArray, List.set_cons_zero, List.set_cons_succ]
    rfl
  refine pure_ (i := 5) (N := some 12) (v := ?_) (a' := ?_) #[false, true, false, false, false, true, false, false, false, false, false, false] rfl rfl (by kernel_rfl) (fun _ _ _ h => h) (Or.inl ⟨by rfl, ?_⟩) ?_ ?_
  rotate_left
  · intro w'
    go_simp
    with_reducible rfl
  rotate_left
  · try simp only [Act.put, List.setIfInBounds_toArray, List.set_cons_zero, List.set_cons_succ]
    rfl
  refine take_ (i := 0) (N := some 7) (v := ?_) (a' := ?_) #[true, true, false, false, false, true, false, false, false, false, false, false] rfl rfl (by kernel_rfl) (fun _ _ _ h => h) (Or.inl ⟨by rfl, ?_⟩) hHeld ?_ ?_
  rotate_left
  · intro w' hs
    have c00' := cell_keepZ hs c00
    have c01' := cell_keepZ hs c01
    have c02' := cell_keepZ hs c02
    have c03' := cell_keepZ hs c03
    have c04' := cell_keepZ hs c04
    have c05' := cell_keepZ hs c05
    have c06' := cell_keepZ hs c06
    have c07' := cell_keepZ hs c07
    go_simp
    with_reducible rfl
  rotate_left
  · try simp only [Act.put, List.setIfInBounds_toArray, List.set_cons_zero, List.set_cons_succ]
    rfl
  refine take_ (i := 4) (N := some 11) (v := ?_) (a' := ?_) #[true, true, false, false, true, true, false, false, false, false, false, false] rfl rfl (by kernel_rfl) (fun _ _ _ h => h) (Or.inl ⟨by rfl, ?_⟩) hHeld ?_ ?_
  rotate_left
  · intro w' hs
    have c00' := cell_keepZ hs c00
    have c01' := cell_keepZ hs c01
    have c02' := cell_keepZ hs c02
    have c03' := cell_keepZ hs c03
    have c04' := cell_keepZ hs c04
    have c05' := cell_keepZ hs c05
    have c06' := cell_keepZ hs c06
    have c07' := cell_keepZ hs c07
    go_simp
    with_reducible rfl
  rotate_left
  · try simp only [Act.put, List.setIfInBounds_toArray, List.set_cons_zero, List.set_cons_succ]
    rfl
  refine take_ (i := 2) (N := some 9) (v := ?_) (a' := ?_) #[true, true, true, false, true, true, false, false, false, false, false, false] rfl rfl (by kernel_rfl) (fun _ _ _ h => h) (Or.inl ⟨by rfl, ?_⟩) hHeld ?_ ?_
  rotate_left
  · intro w' hs
    have c11' := cell_keepZ hs c11
    go_simp
    with_reducible rfl
  rotate_left
  · try simp only [Act.put, List.setIfInBounds_toArray, List.set_cons_zero, List.set_cons_succ]
    rfl
  refine take_ (i := 6) (N := some 13) (v := ?_) (a' := ?_) #[true, true, true, false, true, true, true, false, false, false, false, false] rfl rfl (by kernel_rfl) (fun _ _ _ h => h) (Or.inl ⟨by rfl, ?_⟩) hHeld ?_ ?_
  rotate_left
  · intro w' hs
    have c12' := cell_keepZ hs c12
    go_simp
    with_reducible rfl
  rotate_left
  · try simp only [Act.put, List.setIfInBounds_toArray, List.set_cons_zero, List.set_cons_succ]
    rfl
  have hS0 : St W2 none none W2.drew := ⟨hHeld, fun r e => (by cases e), fun r e => (by cases e), fun r s e => (by cases e)⟩
  clear hHeld
  generalize W2.drew = v0 at hS0 ⊢
  refine join_ (σ := Nat × Nat) 2 #[true, true, true, true, true, true, true, true, true, true, false, false] (fun s => [(10, .agg #[.int .u8 x0, .int .i64 x1, .int .u8 x2, .int .u8 x3, .bool x4, .int .i64 x5, .int .i64 x6, .bool x7, .bool x8]), (14, .agg #[.int .u8 y0, .int .i64 y1, .int .u8 y2, .int .u8 y3, .bool y4, .int .i64 y5, .int .i64 y6, .bool y7, .bool y8]), (5, .pointer (some ⟨s.1, 0, none⟩)), (6, .pointer (some ⟨s.2, 0, none⟩))]) (fun s w' => St W2 (some s.1) (some s.2) w') ?_ (fun hjoin => ?_)
  rotate_left
  · refine three_ (i := 3) (j := 8) (k := 9) (Ni := some 10) (Nj := some 5) (Nk := some 6) #[true, true, true, true, true, true, true, false, false, false, false, false] #[true, true, true, false, true, true, true, false, true, false, false, false] #[true, true, true, false, true, true, true, false, false, true, false, false] rfl rfl rfl rfl rfl rfl (by kernel_rfl) (by simp) (by simp) (by simp) (fun K hK => ?_) (fun K hK => ?_) (fun K hK => ?_)
    · refine goes_ Try.func22 (by kernel_rfl) rfl #[.agg #[.slice A0 l0.length c0, .int .i64 p1, .int .i64 p2, .int .u8 p3, .int .i64 p4, .int .u8 p5, .int .u8 p6, .slice A7 l7.length c7], .int .i64 o1] (by rfl) rfl rfl (by (try simp only [List.map_toArray, List.map_cons, List.map_nil]); rfl) ?_
      refine (HA.out _ (bstep HB2.out hS0.b)).mono ?_
      rintro e v1 ⟨rfl, hb1⟩
      have hS1 := hS0.call hb1
      refine ⟨_, rfl, ?_⟩
      refine hK.out _ _ hS1.b (fun _ => ?_)
      clear hK K hb1
      refine norm_ (a' := ?_) ?_ ?_
      rotate_left
      · try simp only [Act.put, List.setIfInBounds_toArray, List.set_cons_zero, List.set_cons_succ]
        rfl
      refine three_ (i := 7) (j := 8) (k := 9) (Ni := some 14) (Nj := some 5) (Nk := some 6) #[true, true, true, true, true, true, true, true, false, false, false, false] #[true, true, true, true, true, true, true, false, true, false, false, false] #[true, true, true, true, true, true, true, false, false, true, false, false] rfl rfl rfl rfl rfl rfl (by kernel_rfl) (by simp) (by simp) (by simp) (fun K hK => ?_) (fun K hK => ?_) (fun K hK => ?_)
      · refine goes_ Try.func22 (by kernel_rfl) rfl #[.agg #[.slice A0 l0.length c0, .int .i64 p1, .int .i64 p2, .int .u8 p3, .int .i64 p4, .int .u8 p5, .int .u8 p6, .slice A7 l7.length c7], .int .i64 o2] (by rfl) rfl rfl (by (try simp only [List.map_toArray, List.map_cons, List.map_nil]); rfl) ?_
        refine (HB.out _ (bstep HB2.out hS1.b)).mono ?_
        rintro e v2 ⟨rfl, hb2⟩
        have hS2 := hS1.call hb2
        refine ⟨_, rfl, ?_⟩
        refine hK.out _ _ hS2.b (fun _ => ?_)
        clear hK K hb2
        refine norm_ (a' := ?_) ?_ ?_
        rotate_left
        · try simp only [Act.put, List.setIfInBounds_toArray, List.set_cons_zero, List.set_cons_succ]
          rfl
        refine two_ (i := 8) (j := 9) (Ni := some 5) (Nj := some 6) #[true, true, true, true, true, true, true, true, true, false, false, false] #[true, true, true, true, true, true, true, true, false, true, false, false] rfl rfl rfl rfl (by kernel_rfl) (by simp) (by simp) (fun K hK => ?_) (fun K hK => ?_)
        · rw [if_pos (by rfl)]
          go_simp
          have hS3 := hS2.ax
          unfold Z9 at hS3
          refine hK.out _ _ hS3.b (fun _ => ?_)
          clear hK K
          generalize World.alloc v2 (.cells #[.int .u8 0, .int .i64 0, .int .u8 0, .int .u8 0, .bool false, .int .i64 0, .int .i64 0, .bool false, .bool false] 52) = v3 at hS3 ⊢
          generalize v2.heap.size = r3 at hS3 ⊢
          refine norm_ (a' := ?_) ?_ ?_
          rotate_left
          · try simp only [Act.put, List.setIfInBounds_toArray, List.set_cons_zero, List.set_cons_succ]
            rfl
          refine one_ (i := 9) (N := some 6) #[true, true, true, true, true, true, true, true, true, true, false, false] rfl rfl (by kernel_rfl) (by simp) (fun K hK => ?_)
          rw [if_pos (by rfl)]
          go_simp
          have hS4 := hS3.ay
          unfold Z9 at hS4
          refine hK.out _ _ hS4.b (fun _ => ?_)
          clear hK K
          generalize World.alloc v3 (.cells #[.int .u8 0, .int .i64 0, .int .u8 0, .int .u8 0, .bool false, .int .i64 0, .int .i64 0, .bool false, .bool false] 52) = v4 at hS4 ⊢
          generalize v3.heap.size = r4 at hS4 ⊢
          refine norm_ (a' := ?_) ?_ ?_
          rotate_left
          · try simp only [Act.put, List.setIfInBounds_toArray, List.set_cons_zero, List.set_cons_succ]
            rfl
          exact hjoin (r3, r4) _ hS4
        · rw [if_pos (by rfl)]
          go_simp
          have hS5 := hS2.ay
          unfold Z9 at hS5
          refine hK.out _ _ hS5.b (fun _ => ?_)
          clear hK K
          generalize World.alloc v2 (.cells #[.int .u8 0, .int .i64 0, .int .u8 0, .int .u8 0, .bool false, .int .i64 0, .int .i64 0, .bool false, .bool false] 52) = v5 at hS5 ⊢
          generalize v2.heap.size = r5 at hS5 ⊢
          refine norm_ (a' := ?_) ?_ ?_
          rotate_left
          · try simp only [Act.put, List.setIfInBounds_toArray, List.set_cons_zero, List.set_cons_succ]
            rfl
          refine one_ (i := 8) (N := some 5) #[true, true, true, true, true, true, true, true, true, true, false, false] rfl rfl (by kernel_rfl) (by simp) (fun K hK => ?_)
          rw [if_pos (by rfl)]
          go_simp
          have hS6 := hS5.ax
          unfold Z9 at hS6
          refine hK.out _ _ hS6.b (fun _ => ?_)
          clear hK K
          generalize World.alloc v5 (.cells #[.int .u8 0, .int .i64 0, .int .u8 0, .int .u8 0, .bool false, .int .i64 0, .int .i64 0, .bool false, .bool false] 52) = v6 at hS6 ⊢
          generalize v5.heap.size = r6 at hS6 ⊢
          refine norm_ (a' := ?_) ?_ ?_
          rotate_left
          · try simp only [Act.put, List.setIfInBounds_toArray, List.set_cons_zero, List.set_cons_succ]
            rfl
          exact hjoin (r6, r5) _ hS6
      · rw [if_pos (by rfl)]
        go_simp
        have hS7 := hS1.ax
        unfold Z9 at hS7
        refine hK.out _ _ hS7.b (fun _ => ?_)
        clear hK K
        generalize World.alloc v1 (.cells #[.int .u8 0, .int .i64 0, .int .u8 0, .int .u8 0, .bool false, .int .i64 0, .int .i64 0, .bool false, .bool false] 52) = v7 at hS7 ⊢
        generalize v1.heap.size = r7 at hS7 ⊢
        refine norm_ (a' := ?_) ?_ ?_
        rotate_left
        · try simp only [Act.put, List.setIfInBounds_toArray, List.set_cons_zero, List.set_cons_succ]
          rfl
        refine two_ (i := 7) (j := 9) (Ni := some 14) (Nj := some 6) #[true, true, true, true, true, true, true, true, true, false, false, false] #[true, true, true, true, true, true, true, false, true, true, false, false] rfl rfl rfl rfl (by kernel_rfl) (by simp) (by simp) (fun K hK => ?_) (fun K hK => ?_)
        · refine goes_ Try.func22 (by kernel_rfl) rfl #[.agg #[.slice A0 l0.length c0, .int .i64 p1, .int .i64 p2, .int .u8 p3, .int .i64 p4, .int .u8 p5, .int .u8 p6, .slice A7 l7.length c7], .int .i64 o2] (by rfl) rfl rfl (by (try simp only [List.map_toArray, List.map_cons, List.map_nil]); rfl) ?_
          refine (HB.out _ (bstep HB2.out hS7.b)).mono ?_
          rintro e v8 ⟨rfl, hb8⟩
          have hS8 := hS7.call hb8
          refine ⟨_, rfl, ?_⟩
          refine hK.out _ _ hS8.b (fun _ => ?_)
          clear hK K hb8
          refine norm_ (a' := ?_) ?_ ?_
          rotate_left
          · try simp only [Act.put, List.setIfInBounds_toArray, List.set_cons_zero, List.set_cons_succ]
            rfl
          refine one_ (i := 9) (N := some 6) #[true, true, true, true, true, true, true, true, true, true, false, false] rfl rfl (by kernel_rfl) (by simp) (fun K hK => ?_)
          rw [if_pos (by rfl)]
          go_simp
          have hS9 := hS8.ay
          unfold Z9 at hS9
          refine hK.out _ _ hS9.b (fun _ => ?_)
          clear hK K
          generalize World.alloc v8 (.cells #[.int .u8 0, .int .i64 0, .int .u8 0, .int .u8 0, .bool false, .int .i64 0, .int .i64 0, .bool false, .bool false] 52) = v9 at hS9 ⊢
          generalize v8.heap.size = r9 at hS9 ⊢
          refine norm_ (a' := ?_) ?_ ?_
          rotate_left
          · try simp only [Act.put, List.setIfInBounds_toArray, List.set_cons_zero, List.set_cons_succ]
            rfl
          exact hjoin (r7, r9) _ hS9
        · rw [if_pos (by rfl)]
          go_simp
          have hS10 := hS7.ay
          unfold Z9 at hS10
          refine hK.out _ _ hS10.b (fun _ => ?_)
          clear hK K
          generalize World.alloc v7 (.cells #[.int .u8 0, .int .i64 0, .int .u8 0, .int .u8 0, .bool false, .int .i64 0, .int .i64 0, .bool false, .bool false] 52) = v10 at hS10 ⊢
          generalize v7.heap.size = r10 at hS10 ⊢
          refine norm_ (a' := ?_) ?_ ?_
          rotate_left
          · try simp only [Act.put, List.setIfInBounds_toArray, List.set_cons_zero, List.set_cons_succ]
            rfl
          refine one_ (i := 7) (N := some 14) #[true, true, true, true, true, true, true, true, true, true, false, false] rfl rfl (by kernel_rfl) (by simp) (fun K hK => ?_)
          refine goes_ Try.func22 (by kernel_rfl) rfl #[.agg #[.slice A0 l0.length c0, .int .i64 p1, .int .i64 p2, .int .u8 p3, .int .i64 p4, .int .u8 p5, .int .u8 p6, .slice A7 l7.length c7], .int .i64 o2] (by rfl) rfl rfl (by (try simp only [List.map_toArray, List.map_cons, List.map_nil]); rfl) ?_
          refine (HB.out _ (bstep HB2.out hS10.b)).mono ?_
          rintro e v11 ⟨rfl, hb11⟩
          have hS11 := hS10.call hb11
          refine ⟨_, rfl, ?_⟩
          refine hK.out _ _ hS11.b (fun _ => ?_)
          clear hK K hb11
          refine norm_ (a' := ?_) ?_ ?_
          rotate_left
          · try simp only [Act.put, List.setIfInBounds_toArray, List.set_cons_zero, List.set_cons_succ]
            rfl
          exact hjoin (r7, r10) _ hS11
      · rw [if_pos (by rfl)]
        go_simp
        have hS12 := hS1.ay
        unfold Z9 at hS12
        refine hK.out _ _ hS12.b (fun _ => ?_)
        clear hK K
        generalize World.alloc v1 (.cells #[.int .u8 0, .int .i64 0, .int .u8 0, .int .u8 0, .bool false, .int .i64 0, .int .i64 0, .bool false, .bool false] 52) = v12 at hS12 ⊢
        generalize v1.heap.size = r12 at hS12 ⊢
        refine norm_ (a' := ?_) ?_ ?_
        rotate_left
        · try simp only [Act.put, List.setIfInBounds_toArray, List.set_cons_zero, List.set_cons_succ]
          rfl
        refine two_ (i := 7) (j := 8) (Ni := some 14) (Nj := some 5) #[true, true, true, true, true, true, true, true, false, true, false, false] #[true, true, true, true, true, true, true, false, true, true, false, false] rfl rfl rfl rfl (by kernel_rfl) (by simp) (by simp) (fun K hK => ?_) (fun K hK => ?_)
        · refine goes_ Try.func22 (by kernel_rfl) rfl #[.agg #[.slice A0 l0.length c0, .int .i64 p1, .int .i64 p2, .int .u8 p3, .int .i64 p4, .int .u8 p5, .int .u8 p6, .slice A7 l7.length c7], .int .i64 o2] (by rfl) rfl rfl (by (try simp only [List.map_toArray, List.map_cons, List.map_nil]); rfl) ?_
          refine (HB.out _ (bstep HB2.out hS12.b)).mono ?_
          rintro e v13 ⟨rfl, hb13⟩
          have hS13 := hS12.call hb13
          refine ⟨_, rfl, ?_⟩
          refine hK.out _ _ hS13.b (fun _ => ?_)
          clear hK K hb13
          refine norm_ (a' := ?_) ?_ ?_
          rotate_left
          · try simp only [Act.put, List.setIfInBounds_toArray, List.set_cons_zero, List.set_cons_succ]
            rfl
          refine one_ (i := 8) (N := some 5) #[true, true, true, true, true, true, true, true, true, true, false, false] rfl rfl (by kernel_rfl) (by simp) (fun K hK => ?_)
          rw [if_pos (by rfl)]
          go_simp
          have hS14 := hS13.ax
          unfold Z9 at hS14
          refine hK.out _ _ hS14.b (fun _ => ?_)
          clear hK K
          generalize World.alloc v13 (.cells #[.int .u8 0, .int .i64 0, .int .u8 0, .int .u8 0, .bool false, .int .i64 0, .int .i64 0, .bool false, .bool false] 52) = v14 at hS14 ⊢
          generalize v13.heap.size = r14 at hS14 ⊢
          refine norm_ (a' := ?_) ?_ ?_
          rotate_left
          · try simp only [Act.put, List.setIfInBounds_toArray, List.set_cons_zero, List.set_cons_succ]
            rfl
          exact hjoin (r14, r12) _ hS14
        · rw [if_pos (by rfl)]
          go_simp
          have hS15 := hS12.ax
          unfold Z9 at hS15
          refine hK.out _ _ hS15.b (fun _ => ?_)
          clear hK K
          generalize World.alloc v12 (.cells #[.int .u8 0, .int .i64 0, .int .u8 0, .int .u8 0, .bool false, .int .i64 0, .int .i64 0, .bool false, .bool false] 52) = v15 at hS15 ⊢
          generalize v12.heap.size = r15 at hS15 ⊢
          refine norm_ (a' := ?_) ?_ ?_
          rotate_left
          · try simp only [Act.put, List.setIfInBounds_toArray, List.set_cons_zero, List.set_cons_succ]
            rfl
          refine one_ (i := 7) (N := some 14) #[true, true, true, true, true, true, true, true, true, true, false, false] rfl rfl (by kernel_rfl) (by simp) (fun K hK => ?_)
          refine goes_ Try.func22 (by kernel_rfl) rfl #[.agg #[.slice A0 l0.length c0, .int .i64 p1, .int .i64 p2, .int .u8 p3, .int .i64 p4, .int .u8 p5, .int .u8 p6, .slice A7 l7.length c7], .int .i64 o2] (by rfl) rfl rfl (by (try simp only [List.map_toArray, List.map_cons, List.map_nil]); rfl) ?_
          refine (HB.out _ (bstep HB2.out hS15.b)).mono ?_
          rintro e v16 ⟨rfl, hb16⟩
          have hS16 := hS15.call hb16
          refine ⟨_, rfl, ?_⟩
          refine hK.out _ _ hS16.b (fun _ => ?_)
          clear hK K hb16
          refine norm_ (a' := ?_) ?_ ?_
          rotate_left
          · try simp only [Act.put, List.setIfInBounds_toArray, List.set_cons_zero, List.set_cons_succ]
            rfl
          exact hjoin (r15, r12) _ hS16
    · rw [if_pos (by rfl)]
      go_simp
      have hS17 := hS0.ax
      unfold Z9 at hS17
      refine hK.out _ _ hS17.b (fun _ => ?_)
      clear hK K
      generalize World.alloc v0 (.cells #[.int .u8 0, .int .i64 0, .int .u8 0, .int .u8 0, .bool false, .int .i64 0, .int .i64 0, .bool false, .bool false] 52) = v17 at hS17 ⊢
      generalize v0.heap.size = r17 at hS17 ⊢
      refine norm_ (a' := ?_) ?_ ?_
      rotate_left
      · try simp only [Act.put, List.setIfInBounds_toArray, List.set_cons_zero, List.set_cons_succ]
        rfl
      refine two_ (i := 3) (j := 9) (Ni := some 10) (Nj := some 6) #[true, true, true, true, true, true, true, false, true, false, false, false] #[true, true, true, false, true, true, true, false, true, true, false, false] rfl rfl rfl rfl (by kernel_rfl) (by simp) (by simp) (fun K hK => ?_) (fun K hK => ?_)
      · refine goes_ Try.func22 (by kernel_rfl) rfl #[.agg #[.slice A0 l0.length c0, .int .i64 p1, .int .i64 p2, .int .u8 p3, .int .i64 p4, .int .u8 p5, .int .u8 p6, .slice A7 l7.length c7], .int .i64 o1] (by rfl) rfl rfl (by (try simp only [List.map_toArray, List.map_cons, List.map_nil]); rfl) ?_
        refine (HA.out _ (bstep HB2.out hS17.b)).mono ?_
        rintro e v18 ⟨rfl, hb18⟩
        have hS18 := hS17.call hb18
        refine ⟨_, rfl, ?_⟩
        refine hK.out _ _ hS18.b (fun _ => ?_)
        clear hK K hb18
        refine norm_ (a' := ?_) ?_ ?_
        rotate_left
        · try simp only [Act.put, List.setIfInBounds_toArray, List.set_cons_zero, List.set_cons_succ]
          rfl
        refine two_ (i := 7) (j := 9) (Ni := some 14) (Nj := some 6) #[true, true, true, true, true, true, true, true, true, false, false, false] #[true, true, true, true, true, true, true, false, true, true, false, false] rfl rfl rfl rfl (by kernel_rfl) (by simp) (by simp) (fun K hK => ?_) (fun K hK => ?_)
        · refine goes_ Try.func22 (by kernel_rfl) rfl #[.agg #[.slice A0 l0.length c0, .int .i64 p1, .int .i64 p2, .int .u8 p3, .int .i64 p4, .int .u8 p5, .int .u8 p6, .slice A7 l7.length c7], .int .i64 o2] (by rfl) rfl rfl (by (try simp only [List.map_toArray, List.map_cons, List.map_nil]); rfl) ?_
          refine (HB.out _ (bstep HB2.out hS18.b)).mono ?_
          rintro e v19 ⟨rfl, hb19⟩
          have hS19 := hS18.call hb19
          refine ⟨_, rfl, ?_⟩
          refine hK.out _ _ hS19.b (fun _ => ?_)
          clear hK K hb19
          refine norm_ (a' := ?_) ?_ ?_
          rotate_left
          · try simp only [Act.put, List.setIfInBounds_toArray, List.set_cons_zero, List.set_cons_succ]
            rfl
          refine one_ (i := 9) (N := some 6) #[true, true, true, true, true, true, true, true, true, true, false, false] rfl rfl (by kernel_rfl) (by simp) (fun K hK => ?_)
          rw [if_pos (by rfl)]
          go_simp
          have hS20 := hS19.ay
          unfold Z9 at hS20
          refine hK.out _ _ hS20.b (fun _ => ?_)
          clear hK K
          generalize World.alloc v19 (.cells #[.int .u8 0, .int .i64 0, .int .u8 0, .int .u8 0, .bool false, .int .i64 0, .int .i64 0, .bool false, .bool false] 52) = v20 at hS20 ⊢
          generalize v19.heap.size = r20 at hS20 ⊢
          refine norm_ (a' := ?_) ?_ ?_
          rotate_left
          · try simp only [Act.put, List.setIfInBounds_toArray, List.set_cons_zero, List.set_cons_succ]
            rfl
          exact hjoin (r17, r20) _ hS20
        · rw [if_pos (by rfl)]
          go_simp
          have hS21 := hS18.ay
          unfold Z9 at hS21
          refine hK.out _ _ hS21.b (fun _ => ?_)
          clear hK K
          generalize World.alloc v18 (.cells #[.int .u8 0, .int .i64 0, .int .u8 0, .int .u8 0, .bool false, .int .i64 0, .int .i64 0, .bool false, .bool false] 52) = v21 at hS21 ⊢
          generalize v18.heap.size = r21 at hS21 ⊢
          refine norm_ (a' := ?_) ?_ ?_
          rotate_left
          · try simp only [Act.put, List.setIfInBounds_toArray, List.set_cons_zero, List.set_cons_succ]
            rfl
          refine one_ (i := 7) (N := some 14) #[true, true, true, true, true, true, true, true, true, true, false, false] rfl rfl (by kernel_rfl) (by simp) (fun K hK => ?_)
          refine goes_ Try.func22 (by kernel_rfl) rfl #[.agg #[.slice A0 l0.length c0, .int .i64 p1, .int .i64 p2, .int .u8 p3, .int .i64 p4, .int .u8 p5, .int .u8 p6, .slice A7 l7.length c7], .int .i64 o2] (by rfl) rfl rfl (by (try simp only [List.map_toArray, List.map_cons, List.map_nil]); rfl) ?_
          refine (HB.out _ (bstep HB2.out hS21.b)).mono ?_
          rintro e v22 ⟨rfl, hb22⟩
          have hS22 := hS21.call hb22
          refine ⟨_, rfl, ?_⟩
          refine hK.out _ _ hS22.b (fun _ => ?_)
          clear hK K hb22
          refine norm_ (a' := ?_) ?_ ?_
          rotate_left
          · try simp only [Act.put, List.setIfInBounds_toArray, List.set_cons_zero, List.set_cons_succ]
            rfl
          exact hjoin (r17, r21) _ hS22
      · rw [if_pos (by rfl)]
        go_simp
        have hS23 := hS17.ay
        unfold Z9 at hS23
        refine hK.out _ _ hS23.b (fun _ => ?_)
        clear hK K
        generalize World.alloc v17 (.cells #[.int .u8 0, .int .i64 0, .int .u8 0, .int .u8 0, .bool false, .int .i64 0, .int .i64 0, .bool false, .bool false] 52) = v23 at hS23 ⊢
        generalize v17.heap.size = r23 at hS23 ⊢
        refine norm_ (a' := ?_) ?_ ?_
        rotate_left
        · try simp only [Act.put, List.setIfInBounds_toArray, List.set_cons_zero, List.set_cons_succ]
          rfl
        refine one_ (i := 3) (N := some 10) #[true, true, true, true, true, true, true, false, true, true, false, false] rfl rfl (by kernel_rfl) (by simp) (fun K hK => ?_)
        refine goes_ Try.func22 (by kernel_rfl) rfl #[.agg #[.slice A0 l0.length c0, .int .i64 p1, .int .i64 p2, .int .u8 p3, .int .i64 p4, .int .u8 p5, .int .u8 p6, .slice A7 l7.length c7], .int .i64 o1] (by rfl) rfl rfl (by (try simp only [List.map_toArray, List.map_cons, List.map_nil]); rfl) ?_
        refine (HA.out _ (bstep HB2.out hS23.b)).mono ?_
        rintro e v24 ⟨rfl, hb24⟩
        have hS24 := hS23.call hb24
        refine ⟨_, rfl, ?_⟩
        refine hK.out _ _ hS24.b (fun _ => ?_)
        clear hK K hb24
        refine norm_ (a' := ?_) ?_ ?_
        rotate_left
        · try simp only [Act.put, List.setIfInBounds_toArray, List.set_cons_zero, List.set_cons_succ]
          rfl
        refine one_ (i := 7) (N := some 14) #[true, true, true, true, true, true, true, true, true, true, false, false] rfl rfl (by kernel_rfl) (by simp) (fun K hK => ?_)
        refine goes_ Try.func22 (by kernel_rfl) rfl #[.agg #[.slice A0 l0.length c0, .int .i64 p1, .int .i64 p2, .int .u8 p3, .int .i64 p4, .int .u8 p5, .int .u8 p6, .slice A7 l7.length c7], .int .i64 o2] (by rfl) rfl rfl (by (try simp only [List.map_toArray, List.map_cons, List.map_nil]); rfl) ?_
        refine (HB.out _ (bstep HB2.out hS24.b)).mono ?_
        rintro e v25 ⟨rfl, hb25⟩
        have hS25 := hS24.call hb25
        refine ⟨_, rfl, ?_⟩
        refine hK.out _ _ hS25.b (fun _ => ?_)
        clear hK K hb25
        refine norm_ (a' := ?_) ?_ ?_
        rotate_left
        · try simp only [Act.put, List.setIfInBounds_toArray, List.set_cons_zero, List.set_cons_succ]
          rfl
        exact hjoin (r17, r23) _ hS25
    · rw [if_pos (by rfl)]
      go_simp
      have hS26 := hS0.ay
      unfold Z9 at hS26
      refine hK.out _ _ hS26.b (fun _ => ?_)
      clear hK K
      generalize World.alloc v0 (.cells #[.int .u8 0, .int .i64 0, .int .u8 0, .int .u8 0, .bool false, .int .i64 0, .int .i64 0, .bool false, .bool false] 52) = v26 at hS26 ⊢
      generalize v0.heap.size = r26 at hS26 ⊢
      refine norm_ (a' := ?_) ?_ ?_
      rotate_left
      · try simp only [Act.put, List.setIfInBounds_toArray, List.set_cons_zero, List.set_cons_succ]
        rfl
      refine two_ (i := 3) (j := 8) (Ni := some 10) (Nj := some 5) #[true, true, true, true, true, true, true, false, false, true, false, false] #[true, true, true, false, true, true, true, false, true, true, false, false] rfl rfl rfl rfl (by kernel_rfl) (by simp) (by simp) (fun K hK => ?_) (fun K hK => ?_)
      · refine goes_ Try.func22 (by kernel_rfl) rfl #[.agg #[.slice A0 l0.length c0, .int .i64 p1, .int .i64 p2, .int .u8 p3, .int .i64 p4, .int .u8 p5, .int .u8 p6, .slice A7 l7.length c7], .int .i64 o1] (by rfl) rfl rfl (by (try simp only [List.map_toArray, List.map_cons, List.map_nil]); rfl) ?_
        refine (HA.out _ (bstep HB2.out hS26.b)).mono ?_
        rintro e v27 ⟨rfl, hb27⟩
        have hS27 := hS26.call hb27
        refine ⟨_, rfl, ?_⟩
        refine hK.out _ _ hS27.b (fun _ => ?_)
        clear hK K hb27
        refine norm_ (a' := ?_) ?_ ?_
        rotate_left
        · try simp only [Act.put, List.setIfInBounds_toArray, List.set_cons_zero, List.set_cons_succ]
          rfl
        refine two_ (i := 7) (j := 8) (Ni := some 14) (Nj := some 5) #[true, true, true, true, true, true, true, true, false, true, false, false] #[true, true, true, true, true, true, true, false, true, true, false, false] rfl rfl rfl rfl (by kernel_rfl) (by simp) (by simp) (fun K hK => ?_) (fun K hK => ?_)
        · refine goes_ Try.func22 (by kernel_rfl) rfl #[.agg #[.slice A0 l0.length c0, .int .i64 p1, .int .i64 p2, .int .u8 p3, .int .i64 p4, .int .u8 p5, .int .u8 p6, .slice A7 l7.length c7], .int .i64 o2] (by rfl) rfl rfl (by (try simp only [List.map_toArray, List.map_cons, List.map_nil]); rfl) ?_
          refine (HB.out _ (bstep HB2.out hS27.b)).mono ?_
          rintro e v28 ⟨rfl, hb28⟩
          have hS28 := hS27.call hb28
          refine ⟨_, rfl, ?_⟩
          refine hK.out _ _ hS28.b (fun _ => ?_)
          clear hK K hb28
          refine norm_ (a' := ?_) ?_ ?_
          rotate_left
          · try simp only [Act.put, List.setIfInBounds_toArray, List.set_cons_zero, List.set_cons_succ]
            rfl
          refine one_ (i := 8) (N := some 5) #[true, true, true, true, true, true, true, true, true, true, false, false] rfl rfl (by kernel_rfl) (by simp) (fun K hK => ?_)
          rw [if_pos (by rfl)]
          go_simp
          have hS29 := hS28.ax
          unfold Z9 at hS29
          refine hK.out _ _ hS29.b (fun _ => ?_)
          clear hK K
          generalize World.alloc v28 (.cells #[.int .u8 0, .int .i64 0, .int .u8 0, .int .u8 0, .bool false, .int .i64 0, .int .i64 0, .bool false, .bool false] 52) = v29 at hS29 ⊢
          generalize v28.heap.size = r29 at hS29 ⊢
          refine norm_ (a' := ?_) ?_ ?_
          rotate_left
          · try simp only [Act.put, List.setIfInBounds_toArray, List.set_cons_zero, List.set_cons_succ]
            rfl
          exact hjoin (r29, r26) _ hS29
        · rw [if_pos (by rfl)]
          go_simp
          have hS30 := hS27.ax
          unfold Z9 at hS30
          refine hK.out _ _ hS30.b (fun _ => ?_)
          clear hK K
          generalize World.alloc v27 (.cells #[.int .u8 0, .int .i64 0, .int .u8 0, .int .u8 0, .bool false, .int .i64 0, .int .i64 0, .bool false, .bool false] 52) = v30 at hS30 ⊢
          generalize v27.heap.size = r30 at hS30 ⊢
          refine norm_ (a' := ?_) ?_ ?_
          rotate_left
          · try simp only [Act.put, List.setIfInBounds_toArray, List.set_cons_zero, List.set_cons_succ]
            rfl
          refine one_ (i := 7) (N := some 14) #[true, true, true, true, true, true, true, true, true, true, false, false] rfl rfl (by kernel_rfl) (by simp) (fun K hK => ?_)
          refine goes_ Try.func22 (by kernel_rfl) rfl #[.agg #[.slice A0 l0.length c0, .int .i64 p1, .int .i64 p2, .int .u8 p3, .int .i64 p4, .int .u8 p5, .int .u8 p6, .slice A7 l7.length c7], .int .i64 o2] (by rfl) rfl rfl (by (try simp only [List.map_toArray, List.map_cons, List.map_nil]); rfl) ?_
          refine (HB.out _ (bstep HB2.out hS30.b)).mono ?_
          rintro e v31 ⟨rfl, hb31⟩
          have hS31 := hS30.call hb31
          refine ⟨_, rfl, ?_⟩
          refine hK.out _ _ hS31.b (fun _ => ?_)
          clear hK K hb31
          refine norm_ (a' := ?_) ?_ ?_
          rotate_left
          · try simp only [Act.put, List.setIfInBounds_toArray, List.set_cons_zero, List.set_cons_succ]
            rfl
          exact hjoin (r30, r26) _ hS31
      · rw [if_pos (by rfl)]
        go_simp
        have hS32 := hS26.ax
        unfold Z9 at hS32
        refine hK.out _ _ hS32.b (fun _ => ?_)
        clear hK K
        generalize World.alloc v26 (.cells #[.int .u8 0, .int .i64 0, .int .u8 0, .int .u8 0, .bool false, .int .i64 0, .int .i64 0, .bool false, .bool false] 52) = v32 at hS32 ⊢
        generalize v26.heap.size = r32 at hS32 ⊢
        refine norm_ (a' := ?_) ?_ ?_
        rotate_left
        · try simp only [Act.put, List.setIfInBounds_toArray, List.set_cons_zero, List.set_cons_succ]
          rfl
        refine one_ (i := 3) (N := some 10) #[true, true, true, true, true, true, true, false, true, true, false, false] rfl rfl (by kernel_rfl) (by simp) (fun K hK => ?_)
        refine goes_ Try.func22 (by kernel_rfl) rfl #[.agg #[.slice A0 l0.length c0, .int .i64 p1, .int .i64 p2, .int .u8 p3, .int .i64 p4, .int .u8 p5, .int .u8 p6, .slice A7 l7.length c7], .int .i64 o1] (by rfl) rfl rfl (by (try simp only [List.map_toArray, List.map_cons, List.map_nil]); rfl) ?_
        refine (HA.out _ (bstep HB2.out hS32.b)).mono ?_
        rintro e v33 ⟨rfl, hb33⟩
        have hS33 := hS32.call hb33
        refine ⟨_, rfl, ?_⟩
        refine hK.out _ _ hS33.b (fun _ => ?_)
        clear hK K hb33
        refine norm_ (a' := ?_) ?_ ?_
        rotate_left
        · try simp only [Act.put, List.setIfInBounds_toArray, List.set_cons_zero, List.set_cons_succ]
          rfl
        refine one_ (i := 7) (N := some 14) #[true, true, true, true, true, true, true, true, true, true, false, false] rfl rfl (by kernel_rfl) (by simp) (fun K hK => ?_)
        refine goes_ Try.func22 (by kernel_rfl) rfl #[.agg #[.slice A0 l0.length c0, .int .i64 p1, .int .i64 p2, .int .u8 p3, .int .i64 p4, .int .u8 p5, .int .u8 p6, .slice A7 l7.length c7], .int .i64 o2] (by rfl) rfl rfl (by (try simp only [List.map_toArray, List.map_cons, List.map_nil]); rfl) ?_
        refine (HB.out _ (bstep HB2.out hS33.b)).mono ?_
        rintro e v34 ⟨rfl, hb34⟩
        have hS34 := hS33.call hb34
        refine ⟨_, rfl, ?_⟩
        refine hK.out _ _ hS34.b (fun _ => ?_)
        clear hK K hb34
        refine norm_ (a' := ?_) ?_ ?_
        rotate_left
        · try simp only [Act.put, List.setIfInBounds_toArray, List.set_cons_zero, List.set_cons_succ]
          rfl
        exact hjoin (r32, r26) _ hS34
  rintro ⟨r, s⟩ v hSt
  simp only [putAll]
  refine norm_ (a' := ?_) ?_ ?_
  rotate_left
  · simp only [Act.put, List.setIfInBounds_toArray, List.set_cons_zero, List.set_cons_succ]
    rfl
  have hxr := (hSt.x r rfl).1
  have hyr := (hSt.y s rfl).1
  have hne := hSt.ne r s rfl rfl
  have bx := (hSt.x r rfl).2
  have by_ := (hSt.y s rfl).2
  have hb := hSt.b
  clear hSt
  unfold Z9 at bx by_
  have cx0 := bx.cell 0
  have fx0 := bx.frozen 0
  have cx1 := bx.cell 1
  have fx1 := bx.frozen 1
  have cx2 := bx.cell 2
  have fx2 := bx.frozen 2
  have cx3 := bx.cell 3
  have fx3 := bx.frozen 3
  have cx4 := bx.cell 4
  have fx4 := bx.frozen 4
  have cx5 := bx.cell 5
  have fx5 := bx.frozen 5
  have cx6 := bx.cell 6
  have fx6 := bx.frozen 6
  have cx7 := bx.cell 7
  have fx7 := bx.frozen 7
  have cx8 := bx.cell 8
  have fx8 := bx.frozen 8
  simp only [List.getElem?_toArray, List.getElem?_cons_zero, List.getElem?_cons_succ] at cx0 cx1 cx2 cx3 cx4 cx5 cx6 cx7 cx8
  refine one_ (i := 10) (N := none) #[true, true, true, true, true, true, true, true, true, true, true, false] rfl rfl (by kernel_rfl) (by simp) (fun K hK => ?_)
  rw [if_pos (by rfl)]
  go_simp
  have bx1 := on9 (v0 := .int .u8 x0) (v1 := .int .i64 x1) (v2 := .int .u8 x2) (v3 := .int .u8 x3) (v4 := .bool x4) (v5 := .int .i64 x5) (v6 := .int .i64 x6) (v7 := .bool x7) (v8 := .bool x8) bx
  have by1 := far9 (v0 := .int .u8 x0) (v1 := .int .i64 x1) (v2 := .int .u8 x2) (v3 := .int .u8 x3) (v4 := .bool x4) (v5 := .int .i64 x5) (v6 := .int .i64 x6) (v7 := .bool x7) (v8 := .bool x8) by_ hne.symm
  have hb1 := below9 (v0 := .int .u8 x0) (v1 := .int .i64 x1) (v2 := .int .u8 x2) (v3 := .int .u8 x3) (v4 := .bool x4) (v5 := .int .i64 x5) (v6 := .int .i64 x6) (v7 := .bool x7) (v8 := .bool x8) hb hxr
  refine hK.out _ _ hb1 (fun _ => ?_)
  clear hK K cx0 cx1 cx2 cx3 cx4 cx5 cx6 cx7 cx8 fx0 fx1 fx2 fx3 fx4 fx5 fx6 fx7 fx8 bx by_ hb
  generalize World.setCell _ _ _ = v1 at bx1 by1 hb1 ⊢
  have cy0 := by1.cell 0
  have fy0 := by1.frozen 0
  have cy1 := by1.cell 1
  have fy1 := by1.frozen 1
  have cy2 := by1.cell 2
  have fy2 := by1.frozen 2
  have cy3 := by1.cell 3
  have fy3 := by1.frozen 3
  have cy4 := by1.cell 4
  have fy4 := by1.frozen 4
  have cy5 := by1.cell 5
  have fy5 := by1.frozen 5
  have cy6 := by1.cell 6
  have fy6 := by1.frozen 6
  have cy7 := by1.cell 7
  have fy7 := by1.frozen 7
  have cy8 := by1.cell 8
  have fy8 := by1.frozen 8
  simp only [List.getElem?_toArray, List.getElem?_cons_zero, List.getElem?_cons_succ] at cy0 cy1 cy2 cy3 cy4 cy5 cy6 cy7 cy8
  refine one_ (i := 11) (N := none) #[true, true, true, true, true, true, true, true, true, true, true, true] rfl rfl (by kernel_rfl) (by simp) (fun K hK => ?_)
  rw [if_pos (by rfl)]
  go_simp
  have by2 := on9 (v0 := .int .u8 y0) (v1 := .int .i64 y1) (v2 := .int .u8 y2) (v3 := .int .u8 y3) (v4 := .bool y4) (v5 := .int .i64 y5) (v6 := .int .i64 y6) (v7 := .bool y7) (v8 := .bool y8) by1
  have bx2 := far9 (v0 := .int .u8 y0) (v1 := .int .i64 y1) (v2 := .int .u8 y2) (v3 := .int .u8 y3) (v4 := .bool y4) (v5 := .int .i64 y5) (v6 := .int .i64 y6) (v7 := .bool y7) (v8 := .bool y8) bx1 hne
  have hb2 := below9 (v0 := .int .u8 y0) (v1 := .int .i64 y1) (v2 := .int .u8 y2) (v3 := .int .u8 y3) (v4 := .bool y4) (v5 := .int .i64 y5) (v6 := .int .i64 y6) (v7 := .bool y7) (v8 := .bool y8) hb1 hyr
  refine hK.out _ _ hb2 (fun _ => ?_)
  clear hK K cy0 cy1 cy2 cy3 cy4 cy5 cy6 cy7 cy8 fy0 fy1 fy2 fy3 fy4 fy5 fy6 fy7 fy8 by1 bx1 hb1
  generalize World.setCell _ _ _ = v2 at bx2 by2 hb2 ⊢
  refine done_ (by kernel_rfl) ?_
  have d12 := cell_keepZ hb2 c12
  have q6 := bx2.cell 6
  have z4 := by2.cell 4
  have z6 := by2.cell 6
  have z8 := by2.cell 8
  simp only [List.getElem?_toArray, List.getElem?_cons_zero, List.getElem?_cons_succ] at q6 z4 z6 z8
  have hF : Below g w v2 := by
    have h0 := HB2.out
    rw [← HG.out]
    exact bstep h0 hb2
  clear c00 c01 c02 c03 c04 c05 c06 c07 c11 c12 bx2 by2 hb2 hxr hyr hne HA HB
  have HF := Lib.hid hF
  clear hF
  by_cases h1 : o2 = -1
  · have e1 : (o2 == -1) = true := beq_iff_eq.2 h1
    have hv : attackV o2 x6 y4 y6 y8 = wrap64 (40000 + x6) := by unfold attackV; rw [if_pos h1]
    clear h1
    go_wp2_with fail
    go_ret
    exact ⟨by rw [hv]; rfl, by rw [HG.out]; exact HF.out⟩
  · have e1 : (o2 == -1) = false := beq_eq_false_iff_ne.2 h1
    cases y4 with
    | false =>
      have hv : attackV o2 x6 false y6 y8 = 25000 := by unfold attackV; rw [if_neg h1, if_neg (by decide)]
      clear h1
      go_wp2_with fail
      go_ret
      exact ⟨by rw [hv]; rfl, by rw [HG.out]; exact HF.out⟩
    | true =>
      by_cases h2 : x6 > y6
      · have e2 : decide (x6 > y6) = true := decide_eq_true h2
        have hv : attackV o2 x6 true y6 y8 = wrap64 (wrap64 (30000 + x6) - y6) := by unfold attackV; rw [if_neg h1, if_pos rfl, if_pos h2]
        clear h1 h2
        go_wp2_with fail
        go_ret
        exact ⟨by rw [hv]; rfl, by rw [HG.out]; exact HF.out⟩
      · have e2 : decide (x6 > y6) = false := decide_eq_false h2
        cases y8 with
        | false =>
          have hv : attackV o2 x6 true y6 false = 1 := by unfold attackV; rw [if_neg h1, if_pos rfl, if_neg h2, if_neg (by decide)]
          clear h1 h2
          go_wp2_with fail
          go_ret
          exact ⟨by rw [hv]; rfl, by rw [HG.out]; exact HF.out⟩
        | true =>
          have hv : attackV o2 x6 true y6 true = wrap64 (wrap64 (30000 + x6) - y6) := by unfold attackV; rw [if_neg h1, if_pos rfl, if_neg h2, if_pos rfl]
          clear h1 h2
          go_wp2_with fail
          go_ret
          exact ⟨by rw [hv]; rfl, by rw [HG.out]; exact HF.out⟩
end Go.Proofs.Ytcdcpnhlmgmnkaa.Pil
end
section
/- What an option is worth, as a contract for the prints: all its ways. -/
namespace Go.Proofs.Ytcdcpnhlmgmnkaa.Base
open Go Go.RowKit Go.Proofs.YtcdcpnhlmgmnkaaW.PrintWords Go.Proofs.Ytcdcpnhlmgmnkaa.Ppia Go.Proofs.Ytcdcpnhlmgmnkaa.Pil

def pilot_attack.f (l0_0 : List S52) (a0_1 a0_2 a0_3 a0_4 a0_5 a0_6 : Int) (l0_7 : List S54) (o1 o2 : Int) : Option Int :=
  (pilot_line.f l0_0 a0_1 a0_2 a0_3 a0_4 a0_5 a0_6 l0_7 o1).bind fun a => (pilot_line.f l0_0 a0_1 a0_2 a0_3 a0_4 a0_5 a0_6 l0_7 o2).bind fun b =>
    some (attackV o2 a.2.2.2.2.2.2.1 b.2.2.2.2.1 b.2.2.2.2.2.2.1 b.2.2.2.2.2.2.2.2)
theorem pilot_attack.calls (A0_0 : Option Addr) (c0_0 : Nat) (l0_0 : List S52) (a0_1 a0_2 a0_3 a0_4 a0_5 a0_6 : Int) (A0_7 : Option Addr) (c0_7 : Nat) (l0_7 : List S54) (o0 o1 o2 r : Int) (w : World)
    (hr0_0 : Kd.C k52 w A0_0 l0_0.length l0_0) (hc0_0 : l0_0.length ≤ c0_0) (hr0_7 : Kd.C k54 w A0_7 l0_7.length l0_7) (hc0_7 : l0_7.length ≤ c0_7) (h : pilot_attack.f l0_0 a0_1 a0_2 a0_3 a0_4 a0_5 a0_6 l0_7 o1 o2 = some r) :
    Calls Try.prog 17 #[.agg #[.slice A0_0 l0_0.length c0_0, .int .i64 a0_1, .int .i64 a0_2, .int .u8 a0_3, .int .i64 a0_4, .int .u8 a0_5, .int .u8 a0_6, .slice A0_7 l0_7.length c0_7], .agg #[.int .u8 o0, .int .i64 o1, .int .i64 o2]] w fun e w' => e = .returned (.int .i64 r) ∧ Below w.heap.size w w' := by
  unfold pilot_attack.f at h
  obtain ⟨⟨x0, x1, x2, x3, x4, x5, x6, x7, x8⟩, hx, h⟩ := Option.bind_eq_some_iff.1 h
  obtain ⟨⟨y0, y1, y2, y3, y4, y5, y6, y7, y8⟩, hy, h⟩ := Option.bind_eq_some_iff.1 h
  obtain rfl := Option.some.inj h
  refine attack_walk A0_0 c0_0 l0_0 a0_1 a0_2 a0_3 a0_4 a0_5 a0_6 A0_7 c0_7 l0_7 o0 o1 o2 w x0 x1 x2 x3 x4 x5 x6 x7 x8 y0 y1 y2 y3 y4 y5 y6 y7 y8 (fun W' hb => ?_) (fun W' hb => ?_)
  · refine (pilot_line.calls A0_0 c0_0 l0_0 _ _ _ _ _ _ A0_7 c0_7 l0_7 _ _ _ _ _ _ _ _ _ _ W' (Kd.C_below hr0_0 hb) hc0_0 (Kd.C_below hr0_7 hb) hc0_7 hx).mono ?_
    rintro e w'' hh
    first
      | exact hh
      | (obtain ⟨he, m, rfl⟩ := hh; exact ⟨he, bdrewN (Below.refl _ _) m⟩)
  · refine (pilot_line.calls A0_0 c0_0 l0_0 _ _ _ _ _ _ A0_7 c0_7 l0_7 _ _ _ _ _ _ _ _ _ _ W' (Kd.C_below hr0_0 hb) hc0_0 (Kd.C_below hr0_7 hb) hc0_7 hy).mono ?_
    rintro e w'' hh
    first
      | exact hh
      | (obtain ⟨he, m, rfl⟩ := hh; exact ⟨he, bdrewN (Below.refl _ _) m⟩)
def pilot_Worth.f (l0_0 : List S52) (a0_1 a0_2 a0_3 a0_4 a0_5 a0_6 : Int) (l0_7 : List S54) (a1 : Int) : Option (Int × Bool) :=
  if a1 < 0 then some (0, false) else if (l0_7.length : Int) ≤ a1 then some (0, false) else
  if (rd_T54 l0_7 a1).f0 = 8 then (pilot_attack.f l0_0 a0_1 a0_2 a0_3 a0_4 a0_5 a0_6 l0_7 (rd_T54 l0_7 a1).f1 (rd_T54 l0_7 a1).f2).bind fun t => some (t, true)
  else if (rd_T54 l0_7 a1).f0 = 1 then (pilot_card.f (l0_0.length + 1) l0_0 a0_1 a0_2 a0_3 a0_4 a0_5 a0_6 l0_7 1 (rd_T54 l0_7 a1).f1 (rd_T54 l0_7 a1).f2).bind fun t => some (t, true)
  else if (rd_T54 l0_7 a1).f0 = 11 then (pilot_drop.f l0_0 a0_1 a0_2 a0_3 a0_4 a0_5 a0_6 l0_7 11 (rd_T54 l0_7 a1).f1 (rd_T54 l0_7 a1).f2).bind fun t => some (t, true)
  else if (rd_T54 l0_7 a1).f0 = 2 then (pilot_summon.f l0_0 a0_1 a0_2 a0_3 a0_4 a0_5 a0_6 l0_7 2 (rd_T54 l0_7 a1).f1 (rd_T54 l0_7 a1).f2).bind fun t => some (t, true)
  else (pilot_plain.f (rd_T54 l0_7 a1).f0).bind fun t => some (t, true)
theorem pilot_Worth.calls (A0_0 : Option Addr) (c0_0 : Nat) (l0_0 : List S52) (a0_1 a0_2 a0_3 a0_4 a0_5 a0_6 : Int) (A0_7 : Option Addr) (c0_7 : Nat) (l0_7 : List S54) (a1 : Int) (r1 : Int) (r2 : Bool) (w : World)
    (hr0_0 : Kd.C k52 w A0_0 l0_0.length l0_0) (hc0_0 : l0_0.length ≤ c0_0) (hr0_7 : Kd.C k54 w A0_7 l0_7.length l0_7) (hc0_7 : l0_7.length ≤ c0_7) (h : pilot_Worth.f l0_0 a0_1 a0_2 a0_3 a0_4 a0_5 a0_6 l0_7 a1 = some (r1, r2)) :
    Calls Try.prog 15 #[.agg #[.slice A0_0 l0_0.length c0_0, .int .i64 a0_1, .int .i64 a0_2, .int .u8 a0_3, .int .i64 a0_4, .int .u8 a0_5, .int .u8 a0_6, .slice A0_7 l0_7.length c0_7], .int .i64 a1] w fun e w' =>
      e = .returned (.tuple #[.int .i64 r1, .bool r2]) ∧ Below w.heap.size w w' := by
  unfold pilot_Worth.f at h
  by_cases h0 : a1 < 0
  · rw [if_pos h0] at h
    obtain ⟨rfl, rfl⟩ := Prod.mk.inj (Option.some.inj h)
    exact worth_none _ _ _ _ _ _ _ _ _ _ _ _ _ _ (.inl h0)
  rw [if_neg h0] at h
  by_cases h1 : (l0_7.length : Int) ≤ a1
  · rw [if_pos h1] at h
    obtain ⟨rfl, rfl⟩ := Prod.mk.inj (Option.some.inj h)
    exact worth_none _ _ _ _ _ _ _ _ _ _ _ _ _ _ (.inr h1)
  rw [if_neg h1] at h
  obtain ⟨n, rfl⟩ := Int.eq_ofNat_of_zero_le (show 0 ≤ a1 by omega)
  have hl : l0_7.length ≤ 9223372036854775807 := hr0_7.2.1
  by_cases h8 : (rd_T54 l0_7 (n : Int)).f0 = 8
  · rw [if_pos h8] at h
    obtain ⟨t, ht, h⟩ := Option.bind_eq_some_iff.1 h
    obtain ⟨rfl, rfl⟩ := Prod.mk.inj (Option.some.inj h)
    exact worth_attack A0_0 c0_0 l0_0 _ _ _ _ _ _ A0_7 c0_7 l0_7 n w hr0_0 hr0_7 hc0_7 (by omega) hl h8 _ fun W' hb =>
      pilot_attack.calls A0_0 c0_0 l0_0 _ _ _ _ _ _ A0_7 c0_7 l0_7 _ _ _ _ W' (Kd.C_below hr0_0 hb) hc0_0 (Kd.C_below hr0_7 hb) hc0_7 ht
  rw [if_neg h8] at h
  by_cases h01 : (rd_T54 l0_7 (n : Int)).f0 = 1
  · rw [if_pos h01] at h
    obtain ⟨t, ht, h⟩ := Option.bind_eq_some_iff.1 h
    obtain ⟨rfl, rfl⟩ := Prod.mk.inj (Option.some.inj h)
    exact worth_card A0_0 c0_0 l0_0 _ _ _ _ _ _ A0_7 c0_7 l0_7 n w hr0_0 hr0_7 hc0_7 (by omega) hl h01 _ fun W' hb =>
      pilot_card.calls _ A0_0 c0_0 l0_0 _ _ _ _ _ _ A0_7 c0_7 l0_7 _ _ _ _ W' (Kd.C_below hr0_0 hb) hc0_0 (Kd.C_below hr0_7 hb) hc0_7 ht
  rw [if_neg h01] at h
  by_cases h11 : (rd_T54 l0_7 (n : Int)).f0 = 11
  · rw [if_pos h11] at h
    obtain ⟨t, ht, h⟩ := Option.bind_eq_some_iff.1 h
    obtain ⟨rfl, rfl⟩ := Prod.mk.inj (Option.some.inj h)
    exact worth_drop A0_0 c0_0 l0_0 _ _ _ _ _ _ A0_7 c0_7 l0_7 n w hr0_0 hr0_7 hc0_7 (by omega) hl h11 _ fun W' hb =>
      pilot_drop.calls A0_0 c0_0 l0_0 _ _ _ _ _ _ A0_7 c0_7 l0_7 _ _ _ _ W' (Kd.C_below hr0_0 hb) hc0_0 (Kd.C_below hr0_7 hb) hc0_7 ht
  rw [if_neg h11] at h
  by_cases h2 : (rd_T54 l0_7 (n : Int)).f0 = 2
  · rw [if_pos h2] at h
    obtain ⟨t, ht, h⟩ := Option.bind_eq_some_iff.1 h
    obtain ⟨rfl, rfl⟩ := Prod.mk.inj (Option.some.inj h)
    exact worth_summon A0_0 c0_0 l0_0 _ _ _ _ _ _ A0_7 c0_7 l0_7 n w hr0_0 hr0_7 hc0_7 (by omega) hl h2 _ fun W' hb =>
      pilot_summon.calls A0_0 c0_0 l0_0 _ _ _ _ _ _ A0_7 c0_7 l0_7 _ _ _ _ W' (Kd.C_below hr0_0 hb) hc0_0 (Kd.C_below hr0_7 hb) hc0_7 ht
  · rw [if_neg h2] at h
    obtain ⟨t, ht, h⟩ := Option.bind_eq_some_iff.1 h
    obtain ⟨rfl, rfl⟩ := Prod.mk.inj (Option.some.inj h)
    refine worth_plain A0_0 c0_0 l0_0 _ _ _ _ _ _ A0_7 c0_7 l0_7 n w hr0_0 hr0_7 hc0_7 (by omega) hl _ rfl h8 h01 h2 h11 _ fun W' hb => ?_
    refine (pilot_plain.calls _ _ W' ht).mono ?_
    rintro e w'' ⟨he, m, rfl⟩
    exact ⟨he, bdrewN (Below.refl _ _) m⟩
end Go.Proofs.Ytcdcpnhlmgmnkaa.Base
end
section
/- What is given ahead of the ways to choose. -/
end
section
/- Plain words for printed functions: 'with rounds enough it tells v' (Tells), and what follows of parts. -/
namespace Go.Proofs.Ytcdcpnhlmgmnkaa.Base
open Go.RowKit Go.Proofs.YtcdcpnhlmgmnkaaW.PrintWords

/-- from some number of rounds on it tells v -/
def Tells {α : Type} (f : Nat → Option α) (v : α) : Prop := ∃ k0, ∀ k, k0 ≤ k → f k = some v
theorem Tells.const {α : Type} (v : α) : Tells (fun _ => some v) v := ⟨0, fun _ _ => rfl⟩
theorem Tells.of {α : Type} {f : Nat → Option α} {v : α} (h : ∀ k, f k = some v) : Tells f v := ⟨0, fun k _ => h k⟩
theorem Tells.exists {α : Type} {f : Nat → Option α} {v : α} (h : Tells f v) : ∃ k, f k = some v := by obtain ⟨k, h⟩ := h; exact ⟨k, h k (Nat.le_refl _)⟩
theorem Tells.bind {α β : Type} {f : Nat → Option α} {g : α → Nat → Option β} {a : α} {v : β} (h : Tells f a) (h' : Tells (g a) v) : Tells (fun k => (f k).bind fun x => g x k) v := by
  obtain ⟨k1, h1⟩ := h
  obtain ⟨k2, h2⟩ := h'
  exact ⟨k1 + k2, fun k hk => by simp only [h1 k (by omega), Option.bind_some, h2 k (by omega)]⟩
theorem Tells.succ {α : Type} {f g : Nat → Option α} {v : α} (hg : ∀ k, f (k + 1) = g k) (h : Tells g v) : Tells f v := by
  obtain ⟨k0, h⟩ := h
  refine ⟨k0 + 1, fun k hk => ?_⟩
  obtain ⟨j, rfl⟩ : ∃ j, k = j + 1 := ⟨k - 1, by omega⟩
  rw [hg, h j (by omega)]
theorem Tells.congr {α : Type} {f g : Nat → Option α} {v : α} (hg : ∀ k, f k = g k) (h : Tells g v) : Tells f v := by
  obtain ⟨k0, h⟩ := h
  exact ⟨k0, fun k hk => by rw [hg, h k hk]⟩
theorem Tells.mono {α : Type} {f : Nat → Option α} {v : α} (hm : ∀ k, LeO (f k) (f (k + 1))) {k0 : Nat} (h : f k0 = some v) : Tells f v := by
  refine ⟨k0, fun k hk => ?_⟩
  obtain ⟨d, rfl⟩ : ∃ d, k = k0 + d := ⟨k - k0, by omega⟩
  clear hk
  induction d with
  | zero => exact h
  | succ d ih => exact hm _ _ ih
theorem Tells.pos {α : Type} {p : Prop} [Decidable p] {f g : Nat → Option α} {v : α} (hp : p) (h : Tells f v) : Tells (fun k => if p then f k else g k) v := Tells.congr (fun _ => if_pos hp) h
theorem Tells.neg {α : Type} {p : Prop} [Decidable p] {f g : Nat → Option α} {v : α} (hp : ¬ p) (h : Tells g v) : Tells (fun k => if p then f k else g k) v := Tells.congr (fun _ => if_neg hp) h
theorem wrap_i {a : Int} (h0 : -9223372036854775808 ≤ a) (h1 : a ≤ 9223372036854775807) : wrap64 a = a := by unfold wrap64; omega
end Go.Proofs.Ytcdcpnhlmgmnkaa.Base
end
