/- Joined by a program of this session (pack.py) out of: Pilw Pilc -/
import Derived.Deep.RegionHeld3
import Derived.Lib.Hide
import Derived.Test.YtcdcpnhlmgmnkaaKpnm6
section
/- The ways to choose, and a choice through one of them. -/
namespace Go.Proofs.Ytcdcpnhlmgmnkaa.Pil
open Go Go.RowKit Go.Proofs.Ytcdcpnhlmgmnkaa.Base Go.Proofs.YtcdcpnhlmgmnkaaW.PrintWords Go.Proofs.YtcdcpnhlmgmnkaaW.PrintLast Go.Proofs.YtcdcpnhlmgmnkaaW.PrintMore Go.Proofs.Ytcdcpnhlmgmnkaa.Ppia

@[go_sem] theorem meth149 (x : Value) (w : World) : (method 190 60 x "joust/pilot.choose").run Try.prog w = .ok (39, x) w := by kernel_rfl
@[go_sem] theorem meth150 (x : Value) (w : World) : (method 190 61 x "joust/pilot.choose").run Try.prog w = .ok (40, x) w := by kernel_rfl
@[go_sem] theorem meth151 (x : Value) (w : World) : (method 190 62 x "joust/pilot.choose").run Try.prog w = .ok (41, x) w := by kernel_rfl
@[go_sem] theorem meth152 (x : Value) (w : World) : (method 190 63 x "joust/pilot.choose").run Try.prog w = .ok (46, x) w := by kernel_rfl
set_option maxRecDepth 100000 in
set_option maxHeartbeats 2000000 in
theorem ways_calls (w : World) :
    Calls Try.prog 16 #[] w fun e w' => ∃ r, e = .returned (.slice (some ⟨r, 0, none⟩) 4 4) ∧ w.heap.size ≤ r ∧ Blk w' r 47 #[.iface 60 (.agg #[]), .iface 61 (.agg #[]), .iface 62 (.agg #[]), .iface 63 (.agg #[])] ∧ Below w.heap.size w w' := by
  go_enter Try.func16, Try.ntmps16
  go_wp2_with fail
  go_ret
  exact ⟨_, rfl, Nat.le_refl _, Blk.new _ _ _, (Below.refl _ _).alloc (Nat.le_refl _) _⟩
theorem boxes3 (w : World) (P V Z : Array Value) : ∃ W2, W2 = ((w.alloc (.cells P 24)).alloc (.cells V 41)).alloc (.cells Z 24) ∧ Blk W2 w.heap.size 24 P ∧ Blk W2 (w.heap.size + 1) 41 V ∧ Blk W2 (w.heap.size + 1 + 1) 24 Z ∧ Below w.heap.size w W2 ∧ W2.heap.size = w.heap.size + 1 + 1 + 1 := by
  have b0 := ((Blk.new w 24 P).alloc (.cells V 41)).alloc (.cells Z 24)
  have b1 := (Blk.new (w.alloc (.cells P 24)) 41 V).alloc (.cells Z 24)
  have b2 := Blk.new ((w.alloc (.cells P 24)).alloc (.cells V 41)) 24 Z
  simp only [World.size_alloc] at b1 b2
  exact ⟨_, rfl, b0, b1, b2, (((Below.refl _ _).alloc (Nat.le_refl _) _).alloc (by simp) _).alloc (by simp; omega) _, by simp only [World.size_alloc]⟩
theorem bdrew {w W : World} (h : Below w.heap.size w W) : Below w.heap.size w W.drew := ⟨h.os, h.tape, h.output, h.size, h.block⟩
theorem cell_keep {W w1 : World} {a : Addr} {v : Value} (hb : Below W.heap.size W w1) (h : W.cell? a = some v) : w1.cell? a = some v := (hb.cell (p := a) (World.block_lt_of_cell? W _ h)).trans h
set_option maxRecDepth 100000 in
set_option maxHeartbeats 4000000 in
theorem choose_0 (sd : Int) (A0 : Option Addr) (c0 : Nat) (l0 : List S52) (p1 p2 p3 p4 p5 p6 : Int) (A7 : Option Addr) (c7 : Nat) (l7 : List S54) (w : World)
    (hne : l7.length ≠ 0) (hl : l7.length ≤ 9223372036854775807) (r1 r2 : Int)
    (hcall : ∀ W', Below w.heap.size w W' → Calls Try.prog 39 #[.agg #[], .agg #[.slice A0 l0.length c0, .int .i64 p1, .int .i64 p2, .int .u8 p3, .int .i64 p4, .int .u8 p5, .int .u8 p6, .slice A7 l7.length c7], .int .u64 sd] W' fun e w'' => e = .returned (.tuple #[.int .i64 r1, .int .u64 r2]) ∧ Below W'.heap.size W' w'') :
    Calls Try.prog 13 #[.agg #[.int .u8 0, .int .u64 sd], .agg #[.slice A0 l0.length c0, .int .i64 p1, .int .i64 p2, .int .u8 p3, .int .i64 p4, .int .u8 p5, .int .u8 p6, .slice A7 l7.length c7]] w fun e w' => e = .returned (.tuple #[.int .i64 r1, .agg #[.int .u8 0, .int .u64 r2], .int .i64 0]) ∧ Below w.heap.size w w' := by
  have e1 : decide ((l7.length : Int) = 0) = false := decide_eq_false (by omega)
  have HCALL := Lib.hid hcall
  clear hcall
  have hu81 := Try.underlying24
  have hu78 := Try.underlying41
  go_enter Try.func13, Try.ntmps13
  go_wp2_with fail
  obtain ⟨W2, q, b0, b1, b2, hB, hZ⟩ := boxes3 w #[.int .u8 0, .int .u64 sd] #[.slice A0 l0.length c0, .int .i64 p1, .int .i64 p2, .int .u8 p3, .int .i64 p4, .int .u8 p5, .int .u8 p6, .slice A7 l7.length c7] #[.int .u8 0, .int .u64 0]
  rw [← q]
  clear q
  obtain ⟨g, hg⟩ : ∃ g, w.heap.size = g := ⟨_, rfl⟩
  rw [hg] at b0 b1 b2 hB hZ ⊢
  refine (pilot_May.calls 0 sd true W2 (by kernel_rfl)).mono ?_
  rintro e w1 ⟨rfl, hb1⟩
  have k0 := b0.after hb1
  have k1 := b1.after hb1
  have k2 := b2.after hb1
  have d7 := k1.cell 7
  simp only [List.getElem?_toArray, List.getElem?_cons_zero, List.getElem?_cons_succ] at d7
  have HB := Lib.hid hB
  have HZ := Lib.hid hZ
  have HG := Lib.hid hg
  have HB1 := Lib.hid hb1
  have K0 := Lib.hid k0
  have K1 := Lib.hid k1
  have K2 := Lib.hid k2
  clear hB hZ hg hb1 k0 k1 k2 b0 b1 b2
  go_wp2_with fail
  have hW1 : Below g w w1 := by
    have := HB1.out; rw [HZ.out] at this
    exact HB.out.trans (this.mono (by omega))
  have HW1 := Lib.hid hW1
  clear hW1
  have c00 := K0.out.cell 0
  have c01 := K0.out.cell 1
  have c10 := K1.out.cell 0
  have c11 := K1.out.cell 1
  have c12 := K1.out.cell 2
  have c13 := K1.out.cell 3
  have c14 := K1.out.cell 4
  have c15 := K1.out.cell 5
  have c16 := K1.out.cell 6
  have c17 := K1.out.cell 7
  simp only [List.getElem?_toArray, List.getElem?_cons_zero, List.getElem?_cons_succ] at c00 c01 c10 c11 c12 c13 c14 c15 c16 c17
  refine start_ (n := 14) (S := (fun w' => w'.cell? ⟨g, 0, none⟩ = some (.int .u8 0) ∧ w'.cell? ⟨g, 1, none⟩ = some (.int .u64 sd) ∧ w'.cell? ⟨g + 1, 0, none⟩ = some (.slice A0 l0.length c0) ∧ w'.cell? ⟨g + 1, 1, none⟩ = some (.int .i64 p1) ∧ w'.cell? ⟨g + 1, 2, none⟩ = some (.int .i64 p2) ∧ w'.cell? ⟨g + 1, 3, none⟩ = some (.int .u8 p3) ∧ w'.cell? ⟨g + 1, 4, none⟩ = some (.int .i64 p4) ∧ w'.cell? ⟨g + 1, 5, none⟩ = some (.int .u8 p5) ∧ w'.cell? ⟨g + 1, 6, none⟩ = some (.int .u8 p6) ∧ w'.cell? ⟨g + 1, 7, none⟩ = some (.slice A7 l7.length c7))) (ds := []) #[false, false, false, false, false, false, false, false, false, false, false, false, false, false] (by kernel_rfl) rfl (by kernel_rfl) ⟨c00, c01, c10, c11, c12, c13, c14, c15, c16, c17⟩ (fun hHeld => ?_)
  refine pure_ (i := 1) (N := some 22) (v := ?_) (a' := ?_) #[false, true, false, false, false, false, false, false, false, false, false, false, false, false] rfl rfl (by kernel_rfl) (fun _ _ _ h => h) (Or.inl ⟨by rfl, ?_⟩) ?_ ?_
  rotate_left
  · intro w'
    go_simp
    with_reducible rfl
  rotate_left
  · simp only [Act.put, List.setIfInBounds_toArray, List.set_cons_zero, List.set_cons_succ]
    rfl
  refine pure_ (i := 6) (N := some 27) (v := ?_) (a' := ?_) #[false, true, false, false, false, false, true, false, false, false, false, false, false, false] rfl rfl (by kernel_rfl) (fun _ _ _ h => h) (Or.inl ⟨by rfl, ?_⟩) ?_ ?_
  rotate_left
  · intro w'
    go_simp
    with_reducible rfl
  rotate_left
  · simp only [Act.put, List.setIfInBounds_toArray, List.set_cons_zero, List.set_cons_succ]
    rfl
  refine take_ (i := 2) (N := some 23) (v := ?_) (a' := ?_) #[false, true, true, false, false, false, true, false, false, false, false, false, false, false] rfl rfl (by kernel_rfl) (fun _ _ _ h => h) (Or.inl ⟨by rfl, ?_⟩) hHeld ?_ ?_
  rotate_left
  · rintro w' ⟨s0, s1, s2, s3, s4, s5, s6, s7, s8, s9⟩
    go_simp
    with_reducible rfl
  rotate_left
  · simp only [Act.put, List.setIfInBounds_toArray, List.set_cons_zero, List.set_cons_succ]
    rfl
  refine take_ (i := 5) (N := some 26) (v := ?_) (a' := ?_) #[false, true, true, false, false, true, true, false, false, false, false, false, false, false] rfl rfl (by kernel_rfl) (fun _ _ _ h => h) (Or.inl ⟨by rfl, ?_⟩) hHeld ?_ ?_
  rotate_left
  · rintro w' ⟨s0, s1, s2, s3, s4, s5, s6, s7, s8, s9⟩
    go_simp
    with_reducible rfl
  rotate_left
  · simp only [Act.put, List.setIfInBounds_toArray, List.set_cons_zero, List.set_cons_succ]
    rfl
  refine take_ (i := 7) (N := some 28) (v := ?_) (a' := ?_) #[false, true, true, false, false, true, true, true, false, false, false, false, false, false] rfl rfl (by kernel_rfl) (fun _ _ _ h => h) (Or.inl ⟨by rfl, ?_⟩) hHeld ?_ ?_
  rotate_left
  · rintro w' ⟨s0, s1, s2, s3, s4, s5, s6, s7, s8, s9⟩
    go_simp
    with_reducible rfl
  rotate_left
  · simp only [Act.put, List.setIfInBounds_toArray, List.set_cons_zero, List.set_cons_succ]
    rfl
  refine one_ (i := 0) (N := some 21) #[true, true, true, false, false, true, true, true, false, false, false, false, false, false] rfl rfl (by kernel_rfl) (by simp) (fun K hK => ?_)
  refine goes_ Try.func16 (by kernel_rfl) rfl #[] (by rfl) rfl rfl (by simp) ?_
  refine (ways_calls _).mono ?_
  rintro e w2 ⟨r, rfl, hr, hbk, hbK⟩
  refine ⟨_, rfl, ?_⟩
  have s0 := hbk.cell 0
  simp only [List.getElem?_toArray, List.getElem?_cons_zero, List.getElem?_cons_succ] at s0
  refine hK.out _ _ ⟨cell_keep hbK c00, cell_keep hbK c01, cell_keep hbK c10, cell_keep hbK c11, cell_keep hbK c12, cell_keep hbK c13, cell_keep hbK c14, cell_keep hbK c15, cell_keep hbK c16, cell_keep hbK c17⟩ (fun hHeld => ?_)
  clear hK K
  refine norm_ (a' := ?_) ?_ ?_
  rotate_left
  · simp only [Act.put, List.setIfInBounds_toArray, List.set_cons_zero, List.set_cons_succ]
    rfl
  refine pure_ (i := 3) (N := some 24) (v := ?_) (a' := ?_) #[true, true, true, true, false, true, true, true, false, false, false, false, false, false] rfl rfl (by kernel_rfl) (fun _ _ _ h => h) (Or.inl ⟨by rfl, ?_⟩) ?_ ?_
  rotate_left
  · intro w'
    go_simp
    with_reducible rfl
  rotate_left
  · simp only [Act.put, List.setIfInBounds_toArray, List.set_cons_zero, List.set_cons_succ]
    rfl
  refine one_ (i := 4) (N := some 25) #[true, true, true, true, true, true, true, true, false, false, false, false, false, false] rfl rfl (by kernel_rfl) (by simp) (fun K hK => ?_)
  rw [if_pos (by rfl)]
  go_simp
  refine hK.out _ _ hHeld (fun hHeld => ?_)
  clear hK K
  refine one_ (i := 8) (N := some 29) #[true, true, true, true, true, true, true, true, true, false, false, false, false, false] rfl rfl (by kernel_rfl) (by simp) (fun K hK => ?_)
  rw [if_pos (by rfl)]
  go_simp
  refine (HCALL.out w2 (by have h0 := HW1.out; rw [← HG.out] at h0; exact bstep (bdrew h0) hbK)).mono ?_
  rintro e w3 ⟨rfl, hbL⟩
  dsimp only
  obtain ⟨x0, x1, x2, x3, x4, x5, x6, x7, x8, x9⟩ := hHeld
  refine hK.out _ _ ⟨cell_keep hbL x0, cell_keep hbL x1, cell_keep hbL x2, cell_keep hbL x3, cell_keep hbL x4, cell_keep hbL x5, cell_keep hbL x6, cell_keep hbL x7, cell_keep hbL x8, cell_keep hbL x9⟩ (fun hHeld => ?_)
  clear hK K x0 x1 x2 x3 x4 x5 x6 x7 x8 x9
  refine pure_ (i := 9) (N := some 20) (v := ?_) (a' := ?_) #[true, true, true, true, true, true, true, true, true, true, false, false, false, false] rfl rfl (by kernel_rfl) (fun _ _ _ h => h) (Or.inl ⟨by rfl, ?_⟩) ?_ ?_
  rotate_left
  · intro w'
    go_simp
    with_reducible rfl
  rotate_left
  · simp only [Act.put, List.setIfInBounds_toArray, List.set_cons_zero, List.set_cons_succ]
    rfl
  refine pure_ (i := 10) (N := some 30) (v := ?_) (a' := ?_) #[true, true, true, true, true, true, true, true, true, true, true, false, false, false] rfl rfl (by kernel_rfl) (fun _ _ _ h => h) (Or.inl ⟨by rfl, ?_⟩) ?_ ?_
  rotate_left
  · intro w'
    go_simp
    with_reducible rfl
  rotate_left
  · simp only [Act.put, List.setIfInBounds_toArray, List.set_cons_zero, List.set_cons_succ]
    rfl
  refine pure_ (i := 11) (N := some 31) (v := ?_) (a' := ?_) #[true, true, true, true, true, true, true, true, true, true, true, true, false, false] rfl rfl (by kernel_rfl) (fun _ _ _ h => h) (Or.inl ⟨by rfl, ?_⟩) ?_ ?_
  rotate_left
  · intro w'
    go_simp
    with_reducible rfl
  rotate_left
  · simp only [Act.put, List.setIfInBounds_toArray, List.set_cons_zero, List.set_cons_succ]
    rfl
  refine pure_ (i := 12) (N := some 7) (v := ?_) (a' := ?_) #[true, true, true, true, true, true, true, true, true, true, true, true, true, false] rfl rfl (by kernel_rfl) (fun _ _ _ h => h) (Or.inl ⟨by rfl, ?_⟩) ?_ ?_
  rotate_left
  · intro w'
    go_simp
    with_reducible rfl
  rotate_left
  · simp only [Act.put, List.setIfInBounds_toArray, List.set_cons_zero, List.set_cons_succ]
    rfl
  refine pure_ (i := 13) (N := some 8) (v := ?_) (a' := ?_) #[true, true, true, true, true, true, true, true, true, true, true, true, true, true] rfl rfl (by kernel_rfl) (fun _ _ _ h => h) (Or.inl ⟨by rfl, ?_⟩) ?_ ?_
  rotate_left
  · intro w'
    go_simp
    with_reducible rfl
  rotate_left
  · simp only [Act.put, List.setIfInBounds_toArray, List.set_cons_zero, List.set_cons_succ]
    rfl
  refine done_ (by kernel_rfl) ?_
  have n0 := (K0.out.drew.after hbK).after hbL
  have n2 := (K2.out.drew.after hbK).after hbL
  have q0 := n0.cell 0
  have q1 := n0.cell 1
  have f1 := n0.frozen 1
  have q2 := n2.cell 0
  have q3 := n2.cell 1
  have f2 := n2.frozen 0
  have f3 := n2.frozen 1
  simp only [List.getElem?_toArray, List.getElem?_cons_zero, List.getElem?_cons_succ] at q0 q1 q2 q3
  have hB3 : Below g w w3 := by
    have h0 := HW1.out
    rw [← HG.out] at h0 ⊢
    exact bstep (bstep (bdrew h0) hbK) hbL
  have HB3 := Lib.hid hB3
  have N2B := Lib.hid n2
  clear hbK hbL hbk hr s0 n0 n2 hB3 c00 c01 c10 c11 c12 c13 c14 c15 c16 c17
  go_wp2_with fail
  first | go_region | fail
  go_wp2_with fail
  have N2 := (((Blk.far N2B.out (p := ⟨g, 1, none⟩) (show g + 1 + 1 ≠ g by omega) (.int .u64 r2)).set_ 0 (.int .u8 0)).set_ 1 (.int .u64 r2)).drew
  have z0 := N2.cell 0
  have z1 := N2.cell 1
  simp only [List.setIfInBounds_toArray, List.set_cons_zero, List.set_cons_succ, List.getElem?_toArray, List.getElem?_cons_zero, List.getElem?_cons_succ] at z0 z1
  have hF : Below g w ((((w3.setCell ⟨g, 1, none⟩ (.int .u64 r2)).setCell ⟨g + 1 + 1, 0, none⟩ (.int .u8 0)).setCell ⟨g + 1 + 1, 1, none⟩ (.int .u64 r2)).drew) := by
    have h0 := HB3.out
    rw [← HG.out] at h0 ⊢
    exact bdrew (bset (bset (bset h0 (Nat.le_refl _)) (by omega)) (by omega))
  generalize (((w3.setCell ⟨g, 1, none⟩ (.int .u64 r2)).setCell ⟨g + 1 + 1, 0, none⟩ (.int .u8 0)).setCell ⟨g + 1 + 1, 1, none⟩ (.int .u64 r2)).drew = W9 at N2 z0 z1 hF ⊢
  rw [HG.out]
  exact bodyPost_ret (v := .tuple #[.int .i64 r1, .agg #[.int .u8 0, .int .u64 r2], .int .i64 0]) (by simp [results, Try.results13, go_sem, z0, z1]) rfl ⟨rfl, hF⟩
set_option maxRecDepth 100000 in
set_option maxHeartbeats 4000000 in
theorem choose_1 (sd : Int) (A0 : Option Addr) (c0 : Nat) (l0 : List S52) (p1 p2 p3 p4 p5 p6 : Int) (A7 : Option Addr) (c7 : Nat) (l7 : List S54) (w : World)
    (hne : l7.length ≠ 0) (hl : l7.length ≤ 9223372036854775807) (r1 r2 : Int)
    (hcall : ∀ W', Below w.heap.size w W' → Calls Try.prog 40 #[.agg #[], .agg #[.slice A0 l0.length c0, .int .i64 p1, .int .i64 p2, .int .u8 p3, .int .i64 p4, .int .u8 p5, .int .u8 p6, .slice A7 l7.length c7], .int .u64 sd] W' fun e w'' => e = .returned (.tuple #[.int .i64 r1, .int .u64 r2]) ∧ Below W'.heap.size W' w'') :
    Calls Try.prog 13 #[.agg #[.int .u8 1, .int .u64 sd], .agg #[.slice A0 l0.length c0, .int .i64 p1, .int .i64 p2, .int .u8 p3, .int .i64 p4, .int .u8 p5, .int .u8 p6, .slice A7 l7.length c7]] w fun e w' => e = .returned (.tuple #[.int .i64 r1, .agg #[.int .u8 1, .int .u64 r2], .int .i64 0]) ∧ Below w.heap.size w w' := by
  have e1 : decide ((l7.length : Int) = 0) = false := decide_eq_false (by omega)
  have HCALL := Lib.hid hcall
  clear hcall
  have hu81 := Try.underlying24
  have hu78 := Try.underlying41
  go_enter Try.func13, Try.ntmps13
  go_wp2_with fail
  obtain ⟨W2, q, b0, b1, b2, hB, hZ⟩ := boxes3 w #[.int .u8 1, .int .u64 sd] #[.slice A0 l0.length c0, .int .i64 p1, .int .i64 p2, .int .u8 p3, .int .i64 p4, .int .u8 p5, .int .u8 p6, .slice A7 l7.length c7] #[.int .u8 0, .int .u64 0]
  rw [← q]
  clear q
  obtain ⟨g, hg⟩ : ∃ g, w.heap.size = g := ⟨_, rfl⟩
  rw [hg] at b0 b1 b2 hB hZ ⊢
  refine (pilot_May.calls 1 sd true W2 (by kernel_rfl)).mono ?_
  rintro e w1 ⟨rfl, hb1⟩
  have k0 := b0.after hb1
  have k1 := b1.after hb1
  have k2 := b2.after hb1
  have d7 := k1.cell 7
  simp only [List.getElem?_toArray, List.getElem?_cons_zero, List.getElem?_cons_succ] at d7
  have HB := Lib.hid hB
  have HZ := Lib.hid hZ
  have HG := Lib.hid hg
  have HB1 := Lib.hid hb1
  have K0 := Lib.hid k0
  have K1 := Lib.hid k1
  have K2 := Lib.hid k2
  clear hB hZ hg hb1 k0 k1 k2 b0 b1 b2
  go_wp2_with fail
  have hW1 : Below g w w1 := by
    have := HB1.out; rw [HZ.out] at this
    exact HB.out.trans (this.mono (by omega))
  have HW1 := Lib.hid hW1
  clear hW1
  have c00 := K0.out.cell 0
  have c01 := K0.out.cell 1
  have c10 := K1.out.cell 0
  have c11 := K1.out.cell 1
  have c12 := K1.out.cell 2
  have c13 := K1.out.cell 3
  have c14 := K1.out.cell 4
  have c15 := K1.out.cell 5
  have c16 := K1.out.cell 6
  have c17 := K1.out.cell 7
  simp only [List.getElem?_toArray, List.getElem?_cons_zero, List.getElem?_cons_succ] at c00 c01 c10 c11 c12 c13 c14 c15 c16 c17
  refine start_ (n := 14) (S := (fun w' => w'.cell? ⟨g, 0, none⟩ = some (.int .u8 1) ∧ w'.cell? ⟨g, 1, none⟩ = some (.int .u64 sd) ∧ w'.cell? ⟨g + 1, 0, none⟩ = some (.slice A0 l0.length c0) ∧ w'.cell? ⟨g + 1, 1, none⟩ = some (.int .i64 p1) ∧ w'.cell? ⟨g + 1, 2, none⟩ = some (.int .i64 p2) ∧ w'.cell? ⟨g + 1, 3, none⟩ = some (.int .u8 p3) ∧ w'.cell? ⟨g + 1, 4, none⟩ = some (.int .i64 p4) ∧ w'.cell? ⟨g + 1, 5, none⟩ = some (.int .u8 p5) ∧ w'.cell? ⟨g + 1, 6, none⟩ = some (.int .u8 p6) ∧ w'.cell? ⟨g + 1, 7, none⟩ = some (.slice A7 l7.length c7))) (ds := []) #[false, false, false, false, false, false, false, false, false, false, false, false, false, false] (by kernel_rfl) rfl (by kernel_rfl) ⟨c00, c01, c10, c11, c12, c13, c14, c15, c16, c17⟩ (fun hHeld => ?_)
  refine pure_ (i := 1) (N := some 22) (v := ?_) (a' := ?_) #[false, true, false, false, false, false, false, false, false, false, false, false, false, false] rfl rfl (by kernel_rfl) (fun _ _ _ h => h) (Or.inl ⟨by rfl, ?_⟩) ?_ ?_
  rotate_left
  · intro w'
    go_simp
    with_reducible rfl
  rotate_left
  · simp only [Act.put, List.setIfInBounds_toArray, List.set_cons_zero, List.set_cons_succ]
    rfl
  refine pure_ (i := 6) (N := some 27) (v := ?_) (a' := ?_) #[false, true, false, false, false, false, true, false, false, false, false, false, false, false] rfl rfl (by kernel_rfl) (fun _ _ _ h => h) (Or.inl ⟨by rfl, ?_⟩) ?_ ?_
  rotate_left
  · intro w'
    go_simp
    with_reducible rfl
  rotate_left
  · simp only [Act.put, List.setIfInBounds_toArray, List.set_cons_zero, List.set_cons_succ]
    rfl
  refine take_ (i := 2) (N := some 23) (v := ?_) (a' := ?_) #[false, true, true, false, false, false, true, false, false, false, false, false, false, false] rfl rfl (by kernel_rfl) (fun _ _ _ h => h) (Or.inl ⟨by rfl, ?_⟩) hHeld ?_ ?_
  rotate_left
  · rintro w' ⟨s0, s1, s2, s3, s4, s5, s6, s7, s8, s9⟩
    go_simp
    with_reducible rfl
  rotate_left
  · simp only [Act.put, List.setIfInBounds_toArray, List.set_cons_zero, List.set_cons_succ]
    rfl
  refine take_ (i := 5) (N := some 26) (v := ?_) (a' := ?_) #[false, true, true, false, false, true, true, false, false, false, false, false, false, false] rfl rfl (by kernel_rfl) (fun _ _ _ h => h) (Or.inl ⟨by rfl, ?_⟩) hHeld ?_ ?_
  rotate_left
  · rintro w' ⟨s0, s1, s2, s3, s4, s5, s6, s7, s8, s9⟩
    go_simp
    with_reducible rfl
  rotate_left
  · simp only [Act.put, List.setIfInBounds_toArray, List.set_cons_zero, List.set_cons_succ]
    rfl
  refine take_ (i := 7) (N := some 28) (v := ?_) (a' := ?_) #[false, true, true, false, false, true, true, true, false, false, false, false, false, false] rfl rfl (by kernel_rfl) (fun _ _ _ h => h) (Or.inl ⟨by rfl, ?_⟩) hHeld ?_ ?_
  rotate_left
  · rintro w' ⟨s0, s1, s2, s3, s4, s5, s6, s7, s8, s9⟩
    go_simp
    with_reducible rfl
  rotate_left
  · simp only [Act.put, List.setIfInBounds_toArray, List.set_cons_zero, List.set_cons_succ]
    rfl
  refine one_ (i := 0) (N := some 21) #[true, true, true, false, false, true, true, true, false, false, false, false, false, false] rfl rfl (by kernel_rfl) (by simp) (fun K hK => ?_)
  refine goes_ Try.func16 (by kernel_rfl) rfl #[] (by rfl) rfl rfl (by simp) ?_
  refine (ways_calls _).mono ?_
  rintro e w2 ⟨r, rfl, hr, hbk, hbK⟩
  refine ⟨_, rfl, ?_⟩
  have s0 := hbk.cell 1
  simp only [List.getElem?_toArray, List.getElem?_cons_zero, List.getElem?_cons_succ] at s0
  refine hK.out _ _ ⟨cell_keep hbK c00, cell_keep hbK c01, cell_keep hbK c10, cell_keep hbK c11, cell_keep hbK c12, cell_keep hbK c13, cell_keep hbK c14, cell_keep hbK c15, cell_keep hbK c16, cell_keep hbK c17⟩ (fun hHeld => ?_)
  clear hK K
  refine norm_ (a' := ?_) ?_ ?_
  rotate_left
  · simp only [Act.put, List.setIfInBounds_toArray, List.set_cons_zero, List.set_cons_succ]
    rfl
  refine pure_ (i := 3) (N := some 24) (v := ?_) (a' := ?_) #[true, true, true, true, false, true, true, true, false, false, false, false, false, false] rfl rfl (by kernel_rfl) (fun _ _ _ h => h) (Or.inl ⟨by rfl, ?_⟩) ?_ ?_
  rotate_left
  · intro w'
    go_simp
    with_reducible rfl
  rotate_left
  · simp only [Act.put, List.setIfInBounds_toArray, List.set_cons_zero, List.set_cons_succ]
    rfl
  refine one_ (i := 4) (N := some 25) #[true, true, true, true, true, true, true, true, false, false, false, false, false, false] rfl rfl (by kernel_rfl) (by simp) (fun K hK => ?_)
  rw [if_pos (by rfl)]
  go_simp
  refine hK.out _ _ hHeld (fun hHeld => ?_)
  clear hK K
  refine one_ (i := 8) (N := some 29) #[true, true, true, true, true, true, true, true, true, false, false, false, false, false] rfl rfl (by kernel_rfl) (by simp) (fun K hK => ?_)
  rw [if_pos (by rfl)]
  go_simp
  refine (HCALL.out w2 (by have h0 := HW1.out; rw [← HG.out] at h0; exact bstep (bdrew h0) hbK)).mono ?_
  rintro e w3 ⟨rfl, hbL⟩
  dsimp only
  obtain ⟨x0, x1, x2, x3, x4, x5, x6, x7, x8, x9⟩ := hHeld
  refine hK.out _ _ ⟨cell_keep hbL x0, cell_keep hbL x1, cell_keep hbL x2, cell_keep hbL x3, cell_keep hbL x4, cell_keep hbL x5, cell_keep hbL x6, cell_keep hbL x7, cell_keep hbL x8, cell_keep hbL x9⟩ (fun hHeld => ?_)
  clear hK K x0 x1 x2 x3 x4 x5 x6 x7 x8 x9
  refine pure_ (i := 9) (N := some 20) (v := ?_) (a' := ?_) #[true, true, true, true, true, true, true, true, true, true, false, false, false, false] rfl rfl (by kernel_rfl) (fun _ _ _ h => h) (Or.inl ⟨by rfl, ?_⟩) ?_ ?_
  rotate_left
  · intro w'
    go_simp
    with_reducible rfl
  rotate_left
  · simp only [Act.put, List.setIfInBounds_toArray, List.set_cons_zero, List.set_cons_succ]
    rfl
  refine pure_ (i := 10) (N := some 30) (v := ?_) (a' := ?_) #[true, true, true, true, true, true, true, true, true, true, true, false, false, false] rfl rfl (by kernel_rfl) (fun _ _ _ h => h) (Or.inl ⟨by rfl, ?_⟩) ?_ ?_
  rotate_left
  · intro w'
    go_simp
    with_reducible rfl
  rotate_left
  · simp only [Act.put, List.setIfInBounds_toArray, List.set_cons_zero, List.set_cons_succ]
    rfl
  refine pure_ (i := 11) (N := some 31) (v := ?_) (a' := ?_) #[true, true, true, true, true, true, true, true, true, true, true, true, false, false] rfl rfl (by kernel_rfl) (fun _ _ _ h => h) (Or.inl ⟨by rfl, ?_⟩) ?_ ?_
  rotate_left
  · intro w'
    go_simp
    with_reducible rfl
  rotate_left
  · simp only [Act.put, List.setIfInBounds_toArray, List.set_cons_zero, List.set_cons_succ]
    rfl
  refine pure_ (i := 12) (N := some 7) (v := ?_) (a' := ?_) #[true, true, true, true, true, true, true, true, true, true, true, true, true, false] rfl rfl (by kernel_rfl) (fun _ _ _ h => h) (Or.inl ⟨by rfl, ?_⟩) ?_ ?_
  rotate_left
  · intro w'
    go_simp
    with_reducible rfl
  rotate_left
  · simp only [Act.put, List.setIfInBounds_toArray, List.set_cons_zero, List.set_cons_succ]
    rfl
  refine pure_ (i := 13) (N := some 8) (v := ?_) (a' := ?_) #[true, true, true, true, true, true, true, true, true, true, true, true, true, true] rfl rfl (by kernel_rfl) (fun _ _ _ h => h) (Or.inl ⟨by rfl, ?_⟩) ?_ ?_
  rotate_left
  · intro w'
    go_simp
    with_reducible rfl
  rotate_left
  · simp only [Act.put, List.setIfInBounds_toArray, List.set_cons_zero, List.set_cons_succ]
    rfl
  refine done_ (by kernel_rfl) ?_
  have n0 := (K0.out.drew.after hbK).after hbL
  have n2 := (K2.out.drew.after hbK).after hbL
  have q0 := n0.cell 0
  have q1 := n0.cell 1
  have f1 := n0.frozen 1
  have q2 := n2.cell 0
  have q3 := n2.cell 1
  have f2 := n2.frozen 0
  have f3 := n2.frozen 1
  simp only [List.getElem?_toArray, List.getElem?_cons_zero, List.getElem?_cons_succ] at q0 q1 q2 q3
  have hB3 : Below g w w3 := by
    have h0 := HW1.out
    rw [← HG.out] at h0 ⊢
    exact bstep (bstep (bdrew h0) hbK) hbL
  have HB3 := Lib.hid hB3
  have N2B := Lib.hid n2
  clear hbK hbL hbk hr s0 n0 n2 hB3 c00 c01 c10 c11 c12 c13 c14 c15 c16 c17
  go_wp2_with fail
  first | go_region | fail
  go_wp2_with fail
  have N2 := (((Blk.far N2B.out (p := ⟨g, 1, none⟩) (show g + 1 + 1 ≠ g by omega) (.int .u64 r2)).set_ 0 (.int .u8 1)).set_ 1 (.int .u64 r2)).drew
  have z0 := N2.cell 0
  have z1 := N2.cell 1
  simp only [List.setIfInBounds_toArray, List.set_cons_zero, List.set_cons_succ, List.getElem?_toArray, List.getElem?_cons_zero, List.getElem?_cons_succ] at z0 z1
  have hF : Below g w ((((w3.setCell ⟨g, 1, none⟩ (.int .u64 r2)).setCell ⟨g + 1 + 1, 0, none⟩ (.int .u8 1)).setCell ⟨g + 1 + 1, 1, none⟩ (.int .u64 r2)).drew) := by
    have h0 := HB3.out
    rw [← HG.out] at h0 ⊢
    exact bdrew (bset (bset (bset h0 (Nat.le_refl _)) (by omega)) (by omega))
  generalize (((w3.setCell ⟨g, 1, none⟩ (.int .u64 r2)).setCell ⟨g + 1 + 1, 0, none⟩ (.int .u8 1)).setCell ⟨g + 1 + 1, 1, none⟩ (.int .u64 r2)).drew = W9 at N2 z0 z1 hF ⊢
  rw [HG.out]
  exact bodyPost_ret (v := .tuple #[.int .i64 r1, .agg #[.int .u8 1, .int .u64 r2], .int .i64 0]) (by simp [results, Try.results13, go_sem, z0, z1]) rfl ⟨rfl, hF⟩
set_option maxRecDepth 100000 in
set_option maxHeartbeats 4000000 in
theorem choose_3 (sd : Int) (A0 : Option Addr) (c0 : Nat) (l0 : List S52) (p1 p2 p3 p4 p5 p6 : Int) (A7 : Option Addr) (c7 : Nat) (l7 : List S54) (w : World)
    (hne : l7.length ≠ 0) (hl : l7.length ≤ 9223372036854775807) (r1 r2 : Int)
    (hcall : ∀ W', Below w.heap.size w W' → Calls Try.prog 46 #[.agg #[], .agg #[.slice A0 l0.length c0, .int .i64 p1, .int .i64 p2, .int .u8 p3, .int .i64 p4, .int .u8 p5, .int .u8 p6, .slice A7 l7.length c7], .int .u64 sd] W' fun e w'' => e = .returned (.tuple #[.int .i64 r1, .int .u64 r2]) ∧ Below W'.heap.size W' w'') :
    Calls Try.prog 13 #[.agg #[.int .u8 3, .int .u64 sd], .agg #[.slice A0 l0.length c0, .int .i64 p1, .int .i64 p2, .int .u8 p3, .int .i64 p4, .int .u8 p5, .int .u8 p6, .slice A7 l7.length c7]] w fun e w' => e = .returned (.tuple #[.int .i64 r1, .agg #[.int .u8 3, .int .u64 r2], .int .i64 0]) ∧ Below w.heap.size w w' := by
  have e1 : decide ((l7.length : Int) = 0) = false := decide_eq_false (by omega)
  have HCALL := Lib.hid hcall
  clear hcall
  have hu81 := Try.underlying24
  have hu78 := Try.underlying41
  go_enter Try.func13, Try.ntmps13
  go_wp2_with fail
  obtain ⟨W2, q, b0, b1, b2, hB, hZ⟩ := boxes3 w #[.int .u8 3, .int .u64 sd] #[.slice A0 l0.length c0, .int .i64 p1, .int .i64 p2, .int .u8 p3, .int .i64 p4, .int .u8 p5, .int .u8 p6, .slice A7 l7.length c7] #[.int .u8 0, .int .u64 0]
  rw [← q]
  clear q
  obtain ⟨g, hg⟩ : ∃ g, w.heap.size = g := ⟨_, rfl⟩
  rw [hg] at b0 b1 b2 hB hZ ⊢
  refine (pilot_May.calls 3 sd true W2 (by kernel_rfl)).mono ?_
  rintro e w1 ⟨rfl, hb1⟩
  have k0 := b0.after hb1
  have k1 := b1.after hb1
  have k2 := b2.after hb1
  have d7 := k1.cell 7
  simp only [List.getElem?_toArray, List.getElem?_cons_zero, List.getElem?_cons_succ] at d7
  have HB := Lib.hid hB
  have HZ := Lib.hid hZ
  have HG := Lib.hid hg
  have HB1 := Lib.hid hb1
  have K0 := Lib.hid k0
  have K1 := Lib.hid k1
  have K2 := Lib.hid k2
  clear hB hZ hg hb1 k0 k1 k2 b0 b1 b2
  go_wp2_with fail
  have hW1 : Below g w w1 := by
    have := HB1.out; rw [HZ.out] at this
    exact HB.out.trans (this.mono (by omega))
  have HW1 := Lib.hid hW1
  clear hW1
  have c00 := K0.out.cell 0
  have c01 := K0.out.cell 1
  have c10 := K1.out.cell 0
  have c11 := K1.out.cell 1
  have c12 := K1.out.cell 2
  have c13 := K1.out.cell 3
  have c14 := K1.out.cell 4
  have c15 := K1.out.cell 5
  have c16 := K1.out.cell 6
  have c17 := K1.out.cell 7
  simp only [List.getElem?_toArray, List.getElem?_cons_zero, List.getElem?_cons_succ] at c00 c01 c10 c11 c12 c13 c14 c15 c16 c17
  refine start_ (n := 14) (S := (fun w' => w'.cell? ⟨g, 0, none⟩ = some (.int .u8 3) ∧ w'.cell? ⟨g, 1, none⟩ = some (.int .u64 sd) ∧ w'.cell? ⟨g + 1, 0, none⟩ = some (.slice A0 l0.length c0) ∧ w'.cell? ⟨g + 1, 1, none⟩ = some (.int .i64 p1) ∧ w'.cell? ⟨g + 1, 2, none⟩ = some (.int .i64 p2) ∧ w'.cell? ⟨g + 1, 3, none⟩ = some (.int .u8 p3) ∧ w'.cell? ⟨g + 1, 4, none⟩ = some (.int .i64 p4) ∧ w'.cell? ⟨g + 1, 5, none⟩ = some (.int .u8 p5) ∧ w'.cell? ⟨g + 1, 6, none⟩ = some (.int .u8 p6) ∧ w'.cell? ⟨g + 1, 7, none⟩ = some (.slice A7 l7.length c7))) (ds := []) #[false, false, false, false, false, false, false, false, false, false, false, false, false, false] (by kernel_rfl) rfl (by kernel_rfl) ⟨c00, c01, c10, c11, c12, c13, c14, c15, c16, c17⟩ (fun hHeld => ?_)
  refine pure_ (i := 1) (N := some 22) (v := ?_) (a' := ?_) #[false, true, false, false, false, false, false, false, false, false, false, false, false, false] rfl rfl (by kernel_rfl) (fun _ _ _ h => h) (Or.inl ⟨by rfl, ?_⟩) ?_ ?_
  rotate_left
  · intro w'
    go_simp
    with_reducible rfl
  rotate_left
  · simp only [Act.put, List.setIfInBounds_toArray, List.set_cons_zero, List.set_cons_succ]
    rfl
  refine pure_ (i := 6) (N := some 27) (v := ?_) (a' := ?_) #[false, true, false, false, false, false, true, false, false, false, false, false, false, false] rfl rfl (by kernel_rfl) (fun _ _ _ h => h) (Or.inl ⟨by rfl, ?_⟩) ?_ ?_
  rotate_left
  · intro w'
    go_simp
    with_reducible rfl
  rotate_left
  · simp only [Act.put, List.setIfInBounds_toArray, List.set_cons_zero, List.set_cons_succ]
    rfl
  refine take_ (i := 2) (N := some 23) (v := ?_) (a' := ?_) #[false, true, true, false, false, false, true, false, false, false, false, false, false, false] rfl rfl (by kernel_rfl) (fun _ _ _ h => h) (Or.inl ⟨by rfl, ?_⟩) hHeld ?_ ?_
  rotate_left
  · rintro w' ⟨s0, s1, s2, s3, s4, s5, s6, s7, s8, s9⟩
    go_simp
    with_reducible rfl
  rotate_left
  · simp only [Act.put, List.setIfInBounds_toArray, List.set_cons_zero, List.set_cons_succ]
    rfl
  refine take_ (i := 5) (N := some 26) (v := ?_) (a' := ?_) #[false, true, true, false, false, true, true, false, false, false, false, false, false, false] rfl rfl (by kernel_rfl) (fun _ _ _ h => h) (Or.inl ⟨by rfl, ?_⟩) hHeld ?_ ?_
  rotate_left
  · rintro w' ⟨s0, s1, s2, s3, s4, s5, s6, s7, s8, s9⟩
    go_simp
    with_reducible rfl
  rotate_left
  · simp only [Act.put, List.setIfInBounds_toArray, List.set_cons_zero, List.set_cons_succ]
    rfl
  refine take_ (i := 7) (N := some 28) (v := ?_) (a' := ?_) #[false, true, true, false, false, true, true, true, false, false, false, false, false, false] rfl rfl (by kernel_rfl) (fun _ _ _ h => h) (Or.inl ⟨by rfl, ?_⟩) hHeld ?_ ?_
  rotate_left
  · rintro w' ⟨s0, s1, s2, s3, s4, s5, s6, s7, s8, s9⟩
    go_simp
    with_reducible rfl
  rotate_left
  · simp only [Act.put, List.setIfInBounds_toArray, List.set_cons_zero, List.set_cons_succ]
    rfl
  refine one_ (i := 0) (N := some 21) #[true, true, true, false, false, true, true, true, false, false, false, false, false, false] rfl rfl (by kernel_rfl) (by simp) (fun K hK => ?_)
  refine goes_ Try.func16 (by kernel_rfl) rfl #[] (by rfl) rfl rfl (by simp) ?_
  refine (ways_calls _).mono ?_
  rintro e w2 ⟨r, rfl, hr, hbk, hbK⟩
  refine ⟨_, rfl, ?_⟩
  have s0 := hbk.cell 3
  simp only [List.getElem?_toArray, List.getElem?_cons_zero, List.getElem?_cons_succ] at s0
  refine hK.out _ _ ⟨cell_keep hbK c00, cell_keep hbK c01, cell_keep hbK c10, cell_keep hbK c11, cell_keep hbK c12, cell_keep hbK c13, cell_keep hbK c14, cell_keep hbK c15, cell_keep hbK c16, cell_keep hbK c17⟩ (fun hHeld => ?_)
  clear hK K
  refine norm_ (a' := ?_) ?_ ?_
  rotate_left
  · simp only [Act.put, List.setIfInBounds_toArray, List.set_cons_zero, List.set_cons_succ]
    rfl
  refine pure_ (i := 3) (N := some 24) (v := ?_) (a' := ?_) #[true, true, true, true, false, true, true, true, false, false, false, false, false, false] rfl rfl (by kernel_rfl) (fun _ _ _ h => h) (Or.inl ⟨by rfl, ?_⟩) ?_ ?_
  rotate_left
  · intro w'
    go_simp
    with_reducible rfl
  rotate_left
  · simp only [Act.put, List.setIfInBounds_toArray, List.set_cons_zero, List.set_cons_succ]
    rfl
  refine one_ (i := 4) (N := some 25) #[true, true, true, true, true, true, true, true, false, false, false, false, false, false] rfl rfl (by kernel_rfl) (by simp) (fun K hK => ?_)
  rw [if_pos (by rfl)]
  go_simp
  refine hK.out _ _ hHeld (fun hHeld => ?_)
  clear hK K
  refine one_ (i := 8) (N := some 29) #[true, true, true, true, true, true, true, true, true, false, false, false, false, false] rfl rfl (by kernel_rfl) (by simp) (fun K hK => ?_)
  rw [if_pos (by rfl)]
  go_simp
  refine (HCALL.out w2 (by have h0 := HW1.out; rw [← HG.out] at h0; exact bstep (bdrew h0) hbK)).mono ?_
  rintro e w3 ⟨rfl, hbL⟩
  dsimp only
  obtain ⟨x0, x1, x2, x3, x4, x5, x6, x7, x8, x9⟩ := hHeld
  refine hK.out _ _ ⟨cell_keep hbL x0, cell_keep hbL x1, cell_keep hbL x2, cell_keep hbL x3, cell_keep hbL x4, cell_keep hbL x5, cell_keep hbL x6, cell_keep hbL x7, cell_keep hbL x8, cell_keep hbL x9⟩ (fun hHeld => ?_)
  clear hK K x0 x1 x2 x3 x4 x5 x6 x7 x8 x9
  refine pure_ (i := 9) (N := some 20) (v := ?_) (a' := ?_) #[true, true, true, true, true, true, true, true, true, true, false, false, false, false] rfl rfl (by kernel_rfl) (fun _ _ _ h => h) (Or.inl ⟨by rfl, ?_⟩) ?_ ?_
  rotate_left
  · intro w'
    go_simp
    with_reducible rfl
  rotate_left
  · simp only [Act.put, List.setIfInBounds_toArray, List.set_cons_zero, List.set_cons_succ]
    rfl
  refine pure_ (i := 10) (N := some 30) (v := ?_) (a' := ?_) #[true, true, true, true, true, true, true, true, true, true, true, false, false, false] rfl rfl (by kernel_rfl) (fun _ _ _ h => h) (Or.inl ⟨by rfl, ?_⟩) ?_ ?_
  rotate_left
  · intro w'
    go_simp
    with_reducible rfl
  rotate_left
  · simp only [Act.put, List.setIfInBounds_toArray, List.set_cons_zero, List.set_cons_succ]
    rfl
  refine pure_ (i := 11) (N := some 31) (v := ?_) (a' := ?_) #[true, true, true, true, true, true, true, true, true, true, true, true, false, false] rfl rfl (by kernel_rfl) (fun _ _ _ h => h) (Or.inl ⟨by rfl, ?_⟩) ?_ ?_
  rotate_left
  · intro w'
    go_simp
    with_reducible rfl
  rotate_left
  · simp only [Act.put, List.setIfInBounds_toArray, List.set_cons_zero, List.set_cons_succ]
    rfl
  refine pure_ (i := 12) (N := some 7) (v := ?_) (a' := ?_) #[true, true, true, true, true, true, true, true, true, true, true, true, true, false] rfl rfl (by kernel_rfl) (fun _ _ _ h => h) (Or.inl ⟨by rfl, ?_⟩) ?_ ?_
  rotate_left
  · intro w'
    go_simp
    with_reducible rfl
  rotate_left
  · simp only [Act.put, List.setIfInBounds_toArray, List.set_cons_zero, List.set_cons_succ]
    rfl
  refine pure_ (i := 13) (N := some 8) (v := ?_) (a' := ?_) #[true, true, true, true, true, true, true, true, true, true, true, true, true, true] rfl rfl (by kernel_rfl) (fun _ _ _ h => h) (Or.inl ⟨by rfl, ?_⟩) ?_ ?_
  rotate_left
  · intro w'
    go_simp
    with_reducible rfl
  rotate_left
  · simp only [Act.put, List.setIfInBounds_toArray, List.set_cons_zero, List.set_cons_succ]
    rfl
  refine done_ (by kernel_rfl) ?_
  have n0 := (K0.out.drew.after hbK).after hbL
  have n2 := (K2.out.drew.after hbK).after hbL
  have q0 := n0.cell 0
  have q1 := n0.cell 1
  have f1 := n0.frozen 1
  have q2 := n2.cell 0
  have q3 := n2.cell 1
  have f2 := n2.frozen 0
  have f3 := n2.frozen 1
  simp only [List.getElem?_toArray, List.getElem?_cons_zero, List.getElem?_cons_succ] at q0 q1 q2 q3
  have hB3 : Below g w w3 := by
    have h0 := HW1.out
    rw [← HG.out] at h0 ⊢
    exact bstep (bstep (bdrew h0) hbK) hbL
  have HB3 := Lib.hid hB3
  have N2B := Lib.hid n2
  clear hbK hbL hbk hr s0 n0 n2 hB3 c00 c01 c10 c11 c12 c13 c14 c15 c16 c17
  go_wp2_with fail
  first | go_region | fail
  go_wp2_with fail
  have N2 := (((Blk.far N2B.out (p := ⟨g, 1, none⟩) (show g + 1 + 1 ≠ g by omega) (.int .u64 r2)).set_ 0 (.int .u8 3)).set_ 1 (.int .u64 r2)).drew
  have z0 := N2.cell 0
  have z1 := N2.cell 1
  simp only [List.setIfInBounds_toArray, List.set_cons_zero, List.set_cons_succ, List.getElem?_toArray, List.getElem?_cons_zero, List.getElem?_cons_succ] at z0 z1
  have hF : Below g w ((((w3.setCell ⟨g, 1, none⟩ (.int .u64 r2)).setCell ⟨g + 1 + 1, 0, none⟩ (.int .u8 3)).setCell ⟨g + 1 + 1, 1, none⟩ (.int .u64 r2)).drew) := by
    have h0 := HB3.out
    rw [← HG.out] at h0 ⊢
    exact bdrew (bset (bset (bset h0 (Nat.le_refl _)) (by omega)) (by omega))
  generalize (((w3.setCell ⟨g, 1, none⟩ (.int .u64 r2)).setCell ⟨g + 1 + 1, 0, none⟩ (.int .u8 3)).setCell ⟨g + 1 + 1, 1, none⟩ (.int .u64 r2)).drew = W9 at N2 z0 z1 hF ⊢
  rw [HG.out]
  exact bodyPost_ret (v := .tuple #[.int .i64 r1, .agg #[.int .u8 3, .int .u64 r2], .int .i64 0]) (by simp [results, Try.results13, go_sem, z0, z1]) rfl ⟨rfl, hF⟩
end Go.Proofs.Ytcdcpnhlmgmnkaa.Pil
end
section
/- A choice, as the prints take it. -/
namespace Go.Proofs.Ytcdcpnhlmgmnkaa.Pil
open Go Go.RowKit Go.Proofs.Ytcdcpnhlmgmnkaa.Base Go.Proofs.YtcdcpnhlmgmnkaaW.PrintWords Go.Proofs.Ytcdcpnhlmgmnkaa.Ppia
set_option maxRecDepth 100000 in
set_option maxHeartbeats 4000000 in
theorem choose_empty (kd sd : Int) (A0 : Option Addr) (c0 : Nat) (l0 : List S52) (p1 p2 p3 p4 p5 p6 : Int) (A7 : Option Addr) (c7 : Nat) (w : World) (hk : pilot_May.f kd sd = some true) :
    Calls Try.prog 13 #[.agg #[.int .u8 kd, .int .u64 sd], .agg #[.slice A0 l0.length c0, .int .i64 p1, .int .i64 p2, .int .u8 p3, .int .i64 p4, .int .u8 p5, .int .u8 p6, .slice A7 0 c7]] w fun e w' => e = .returned (.tuple #[.int .i64 0, .agg #[.int .u8 0, .int .u64 0], .int .i64 11]) ∧ Below w.heap.size w w' := by
  have HK := Lib.hid hk
  clear hk
  have hu81 := Try.underlying24
  have hu78 := Try.underlying41
  go_enter Try.func13, Try.ntmps13
  go_wp2_with fail
  obtain ⟨W2, q, b0, b1, b2, hB, hZ⟩ := boxes3 w #[.int .u8 kd, .int .u64 sd] #[.slice A0 l0.length c0, .int .i64 p1, .int .i64 p2, .int .u8 p3, .int .i64 p4, .int .u8 p5, .int .u8 p6, .slice A7 0 c7] #[.int .u8 0, .int .u64 0]
  rw [← q]
  clear q
  obtain ⟨g, hg⟩ : ∃ g, w.heap.size = g := ⟨_, rfl⟩
  rw [hg] at b0 b1 b2 hB hZ ⊢
  refine (pilot_May.calls kd sd true W2 HK.out).mono ?_
  rintro e w1 ⟨rfl, hb1⟩
  have k1 := b1.after hb1
  have k2 := b2.after hb1
  have d7 := k1.cell 7
  have z0 := k2.cell 0
  have z1 := k2.cell 1
  have y0 := k2.frozen 0
  have y1 := k2.frozen 1
  simp only [List.getElem?_toArray, List.getElem?_cons_zero, List.getElem?_cons_succ] at d7 z0 z1
  have HB := Lib.hid hB
  have HZ := Lib.hid hZ
  have HG := Lib.hid hg
  have HB1 := Lib.hid hb1
  have K2 := Lib.hid k2
  clear hB hZ hg hb1 k1 k2 b0 b1 b2
  go_wp2_with fail
  have n2 := (K2.out.set_ 0 (.int .u8 0)).set_ 1 (.int .u64 0)
  have x0 := n2.cell 0
  have x1 := n2.cell 1
  simp only [List.setIfInBounds_toArray, List.set_cons_zero, List.set_cons_succ, List.getElem?_toArray, List.getElem?_cons_zero, List.getElem?_cons_succ] at x0 x1
  have hF : Below g w ((w1.setCell ⟨g + 1 + 1, 0, none⟩ (.int .u8 0)).setCell ⟨g + 1 + 1, 1, none⟩ (.int .u64 0)) := by
    have h0 := HB.out
    have h1 := HB1.out
    rw [← HG.out] at h0 ⊢
    exact bset (bset (bstep h0 h1) (by omega)) (by omega)
  generalize (w1.setCell ⟨g + 1 + 1, 0, none⟩ (.int .u8 0)).setCell ⟨g + 1 + 1, 1, none⟩ (.int .u64 0) = W9 at n2 x0 x1 hF ⊢
  rw [HG.out]
  exact bodyPost_ret (v := .tuple #[.int .i64 0, .agg #[.int .u8 0, .int .u64 0], .int .i64 11]) (by simp [results, Try.results13, go_sem, x0, x1]) rfl ⟨rfl, hF⟩
end Go.Proofs.Ytcdcpnhlmgmnkaa.Pil
namespace Go.Proofs.Ytcdcpnhlmgmnkaa.Base
open Go Go.RowKit Go.Proofs.YtcdcpnhlmgmnkaaW.PrintWords Go.Proofs.Ytcdcpnhlmgmnkaa.Ppia Go.Proofs.Ytcdcpnhlmgmnkaa.Ppic Go.Proofs.Ytcdcpnhlmgmnkaa.Pil
def pilot_Choose.f (k : Nat) (a0_0 a0_1 : Int) (l1_0 : List (S52)) (a1_1 : Int) (a1_2 : Int) (a1_3 : Int) (a1_4 : Int) (a1_5 : Int) (a1_6 : Int) (l1_7 : List (S54)) : Option (Int × Int × Int × Int) :=
  if l1_7.length = 0 then (if a0_0 = 0 then some (0, 0, 0, 11) else none)
  else if a0_0 = 0 then (pilot_first_choose.f l1_0 a1_1 a1_2 a1_3 a1_4 a1_5 a1_6 l1_7 a0_1).bind fun t => some (t.1, 0, t.2, 0)
  else if a0_0 = 1 then (pilot_last_choose.f l1_0 a1_1 a1_2 a1_3 a1_4 a1_5 a1_6 l1_7 a0_1).bind fun t => some (t.1, 1, t.2, 0)
  else if a0_0 = 3 then (pilot_brave_choose.f k l1_0 a1_1 a1_2 a1_3 a1_4 a1_5 a1_6 l1_7 a0_1).bind fun t => some (t.1, 3, t.2, 0)
  else none
theorem pilot_Choose.mono : ∀ a0 a1 a2 a3 a4 a5 a6 a7 a8 a9 k, LeO (pilot_Choose.f k a0 a1 a2 a3 a4 a5 a6 a7 a8 a9) (pilot_Choose.f (k + 1) a0 a1 a2 a3 a4 a5 a6 a7 a8 a9) := by
  intro a0 a1 a2 a3 a4 a5 a6 a7 a8 a9 k
  unfold pilot_Choose.f
  repeat (first
    | (with_reducible exact pilot_brave_choose.mono _ _ _ _ _ _ _ _ _ _)
    | (with_reducible exact LeO.refl _)
    | (with_reducible refine LeO.ite ?_ ?_)
    | (with_reducible refine LeO.bind ?_ (fun _ => ?_)))
theorem pilot_Choose.calls (k : Nat) (a0_0 : Int) (a0_1 : Int) (A1_0 : Option Addr) (c1_0 : Nat) (l1_0 : List (S52)) (a1_1 : Int) (a1_2 : Int) (a1_3 : Int) (a1_4 : Int) (a1_5 : Int) (a1_6 : Int) (A1_7 : Option Addr) (c1_7 : Nat) (l1_7 : List (S54)) (r1 r2 r3 r4 : Int) (w : World) (hr1_0 : Kd.C k52 w A1_0 l1_0.length l1_0) (hc1_0 : l1_0.length ≤ c1_0) (hr1_7 : Kd.C k54 w A1_7 l1_7.length l1_7) (hc1_7 : l1_7.length ≤ c1_7) (h : pilot_Choose.f k a0_0 a0_1 l1_0 a1_1 a1_2 a1_3 a1_4 a1_5 a1_6 l1_7 = some (r1, r2, r3, r4)) :
    Calls Try.prog 13 #[.agg #[.int .u8 a0_0, .int .u64 a0_1], .agg #[.slice A1_0 l1_0.length c1_0, .int .i64 a1_1, .int .i64 a1_2, .int .u8 a1_3, .int .i64 a1_4, .int .u8 a1_5, .int .u8 a1_6, .slice A1_7 l1_7.length c1_7]] w fun e w' => e = .returned (.tuple #[.int .i64 r1, .agg #[.int .u8 r2, .int .u64 r3], .int .i64 r4]) ∧ Below w.heap.size w w' := by
  unfold pilot_Choose.f at h
  by_cases hz : l1_7.length = 0
  · rw [if_pos hz] at h
    by_cases hk : a0_0 = 0
    · rw [if_pos hk] at h
      subst hk
      simp only [Option.some.injEq, Prod.mk.injEq] at h
      obtain ⟨rfl, rfl, rfl, rfl⟩ := h
      rw [hz]
      exact choose_empty 0 a0_1 _ _ _ _ _ _ _ _ _ _ _ w (by kernel_rfl)
    · rw [if_neg hk] at h; cases h
  rw [if_neg hz] at h
  have hl : l1_7.length ≤ 9223372036854775807 := hr1_7.2.1
  by_cases h0 : a0_0 = 0
  · rw [if_pos h0] at h
    obtain ⟨⟨t1, t2⟩, ht, h⟩ := Option.bind_eq_some_iff.1 h
    simp only [Option.some.injEq, Prod.mk.injEq] at h
    obtain ⟨rfl, rfl, rfl, rfl⟩ := h
    subst h0
    exact choose_0 _ _ _ _ _ _ _ _ _ _ _ _ _ w hz hl _ _ fun W' hb => pilot_first_choose.calls _ _ _ _ _ _ _ _ _ _ _ _ _ _ _ W' (Kd.C_below hr1_0 hb) hc1_0 (Kd.C_below hr1_7 hb) hc1_7 ht
  rw [if_neg h0] at h
  by_cases h1 : a0_0 = 1
  · rw [if_pos h1] at h
    obtain ⟨⟨t1, t2⟩, ht, h⟩ := Option.bind_eq_some_iff.1 h
    simp only [Option.some.injEq, Prod.mk.injEq] at h
    obtain ⟨rfl, rfl, rfl, rfl⟩ := h
    subst h1
    exact choose_1 _ _ _ _ _ _ _ _ _ _ _ _ _ w hz hl _ _ fun W' hb => pilot_last_choose.calls _ _ _ _ _ _ _ _ _ _ _ _ _ _ _ W' (Kd.C_below hr1_0 hb) hc1_0 (Kd.C_below hr1_7 hb) hc1_7 ht
  rw [if_neg h1] at h
  by_cases h3 : a0_0 = 3
  · rw [if_pos h3] at h
    obtain ⟨⟨t1, t2⟩, ht, h⟩ := Option.bind_eq_some_iff.1 h
    simp only [Option.some.injEq, Prod.mk.injEq] at h
    obtain ⟨rfl, rfl, rfl, rfl⟩ := h
    subst h3
    exact choose_3 _ _ _ _ _ _ _ _ _ _ _ _ _ w hz hl _ _ fun W' hb => pilot_brave_choose.calls k _ _ _ _ _ _ _ _ _ _ _ _ _ _ _ W' (Kd.C_below hr1_0 hb) hc1_0 (Kd.C_below hr1_7 hb) hc1_7 ht
  rw [if_neg h3] at h
  cases h
end Go.Proofs.Ytcdcpnhlmgmnkaa.Base
end
