/- Joined by a program of this session (pack.py) out of: Podrx0 Podrx1 Podrx2 Podrx3 Podrx4 -/
import Derived.ArgAppend
import Derived.Below
import Derived.BigQuiet
import Derived.Deep.AppendLies
import Derived.Deep.CutBlock
import Derived.Deep.DeepCutAuto
import Derived.Deep.Draws
import Derived.Deep.LoopGhost
import Derived.Deep.OwnRows
import Derived.Deep.QuietTactic
import Derived.Deep.RegionHeld3
import Derived.KernelRfl
import Derived.Laws.BitsLemmas
import Derived.Laws.BytesArg
import Derived.Laws.IdiomCopy
import Derived.Laws.MakeOwn
import Derived.Laws.OwnMore
import Derived.Laws.Rows
import Derived.Laws.Slices
import Derived.Lib.AppendStr
import Derived.Lib.ConvBytes
import Derived.Maps.AppendAt
import Derived.OrdersHeld
import Derived.OwnWalk
import Derived.RowKit
import Derived.RowKit3
import Derived.Tactics
import Derived.Test.YtcdcpnhlmgmnkaaDoorProg
import Derived.WalkKit
import Derived.WideLaws
import Derived.Test.YtcdcpnhlmgmnkaaDoorKot1
import Derived.Test.YtcdcpnhlmgmnkaaDoorKot3
import Derived.Test.YtcdcpnhlmgmnkaaDoorKot4
section
namespace Go.Proofs.YtcdcpnhlmgmnkaaDoor.Podr
open Go.RowKit Go.Proofs.YtcdcpnhlmgmnkaaDoor.Base Go.Proofs.YtcdcpnhlmgmnkaaDoorW.PrintWords Go.Proofs.YtcdcpnhlmgmnkaaDoorW.PrintLast Go.Proofs.YtcdcpnhlmgmnkaaDoorW.PrintMore
attribute [local go_sem] max2_int min2_int max_two min_two max_three min_three max_four min_four   -- for this text's walks alone
set_option linter.unusedVariables false
set_option linter.unusedSimpArgs false
def errW : Option Int → Value
  | none => .nilIface
  | some c => .iface 0 (.int .i64 c)
theorem errW_none : errW none = .nilIface := rfl
theorem errW_some (c : Int) : errW (some c) = .iface 0 (.int .i64 c) := rfl
theorem info45 : (Tryd.prog.info? 45).map (fun i => (i.zero, i.size, i.bytes)) = some (some (.int .u64 0), 1, 8) := by kernel_rfl
end Go.Proofs.YtcdcpnhlmgmnkaaDoor.Podr
end
section
namespace Go.Proofs.YtcdcpnhlmgmnkaaDoor.Podr
open Go.RowKit Go.Proofs.YtcdcpnhlmgmnkaaDoor.Base Go.Proofs.YtcdcpnhlmgmnkaaDoorW.PrintWords Go.Proofs.YtcdcpnhlmgmnkaaDoorW.PrintLast Go.Proofs.YtcdcpnhlmgmnkaaDoorW.PrintMore
attribute [local go_sem] max2_int min2_int max_two min_two max_three min_three max_four min_four   -- for this text's walks alone
set_option linter.unusedVariables false
set_option linter.unusedSimpArgs false
def joustref32_divisor.l0 : Nat → Int → Int → Option (Int)
 | 0, _, _ => none
 | k + 1, x0, x1 => if x1 > 0 then (if x1 = 0 then (none) else (joustref32_divisor.l0 k x1 (Int.tmod x0 x1))) else (some x0)
def joustref32_divisor.f (k : Nat) (a0 : Int) (a1 : Int) : Option (Int) := joustref32_divisor.l0 k a0 a1
theorem joustref32_divisor.mono_l : ∀ k, (∀ y0 y1, LeO (joustref32_divisor.l0 k y0 y1) (joustref32_divisor.l0 (k + 1) y0 y1))
 | 0 => fun _ _ r h => by simp [joustref32_divisor.l0] at h
 | k + 1 => by
  have ih0 := joustref32_divisor.mono_l k
  ·
   intro y0 y1
   unfold joustref32_divisor.l0
   repeat' first
   | (with_reducible exact ih0 _ _)
   | (with_reducible exact LeO.refl _)
   | (with_reducible exact LeO.none _)
   | (with_reducible refine LeO.ite ?_ ?_)
   | (with_reducible refine LeO.bind ?_ (fun _ => ?_))
   | exact ih0 _ _
   | exact LeO.none _
   | refine LeO.ite ?_ ?_
   | refine LeO.bind ?_ (fun _ => ?_)
theorem joustref32_divisor.mono : ∀ a0 a1 k, LeO (joustref32_divisor.f k a0 a1) (joustref32_divisor.f (k + 1) a0 a1) := by
 intro a0 a1 k
 have ih0 := joustref32_divisor.mono_l k
 unfold joustref32_divisor.f
 repeat' first
   | (with_reducible exact ih0 _ _)
   | (with_reducible exact LeO.refl _)
   | (with_reducible exact LeO.none _)
   | (with_reducible refine LeO.ite ?_ ?_)
   | (with_reducible refine LeO.bind ?_ (fun _ => ?_))
   | exact ih0 _ _
   | exact LeO.none _
   | refine LeO.ite ?_ ?_
   | refine LeO.bind ?_ (fun _ => ?_)
set_option maxHeartbeats 8000000 in
set_option maxRecDepth 100000 in
theorem joustref32_divisor.calls (k : Nat) (a0 : Int) (a1 : Int) (r : Int) (w : World) (h : joustref32_divisor.f k a0 a1 = some r) :
  Calls Tryd.prog 68 #[.int .u64 a0, .int .u64 a1] w fun e w' => e = .returned (.int .u64 r) ∧ Drawn0 w w' := by
 have H : (joustref32_divisor.l0 k a0 a1) = some r := h
 clear h
 have H' := Az H
 clear H
 go_enter Tryd.func68, Tryd.ntmps68
 go_wp2
 repeat (go_quiet (fail); try go_wp2)
 go_loopg [0, 1] k (fun kq v0 v1 w' => ∃ (x0_1 : Int) (x1_1 : Int), v0 = .int .u64 x0_1 ∧ v1 = .int .u64 x1_1 ∧ Aside0 (joustref32_divisor.l0 kq x0_1 x1_1 = some r) ∧ Aside0 (kq ≤ k) ∧ Drawn0 w w')
 case atStart => exact ⟨(a0), (a1), (by first | rfl | (simp; done) | (simp [*]; done)), (by first | rfl | (simp; done) | (simp [*]; done)), H', ⟨Nat.le_refl _⟩, by repeat (first | exact Drawn0.refl _ | apply Drawn0.step)⟩
 case round =>
  clear H'
  try clear p2
  obtain ⟨x0_1, x1_1, rfl, rfl, HA, HK1, ⟨m1, rfl⟩⟩ := hrel
  cases gk with
  | zero => exact absurd HA.out (by simp [joustref32_divisor.l0])
  | succ k1 =>
   have H := HA.out
   clear HA
   simp only [joustref32_divisor.l0] at H
   by_cases c3 : x1_1 > 0
   ·
    rw [if_pos c3] at H
    have c3b0 : decide (0 < x1_1) = true := decide_eq_true c3
    clear c3
    by_cases c4 : x1_1 = 0
    ·
     rw [if_pos c4] at H
     exact absurd H (by simp)
    ·
     rw [if_neg c4] at H
     have c4b0 : (x1_1 == 0) = false := beq_eq_false_iff_ne.mpr c4
     have c4b1 : (x1_1 != 0) = true := bne_iff_ne.mpr c4
     have H' := Az H
     clear H
     go_wp2
     repeat (go_quiet (fail); try go_wp2)
     go_roundg k1
     case measure => have := HK1.out; omega
     case rel => exact ⟨(x1_1), (Int.tmod x0_1 x1_1), (by first | rfl | (simp; done) | (simp [*]; done)), (by first | rfl | (simp; done) | (simp [*]; done)), H', ⟨by have := HK1.out; omega⟩, by repeat (first | exact Drawn0.refl _ | apply Drawn0.step)⟩
   ·
    rw [if_neg c3] at H
    have c3b0 : decide (0 < x1_1) = false := decide_eq_false c3
    clear c3
    obtain rfl := Option.some.inj H
    go_wp2
    repeat (go_quiet (fail); try go_wp2)
    go_ret
    exact ⟨by first | rfl | (simp; done) | (simp [*]; done), by repeat (first | exact Drawn0.refl _ | apply Drawn0.step)⟩
def joustref32_Make.f (k : Nat) (a0 : Int) (a1 : Int) : Option (Int × Int × Int) := if a1 = 0 then (some (0, 0, 2)) else (if a0 > a1 then (some (0, 0, 2)) else ((joustref32_divisor.f k a0 a1).bind fun t102 => (if t102 = 0 then (none) else (some (IntKind.u64.wrap (Int.tdiv a0 t102), IntKind.u64.wrap (Int.tdiv a1 t102), 0)))))
theorem joustref32_Make.mono : ∀ a0 a1 k, LeO (joustref32_Make.f k a0 a1) (joustref32_Make.f (k + 1) a0 a1) := by
 intro a0 a1 k
 unfold joustref32_Make.f
 repeat' first
   | (with_reducible exact joustref32_divisor.mono _ _ _)
   | (with_reducible exact LeO.refl _)
   | (with_reducible exact LeO.none _)
   | (with_reducible refine LeO.ite ?_ ?_)
   | (with_reducible refine LeO.bind ?_ (fun _ => ?_))
   | exact joustref32_divisor.mono _ _ _
   | exact LeO.none _
   | refine LeO.ite ?_ ?_
   | refine LeO.bind ?_ (fun _ => ?_)
def joustref32_Make.T4 : Bool × List (List Nat × List Nat) := (true, [([], []), ([], []), ([0, 1], [0, 1]), ([], []), ([], []), ([3, 4], [3, 4]), ([2, 5], [2, 5]), ([6, 0, 1, 2, 3, 4, 5, 6], [6]), ([7, 0, 1, 2, 3, 4, 5, 6, 7], [])])
def joustref32_Make.B4 : List Nat := [0, 0, 3, 0, 0, 24, 63, 127, 255]
theorem joustref32_Make.tab4 : rtab .any (opsOf Tryd.f40 4) = joustref32_Make.T4 := by kernel_rfl
theorem joustref32_Make.bits4 : waitsOk joustref32_Make.T4.2 joustref32_Make.B4 = true := by kernel_rfl
set_option maxHeartbeats 8000000 in
set_option maxRecDepth 100000 in
theorem joustref32_Make.calls (k : Nat) (a0 : Int) (a1 : Int) (r1 : Int) (r2 : Int) (r3 : Int) (w : World) (h : joustref32_Make.f k a0 a1 = some (r1, r2, r3)) :
  Calls Tryd.prog 40 #[.int .u64 a0, .int .u64 a1] w fun e w' => e = .returned (.tuple #[.agg #[.int .u64 r1, .int .u64 r2], .int .i64 r3]) ∧ Below w.heap.size w w' := by
 have hu47 := Tryd.underlying47
 have HB := Az (Below.refl w.heap.size w)
 have H : (if a1 = 0 then (some (0, 0, 2)) else (if a0 > a1 then (some (0, 0, 2)) else ((joustref32_divisor.f k a0 a1).bind fun t102 => (if t102 = 0 then (none) else (some (IntKind.u64.wrap (Int.tdiv a0 t102), IntKind.u64.wrap (Int.tdiv a1 t102), 0)))))) = some (r1, r2, r3) := h
 clear h
 by_cases c3 : a1 = 0
 ·
  rw [if_pos c3] at H
  have c3b0 : (a1 == 0) = true := beq_iff_eq.mpr c3
  have c3b1 : (a1 != 0) = false := bne_eq_false_iff_eq.mpr c3
  clear c3
  simp only [Option.some.injEq, Prod.mk.injEq] at H
  obtain ⟨rfl, rfl, rfl⟩ := H
  go_enter Tryd.func40, Tryd.ntmps40
  go_wp2_with (first | ((with_reducible refine gate_dst (N := 4) rfl ?_); refine box_event ?hg (N := 4) ?hd (cs := #[.int .u64 0, .int .u64 0]) (t := 47) ?hr ?_; (case hd => rfl); (case hg => rfl); (case hr => first | (go_simp; done) | (go_simp; rfl)); intro gb101 hg w4 hbox hb; have n0_ := Az (below_step (low HB) hb); have n1_ := Az (hbox); have n2_ := Az ((by rw [hg]; exact (below_size (low HB)) : w.heap.size ≤ gb101)); have n3_ := Az ((by rw [hg]; exact (below_size (low HB)) : w.heap.size ≤ gb101)); clear HB; have HB := n0_; have BK101 := n1_; have GW101 := n2_; have GE101 := n3_; clear n0_ n1_ n2_ n3_; clear hb hbox hg; obtain ⟨hcz5_0, hcz5_1, hfz5_0, hfz5_1⟩ := cells2 BK101.out))
  refine bodyPost_ret (results_ct rfl _ _ gb101 47 #[.int .u64 0, .int .u64 0] (0, 0) _ rfl of_lies Tryd.underlying47 rfl (by kernel_rfl)) rfl ?_
  exact ⟨by first | rfl | (simp [errW_none, errW_some] <;> rfl) | (simp [*, errW_none, errW_some] <;> rfl), low HB⟩
 ·
  rw [if_neg c3] at H
  have c3b0 : (a1 == 0) = false := beq_eq_false_iff_ne.mpr c3
  have c3b1 : (a1 != 0) = true := bne_iff_ne.mpr c3
  by_cases c6 : a0 > a1
  ·
   rw [if_pos c6] at H
   have c6b0 : decide (a1 < a0) = true := decide_eq_true c6
   clear c6
   simp only [Option.some.injEq, Prod.mk.injEq] at H
   obtain ⟨rfl, rfl, rfl⟩ := H
   go_enter Tryd.func40, Tryd.ntmps40
   go_wp2_with (first | ((with_reducible refine gate_dst (N := 4) rfl ?_); refine box_event ?hg (N := 4) ?hd (cs := #[.int .u64 0, .int .u64 0]) (t := 47) ?hr ?_; (case hd => rfl); (case hg => rfl); (case hr => first | (go_simp; done) | (go_simp; rfl)); intro gb101 hg w7 hbox hb; have n0_ := Az (below_step (low HB) hb); have n1_ := Az (hbox); have n2_ := Az ((by rw [hg]; exact (below_size (low HB)) : w.heap.size ≤ gb101)); have n3_ := Az ((by rw [hg]; exact (below_size (low HB)) : w.heap.size ≤ gb101)); clear HB; have HB := n0_; have BK101 := n1_; have GW101 := n2_; have GE101 := n3_; clear n0_ n1_ n2_ n3_; clear hb hbox hg; obtain ⟨hcz8_0, hcz8_1, hfz8_0, hfz8_1⟩ := cells2 BK101.out))
   refine bodyPost_ret (results_ct rfl _ _ gb101 47 #[.int .u64 0, .int .u64 0] (0, 0) _ rfl of_lies Tryd.underlying47 rfl (by kernel_rfl)) rfl ?_
   exact ⟨by first | rfl | (simp [errW_none, errW_some] <;> rfl) | (simp [*, errW_none, errW_some] <;> rfl), low HB⟩
  ·
   rw [if_neg c6] at H
   have c6b0 : decide (a1 < a0) = false := decide_eq_false c6
   clear c6
   replace H := Option.bind_eq_some_iff.mp H
   obtain ⟨t102, A90, H⟩ := H
   replace H : (if t102 = 0 then (none) else (some (IntKind.u64.wrap (Int.tdiv a0 t102), IntKind.u64.wrap (Int.tdiv a1 t102), 0))) = some (r1, r2, r3) := H
   have A9 := Az A90
   clear A90
   by_cases c10 : t102 = 0
   ·
    rw [if_pos c10] at H
    exact absurd H (by simp)
   ·
    rw [if_neg c10] at H
    have c10b0 : (t102 == 0) = false := beq_eq_false_iff_ne.mpr c10
    have c10b1 : (t102 != 0) = true := bne_iff_ne.mpr c10
    simp only [Option.some.injEq, Prod.mk.injEq] at H
    obtain ⟨rfl, rfl, rfl⟩ := H
    go_enter Tryd.func40, Tryd.ntmps40
    try go_wp2_with (first | ((with_reducible refine gate_dst (N := 4) rfl ?_); refine box_event ?hg (N := 4) ?hd (cs := #[.int .u64 0, .int .u64 0]) (t := 47) ?hr ?_; (case hd => rfl); (case hg => rfl); (case hr => first | (go_simp; done) | (go_simp; rfl)); intro gb101 hg w11 hbox hb; have n0_ := Az (below_step (low HB) hb); have n1_ := Az (hbox); have n2_ := Az ((by rw [hg]; exact (below_size (low HB)) : w.heap.size ≤ gb101)); have n3_ := Az ((by rw [hg]; exact (below_size (low HB)) : w.heap.size ≤ gb101)); clear HB; have HB := n0_; have BK101 := n1_; have GW101 := n2_; have GE101 := n3_; clear n0_ n1_ n2_ n3_; clear hb hbox hg) | ((with_reducible refine gate_callee (f := 68) rfl ?_); refine goesL_ (some 17) rfl rfl Tryd.func68 (by kernel_rfl) rfl #[.int .u64 a0, .int .u64 a1] rfl (by (try simp only [List.map_toArray, List.map_cons, List.map_nil]); first | done | rfl | (simp only [List.length_drop, List.length_take]; rfl)) ?_; (with_reducible refine (joustref32_divisor.calls k a0 a1 t102 _ A9.out).mono ?_); rintro e w' ⟨rfl, ⟨nd, rfl⟩⟩; refine ⟨_, rfl, ?_⟩; (try (rw [drewN_self w11]; generalize hq_ : World.drewN w11 _ = w11; have n0_ : Aside0 (w11.heap[gb101]? = some (.cells #[.int .u64 0, .int .u64 0] 47 (0, 0))) := ⟨by rw [← hq_]; exact of_lies⟩; have n1_ : Aside0 (Below w.heap.size w w11) := ⟨by rw [← hq_]; exact (low HB)⟩; clear BK101 HB hq_; have BK101 := n0_; have HB := n1_; clear n0_ n1_))))
    have n0_ := Az (blk_drew BK101.out)
    have n1_ := Az (below_drew1 HB.out)
    clear BK101
    clear HB
    have BK101 := n0_
    have HB := n1_
    clear n0_ n1_
    refine start_ (n := 9) (S := fun w' => True) (ds := []) #[false, false, false, false, false, false, false, false, false] (by kernel_rfl) rfl rfl trivial (fun hHeld => ?_); refine with_tabW joustref32_Make.tab4 joustref32_Make.bits4 (fun HT_ HW_ => ?_)
    generalize w11.drew = w12 at BK101 HB hHeld ⊢
    refine pure_ (i := 0) (N := some 18) (v := ?_) (a' := ?_) #[true, false, false, false, false, false, false, false, false] rfl rfl (any_of HT_.out (by kernel_rfl)) (fun _ _ _ h => h) (Or.inl ⟨by rfl, ?_⟩) ?_ ?_
    rotate_left
    ·
     intro w'
     go_simp
     with_reducible rfl
    rotate_left
    ·
     simp only [Act.put, List.setIfInBounds_toArray, List.set_cons_zero, List.set_cons_succ, i64_w, i32_w]
     rfl
    refine pure_ (i := 1) (N := some 19) (v := ?_) (a' := ?_) #[true, true, false, false, false, false, false, false, false] rfl rfl (any_of HT_.out (by kernel_rfl)) (fun _ _ _ h => h) (Or.inl ⟨by rfl, ?_⟩) ?_ ?_
    rotate_left
    ·
     intro w'
     go_simp
     with_reducible rfl
    rotate_left
    ·
     simp only [Act.put, List.setIfInBounds_toArray, List.set_cons_zero, List.set_cons_succ, i64_w, i32_w]
     rfl
    refine pure_ (i := 2) (N := some 20) (v := ?_) (a' := ?_) #[true, true, true, false, false, false, false, false, false] rfl rfl (any_of HT_.out (by kernel_rfl)) (fun _ _ _ h => h) (Or.inl ⟨by rfl, ?_⟩) ?_ ?_
    rotate_left
    ·
     intro w'
     go_simp
     with_reducible rfl
    rotate_left
    ·
     simp only [Act.put, List.setIfInBounds_toArray, List.set_cons_zero, List.set_cons_succ, i64_w, i32_w]
     rfl
    refine pure_ (i := 3) (N := some 21) (v := ?_) (a' := ?_) #[true, true, true, true, false, false, false, false, false] rfl rfl (any_of HT_.out (by kernel_rfl)) (fun _ _ _ h => h) (Or.inl ⟨by rfl, ?_⟩) ?_ ?_
    rotate_left
    ·
     intro w'
     go_simp
     with_reducible rfl
    rotate_left
    ·
     simp only [Act.put, List.setIfInBounds_toArray, List.set_cons_zero, List.set_cons_succ, i64_w, i32_w]
     rfl
    refine pure_ (i := 4) (N := some 22) (v := ?_) (a' := ?_) #[true, true, true, true, true, false, false, false, false] rfl rfl (any_of HT_.out (by kernel_rfl)) (fun _ _ _ h => h) (Or.inl ⟨by rfl, ?_⟩) ?_ ?_
    rotate_left
    ·
     intro w'
     go_simp
     with_reducible rfl
    rotate_left
    ·
     simp only [Act.put, List.setIfInBounds_toArray, List.set_cons_zero, List.set_cons_succ, i64_w, i32_w]
     rfl
    refine pure_ (i := 5) (N := some 23) (v := ?_) (a' := ?_) #[true, true, true, true, true, true, false, false, false] rfl rfl (any_of HT_.out (by kernel_rfl)) (fun _ _ _ h => h) (Or.inl ⟨by rfl, ?_⟩) ?_ ?_
    rotate_left
    ·
     intro w'
     go_simp
     with_reducible rfl
    rotate_left
    ·
     simp only [Act.put, List.setIfInBounds_toArray, List.set_cons_zero, List.set_cons_succ, i64_w, i32_w]
     rfl
    refine pure_ (i := 6) (N := some 24) (v := ?_) (a' := ?_) #[true, true, true, true, true, true, true, false, false] rfl rfl (any_of HT_.out (by kernel_rfl)) (fun _ _ _ h => h) (Or.inl ⟨by rfl, ?_⟩) ?_ ?_
    rotate_left
    ·
     intro w'
     go_simp
     with_reducible rfl
    rotate_left
    ·
     simp only [Act.put, List.setIfInBounds_toArray, List.set_cons_zero, List.set_cons_succ, i64_w, i32_w]
     rfl
    refine one_ (i := 7) (N := none) #[true, true, true, true, true, true, true, true, false] rfl rfl (one_of HT_.out (by kernel_rfl)) (by decide) (fun K hK => ?_)
    have hs13 : w12.cell? ⟨gb101, 0, none⟩ = some (.int .u64 0) := (blk_cell BK101.out 0).trans rfl
    have hfs13 := blk_frozen BK101.out 0
    have hs14 : w12.cell? ⟨gb101, 1, none⟩ = some (.int .u64 0) := (blk_cell BK101.out 1).trans rfl
    have hfs14 := blk_frozen BK101.out 1
    refine skip_ (w1 := ?_) (by rfl) rfl ?_ ?_
    rotate_left
    ·
     go_simp
     rfl
    refine hK.out _ _ trivial (fun hHeld => ?_)
    clear hK K
    refine pure_ (i := 8) (N := some 5) (v := ?_) (a' := ?_) #[true, true, true, true, true, true, true, true, true] rfl rfl (any_of HT_.out (by kernel_rfl)) (fun _ _ _ h => h) (Or.inl ⟨by rfl, ?_⟩) ?_ ?_
    rotate_left
    ·
     intro w'
     go_simp
     with_reducible rfl
    rotate_left
    ·
     simp only [Act.put, List.setIfInBounds_toArray, List.set_cons_zero, List.set_cons_succ, i64_w, i32_w]
     rfl
    refine done_ (done_of HT_.out (by kernel_rfl)) ?_
    try go_wp2
    refine bodyPost_ret (results_ct rfl _ _ gb101 47 #[.int .u64 (IntKind.u64.wrap (Int.tdiv a0 t102)), .int .u64 (IntKind.u64.wrap (Int.tdiv a1 t102))] (0, 0) _ rfl of_lies Tryd.underlying47 rfl (by kernel_rfl)) rfl ?_
    exact ⟨by first | rfl | (simp [errW_none, errW_some] <;> rfl) | (simp [*, errW_none, errW_some] <;> rfl), low HB⟩
mutual
def joustref32_sets.j0 : Nat → Int → Int → Bool → Option (Int)
 | 0, _, _, _ => none
 | k + 1, x0, x1, x15 => if x15 = true then (some 0) else (joustref32_sets.l0 k x0 x1 (([1] : List Int)) 1)
def joustref32_sets.l0 : Nat → Int → Int → List Int → Int → Option (Int)
 | 0, _, _, _, _ => none
 | k + 1, x0, x1, x5, x6 => if x6 ≤ x0 then (joustref32_sets.l1 k x0 x1 x5 x6 (([1] : List Int)) 1) else (if 0 ≤ x1 then (if x1 < (x5.length : Int) then (some (rd x5 x1)) else (none)) else (none))
def joustref32_sets.l1 : Nat → Int → Int → List Int → Int → List Int → Int → Option (Int)
 | 0, _, _, _, _, _, _ => none
 | k + 1, x0, x1, x5, x6, x7, x8 => if x8 < x6 then (if 0 ≤ (wrap64 (x8 - 1)) then (if (wrap64 (x8 - 1)) < (x5.length : Int) then (if 0 ≤ x8 then (if x8 < (x5.length : Int) then (if x7.length < 17592186044416 then (joustref32_sets.l1 k x0 x1 x5 x6 (x7 ++ [IntKind.u64.wrap ((rd x5 (wrap64 (x8 - 1))) + (rd x5 x8))]) (wrap64 (x8 + 1))) else (none)) else (none)) else (none)) else (none)) else (none)) else (if x7.length < 17592186044416 then (joustref32_sets.l0 k x0 x1 (x7 ++ [1]) (wrap64 (x6 + 1))) else (none))
end
def joustref32_sets.f (k : Nat) (a0 : Int) (a1 : Int) : Option (Int) := if a1 < 0 then (joustref32_sets.j0 k a0 a1 true) else (joustref32_sets.j0 k a0 a1 (decide (a1 > a0)))
theorem joustref32_sets.mono_l : ∀ k, (∀ y0 y1 y2, LeO (joustref32_sets.j0 k y0 y1 y2) (joustref32_sets.j0 (k + 1) y0 y1 y2)) ∧ (∀ y0 y1 y2 y3, LeO (joustref32_sets.l0 k y0 y1 y2 y3) (joustref32_sets.l0 (k + 1) y0 y1 y2 y3)) ∧ (∀ y0 y1 y2 y3 y4 y5, LeO (joustref32_sets.l1 k y0 y1 y2 y3 y4 y5) (joustref32_sets.l1 (k + 1) y0 y1 y2 y3 y4 y5))
 | 0 => ⟨fun _ _ _ r h => by simp [joustref32_sets.j0] at h, fun _ _ _ _ r h => by simp [joustref32_sets.l0] at h, fun _ _ _ _ _ _ r h => by simp [joustref32_sets.l1] at h⟩
 | k + 1 => by
  obtain ⟨ih0, ih1, ih2⟩ := joustref32_sets.mono_l k
  refine ⟨?_, ?_, ?_⟩
  ·
   intro y0 y1 y2
   unfold joustref32_sets.j0
   repeat' first
   | (with_reducible exact ih0 _ _ _)
   | (with_reducible exact ih1 _ _ _ _)
   | (with_reducible exact ih2 _ _ _ _ _ _)
   | (with_reducible exact LeO.refl _)
   | (with_reducible exact LeO.none _)
   | (with_reducible refine LeO.ite ?_ ?_)
   | (with_reducible refine LeO.bind ?_ (fun _ => ?_))
   | exact ih0 _ _ _
   | exact ih1 _ _ _ _
   | exact ih2 _ _ _ _ _ _
   | exact LeO.none _
   | refine LeO.ite ?_ ?_
   | refine LeO.bind ?_ (fun _ => ?_)
  ·
   intro y0 y1 y2 y3
   unfold joustref32_sets.l0
   repeat' first
   | (with_reducible exact ih0 _ _ _)
   | (with_reducible exact ih1 _ _ _ _)
   | (with_reducible exact ih2 _ _ _ _ _ _)
   | (with_reducible exact LeO.refl _)
   | (with_reducible exact LeO.none _)
   | (with_reducible refine LeO.ite ?_ ?_)
   | (with_reducible refine LeO.bind ?_ (fun _ => ?_))
   | exact ih0 _ _ _
   | exact ih1 _ _ _ _
   | exact ih2 _ _ _ _ _ _
   | exact LeO.none _
   | refine LeO.ite ?_ ?_
   | refine LeO.bind ?_ (fun _ => ?_)
  ·
   intro y0 y1 y2 y3 y4 y5
   unfold joustref32_sets.l1
   repeat' first
   | (with_reducible exact ih0 _ _ _)
   | (with_reducible exact ih1 _ _ _ _)
   | (with_reducible exact ih2 _ _ _ _ _ _)
   | (with_reducible exact LeO.refl _)
   | (with_reducible exact LeO.none _)
   | (with_reducible refine LeO.ite ?_ ?_)
   | (with_reducible refine LeO.bind ?_ (fun _ => ?_))
   | exact ih0 _ _ _
   | exact ih1 _ _ _ _
   | exact ih2 _ _ _ _ _ _
   | exact LeO.none _
   | refine LeO.ite ?_ ?_
   | refine LeO.bind ?_ (fun _ => ?_)
theorem joustref32_sets.mono : ∀ a0 a1 k, LeO (joustref32_sets.f k a0 a1) (joustref32_sets.f (k + 1) a0 a1) := by
 intro a0 a1 k
 obtain ⟨ih0, ih1, ih2⟩ := joustref32_sets.mono_l k
 unfold joustref32_sets.f
 repeat' first
   | (with_reducible exact ih0 _ _ _)
   | (with_reducible exact ih1 _ _ _ _)
   | (with_reducible exact ih2 _ _ _ _ _ _)
   | (with_reducible exact LeO.refl _)
   | (with_reducible exact LeO.none _)
   | (with_reducible refine LeO.ite ?_ ?_)
   | (with_reducible refine LeO.bind ?_ (fun _ => ?_))
   | exact ih0 _ _ _
   | exact ih1 _ _ _ _
   | exact ih2 _ _ _ _ _ _
   | exact LeO.none _
   | refine LeO.ite ?_ ?_
   | refine LeO.bind ?_ (fun _ => ?_)
def joustref32_sets.T11 : Bool × List (List Nat × List Nat) := (true, [([], []), ([], []), ([], []), ([2], [2]), ([1, 3], [1, 3]), ([4], [4]), ([], []), ([], []), ([6, 7], [6, 7]), ([8], [8]), ([5, 9], [5, 9]), ([10], [10]), ([0, 11], [0, 11]), ([12, 12, 0, 1, 2, 3, 4, 5, 6, 7, 8, 9, 10, 11, 12], [0, 12])])
def joustref32_sets.B11 : List Nat := [0, 0, 0, 4, 14, 30, 0, 0, 192, 448, 1022, 2046, 4095, 8191]
theorem joustref32_sets.tab11 : rtab .any (opsOf Tryd.f61 11) = joustref32_sets.T11 := by kernel_rfl
theorem joustref32_sets.bits11 : waitsOk joustref32_sets.T11.2 joustref32_sets.B11 = true := by kernel_rfl
set_option maxHeartbeats 8000000 in
set_option maxRecDepth 100000 in
theorem joustref32_sets.calls (k : Nat) (a0 : Int) (a1 : Int) (r : Int) (w : World) (h : joustref32_sets.f k a0 a1 = some r) :
  Calls Tryd.prog 61 #[.int .i64 a0, .int .i64 a1] w fun e w' => e = .returned (.int .u64 r) ∧ Below w.heap.size w w' := by
 have HB := Az (Below.refl w.heap.size w)
 have H : (if a1 < 0 then (joustref32_sets.j0 k a0 a1 true) else (joustref32_sets.j0 k a0 a1 (decide (a1 > a0)))) = some r := h
 clear h
 have HC3 := Az H
 clear H
 go_enter Tryd.func61, Tryd.ntmps61
 go_upto_region 1 with (fail)
 go_cut [15] (fun v15 wc => ∃ (kq : Nat) (x15_2 : Bool), v15 = .bool x15_2 ∧ Aside0 (joustref32_sets.j0 kq a0 a1 x15_2 = some r) ∧ Aside0 (kq ≤ k) ∧ Aside0 (Below w.heap.size w wc))
 case first =>
  have H := HC3.out
  clear HC3
  by_cases c4 : a1 < 0
  ·
   rw [if_pos c4] at H
   have c4b0 : decide (a1 < 0) = true := decide_eq_true c4
   clear c4
   (first | rw [c4b0] | (simp only [i64_w, i32_w]; rw [c4b0]) | skip)
   have H' := Az H
   clear H
   go_wp2
   go_meet
   case rel => exact ⟨_, (true), (by first | rfl | (simp; done) | (simp [*]; done)), H', ⟨by first | omega | exact Nat.le_refl _⟩, ⟨low HB⟩⟩
  ·
   rw [if_neg c4] at H
   have c4b0 : decide (a1 < 0) = false := decide_eq_false c4
   clear c4
   (first | rw [c4b0] | (simp only [i64_w, i32_w]; rw [c4b0]) | skip)
   have H' := Az H
   clear H
   go_wp2
   go_meet
   case rel => exact ⟨_, (decide (a1 > a0)), (by first | rfl | (simp; done) | (simp [*]; done)), H', ⟨by first | omega | exact Nat.le_refl _⟩, ⟨low HB⟩⟩
 case rest =>
  clear HC3
  try clear p2
  try clear c4
  try clear c4b0
  obtain ⟨kq, x15_2, rfl, HA, HJ2, HB⟩ := hcut
  cases kq with
  | zero => exact absurd HA.out (by simp [joustref32_sets.j0])
  | succ kj2 =>
   have H := HA.out
   clear HA
   simp only [joustref32_sets.j0] at H
   by_cases c5 : x15_2 = true
   ·
    subst c5
    have H1 : (some 0) = some r := by rw [if_pos rfl] at H; exact H
    clear H
    have H := H1
    clear H1
    obtain rfl := Option.some.inj H
    go_wp2
    go_ret
    exact ⟨by first | rfl | (simp [errW_none, errW_some] <;> rfl) | (simp [*, errW_none, errW_some] <;> rfl), low HB⟩
   ·
    replace c5 := Bool.eq_false_iff.mpr c5
    subst c5
    have H1 : (joustref32_sets.l0 kj2 a0 a1 (([1] : List Int)) 1) = some r := by rw [if_neg (show ¬ (false = true) by decide)] at H; exact H
    clear H
    have H := H1
    clear H1
    obtain ⟨y103, hy103⟩ : ∃ y_ : List Int, y_ = (([1] : List Int)) := ⟨_, rfl⟩
    replace H : (joustref32_sets.l0 kj2 a0 a1 y103 1) = some r := by first | (rw [hy103]; with_reducible exact H) | (have H2_ := (Option.bind_some _ _).symm.trans H; rw [hy103]; with_reducible exact H2_) | (have H2_ := (Option.bind_some _ _).symm.trans H; with_reducible exact H2_) | with_reducible exact H | (rw [hy103]; exact H) | exact H
    have Ny103 := Az hy103
    clear hy103
    have H' := Az H
    clear H
    go_wp2_with (first | ((with_reducible refine gate_dst (N := 16) rfl ?_); refine Kd.R_lit (Kd.int .u64) _ 45 ?hg (N := 16) ?hd (xs := ([1] : List Int)) (inner := [.int .u64 1]) (ok := fun _ => True) (okp := fun _ => True) ?hr ?hp (fun _ hk => hk) trivial (Below.refl _ _) (Nat.le_refl _) (by simp) ?_; (case hd => rfl); (case hg => rfl); (case hr => first | (go_simp; done) | (go_simp; rfl)); (case hp => exact (Reps.one (show Kd.M (Kd.int .u64) _ _ _ 1 [.int .u64 1] from rfl) (Reps.none _ _))); intro v104 w6 ho7 hb hg_ hnew_; clear hg_ hnew_; (first | rw [← Ny103.out] at ho7 | (simp only [Int.reduceToNat] at ho7; rw [← Ny103.out] at ho7)); have n0_ := Az (Kd.R_lower ho7 (below_size (low HB))); have n1_ := Az (below_step (low HB) hb); clear HB; have HO105 := n0_; have HB := n1_; clear n0_ n1_; clear hb ho7))
    go_loopg [5, 6] kj2 (fun kq v5 v6 w' => ∃ (x5_2 : List Int) (x6_2 : Int), v6 = .int .i64 x6_2 ∧ Aside0 (joustref32_sets.l0 kq a0 a1 x5_2 x6_2 = some r) ∧ Aside0 (kq ≤ kj2) ∧ Aside0 (Kd.R (Kd.int .u64) 45 w' w.heap.size (fun _ => True) v5 x5_2) ∧ Aside0 (Below w.heap.size w w'))
    case atStart => exact ⟨(y103), (1), (by first | rfl | (simp; done) | (simp [*]; done)), H', ⟨Nat.le_refl _⟩, ⟨by (with_reducible repeat (first | apply Kd.R_alloc | apply Kd.R_drewN | apply Kd.R_drew)); exact HO105.out⟩, ⟨low HB⟩⟩
    case round =>
     clear H'
     try clear p2
     try clear c4
     try clear c4b0
     try clear c5
     try clear c6
     try clear p2
     obtain ⟨x5_2, x6_2, rfl, HA, HK2, HO_5, HB⟩ := hrel
     cases gk with
     | zero => exact absurd HA.out (by simp [joustref32_sets.l0])
     | succ k2 =>
      have H := HA.out
      clear HA
      simp only [joustref32_sets.l0] at H
      by_cases c8 : x6_2 ≤ a0
      ·
       rw [if_pos c8] at H
       have c8b0 : decide (x6_2 ≤ a0) = true := decide_eq_true c8
       clear c8
       obtain ⟨y107, hy107⟩ : ∃ y_ : List Int, y_ = (([1] : List Int)) := ⟨_, rfl⟩
       replace H : (joustref32_sets.l1 k2 a0 a1 x5_2 x6_2 y107 1) = some r := by first | (rw [hy107]; with_reducible exact H) | (have H2_ := (Option.bind_some _ _).symm.trans H; rw [hy107]; with_reducible exact H2_) | (have H2_ := (Option.bind_some _ _).symm.trans H; with_reducible exact H2_) | with_reducible exact H | (rw [hy107]; exact H) | exact H
       have Ny107 := Az hy107
       clear hy107
       have H' := Az H
       clear H
       go_wp2_with (first | ((with_reducible refine gate_dst (N := 22) rfl ?_); refine Kd.R_lit (Kd.int .u64) _ 45 ?hg (N := 22) ?hd (xs := ([1] : List Int)) (inner := [.int .u64 1]) (ok := fun _ => True) (okp := fun _ => True) ?hr ?hp (fun _ hk => hk) trivial (Below.refl _ _) (Nat.le_refl _) (by simp) ?_; (case hd => rfl); (case hg => rfl); (case hr => first | (go_simp; done) | (go_simp; rfl)); (case hp => exact (Reps.one (show Kd.M (Kd.int .u64) _ _ _ 1 [.int .u64 1] from rfl) (Reps.none _ _))); intro v108 w9 ho10 hb hg_ hnew_; clear hg_ hnew_; (first | rw [← Ny107.out] at ho10 | (simp only [Int.reduceToNat] at ho10; rw [← Ny107.out] at ho10)); have n0_ := Az (Kd.R_elder' (by (with_reducible repeat (first | apply Kd.R_alloc | apply Kd.R_drewN | apply Kd.R_drew)); exact HO_5.out) (Kd.R_base ho10) hb); have n1_ := Az (Kd.R_lower (Kd.R_new' ho10 (Kd.R_lt (by (with_reducible repeat (first | apply Kd.R_alloc | apply Kd.R_drewN | apply Kd.R_drew)); exact HO_5.out))) (below_size (low HB))); have n2_ := Az (below_step (low HB) hb); clear HO_5; clear HB; have HO_5 := n0_; have HO109 := n1_; have HB := n2_; clear n0_ n1_ n2_; clear hb ho10))
       go_loopg [7, 8] k2 (fun kq v7 v8 w' => ∃ (x7_3 : List Int) (x8_3 : Int), v8 = .int .i64 x8_3 ∧ Aside0 (joustref32_sets.l1 kq a0 a1 x5_2 x6_2 x7_3 x8_3 = some r) ∧ Aside0 (kq ≤ k2) ∧ Aside0 (Kd.R (Kd.int .u64) 45 w' w.heap.size (fun k_ => some k_ ≠ (v7 : Value).ownBlock) u5 x5_2) ∧ Aside0 (Kd.R (Kd.int .u64) 45 w' w.heap.size (fun k_ => some k_ ≠ (u5 : Value).ownBlock) v7 x7_3) ∧ Aside0 (Below w.heap.size w w'))
       case atStart => exact ⟨(y107), (1), (by first | rfl | (simp; done) | (simp [*]; done)), H', ⟨Nat.le_refl _⟩, ⟨by (with_reducible repeat (first | apply Kd.R_alloc | apply Kd.R_drewN | apply Kd.R_drew)); exact Kd.R_mono HO_5.out (fun _ hk => hk.2)⟩, ⟨by (with_reducible repeat (first | apply Kd.R_alloc | apply Kd.R_drewN | apply Kd.R_drew)); exact Kd.R_mono HO109.out (fun _ hk => hk.2)⟩, ⟨low HB⟩⟩
       case round =>
        clear H'
        try clear p2
        try clear c4
        try clear c4b0
        try clear c5
        try clear c6
        try clear c8
        try clear c8b0
        try clear p2
        obtain ⟨x7_3, x8_3, rfl, HA, HK3, HO_5, HO_7, HB⟩ := hrel
        cases gk with
        | zero => exact absurd HA.out (by simp [joustref32_sets.l1])
        | succ k3 =>
         have H := HA.out
         clear HA
         simp only [joustref32_sets.l1] at H
         by_cases c11 : x8_3 < x6_2
         ·
          rw [if_pos c11] at H
          have c11b0 : decide (x8_3 < x6_2) = true := decide_eq_true c11
          clear c11
          obtain ⟨ji12, hji12⟩ : ∃ j_ : Int, (wrap64 (x8_3 - 1)) = j_ := ⟨_, rfl⟩
          replace H : (if 0 ≤ (ji12) then (if (ji12) < (x5_2.length : Int) then (if 0 ≤ x8_3 then (if x8_3 < (x5_2.length : Int) then (if x7_3.length < 17592186044416 then (joustref32_sets.l1 k3 a0 a1 x5_2 x6_2 (x7_3 ++ [IntKind.u64.wrap ((rd x5_2 (ji12)) + (rd x5_2 x8_3))]) (wrap64 (x8_3 + 1))) else (none)) else (none)) else (none)) else (none)) else (none)) = some r := by first | (rw [hji12] at H; exact H) | (simp only [hji12] at H ⊢; exact H)
          have hji12w : (IntKind.i64.wrap (x8_3 - 1)) = ji12 := (i64_w _).trans hji12
          by_cases c13 : 0 ≤ (ji12)
          ·
           rw [if_pos c13] at H
           have c13b0 : decide (0 ≤ (ji12)) = true := decide_eq_true c13
           clear c13
           by_cases c14 : (ji12) < (x5_2.length : Int)
           ·
            rw [if_pos c14] at H
            have c14b0 : decide ((ji12) < (x5_2.length : Int)) = true := decide_eq_true c14
            clear c14
            by_cases c15 : 0 ≤ x8_3
            ·
             rw [if_pos c15] at H
             have c15b0 : decide (0 ≤ x8_3) = true := decide_eq_true c15
             clear c15
             by_cases c16 : x8_3 < (x5_2.length : Int)
             ·
              rw [if_pos c16] at H
              have c16b0 : decide (x8_3 < (x5_2.length : Int)) = true := decide_eq_true c16
              clear c16
              by_cases c17 : x7_3.length < 17592186044416
              ·
               rw [if_pos c17] at H
               have LMc17 := Az c17
               clear c17
               obtain ⟨y112, hy112⟩ : ∃ y_ : List Int, y_ = (x7_3 ++ [IntKind.u64.wrap ((rd x5_2 (ji12)) + (rd x5_2 x8_3))]) := ⟨_, rfl⟩
               replace H : (joustref32_sets.l1 k3 a0 a1 x5_2 x6_2 y112 (wrap64 (x8_3 + 1))) = some r := by first | (rw [hy112]; with_reducible exact H) | (have H2_ := (Option.bind_some _ _).symm.trans H; rw [hy112]; with_reducible exact H2_) | (have H2_ := (Option.bind_some _ _).symm.trans H; with_reducible exact H2_) | with_reducible exact H | (rw [hy112]; exact H) | exact H
               have Ny112 := Az hy112
               clear hy112
               have H' := Az H
               clear H
               try go_wp2
               have n0_ := Az (Kd.R_drew HO_5.out)
               have n1_ := Az (Kd.R_drew HO_7.out)
               have n2_ := Az (below_drew1 HB.out)
               clear HO_5
               clear HO_7
               clear HB
               have HO_5 := n0_
               have HO_7 := n1_
               have HB := n2_
               clear n0_ n1_ n2_
               obtain ⟨Ao19, co19, eo19⟩ := Kd.R_slice HO_5.out
               (first | subst eo19 | (injection eo19 with f1_ f2_ f3_; have f4_ := f1_.symm; have f5_ := f3_.symm; clear f1_ f2_ f3_; subst f4_; subst f5_))
               have p110 : 0 ≤ ((ji12) : Int) := of_decide_eq_true (by first | (with_reducible assumption) | assumption)
               have q110 : (ji12) < (x5_2.length : Int) := of_decide_eq_true (by first | (with_reducible assumption) | assumption)
               obtain ⟨ad110, e110, hx110_0⟩ := Kd.at_int (Kd.R_reads' HO_5.out).2.2 (ji12) p110 q110
               cases e110
               replace p110 := eq_true p110
               replace q110 := eq_true q110
               have p111 : 0 ≤ (x8_3 : Int) := of_decide_eq_true (by first | (with_reducible assumption) | assumption)
               have q111 : x8_3 < (x5_2.length : Int) := of_decide_eq_true (by first | (with_reducible assumption) | assumption)
               obtain ⟨ad111, e111, hx111_0⟩ := Kd.at_int (Kd.R_reads' HO_5.out).2.2 x8_3 p111 q111
               obtain rfl : ad110 = ad111 := (by injection e111)
               replace p111 := eq_true p111
               replace q111 := eq_true q111
               refine start_ (n := 14) (S := fun w' => w'.cell? (ad110.add ((ji12)).toNat) = some (.int .u64 (rd x5_2 (ji12))) ∧ w'.cell? (ad110.add (x8_3).toNat) = some (.int .u64 (rd x5_2 x8_3))) (ds := [11, 12]) #[false, false, false, false, false, false, false, false, false, false, false, false, false, false] (by kernel_rfl) rfl rfl ⟨hx110_0, hx111_0⟩ (fun hHeld => ?_); refine with_tabW joustref32_sets.tab11 joustref32_sets.bits11 (fun HT_ HW_ => ?_)
               generalize wr.drew = w18 at HO_5 HO_7 HB hx110_0 hx111_0 hHeld ⊢
               refine pure_ (i := 0) (N := some 28) (v := ?_) (a' := ?_) #[true, false, false, false, false, false, false, false, false, false, false, false, false, false] rfl rfl (any_of HT_.out (by kernel_rfl)) (fun _ _ _ h => h) (Or.inl ⟨by rfl, ?_⟩) ?_ ?_
               rotate_left
               ·
                intro w'
                go_simp
                with_reducible rfl
               rotate_left
               ·
                simp only [Act.put, List.setIfInBounds_toArray, List.set_cons_zero, List.set_cons_succ, i64_w, i32_w]
                rfl
               refine pure_ (i := 1) (N := some 29) (v := ?_) (a' := ?_) #[true, true, false, false, false, false, false, false, false, false, false, false, false, false] rfl rfl (any_of HT_.out (by kernel_rfl)) (fun _ _ _ h => h) (Or.inl ⟨by rfl, ?_⟩) ?_ ?_
               rotate_left
               ·
                intro w'
                go_simp
                with_reducible rfl
               rotate_left
               ·
                simp only [Act.put, List.setIfInBounds_toArray, List.set_cons_zero, List.set_cons_succ, i64_w, i32_w]
                rfl
               refine pure_ (i := 2) (N := some 30) (v := ?_) (a' := ?_) #[true, true, true, false, false, false, false, false, false, false, false, false, false, false] rfl rfl (any_of HT_.out (by kernel_rfl)) (fun _ _ _ h => h) (Or.inl ⟨by rfl, ?_⟩) ?_ ?_
               rotate_left
               ·
                intro w'
                go_simp
                with_reducible rfl
               rotate_left
               ·
                simp only [Act.put, List.setIfInBounds_toArray, List.set_cons_zero, List.set_cons_succ, i64_w, i32_w]
                rfl
               refine pure_ (i := 3) (N := some 31) (v := ?_) (a' := ?_) #[true, true, true, true, false, false, false, false, false, false, false, false, false, false] rfl rfl (any_of HT_.out (by kernel_rfl)) (fun _ _ _ h => h) (Or.inl ⟨by rfl, ?_⟩) ?_ ?_
               rotate_left
               ·
                intro w'
                go_simp
                with_reducible rfl
               rotate_left
               ·
                simp only [Act.put, List.setIfInBounds_toArray, List.set_cons_zero, List.set_cons_succ, i64_w, i32_w]
                rfl
               refine pure_ (i := 4) (N := some 32) (v := ?_) (a' := ?_) #[true, true, true, true, true, false, false, false, false, false, false, false, false, false] rfl rfl (any_of HT_.out (by kernel_rfl)) (fun _ _ _ h => h) (Or.inl ⟨by rfl, ?_⟩) ?_ ?_
               rotate_left
               ·
                intro w'
                go_simp
                with_reducible rfl
               rotate_left
               ·
                simp only [Act.put, List.setIfInBounds_toArray, List.set_cons_zero, List.set_cons_succ, i64_w, i32_w]
                rfl
               refine pure_ (i := 6) (N := some 34) (v := ?_) (a' := ?_) #[true, true, true, true, true, false, true, false, false, false, false, false, false, false] rfl rfl (any_of HT_.out (by kernel_rfl)) (fun _ _ _ h => h) (Or.inl ⟨by rfl, ?_⟩) ?_ ?_
               rotate_left
               ·
                intro w'
                go_simp
                with_reducible rfl
               rotate_left
               ·
                simp only [Act.put, List.setIfInBounds_toArray, List.set_cons_zero, List.set_cons_succ, i64_w, i32_w]
                rfl
               refine pure_ (i := 7) (N := some 35) (v := ?_) (a' := ?_) #[true, true, true, true, true, false, true, true, false, false, false, false, false, false] rfl rfl (any_of HT_.out (by kernel_rfl)) (fun _ _ _ h => h) (Or.inl ⟨by rfl, ?_⟩) ?_ ?_
               rotate_left
               ·
                intro w'
                go_simp
                with_reducible rfl
               rotate_left
               ·
                simp only [Act.put, List.setIfInBounds_toArray, List.set_cons_zero, List.set_cons_succ, i64_w, i32_w]
                rfl
               refine pure_ (i := 8) (N := some 36) (v := ?_) (a' := ?_) #[true, true, true, true, true, false, true, true, true, false, false, false, false, false] rfl rfl (any_of HT_.out (by kernel_rfl)) (fun _ _ _ h => h) (Or.inl ⟨by rfl, ?_⟩) ?_ ?_
               rotate_left
               ·
                intro w'
                go_simp
                with_reducible rfl
               rotate_left
               ·
                simp only [Act.put, List.setIfInBounds_toArray, List.set_cons_zero, List.set_cons_succ, i64_w, i32_w]
                rfl
               refine take_ (i := 5) (N := some 33) (v := ?_) (a' := ?_) #[true, true, true, true, true, true, true, true, true, false, false, false, false, false] rfl rfl (take_ofW HT_.out HW_.out (by kernel_rfl)) (fun _ _ _ h => h) (Or.inl ⟨by rfl, ?_⟩) hHeld ?_ ?_
               rotate_left
               ·
                rintro w' ⟨s0, s1⟩
                go_simp
                with_reducible rfl
               rotate_left
               ·
                simp only [Act.put, List.setIfInBounds_toArray, List.set_cons_zero, List.set_cons_succ, i64_w, i32_w]
                rfl
               refine take_ (i := 9) (N := some 37) (v := ?_) (a' := ?_) #[true, true, true, true, true, true, true, true, true, true, false, false, false, false] rfl rfl (take_ofW HT_.out HW_.out (by kernel_rfl)) (fun _ _ _ h => h) (Or.inl ⟨by rfl, ?_⟩) hHeld ?_ ?_
               rotate_left
               ·
                rintro w' ⟨s0, s1⟩
                go_simp
                with_reducible rfl
               rotate_left
               ·
                simp only [Act.put, List.setIfInBounds_toArray, List.set_cons_zero, List.set_cons_succ, i64_w, i32_w]
                rfl
               refine pure_ (i := 10) (N := some 38) (v := ?_) (a' := ?_) #[true, true, true, true, true, true, true, true, true, true, true, false, false, false] rfl rfl (any_of HT_.out (by kernel_rfl)) (fun _ _ _ h => h) (Or.inl ⟨by rfl, ?_⟩) ?_ ?_
               rotate_left
               ·
                intro w'
                go_simp
                with_reducible rfl
               rotate_left
               ·
                simp only [Act.put, List.setIfInBounds_toArray, List.set_cons_zero, List.set_cons_succ, i64_w, i32_w]
                rfl
               refine last_ (i := 11) (N := some 39) #[true, true, true, true, true, true, true, true, true, true, true, true, false, false] rfl rfl (one_of HT_.out (by kernel_rfl)) (by decide) (fun K hK => ?_)
               refine value_ (w1 := ?_) (v := ?_) (by rfl) rfl ?_ ?_
               rotate_left 2
               ·
                go_simp
                constructor
                ·
                 rfl
                ·
                 rfl
               refine hK.out _ _ ?_
               clear hK K
               refine norm_ (a' := ?_) ?_ ?_
               rotate_left
               ·
                show Act.put _ (some 39) _ = _
                simp only [Act.put, List.setIfInBounds_toArray, List.set_cons_zero, List.set_cons_succ, i64_w, i32_w]
                rfl
               refine last_ (i := 12) (N := some 40) #[true, true, true, true, true, true, true, true, true, true, true, true, true, false] rfl rfl (one_of HT_.out (by kernel_rfl)) (by decide) (fun K hK => ?_)
               refine Kd.R_append_step (Kd.int .u64) (w0 := w) w.heap.size (by rfl) (.tmp 28) (.tmp 39) 89 45 (.int .u64 0) 8 rfl Tryd.underlying89 info45 rfl (by decide) (by omega) u7 x7_3 (IntKind.u64.wrap ((rd x5_2 (ji12)) + (rd x5_2 x8_3))) [.int .u64 (IntKind.u64.wrap ((rd x5_2 (ji12)) + (rd x5_2 x8_3)))] (fun k_ => some k_ ≠ (.slice (some ad110) x5_2.length co19 : Value).ownBlock) (fun _ => False) rfl rfl ?aP (fun _ hk => hk.elim) ?aF ?aO ?aB ?aS ?aL ?_
               (case aP => exact rfl)
               (case aB => exact (low HB))
               (case aF => exact (fun k_ hk => Kd.fresh' (Kd.R_lt (by (with_reducible repeat (first | apply Kd.R_alloc | apply Kd.R_drewN | apply Kd.R_drew)); exact HO_5.out)) k_ hk))
               (case aO => exact (by (with_reducible repeat (first | apply Kd.R_alloc | apply Kd.R_drewN | apply Kd.R_drew)); exact HO_7.out))
               (case aS => exact (below_size (low HB)))
               (case aL => have := LMc17.out; omega)
               intro v113 w20 ho hb hg hat
               rw [← Ny112.out] at ho
               have n0_ := Az (Kd.R_after (ok := (fun _ => True)) (by (with_reducible repeat (first | apply Kd.R_alloc | apply Kd.R_drewN | apply Kd.R_drew)); exact Kd.R_mono HO_5.out (fun _ hk => ⟨trivial, hk⟩)) hg hat)
               have n1_ := Az (hb)
               have n2_ := Az (ho)
               clear HO_5
               clear HB
               clear HO_7
               have HO_5 := n0_
               have HB := n1_
               have HO114 := n2_
               clear n0_ n1_ n2_
               clear ho hb hg hat
               refine hK.out _ _ ?_
               clear hK K
               refine norm_ (a' := ?_) ?_ ?_
               rotate_left
               ·
                show Act.put _ (some 40) _ = _
                simp only [Act.put, List.setIfInBounds_toArray, List.set_cons_zero, List.set_cons_succ, i64_w, i32_w]
                rfl
               refine pure_ (i := 13) (N := some 7) (v := ?_) (a' := ?_) #[true, true, true, true, true, true, true, true, true, true, true, true, true, true] rfl rfl (any_of HT_.out (by kernel_rfl)) (fun _ _ _ h => h) (Or.inl ⟨by rfl, ?_⟩) ?_ ?_
               rotate_left
               ·
                intro w'
                go_simp
                with_reducible rfl
               rotate_left
               ·
                simp only [Act.put, List.setIfInBounds_toArray, List.set_cons_zero, List.set_cons_succ, i64_w, i32_w]
                rfl
               refine done_ (done_of HT_.out (by kernel_rfl)) ?_
               try go_wp2
               go_roundg k3
               case measure => have := HJ2.out; have := HK2.out; have := HK3.out; omega
               case rel => exact ⟨(y112), (wrap64 (x8_3 + 1)), (by first | rfl | (simp; done) | (simp [*]; done)), H', ⟨by have := HJ2.out; have := HK2.out; have := HK3.out; omega⟩, ⟨by (with_reducible repeat (first | apply Kd.R_alloc | apply Kd.R_drewN | apply Kd.R_drew)); exact Kd.R_mono HO_5.out (fun _ hk => hk.2)⟩, ⟨by (with_reducible repeat (first | apply Kd.R_alloc | apply Kd.R_drewN | apply Kd.R_drew)); exact HO114.out⟩, ⟨low HB⟩⟩
              ·
               rw [if_neg c17] at H
               exact absurd H (by simp)
             ·
              rw [if_neg c16] at H
              exact absurd H (by simp)
            ·
             rw [if_neg c15] at H
             exact absurd H (by simp)
           ·
            rw [if_neg c14] at H
            exact absurd H (by simp)
          ·
           rw [if_neg c13] at H
           exact absurd H (by simp)
         ·
          rw [if_neg c11] at H
          have c11b0 : decide (x8_3 < x6_2) = false := decide_eq_false c11
          clear c11
          by_cases c21 : x7_3.length < 17592186044416
          ·
           rw [if_pos c21] at H
           have LMc21 := Az c21
           clear c21
           obtain ⟨y115, hy115⟩ : ∃ y_ : List Int, y_ = (x7_3 ++ [1]) := ⟨_, rfl⟩
           replace H : (joustref32_sets.l0 k3 a0 a1 y115 (wrap64 (x6_2 + 1))) = some r := by first | (rw [hy115]; with_reducible exact H) | (have H2_ := (Option.bind_some _ _).symm.trans H; rw [hy115]; with_reducible exact H2_) | (have H2_ := (Option.bind_some _ _).symm.trans H; with_reducible exact H2_) | with_reducible exact H | (rw [hy115]; exact H) | exact H
           have Ny115 := Az hy115
           clear hy115
           have H' := Az H
           clear H
           go_wp2_with (first | ((with_reducible refine gate_builtin (b := .append) (xs := #[.tmp 41, .tmp 42]) rfl ?_); at_builtin; refine Kd.R_append (Kd.int .u64) (w0 := w) w.heap.size rfl (.tmp 41) (.tmp 42) 89 45 (.int .u64 0) 8 rfl Tryd.underlying89 info45 rfl (by decide) (by omega) u7 x7_3 1 [.int .u64 1] (fun k_ => some k_ ≠ (u5 : Value).ownBlock) (fun _ => False) rfl rfl ?aP (fun _ hk => hk.elim) ?aF ?aO ?aB ?aS ?aL ?_; (case aP => exact rfl); (case aB => exact (low HB)); (case aF => exact (fun k_ hk => Kd.fresh' (Kd.R_lt (by (with_reducible repeat (first | apply Kd.R_alloc | apply Kd.R_drewN | apply Kd.R_drew)); exact HO_5.out)) k_ hk)); (case aO => exact (by (with_reducible repeat (first | apply Kd.R_alloc | apply Kd.R_drewN | apply Kd.R_drew)); exact HO_7.out)); (case aS => exact (below_size (low HB))); (case aL => have := LMc21.out; omega); intro v116 w22 ho hb hg hat; rw [← Ny115.out] at ho; have n0_ := Az (Kd.R_after (ok := (fun _ => True)) (by (with_reducible repeat (first | apply Kd.R_alloc | apply Kd.R_drewN | apply Kd.R_drew)); exact Kd.R_mono HO_5.out (fun _ hk => ⟨trivial, hk⟩)) hg hat); have n1_ := Az (hb); have n2_ := Az (ho); clear HO_5; clear HB; clear HO_7; have HO_5 := n0_; have HB := n1_; have HO117 := n2_; clear n0_ n1_ n2_; clear ho hb hg hat))
           go_roundg k3
           case measure => have := HJ2.out; have := HK2.out; have := HK3.out; omega
           case rel => exact ⟨(y115), (wrap64 (x6_2 + 1)), (by first | rfl | (simp; done) | (simp [*]; done)), H', ⟨by have := HJ2.out; have := HK2.out; have := HK3.out; omega⟩, ⟨by (with_reducible repeat (first | apply Kd.R_alloc | apply Kd.R_drewN | apply Kd.R_drew)); exact Kd.R_mono HO117.out (fun _ hk => trivial)⟩, ⟨low HB⟩⟩
          ·
           rw [if_neg c21] at H
           exact absurd H (by simp)
      ·
       rw [if_neg c8] at H
       have c8b0 : decide (x6_2 ≤ a0) = false := decide_eq_false c8
       clear c8
       by_cases c23 : 0 ≤ a1
       ·
        rw [if_pos c23] at H
        have c23b0 : decide (0 ≤ a1) = true := decide_eq_true c23
        clear c23
        by_cases c24 : a1 < (x5_2.length : Int)
        ·
         rw [if_pos c24] at H
         have c24b0 : decide (a1 < (x5_2.length : Int)) = true := decide_eq_true c24
         clear c24
         obtain rfl := Option.some.inj H
         obtain ⟨Ao25, co25, eo25⟩ := Kd.R_slice HO_5.out
         subst eo25
         have p106 : 0 ≤ (a1 : Int) := of_decide_eq_true (by first | (with_reducible assumption) | assumption)
         have q106 : a1 < (x5_2.length : Int) := of_decide_eq_true (by first | (with_reducible assumption) | assumption)
         obtain ⟨ad106, e106, hx106_0⟩ := Kd.at_int (Kd.R_reads' HO_5.out).2.2 a1 p106 q106
         cases e106
         replace p106 := eq_true p106
         replace q106 := eq_true q106
         go_wp2
         go_ret
         exact ⟨by first | rfl | (simp [errW_none, errW_some] <;> rfl) | (simp [*, errW_none, errW_some] <;> rfl), low HB⟩
        ·
         rw [if_neg c24] at H
         exact absurd H (by simp)
       ·
        rw [if_neg c23] at H
        exact absurd H (by simp)
end Go.Proofs.YtcdcpnhlmgmnkaaDoor.Podr
end
section
namespace Go.Proofs.YtcdcpnhlmgmnkaaDoor.Podr
open Go.RowKit Go.Proofs.YtcdcpnhlmgmnkaaDoor.Base Go.Proofs.YtcdcpnhlmgmnkaaDoorW.PrintWords Go.Proofs.YtcdcpnhlmgmnkaaDoorW.PrintLast Go.Proofs.YtcdcpnhlmgmnkaaDoorW.PrintMore
attribute [local go_sem] max2_int min2_int max_two min_two max_three min_three max_four min_four   -- for this text's walks alone
set_option linter.unusedVariables false
set_option linter.unusedSimpArgs false
def joustref32_May.f (k : Nat) (a0_0 : Int) (a0_1 : Int) : Option (Bool) := if a0_1 > 0 then (if a0_0 ≤ a0_1 then ((joustref32_divisor.f k a0_0 a0_1).bind fun t152 => (some (t152 == 1))) else (some false)) else (some false)
theorem joustref32_May.mono : ∀ a0 a1 k, LeO (joustref32_May.f k a0 a1) (joustref32_May.f (k + 1) a0 a1) := by
 intro a0 a1 k
 unfold joustref32_May.f
 repeat' first
   | (with_reducible exact joustref32_divisor.mono _ _ _)
   | (with_reducible exact LeO.refl _)
   | (with_reducible exact LeO.none _)
   | (with_reducible refine LeO.ite ?_ ?_)
   | (with_reducible refine LeO.bind ?_ (fun _ => ?_))
   | exact joustref32_divisor.mono _ _ _
   | exact LeO.none _
   | refine LeO.ite ?_ ?_
   | refine LeO.bind ?_ (fun _ => ?_)
set_option maxHeartbeats 8000000 in
set_option maxRecDepth 100000 in
theorem joustref32_May.calls (k : Nat) (a0_0 : Int) (a0_1 : Int) (r : Bool) (w : World) (h : joustref32_May.f k a0_0 a0_1 = some r) :
  Calls Tryd.prog 41 #[.agg #[.int .u64 a0_0, .int .u64 a0_1]] w fun e w' => e = .returned (.bool r) ∧ Below w.heap.size w w' := by
 have hu47 := Tryd.underlying47
 have HB := Az (Below.refl w.heap.size w)
 have H : (if a0_1 > 0 then (if a0_0 ≤ a0_1 then ((joustref32_divisor.f k a0_0 a0_1).bind fun t152 => (some (t152 == 1))) else (some false)) else (some false)) = some r := h
 clear h
 by_cases c2 : a0_1 > 0
 ·
  rw [if_pos c2] at H
  have c2b0 : decide (0 < a0_1) = true := decide_eq_true c2
  clear c2
  by_cases c3 : a0_0 ≤ a0_1
  ·
   rw [if_pos c3] at H
   have c3b0 : decide (a0_0 ≤ a0_1) = true := decide_eq_true c3
   clear c3
   replace H := Option.bind_eq_some_iff.mp H
   obtain ⟨t152, A40, H⟩ := H
   replace H : (some (t152 == 1)) = some r := H
   have A4 := Az A40
   clear A40
   obtain rfl := Option.some.inj H
   go_enter Tryd.func41, Tryd.ntmps41
   go_wp2_with (first | ((with_reducible refine gate_dst (N := 1) rfl ?_); refine box_event ?hg (N := 1) ?hd (cs := #[.int .u64 a0_0, .int .u64 a0_1]) (t := 47) ?hr ?_; (case hd => rfl); (case hg => rfl); (case hr => first | (go_simp; done) | (go_simp; rfl)); intro gb151 hg w5 hbox hb; have n0_ := Az (below_step (low HB) hb); have n1_ := Az (hbox); have n2_ := Az ((by rw [hg]; exact (below_size (low HB)) : w.heap.size ≤ gb151)); have n3_ := Az ((by rw [hg]; exact (below_size (low HB)) : w.heap.size ≤ gb151)); clear HB; have HB := n0_; have BK151 := n1_; have GW151 := n2_; have GE151 := n3_; clear n0_ n1_ n2_ n3_; clear hb hbox hg; obtain ⟨hcz6_0, hcz6_1, hfz6_0, hfz6_1⟩ := cells2 BK151.out) | (go_at_call 68; (with_reducible refine (joustref32_divisor.calls k a0_0 a0_1 t152 _ A4.out).mono ?_); rintro e w' ⟨rfl, ⟨nd, rfl⟩⟩))
   go_ret
   exact ⟨by first | rfl | (simp [errW_none, errW_some] <;> rfl) | (simp [*, errW_none, errW_some] <;> rfl), low HB⟩
  ·
   rw [if_neg c3] at H
   have c3b0 : decide (a0_0 ≤ a0_1) = false := decide_eq_false c3
   clear c3
   obtain rfl := Option.some.inj H
   go_enter Tryd.func41, Tryd.ntmps41
   go_wp2_with (first | ((with_reducible refine gate_dst (N := 1) rfl ?_); refine box_event ?hg (N := 1) ?hd (cs := #[.int .u64 a0_0, .int .u64 a0_1]) (t := 47) ?hr ?_; (case hd => rfl); (case hg => rfl); (case hr => first | (go_simp; done) | (go_simp; rfl)); intro gb151 hg w7 hbox hb; have n0_ := Az (below_step (low HB) hb); have n1_ := Az (hbox); have n2_ := Az ((by rw [hg]; exact (below_size (low HB)) : w.heap.size ≤ gb151)); have n3_ := Az ((by rw [hg]; exact (below_size (low HB)) : w.heap.size ≤ gb151)); clear HB; have HB := n0_; have BK151 := n1_; have GW151 := n2_; have GE151 := n3_; clear n0_ n1_ n2_ n3_; clear hb hbox hg; obtain ⟨hcz8_0, hcz8_1, hfz8_0, hfz8_1⟩ := cells2 BK151.out))
   go_ret
   exact ⟨by first | rfl | (simp [errW_none, errW_some] <;> rfl) | (simp [*, errW_none, errW_some] <;> rfl), low HB⟩
 ·
  rw [if_neg c2] at H
  have c2b0 : decide (0 < a0_1) = false := decide_eq_false c2
  clear c2
  obtain rfl := Option.some.inj H
  go_enter Tryd.func41, Tryd.ntmps41
  go_wp2_with (first | ((with_reducible refine gate_dst (N := 1) rfl ?_); refine box_event ?hg (N := 1) ?hd (cs := #[.int .u64 a0_0, .int .u64 a0_1]) (t := 47) ?hr ?_; (case hd => rfl); (case hg => rfl); (case hr => first | (go_simp; done) | (go_simp; rfl)); intro gb151 hg w9 hbox hb; have n0_ := Az (below_step (low HB) hb); have n1_ := Az (hbox); have n2_ := Az ((by rw [hg]; exact (below_size (low HB)) : w.heap.size ≤ gb151)); have n3_ := Az ((by rw [hg]; exact (below_size (low HB)) : w.heap.size ≤ gb151)); clear HB; have HB := n0_; have BK151 := n1_; have GW151 := n2_; have GE151 := n3_; clear n0_ n1_ n2_ n3_; clear hb hbox hg; obtain ⟨hcz10_0, hcz10_1, hfz10_0, hfz10_1⟩ := cells2 BK151.out))
  go_ret
  exact ⟨by first | rfl | (simp [errW_none, errW_some] <;> rfl) | (simp [*, errW_none, errW_some] <;> rfl), low HB⟩
end Go.Proofs.YtcdcpnhlmgmnkaaDoor.Podr
end
section
namespace Go.Proofs.YtcdcpnhlmgmnkaaDoor.Podr
open Go.RowKit Go.Proofs.YtcdcpnhlmgmnkaaDoor.Base Go.Proofs.YtcdcpnhlmgmnkaaDoorW.PrintWords Go.Proofs.YtcdcpnhlmgmnkaaDoorW.PrintLast Go.Proofs.YtcdcpnhlmgmnkaaDoorW.PrintMore
attribute [local go_sem] max2_int min2_int max_two min_two max_three min_three max_four min_four   -- for this text's walks alone
set_option linter.unusedVariables false
set_option linter.unusedSimpArgs false
mutual
def joustref32_part.l0 : Nat → Int → Int → Int → Int → Int → Int → Option (Int × Int)
 | 0, _, _, _, _, _, _ => none
 | k + 1, x0, x1, x2, x8, x9, x10 => if x10 ≥ 0 then (if x9 ≥ (IntKind.u64.wrap (x2 - x9)) then (joustref32_part.j1 k x0 x1 x2 (IntKind.u64.wrap ((IntKind.u64.wrap (2 * x8)) + 1)) (IntKind.u64.wrap (x9 - (IntKind.u64.wrap (x2 - x9)))) x10) else (joustref32_part.j1 k x0 x1 x2 (IntKind.u64.wrap (2 * x8)) (IntKind.u64.wrap (2 * x9)) x10)) else (some (x8, x9))
def joustref32_part.j1 : Nat → Int → Int → Int → Int → Int → Int → Option (Int × Int)
 | 0, _, _, _, _, _, _ => none
 | k + 1, x0, x1, x2, x8, x9, x10 => if 0 ≤ (IntKind.u64.wrap (x10)) then (if (Int.tmod (shr .u64 x0 (IntKind.u64.wrap (x10))) 2) = 1 then (if x2 = 0 then (none) else (if x9 ≥ (IntKind.u64.wrap (x2 - (Int.tmod x1 x2))) then (joustref32_part.l0 k x0 x1 x2 (IntKind.u64.wrap ((IntKind.u64.wrap (x8 + (IntKind.u64.wrap (Int.tdiv x1 x2)))) + 1)) (IntKind.u64.wrap (x9 - (IntKind.u64.wrap (x2 - (Int.tmod x1 x2))))) (wrap64 (x10 - 1))) else (joustref32_part.l0 k x0 x1 x2 (IntKind.u64.wrap (x8 + (IntKind.u64.wrap (Int.tdiv x1 x2)))) (IntKind.u64.wrap (x9 + (Int.tmod x1 x2))) (wrap64 (x10 - 1))))) else (joustref32_part.l0 k x0 x1 x2 x8 x9 (wrap64 (x10 - 1)))) else (none)
end
def joustref32_part.f (k : Nat) (a0 : Int) (a1 : Int) (a2 : Int) : Option (Int × Int) := joustref32_part.l0 k a0 a1 a2 0 0 63
theorem joustref32_part.mono_l : ∀ k, (∀ y0 y1 y2 y3 y4 y5, LeO (joustref32_part.l0 k y0 y1 y2 y3 y4 y5) (joustref32_part.l0 (k + 1) y0 y1 y2 y3 y4 y5)) ∧ (∀ y0 y1 y2 y3 y4 y5, LeO (joustref32_part.j1 k y0 y1 y2 y3 y4 y5) (joustref32_part.j1 (k + 1) y0 y1 y2 y3 y4 y5))
 | 0 => ⟨fun _ _ _ _ _ _ r h => by simp [joustref32_part.l0] at h, fun _ _ _ _ _ _ r h => by simp [joustref32_part.j1] at h⟩
 | k + 1 => by
  obtain ⟨ih0, ih1⟩ := joustref32_part.mono_l k
  refine ⟨?_, ?_⟩
  ·
   intro y0 y1 y2 y3 y4 y5
   unfold joustref32_part.l0
   repeat' first
   | (with_reducible exact ih0 _ _ _ _ _ _)
   | (with_reducible exact ih1 _ _ _ _ _ _)
   | (with_reducible exact LeO.refl _)
   | (with_reducible exact LeO.none _)
   | (with_reducible refine LeO.ite ?_ ?_)
   | (with_reducible refine LeO.bind ?_ (fun _ => ?_))
   | exact ih0 _ _ _ _ _ _
   | exact ih1 _ _ _ _ _ _
   | exact LeO.none _
   | refine LeO.ite ?_ ?_
   | refine LeO.bind ?_ (fun _ => ?_)
  ·
   intro y0 y1 y2 y3 y4 y5
   unfold joustref32_part.j1
   repeat' first
   | (with_reducible exact ih0 _ _ _ _ _ _)
   | (with_reducible exact ih1 _ _ _ _ _ _)
   | (with_reducible exact LeO.refl _)
   | (with_reducible exact LeO.none _)
   | (with_reducible refine LeO.ite ?_ ?_)
   | (with_reducible refine LeO.bind ?_ (fun _ => ?_))
   | exact ih0 _ _ _ _ _ _
   | exact ih1 _ _ _ _ _ _
   | exact LeO.none _
   | refine LeO.ite ?_ ?_
   | refine LeO.bind ?_ (fun _ => ?_)
theorem joustref32_part.mono : ∀ a0 a1 a2 k, LeO (joustref32_part.f k a0 a1 a2) (joustref32_part.f (k + 1) a0 a1 a2) := by
 intro a0 a1 a2 k
 obtain ⟨ih0, ih1⟩ := joustref32_part.mono_l k
 unfold joustref32_part.f
 repeat' first
   | (with_reducible exact ih0 _ _ _ _ _ _)
   | (with_reducible exact ih1 _ _ _ _ _ _)
   | (with_reducible exact LeO.refl _)
   | (with_reducible exact LeO.none _)
   | (with_reducible refine LeO.ite ?_ ?_)
   | (with_reducible refine LeO.bind ?_ (fun _ => ?_))
   | exact ih0 _ _ _ _ _ _
   | exact ih1 _ _ _ _ _ _
   | exact LeO.none _
   | refine LeO.ite ?_ ?_
   | refine LeO.bind ?_ (fun _ => ?_)
set_option maxHeartbeats 8000000 in
set_option maxRecDepth 100000 in
theorem joustref32_part.calls (k : Nat) (a0 : Int) (a1 : Int) (a2 : Int) (r1 : Int) (r2 : Int) (w : World) (h : joustref32_part.f k a0 a1 a2 = some (r1, r2)) :
  Calls Tryd.prog 70 #[.int .u64 a0, .int .u64 a1, .int .u64 a2] w fun e w' => e = .returned (.tuple #[.int .u64 r1, .int .u64 r2]) ∧ Drawn0 w w' := by
 have H : (joustref32_part.l0 k a0 a1 a2 0 0 63) = some (r1, r2) := h
 clear h
 have H' := Az H
 clear H
 go_enter Tryd.func70, Tryd.ntmps70
 go_wp2
 go_loopg [8, 9, 10] k (fun kq v8 v9 v10 w' => ∃ (x8_1 : Int) (x9_1 : Int) (x10_1 : Int), v8 = .int .u64 x8_1 ∧ v9 = .int .u64 x9_1 ∧ v10 = .int .i64 x10_1 ∧ Aside0 (joustref32_part.l0 kq a0 a1 a2 x8_1 x9_1 x10_1 = some (r1, r2)) ∧ Aside0 (kq ≤ k) ∧ Drawn0 w w')
 case atStart => exact ⟨(0), (0), (63), (by first | rfl | (simp; done) | (simp [*]; done)), (by first | rfl | (simp; done) | (simp [*]; done)), (by first | rfl | (simp; done) | (simp [*]; done)), H', ⟨Nat.le_refl _⟩, by repeat (first | exact Drawn0.refl _ | apply Drawn0.step)⟩
 case round =>
  clear H'
  try clear p2
  obtain ⟨x8_1, x9_1, x10_1, rfl, rfl, rfl, HA, HK1, ⟨m1, rfl⟩⟩ := hrel
  cases gk with
  | zero => exact absurd HA.out (by simp [joustref32_part.l0])
  | succ k1 =>
   have H := HA.out
   clear HA
   simp only [joustref32_part.l0] at H
   by_cases c4 : x10_1 ≥ 0
   ·
    rw [if_pos c4] at H
    have c4b0 : decide (0 ≤ x10_1) = true := decide_eq_true c4
    clear c4
    have HC5 := Az H
    clear H
    go_upto_if 22 with (fail)
    go_cut [8, 9] (fun v8 v9 wc => ∃ (kq : Nat) (x8_4 : Int) (x9_4 : Int), v8 = .int .u64 x8_4 ∧ v9 = .int .u64 x9_4 ∧ Aside0 (joustref32_part.j1 kq a0 a1 a2 x8_4 x9_4 x10_1 = some (r1, r2)) ∧ Aside0 (kq ≤ k1) ∧ Drawn0 w wc)
    case first =>
     have H := HC5.out
     clear HC5
     by_cases c6 : x9_1 ≥ (IntKind.u64.wrap (a2 - x9_1))
     ·
      rw [if_pos c6] at H
      have c6b0 : decide ((IntKind.u64.wrap (a2 - x9_1)) ≤ x9_1) = true := decide_eq_true c6
      clear c6
      (first | rw [c6b0] | (simp only [i64_w, i32_w]; rw [c6b0]) | skip)
      have H' := Az H
      clear H
      go_wp2
      go_meet
      case rel => exact ⟨_, (IntKind.u64.wrap ((IntKind.u64.wrap (2 * x8_1)) + 1)), (IntKind.u64.wrap (x9_1 - (IntKind.u64.wrap (a2 - x9_1)))), (by first | rfl | (simp; done) | (simp [*]; done)), (by first | rfl | (simp; done) | (simp [*]; done)), H', ⟨by have := HK1.out; first | omega | exact Nat.le_refl _⟩, by repeat (first | exact Drawn0.refl _ | apply Drawn0.step)⟩
     ·
      rw [if_neg c6] at H
      have c6b0 : decide ((IntKind.u64.wrap (a2 - x9_1)) ≤ x9_1) = false := decide_eq_false c6
      clear c6
      (first | rw [c6b0] | (simp only [i64_w, i32_w]; rw [c6b0]) | skip)
      have H' := Az H
      clear H
      go_wp2
      go_meet
      case rel => exact ⟨_, (IntKind.u64.wrap (2 * x8_1)), (IntKind.u64.wrap (2 * x9_1)), (by first | rfl | (simp; done) | (simp [*]; done)), (by first | rfl | (simp; done) | (simp [*]; done)), H', ⟨by have := HK1.out; first | omega | exact Nat.le_refl _⟩, by repeat (first | exact Drawn0.refl _ | apply Drawn0.step)⟩
    case rest =>
     clear HC5
     try clear p2
     try clear c4
     try clear c4b0
     try clear c6
     try clear c6b0
     try clear p2
     obtain ⟨kq, x8_4, x9_4, rfl, rfl, HA, HJ4, ⟨mc4, rfl⟩⟩ := hcut
     cases kq with
     | zero => exact absurd HA.out (by simp [joustref32_part.j1])
     | succ kj4 =>
      have H := HA.out
      clear HA
      simp only [joustref32_part.j1] at H
      obtain ⟨ji7, hji7⟩ : ∃ j_ : Int, (IntKind.u64.wrap (x10_1)) = j_ := ⟨_, rfl⟩
      replace H : (if 0 ≤ (ji7) then (if (Int.tmod (shr .u64 a0 (ji7)) 2) = 1 then (if a2 = 0 then (none) else (if x9_4 ≥ (IntKind.u64.wrap (a2 - (Int.tmod a1 a2))) then (joustref32_part.l0 kj4 a0 a1 a2 (IntKind.u64.wrap ((IntKind.u64.wrap (x8_4 + (IntKind.u64.wrap (Int.tdiv a1 a2)))) + 1)) (IntKind.u64.wrap (x9_4 - (IntKind.u64.wrap (a2 - (Int.tmod a1 a2))))) (wrap64 (x10_1 - 1))) else (joustref32_part.l0 kj4 a0 a1 a2 (IntKind.u64.wrap (x8_4 + (IntKind.u64.wrap (Int.tdiv a1 a2)))) (IntKind.u64.wrap (x9_4 + (Int.tmod a1 a2))) (wrap64 (x10_1 - 1))))) else (joustref32_part.l0 kj4 a0 a1 a2 x8_4 x9_4 (wrap64 (x10_1 - 1)))) else (none)) = some (r1, r2) := by first | (rw [hji7] at H; exact H) | (simp only [hji7] at H ⊢; exact H)
      by_cases c8 : 0 ≤ (ji7)
      ·
       rw [if_pos c8] at H
       have c8b0 := eq_true c8
       have c8b1 : decide (0 ≤ (ji7)) = true := decide_eq_true c8
       clear c8
       obtain ⟨ji9, hji9⟩ : ∃ j_ : Int, (shr .u64 a0 (ji7)) = j_ := ⟨_, rfl⟩
       replace H : (if (Int.tmod (ji9) 2) = 1 then (if a2 = 0 then (none) else (if x9_4 ≥ (IntKind.u64.wrap (a2 - (Int.tmod a1 a2))) then (joustref32_part.l0 kj4 a0 a1 a2 (IntKind.u64.wrap ((IntKind.u64.wrap (x8_4 + (IntKind.u64.wrap (Int.tdiv a1 a2)))) + 1)) (IntKind.u64.wrap (x9_4 - (IntKind.u64.wrap (a2 - (Int.tmod a1 a2))))) (wrap64 (x10_1 - 1))) else (joustref32_part.l0 kj4 a0 a1 a2 (IntKind.u64.wrap (x8_4 + (IntKind.u64.wrap (Int.tdiv a1 a2)))) (IntKind.u64.wrap (x9_4 + (Int.tmod a1 a2))) (wrap64 (x10_1 - 1))))) else (joustref32_part.l0 kj4 a0 a1 a2 x8_4 x9_4 (wrap64 (x10_1 - 1)))) = some (r1, r2) := by first | (rw [hji9] at H; exact H) | (simp only [hji9] at H ⊢; exact H)
       have hji9_ : (a0 / 2 ^ min (ji7).toNat 64) = ji9 := hji9
       have hji9z : (ji7) ≤ 64 → (a0 / 2 ^ (ji7).toNat) = ji9 := shr_small hji9
       by_cases c10 : (Int.tmod (ji9) 2) = 1
       ·
        rw [if_pos c10] at H
        have c10b0 : ((Int.tmod (ji9) 2) == 1) = true := beq_iff_eq.mpr c10
        have c10b1 : ((Int.tmod (ji9) 2) != 1) = false := bne_eq_false_iff_eq.mpr c10
        clear c10
        by_cases c11 : a2 = 0
        ·
         rw [if_pos c11] at H
         exact absurd H (by simp)
        ·
         rw [if_neg c11] at H
         have c11b0 : (a2 == 0) = false := beq_eq_false_iff_ne.mpr c11
         have c11b1 : (a2 != 0) = true := bne_iff_ne.mpr c11
         by_cases c12 : x9_4 ≥ (IntKind.u64.wrap (a2 - (Int.tmod a1 a2)))
         ·
          rw [if_pos c12] at H
          have c12b0 : decide ((IntKind.u64.wrap (a2 - (Int.tmod a1 a2))) ≤ x9_4) = true := decide_eq_true c12
          clear c12
          have H' := Az H
          clear H
          go_wp2
          go_roundg kj4
          case measure => have := HK1.out; have := HJ4.out; omega
          case rel => exact ⟨(IntKind.u64.wrap ((IntKind.u64.wrap (x8_4 + (IntKind.u64.wrap (Int.tdiv a1 a2)))) + 1)), (IntKind.u64.wrap (x9_4 - (IntKind.u64.wrap (a2 - (Int.tmod a1 a2))))), (wrap64 (x10_1 - 1)), (by first | rfl | (simp; done) | (simp [*]; done)), (by first | rfl | (simp; done) | (simp [*]; done)), (by first | rfl | (simp; done) | (simp [*]; done)), H', ⟨by have := HK1.out; have := HJ4.out; omega⟩, by repeat (first | exact Drawn0.refl _ | apply Drawn0.step)⟩
         ·
          rw [if_neg c12] at H
          have c12b0 : decide ((IntKind.u64.wrap (a2 - (Int.tmod a1 a2))) ≤ x9_4) = false := decide_eq_false c12
          clear c12
          have H' := Az H
          clear H
          go_wp2
          go_roundg kj4
          case measure => have := HK1.out; have := HJ4.out; omega
          case rel => exact ⟨(IntKind.u64.wrap (x8_4 + (IntKind.u64.wrap (Int.tdiv a1 a2)))), (IntKind.u64.wrap (x9_4 + (Int.tmod a1 a2))), (wrap64 (x10_1 - 1)), (by first | rfl | (simp; done) | (simp [*]; done)), (by first | rfl | (simp; done) | (simp [*]; done)), (by first | rfl | (simp; done) | (simp [*]; done)), H', ⟨by have := HK1.out; have := HJ4.out; omega⟩, by repeat (first | exact Drawn0.refl _ | apply Drawn0.step)⟩
       ·
        rw [if_neg c10] at H
        have c10b0 : ((Int.tmod (ji9) 2) == 1) = false := beq_eq_false_iff_ne.mpr c10
        have c10b1 : ((Int.tmod (ji9) 2) != 1) = true := bne_iff_ne.mpr c10
        have H' := Az H
        clear H
        go_wp2
        go_roundg kj4
        case measure => have := HK1.out; have := HJ4.out; omega
        case rel => exact ⟨(x8_4), (x9_4), (wrap64 (x10_1 - 1)), (by first | rfl | (simp; done) | (simp [*]; done)), (by first | rfl | (simp; done) | (simp [*]; done)), (by first | rfl | (simp; done) | (simp [*]; done)), H', ⟨by have := HK1.out; have := HJ4.out; omega⟩, by repeat (first | exact Drawn0.refl _ | apply Drawn0.step)⟩
      ·
       rw [if_neg c8] at H
       exact absurd H (by simp)
   ·
    rw [if_neg c4] at H
    have c4b0 : decide (0 ≤ x10_1) = false := decide_eq_false c4
    clear c4
    simp only [Option.some.injEq, Prod.mk.injEq] at H
    obtain ⟨rfl, rfl⟩ := H
    go_wp2
    go_ret2
    exact ⟨by first | rfl | (simp; done) | (simp [*]; done), by repeat (first | exact Drawn0.refl _ | apply Drawn0.step)⟩
def joustref32_digits.f : Nat → Int → Option (ByteArray)
 | 0, _ => none
 | k + 1, a0 => if 0 ≤ (Int.tmod a0 10) then (if (Int.tmod a0 10) ≤ (IntKind.u64.wrap ((Int.tmod a0 10) + 1)) then (if (IntKind.u64.wrap ((Int.tmod a0 10) + 1)) ≤ 10 then (if a0 < 10 then (some ((⟨#[48, 49, 50, 51, 52, 53, 54, 55, 56, 57]⟩ : ByteArray).extract ((Int.tmod a0 10) : Int).toNat ((IntKind.u64.wrap ((Int.tmod a0 10) + 1)) : Int).toNat)) else ((joustref32_digits.f k (IntKind.u64.wrap (Int.tdiv a0 10))).bind fun t153 => (if t153.size + ((⟨#[48, 49, 50, 51, 52, 53, 54, 55, 56, 57]⟩ : ByteArray).extract ((Int.tmod a0 10) : Int).toNat ((IntKind.u64.wrap ((Int.tmod a0 10) + 1)) : Int).toNat).size ≤ 9223372036854775807 then (some (t153 ++ ((⟨#[48, 49, 50, 51, 52, 53, 54, 55, 56, 57]⟩ : ByteArray).extract ((Int.tmod a0 10) : Int).toNat ((IntKind.u64.wrap ((Int.tmod a0 10) + 1)) : Int).toNat))) else (none)))) else (none)) else (none)) else (none)
theorem joustref32_digits.mono_l : ∀ k, (∀ y0, LeO (joustref32_digits.f k y0) (joustref32_digits.f (k + 1) y0))
 | 0 => fun _ r h => by simp [joustref32_digits.f] at h
 | k + 1 => by
  have ih0 := joustref32_digits.mono_l k
  ·
   intro y0
   unfold joustref32_digits.f
   repeat' first
   | (with_reducible exact ih0 _)
   | (with_reducible exact LeO.refl _)
   | (with_reducible exact LeO.none _)
   | (with_reducible refine LeO.ite ?_ ?_)
   | (with_reducible refine LeO.bind ?_ (fun _ => ?_))
   | exact ih0 _
   | exact LeO.none _
   | refine LeO.ite ?_ ?_
   | refine LeO.bind ?_ (fun _ => ?_)
theorem joustref32_digits.mono : ∀ a0 k, LeO (joustref32_digits.f k a0) (joustref32_digits.f (k + 1) a0) := by
 intro a0 k
 have ih0 := joustref32_digits.mono_l k
 exact ih0 a0
set_option maxHeartbeats 8000000 in
set_option maxRecDepth 100000 in
theorem joustref32_digits.calls (k : Nat) : ∀ (a0 : Int) (r : ByteArray) (w : World) (h : joustref32_digits.f k a0 = some r),
  Calls Tryd.prog 71 #[.int .u64 a0] w fun e w' => e = .returned (.string r) ∧ Drawn0 w w' := by
 induction k using Nat.strongRecOn with
 | _ k ih =>
 intro a0 r w h
 cases k with
 | zero => exact absurd h (by simp [joustref32_digits.f])
 | succ k =>
 simp only [joustref32_digits.f] at h
 have H : (if 0 ≤ (Int.tmod a0 10) then (if (Int.tmod a0 10) ≤ (IntKind.u64.wrap ((Int.tmod a0 10) + 1)) then (if (IntKind.u64.wrap ((Int.tmod a0 10) + 1)) ≤ 10 then (if a0 < 10 then (some ((⟨#[48, 49, 50, 51, 52, 53, 54, 55, 56, 57]⟩ : ByteArray).extract ((Int.tmod a0 10) : Int).toNat ((IntKind.u64.wrap ((Int.tmod a0 10) + 1)) : Int).toNat)) else ((joustref32_digits.f k (IntKind.u64.wrap (Int.tdiv a0 10))).bind fun t153 => (if t153.size + ((⟨#[48, 49, 50, 51, 52, 53, 54, 55, 56, 57]⟩ : ByteArray).extract ((Int.tmod a0 10) : Int).toNat ((IntKind.u64.wrap ((Int.tmod a0 10) + 1)) : Int).toNat).size ≤ 9223372036854775807 then (some (t153 ++ ((⟨#[48, 49, 50, 51, 52, 53, 54, 55, 56, 57]⟩ : ByteArray).extract ((Int.tmod a0 10) : Int).toNat ((IntKind.u64.wrap ((Int.tmod a0 10) + 1)) : Int).toNat))) else (none)))) else (none)) else (none)) else (none)) = some r := h
 clear h
 obtain ⟨ji2, hji2⟩ : ∃ j_ : Int, (Int.tmod a0 10) = j_ := ⟨_, rfl⟩
 replace H : (if 0 ≤ (ji2) then (if (ji2) ≤ (IntKind.u64.wrap ((ji2) + 1)) then (if (IntKind.u64.wrap ((ji2) + 1)) ≤ 10 then (if a0 < 10 then (some ((⟨#[48, 49, 50, 51, 52, 53, 54, 55, 56, 57]⟩ : ByteArray).extract ((ji2) : Int).toNat ((IntKind.u64.wrap ((ji2) + 1)) : Int).toNat)) else ((joustref32_digits.f k (IntKind.u64.wrap (Int.tdiv a0 10))).bind fun t153 => (if t153.size + ((⟨#[48, 49, 50, 51, 52, 53, 54, 55, 56, 57]⟩ : ByteArray).extract ((ji2) : Int).toNat ((IntKind.u64.wrap ((ji2) + 1)) : Int).toNat).size ≤ 9223372036854775807 then (some (t153 ++ ((⟨#[48, 49, 50, 51, 52, 53, 54, 55, 56, 57]⟩ : ByteArray).extract ((ji2) : Int).toNat ((IntKind.u64.wrap ((ji2) + 1)) : Int).toNat))) else (none)))) else (none)) else (none)) else (none)) = some r := by first | (rw [hji2] at H; exact H) | (simp only [hji2] at H ⊢; exact H)
 by_cases c3 : 0 ≤ (ji2)
 ·
  rw [if_pos c3] at H
  have c3b0 := eq_true c3
  have c3b1 : decide (0 ≤ (ji2)) = true := decide_eq_true c3
  clear c3
  by_cases c4 : (ji2) ≤ (IntKind.u64.wrap ((ji2) + 1))
  ·
   rw [if_pos c4] at H
   have c4b0 := eq_true c4
   have c4b1 : decide ((ji2) ≤ (IntKind.u64.wrap ((ji2) + 1))) = true := decide_eq_true c4
   by_cases c5 : (IntKind.u64.wrap ((ji2) + 1)) ≤ 10
   ·
    rw [if_pos c5] at H
    have c5b0 := eq_true c5
    have c5b1 : decide ((IntKind.u64.wrap ((ji2) + 1)) ≤ 10) = true := decide_eq_true c5
    by_cases c6 : a0 < 10
    ·
     rw [if_pos c6] at H
     have c6b0 : decide (a0 < 10) = true := decide_eq_true c6
     clear c6
     obtain rfl := Option.some.inj H
     go_enter Tryd.func71, Tryd.ntmps71
     go_wp2
     go_ret
     exact ⟨by first | rfl | (simp; done) | (simp only [← hji2] <;> (first | rfl | simp)) | (simp [*]; done), by repeat (first | exact Drawn0.refl _ | apply Drawn0.step)⟩
    ·
     rw [if_neg c6] at H
     have c6b0 : decide (a0 < 10) = false := decide_eq_false c6
     clear c6
     replace H := Option.bind_eq_some_iff.mp H
     obtain ⟨t153, A70, H⟩ := H
     replace H : (if t153.size + ((⟨#[48, 49, 50, 51, 52, 53, 54, 55, 56, 57]⟩ : ByteArray).extract ((ji2) : Int).toNat ((IntKind.u64.wrap ((ji2) + 1)) : Int).toNat).size ≤ 9223372036854775807 then (some (t153 ++ ((⟨#[48, 49, 50, 51, 52, 53, 54, 55, 56, 57]⟩ : ByteArray).extract ((ji2) : Int).toNat ((IntKind.u64.wrap ((ji2) + 1)) : Int).toNat))) else (none)) = some r := H
     have A7 := Az A70
     clear A70
     by_cases c8 : t153.size + ((⟨#[48, 49, 50, 51, 52, 53, 54, 55, 56, 57]⟩ : ByteArray).extract ((ji2) : Int).toNat ((IntKind.u64.wrap ((ji2) + 1)) : Int).toNat).size ≤ 9223372036854775807
     ·
      rw [if_pos c8] at H
      have c8b0 := eq_true c8
      have c8b1 : decide (t153.size + ((⟨#[48, 49, 50, 51, 52, 53, 54, 55, 56, 57]⟩ : ByteArray).extract ((ji2) : Int).toNat ((IntKind.u64.wrap ((ji2) + 1)) : Int).toNat).size ≤ 9223372036854775807) = true := decide_eq_true c8
      try have c8b2 : (9223372036854775807 < t153.size + ((⟨#[48, 49, 50, 51, 52, 53, 54, 55, 56, 57]⟩ : ByteArray).extract ((ji2) : Int).toNat ((IntKind.u64.wrap ((ji2) + 1)) : Int).toNat).size) = False := eq_false (Nat.not_lt.2 c8)
      obtain rfl := Option.some.inj H
      go_enter Tryd.func71, Tryd.ntmps71
      go_wp2_with (first | ((with_reducible refine gate_callee (f := 71) rfl ?_); refine goesL_ (some 15) rfl rfl Tryd.func71 (by kernel_rfl) rfl #[.int .u64 (IntKind.u64.wrap (Int.tdiv a0 10))] rfl (by (try simp only [List.map_toArray, List.map_cons, List.map_nil]); first | done | rfl | (simp only [List.length_drop, List.length_take]; rfl)) ?_; (with_reducible refine (ih k (by omega) (IntKind.u64.wrap (Int.tdiv a0 10)) t153 _ A7.out).mono ?_); rintro e w' ⟨rfl, ⟨nd, rfl⟩⟩; refine ⟨_, rfl, ?_⟩))
      go_ret
      exact ⟨by first | rfl | (simp; done) | (simp only [← hji2] <;> (first | rfl | simp)) | (simp [*]; done), by repeat (first | exact Drawn0.refl _ | apply Drawn0.step)⟩
     ·
      rw [if_neg c8] at H
      exact absurd H (by simp)
   ·
    rw [if_neg c5] at H
    exact absurd H (by simp)
  ·
   rw [if_neg c4] at H
   exact absurd H (by simp)
 ·
  rw [if_neg c3] at H
  exact absurd H (by simp)
def joustref32_Text.f (k : Nat) (a0_0 : Int) (a0_1 : Int) : Option (ByteArray) := (joustref32_May.f k a0_0 a0_1).bind fun t155 => (if t155 = true then ((joustref32_part.f k 10000 a0_0 a0_1).bind fun bt156 => ((joustref32_digits.f k (IntKind.u64.wrap (Int.tdiv bt156.1 100))).bind fun t158 => (if t158.size + 1 ≤ 9223372036854775807 then ((joustref32_digits.f k (IntKind.u64.wrap (100 + (Int.tmod bt156.1 100)))).bind fun t159 => (if 1 ≤ (t159.size : Int) then (if (t158 ++ (⟨#[46]⟩ : ByteArray)).size + (t159.extract 1 t159.size).size ≤ 9223372036854775807 then (if ((t158 ++ (⟨#[46]⟩ : ByteArray)) ++ (t159.extract 1 t159.size)).size + 1 ≤ 9223372036854775807 then (some (((t158 ++ (⟨#[46]⟩ : ByteArray)) ++ (t159.extract 1 t159.size)) ++ (⟨#[37]⟩ : ByteArray))) else (none)) else (none)) else (none))) else (none)))) else (some (⟨#[]⟩ : ByteArray)))
theorem joustref32_Text.mono : ∀ a0 a1 k, LeO (joustref32_Text.f k a0 a1) (joustref32_Text.f (k + 1) a0 a1) := by
 intro a0 a1 k
 unfold joustref32_Text.f
 repeat' first
   | (with_reducible exact joustref32_May.mono _ _ _)
   | (with_reducible exact joustref32_digits.mono _ _)
   | (with_reducible exact joustref32_part.mono _ _ _ _)
   | (with_reducible exact LeO.refl _)
   | (with_reducible exact LeO.none _)
   | (with_reducible refine LeO.ite ?_ ?_)
   | (with_reducible refine LeO.bind ?_ (fun _ => ?_))
   | exact joustref32_May.mono _ _ _
   | exact joustref32_digits.mono _ _
   | exact joustref32_part.mono _ _ _ _
   | exact LeO.none _
   | refine LeO.ite ?_ ?_
   | refine LeO.bind ?_ (fun _ => ?_)
set_option maxHeartbeats 8000000 in
set_option maxRecDepth 100000 in
theorem joustref32_Text.calls (k : Nat) (a0_0 : Int) (a0_1 : Int) (r : ByteArray) (w : World) (h : joustref32_Text.f k a0_0 a0_1 = some r) :
  Calls Tryd.prog 43 #[.agg #[.int .u64 a0_0, .int .u64 a0_1]] w fun e w' => e = .returned (.string r) ∧ Below w.heap.size w w' := by
 have hu47 := Tryd.underlying47
 have HB := Az (Below.refl w.heap.size w)
 have H : ((joustref32_May.f k a0_0 a0_1).bind fun t155 => (if t155 = true then ((joustref32_part.f k 10000 a0_0 a0_1).bind fun bt156 => ((joustref32_digits.f k (IntKind.u64.wrap (Int.tdiv bt156.1 100))).bind fun t158 => (if t158.size + 1 ≤ 9223372036854775807 then ((joustref32_digits.f k (IntKind.u64.wrap (100 + (Int.tmod bt156.1 100)))).bind fun t159 => (if 1 ≤ (t159.size : Int) then (if (t158 ++ (⟨#[46]⟩ : ByteArray)).size + (t159.extract 1 t159.size).size ≤ 9223372036854775807 then (if ((t158 ++ (⟨#[46]⟩ : ByteArray)) ++ (t159.extract 1 t159.size)).size + 1 ≤ 9223372036854775807 then (some (((t158 ++ (⟨#[46]⟩ : ByteArray)) ++ (t159.extract 1 t159.size)) ++ (⟨#[37]⟩ : ByteArray))) else (none)) else (none)) else (none))) else (none)))) else (some (⟨#[]⟩ : ByteArray)))) = some r := h
 clear h
 replace H := Option.bind_eq_some_iff.mp H
 obtain ⟨t155, A20, H⟩ := H
 replace H : (if t155 = true then ((joustref32_part.f k 10000 a0_0 a0_1).bind fun bt156 => ((joustref32_digits.f k (IntKind.u64.wrap (Int.tdiv bt156.1 100))).bind fun t158 => (if t158.size + 1 ≤ 9223372036854775807 then ((joustref32_digits.f k (IntKind.u64.wrap (100 + (Int.tmod bt156.1 100)))).bind fun t159 => (if 1 ≤ (t159.size : Int) then (if (t158 ++ (⟨#[46]⟩ : ByteArray)).size + (t159.extract 1 t159.size).size ≤ 9223372036854775807 then (if ((t158 ++ (⟨#[46]⟩ : ByteArray)) ++ (t159.extract 1 t159.size)).size + 1 ≤ 9223372036854775807 then (some (((t158 ++ (⟨#[46]⟩ : ByteArray)) ++ (t159.extract 1 t159.size)) ++ (⟨#[37]⟩ : ByteArray))) else (none)) else (none)) else (none))) else (none)))) else (some (⟨#[]⟩ : ByteArray))) = some r := H
 have A2 := Az A20
 clear A20
 by_cases c3 : t155 = true
 ·
  subst c3
  have H1 : ((joustref32_part.f k 10000 a0_0 a0_1).bind fun bt156 => ((joustref32_digits.f k (IntKind.u64.wrap (Int.tdiv bt156.1 100))).bind fun t158 => (if t158.size + 1 ≤ 9223372036854775807 then ((joustref32_digits.f k (IntKind.u64.wrap (100 + (Int.tmod bt156.1 100)))).bind fun t159 => (if 1 ≤ (t159.size : Int) then (if (t158 ++ (⟨#[46]⟩ : ByteArray)).size + (t159.extract 1 t159.size).size ≤ 9223372036854775807 then (if ((t158 ++ (⟨#[46]⟩ : ByteArray)) ++ (t159.extract 1 t159.size)).size + 1 ≤ 9223372036854775807 then (some (((t158 ++ (⟨#[46]⟩ : ByteArray)) ++ (t159.extract 1 t159.size)) ++ (⟨#[37]⟩ : ByteArray))) else (none)) else (none)) else (none))) else (none)))) = some r := by rw [if_pos rfl] at H; exact H
  clear H
  have H := H1
  clear H1
  replace H := Option.bind_eq_some_iff.mp H
  obtain ⟨⟨t156, t157⟩, A40, H⟩ := H
  replace H : ((joustref32_digits.f k (IntKind.u64.wrap (Int.tdiv t156 100))).bind fun t158 => (if t158.size + 1 ≤ 9223372036854775807 then ((joustref32_digits.f k (IntKind.u64.wrap (100 + (Int.tmod t156 100)))).bind fun t159 => (if 1 ≤ (t159.size : Int) then (if (t158 ++ (⟨#[46]⟩ : ByteArray)).size + (t159.extract 1 t159.size).size ≤ 9223372036854775807 then (if ((t158 ++ (⟨#[46]⟩ : ByteArray)) ++ (t159.extract 1 t159.size)).size + 1 ≤ 9223372036854775807 then (some (((t158 ++ (⟨#[46]⟩ : ByteArray)) ++ (t159.extract 1 t159.size)) ++ (⟨#[37]⟩ : ByteArray))) else (none)) else (none)) else (none))) else (none))) = some r := H
  have A4 := Az A40
  clear A40
  replace H := Option.bind_eq_some_iff.mp H
  obtain ⟨t158, A50, H⟩ := H
  replace H : (if t158.size + 1 ≤ 9223372036854775807 then ((joustref32_digits.f k (IntKind.u64.wrap (100 + (Int.tmod t156 100)))).bind fun t159 => (if 1 ≤ (t159.size : Int) then (if (t158 ++ (⟨#[46]⟩ : ByteArray)).size + (t159.extract 1 t159.size).size ≤ 9223372036854775807 then (if ((t158 ++ (⟨#[46]⟩ : ByteArray)) ++ (t159.extract 1 t159.size)).size + 1 ≤ 9223372036854775807 then (some (((t158 ++ (⟨#[46]⟩ : ByteArray)) ++ (t159.extract 1 t159.size)) ++ (⟨#[37]⟩ : ByteArray))) else (none)) else (none)) else (none))) else (none)) = some r := H
  have A5 := Az A50
  clear A50
  by_cases c6 : t158.size + 1 ≤ 9223372036854775807
  ·
   rw [if_pos c6] at H
   have c6b0 := eq_true c6
   have c6b1 : decide (t158.size + 1 ≤ 9223372036854775807) = true := decide_eq_true c6
   try have c6b2 : (9223372036854775807 < t158.size + 1) = False := eq_false (Nat.not_lt.2 c6)
   replace H := Option.bind_eq_some_iff.mp H
   obtain ⟨t159, A70, H⟩ := H
   replace H : (if 1 ≤ (t159.size : Int) then (if (t158 ++ (⟨#[46]⟩ : ByteArray)).size + (t159.extract 1 t159.size).size ≤ 9223372036854775807 then (if ((t158 ++ (⟨#[46]⟩ : ByteArray)) ++ (t159.extract 1 t159.size)).size + 1 ≤ 9223372036854775807 then (some (((t158 ++ (⟨#[46]⟩ : ByteArray)) ++ (t159.extract 1 t159.size)) ++ (⟨#[37]⟩ : ByteArray))) else (none)) else (none)) else (none)) = some r := H
   have A7 := Az A70
   clear A70
   by_cases c8 : 1 ≤ (t159.size : Int)
   ·
    rw [if_pos c8] at H
    have c8b0 := eq_true c8
    have c8b1 : decide (1 ≤ (t159.size : Int)) = true := decide_eq_true c8
    clear c8
    by_cases c9 : (t158 ++ (⟨#[46]⟩ : ByteArray)).size + (t159.extract 1 t159.size).size ≤ 9223372036854775807
    ·
     rw [if_pos c9] at H
     have c9b0 := eq_true c9
     have c9b1 : decide ((t158 ++ (⟨#[46]⟩ : ByteArray)).size + (t159.extract 1 t159.size).size ≤ 9223372036854775807) = true := decide_eq_true c9
     (try (have c9z := c9; simp only [ByteArray.size_append] at c9z; have c9b3 := eq_true c9z; have c9b4 := eq_false (Nat.not_lt.2 c9z); clear c9z))
     (try (have c9z := c9; simp only [ByteArray.size_append, ByteArray.size_extract, Nat.min_self, ba_size, List.length_cons, List.length_nil, Nat.reduceAdd] at c9z; have c9b5 := eq_true c9z; have c9b6 := eq_false (Nat.not_lt.2 c9z); clear c9z))
     try have c9b2 : (9223372036854775807 < (t158 ++ (⟨#[46]⟩ : ByteArray)).size + (t159.extract 1 t159.size).size) = False := eq_false (Nat.not_lt.2 c9)
     by_cases c10 : ((t158 ++ (⟨#[46]⟩ : ByteArray)) ++ (t159.extract 1 t159.size)).size + 1 ≤ 9223372036854775807
     ·
      rw [if_pos c10] at H
      have c10b0 := eq_true c10
      have c10b1 : decide (((t158 ++ (⟨#[46]⟩ : ByteArray)) ++ (t159.extract 1 t159.size)).size + 1 ≤ 9223372036854775807) = true := decide_eq_true c10
      (try (have c10z := c10; simp only [ByteArray.size_append] at c10z; have c10b3 := eq_true c10z; have c10b4 := eq_false (Nat.not_lt.2 c10z); clear c10z))
      (try (have c10z := c10; simp only [ByteArray.size_append, ByteArray.size_extract, Nat.min_self, ba_size, List.length_cons, List.length_nil, Nat.reduceAdd] at c10z; have c10b5 := eq_true c10z; have c10b6 := eq_false (Nat.not_lt.2 c10z); clear c10z))
      try have c10b2 : (9223372036854775807 < ((t158 ++ (⟨#[46]⟩ : ByteArray)) ++ (t159.extract 1 t159.size)).size + 1) = False := eq_false (Nat.not_lt.2 c10)
      obtain rfl := Option.some.inj H
      go_enter Tryd.func43, Tryd.ntmps43
      go_wp2_with (first | ((with_reducible refine gate_dst (N := 1) rfl ?_); refine box_event ?hg (N := 1) ?hd (cs := #[.int .u64 a0_0, .int .u64 a0_1]) (t := 47) ?hr ?_; (case hd => rfl); (case hg => rfl); (case hr => first | (go_simp; done) | (go_simp; rfl)); intro gb154 hg w11 hbox hb; have n0_ := Az (below_step (low HB) hb); have n1_ := Az (hbox); have n2_ := Az ((by rw [hg]; exact (below_size (low HB)) : w.heap.size ≤ gb154)); have n3_ := Az ((by rw [hg]; exact (below_size (low HB)) : w.heap.size ≤ gb154)); clear HB; have HB := n0_; have BK154 := n1_; have GW154 := n2_; have GE154 := n3_; clear n0_ n1_ n2_ n3_; clear hb hbox hg; obtain ⟨hcz12_0, hcz12_1, hfz12_0, hfz12_1⟩ := cells2 BK154.out) | ((with_reducible refine gate_callee (f := 41) rfl ?_); refine goesL_ (some 6) rfl rfl Tryd.func41 (by kernel_rfl) rfl #[.agg #[.int .u64 a0_0, .int .u64 a0_1]] rfl (by (try simp only [List.map_toArray, List.map_cons, List.map_nil]); first | done | rfl | (simp only [List.length_drop, List.length_take]; rfl)) ?_; (with_reducible refine (joustref32_May.calls k a0_0 a0_1 true _ A2.out).mono ?_); rintro e w13 ⟨rfl, hb⟩; refine ⟨_, rfl, ?_⟩; have n0_ := Az (blk_below (g := gb154) (o := .cells #[.int .u64 a0_0, .int .u64 a0_1] 47 (0, 0)) of_lies hb); have n1_ := Az (below_step (low HB) hb); clear BK154; clear HB; have BK154 := n0_; have HB := n1_; clear n0_ n1_; (try clear hb); (try clear hb2); (try clear hk); (try clear hi); obtain ⟨hcz14_0, hcz14_1, hfz14_0, hfz14_1⟩ := cells2 BK154.out) | ((with_reducible refine gate_callee (f := 70) rfl ?_); refine goesL_ (some 13) rfl rfl Tryd.func70 (by kernel_rfl) rfl #[.int .u64 10000, .int .u64 a0_0, .int .u64 a0_1] rfl (by (try simp only [List.map_toArray, List.map_cons, List.map_nil]); first | done | rfl | (simp only [List.length_drop, List.length_take]; rfl)) ?_; (with_reducible refine (joustref32_part.calls k 10000 a0_0 a0_1 t156 t157 _ A4.out).mono ?_); rintro e w' ⟨rfl, ⟨nd, rfl⟩⟩; refine ⟨_, rfl, ?_⟩) | ((with_reducible refine gate_callee (f := 71) rfl ?_); refine goesL_ (some 18) rfl rfl Tryd.func71 (by kernel_rfl) rfl #[.int .u64 (IntKind.u64.wrap (Int.tdiv t156 100))] rfl (by (try simp only [List.map_toArray, List.map_cons, List.map_nil]); first | done | rfl | (simp only [List.length_drop, List.length_take]; rfl)) ?_; (with_reducible refine (joustref32_digits.calls k (IntKind.u64.wrap (Int.tdiv t156 100)) t158 _ A5.out).mono ?_); rintro e w' ⟨rfl, ⟨nd, rfl⟩⟩; refine ⟨_, rfl, ?_⟩) | ((with_reducible refine gate_callee (f := 71) rfl ?_); refine goesL_ (some 23) rfl rfl Tryd.func71 (by kernel_rfl) rfl #[.int .u64 (IntKind.u64.wrap (100 + (Int.tmod t156 100)))] rfl (by (try simp only [List.map_toArray, List.map_cons, List.map_nil]); first | done | rfl | (simp only [List.length_drop, List.length_take]; rfl)) ?_; (with_reducible refine (joustref32_digits.calls k (IntKind.u64.wrap (100 + (Int.tmod t156 100))) t159 _ A7.out).mono ?_); rintro e w' ⟨rfl, ⟨nd, rfl⟩⟩; refine ⟨_, rfl, ?_⟩))
      go_ret
      exact ⟨by first | rfl | (simp [errW_none, errW_some] <;> rfl) | (simp [*, errW_none, errW_some] <;> rfl), low HB⟩
     ·
      rw [if_neg c10] at H
      exact absurd H (by simp)
    ·
     rw [if_neg c9] at H
     exact absurd H (by simp)
   ·
    rw [if_neg c8] at H
    exact absurd H (by simp)
  ·
   rw [if_neg c6] at H
   exact absurd H (by simp)
 ·
  replace c3 := Bool.eq_false_iff.mpr c3
  subst c3
  have H1 : (some (⟨#[]⟩ : ByteArray)) = some r := by rw [if_neg (show ¬ (false = true) by decide)] at H; exact H
  clear H
  have H := H1
  clear H1
  obtain rfl := Option.some.inj H
  go_enter Tryd.func43, Tryd.ntmps43
  go_wp2_with (first | ((with_reducible refine gate_dst (N := 1) rfl ?_); refine box_event ?hg (N := 1) ?hd (cs := #[.int .u64 a0_0, .int .u64 a0_1]) (t := 47) ?hr ?_; (case hd => rfl); (case hg => rfl); (case hr => first | (go_simp; done) | (go_simp; rfl)); intro gb154 hg w15 hbox hb; have n0_ := Az (below_step (low HB) hb); have n1_ := Az (hbox); have n2_ := Az ((by rw [hg]; exact (below_size (low HB)) : w.heap.size ≤ gb154)); have n3_ := Az ((by rw [hg]; exact (below_size (low HB)) : w.heap.size ≤ gb154)); clear HB; have HB := n0_; have BK154 := n1_; have GW154 := n2_; have GE154 := n3_; clear n0_ n1_ n2_ n3_; clear hb hbox hg; obtain ⟨hcz16_0, hcz16_1, hfz16_0, hfz16_1⟩ := cells2 BK154.out) | ((with_reducible refine gate_callee (f := 41) rfl ?_); refine goesL_ (some 6) rfl rfl Tryd.func41 (by kernel_rfl) rfl #[.agg #[.int .u64 a0_0, .int .u64 a0_1]] rfl (by (try simp only [List.map_toArray, List.map_cons, List.map_nil]); first | done | rfl | (simp only [List.length_drop, List.length_take]; rfl)) ?_; (with_reducible refine (joustref32_May.calls k a0_0 a0_1 false _ A2.out).mono ?_); rintro e w17 ⟨rfl, hb⟩; refine ⟨_, rfl, ?_⟩; have n0_ := Az (blk_below (g := gb154) (o := .cells #[.int .u64 a0_0, .int .u64 a0_1] 47 (0, 0)) of_lies hb); have n1_ := Az (below_step (low HB) hb); clear BK154; clear HB; have BK154 := n0_; have HB := n1_; clear n0_ n1_; (try clear hb); (try clear hb2); (try clear hk); (try clear hi)))
  go_ret
  exact ⟨by first | rfl | (simp [errW_none, errW_some] <;> rfl) | (simp [*, errW_none, errW_some] <;> rfl), low HB⟩
def joustref32_Not.f (k : Nat) (a0_0 : Int) (a0_1 : Int) : Option (Int × Int × Int) := (joustref32_May.f k a0_0 a0_1).bind fun t162 => (if t162 = true then ((joustref32_Make.f k (IntKind.u64.wrap (a0_1 - a0_0)) a0_1).bind fun bt163 => (some (bt163.1, bt163.2.1, bt163.2.2))) else (some (0, 0, 2)))
theorem joustref32_Not.mono : ∀ a0 a1 k, LeO (joustref32_Not.f k a0 a1) (joustref32_Not.f (k + 1) a0 a1) := by
 intro a0 a1 k
 unfold joustref32_Not.f
 repeat' first
   | (with_reducible exact joustref32_Make.mono _ _ _)
   | (with_reducible exact joustref32_May.mono _ _ _)
   | (with_reducible exact LeO.refl _)
   | (with_reducible exact LeO.none _)
   | (with_reducible refine LeO.ite ?_ ?_)
   | (with_reducible refine LeO.bind ?_ (fun _ => ?_))
   | exact joustref32_Make.mono _ _ _
   | exact joustref32_May.mono _ _ _
   | exact LeO.none _
   | refine LeO.ite ?_ ?_
   | refine LeO.bind ?_ (fun _ => ?_)
set_option maxHeartbeats 8000000 in
set_option maxRecDepth 100000 in
theorem joustref32_Not.calls (k : Nat) (a0_0 : Int) (a0_1 : Int) (r1 : Int) (r2 : Int) (r3 : Int) (w : World) (h : joustref32_Not.f k a0_0 a0_1 = some (r1, r2, r3)) :
  Calls Tryd.prog 45 #[.agg #[.int .u64 a0_0, .int .u64 a0_1]] w fun e w' => e = .returned (.tuple #[.agg #[.int .u64 r1, .int .u64 r2], .int .i64 r3]) ∧ Below w.heap.size w w' := by
 have hu47 := Tryd.underlying47
 have HB := Az (Below.refl w.heap.size w)
 have H : ((joustref32_May.f k a0_0 a0_1).bind fun t162 => (if t162 = true then ((joustref32_Make.f k (IntKind.u64.wrap (a0_1 - a0_0)) a0_1).bind fun bt163 => (some (bt163.1, bt163.2.1, bt163.2.2))) else (some (0, 0, 2)))) = some (r1, r2, r3) := h
 clear h
 replace H := Option.bind_eq_some_iff.mp H
 obtain ⟨t162, A20, H⟩ := H
 replace H : (if t162 = true then ((joustref32_Make.f k (IntKind.u64.wrap (a0_1 - a0_0)) a0_1).bind fun bt163 => (some (bt163.1, bt163.2.1, bt163.2.2))) else (some (0, 0, 2))) = some (r1, r2, r3) := H
 have A2 := Az A20
 clear A20
 by_cases c3 : t162 = true
 ·
  subst c3
  have H1 : ((joustref32_Make.f k (IntKind.u64.wrap (a0_1 - a0_0)) a0_1).bind fun bt163 => (some (bt163.1, bt163.2.1, bt163.2.2))) = some (r1, r2, r3) := by rw [if_pos rfl] at H; exact H
  clear H
  have H := H1
  clear H1
  replace H := Option.bind_eq_some_iff.mp H
  obtain ⟨⟨t163, t164, t165⟩, A40, H⟩ := H
  replace H : (some (t163, t164, t165)) = some (r1, r2, r3) := H
  have A4 := Az A40
  clear A40
  simp only [Option.some.injEq, Prod.mk.injEq] at H
  obtain ⟨rfl, rfl, rfl⟩ := H
  go_enter Tryd.func45, Tryd.ntmps45
  go_wp2_with (first | ((with_reducible refine gate_dst (N := 1) rfl ?_); refine box_event ?hg (N := 1) ?hd (cs := #[.int .u64 a0_0, .int .u64 a0_1]) (t := 47) ?hr ?_; (case hd => rfl); (case hg => rfl); (case hr => first | (go_simp; done) | (go_simp; rfl)); intro gb160 hg w5 hbox hb; have n0_ := Az (below_step (low HB) hb); have n1_ := Az (hbox); have n2_ := Az ((by rw [hg]; exact (below_size (low HB)) : w.heap.size ≤ gb160)); have n3_ := Az ((by rw [hg]; exact (below_size (low HB)) : w.heap.size ≤ gb160)); clear HB; have HB := n0_; have BK160 := n1_; have GW160 := n2_; have GE160 := n3_; clear n0_ n1_ n2_ n3_; clear hb hbox hg) | ((with_reducible refine gate_dst (N := 2) rfl ?_); refine box_event ?hg (N := 2) ?hd (cs := #[.int .u64 0, .int .u64 0]) (t := 47) ?hr ?_; (case hd => rfl); (case hg => rfl); (case hr => first | (go_simp; done) | (go_simp; rfl)); intro gb161 hg w6 hbox hb; have n0_ := Az (blk_below (g := gb160) (o := .cells #[.int .u64 a0_0, .int .u64 a0_1] 47 (0, 0)) of_lies hb); have n1_ := Az (below_step (low HB) hb); have n2_ := Az (hbox); have n3_ := Az ((by rw [hg]; exact (below_size (low HB)) : w.heap.size ≤ gb161)); have n4_ := Az ((by rw [hg]; exact (below_size (low HB)) : w.heap.size ≤ gb161)); have n5_ := Az ((by rw [hg]; exact Nat.ne_of_lt (blk_lt (g := gb160) (o := .cells #[.int .u64 a0_0, .int .u64 a0_1] 47 (0, 0)) of_lies) : gb160 ≠ gb161)); have n6_ := Az ((by rw [hg]; exact Nat.ne_of_gt (blk_lt (g := gb160) (o := .cells #[.int .u64 a0_0, .int .u64 a0_1] 47 (0, 0)) of_lies) : gb161 ≠ gb160)); clear BK160; clear HB; have BK160 := n0_; have HB := n1_; have BK161 := n2_; have GW161 := n3_; have GE161 := n4_; have NB160_161 := n5_; have NB161_160 := n6_; clear n0_ n1_ n2_ n3_ n4_ n5_ n6_; clear hb hbox hg; have hnb7 := NB160_161.out; have hnc7 := NB161_160.out; obtain ⟨hcz8_0, hcz8_1, hfz8_0, hfz8_1⟩ := cells2 BK160.out) | ((with_reducible refine gate_callee (f := 41) rfl ?_); refine goesL_ (some 5) rfl rfl Tryd.func41 (by kernel_rfl) rfl #[.agg #[.int .u64 a0_0, .int .u64 a0_1]] rfl (by (try simp only [List.map_toArray, List.map_cons, List.map_nil]); first | done | rfl | (simp only [List.length_drop, List.length_take]; rfl)) ?_; (with_reducible refine (joustref32_May.calls k a0_0 a0_1 true _ A2.out).mono ?_); rintro e w9 ⟨rfl, hb⟩; refine ⟨_, rfl, ?_⟩; have n0_ := Az (blk_below (g := gb160) (o := .cells #[.int .u64 a0_0, .int .u64 a0_1] 47 (0, 0)) of_lies hb); have n1_ := Az (blk_below (g := gb161) (o := .cells #[.int .u64 0, .int .u64 0] 47 (0, 0)) of_lies hb); have n2_ := Az (below_step (low HB) hb); clear BK160; clear BK161; clear HB; have BK160 := n0_; have BK161 := n1_; have HB := n2_; clear n0_ n1_ n2_; (try clear hb); (try clear hb2); (try clear hk); (try clear hi); obtain ⟨hcz10_0, hcz10_1, hfz10_0, hfz10_1⟩ := cells2 BK160.out) | ((with_reducible refine gate_callee (f := 40) rfl ?_); refine goesL_ (some 15) rfl rfl Tryd.func40 (by kernel_rfl) rfl #[.int .u64 (IntKind.u64.wrap (a0_1 - a0_0)), .int .u64 a0_1] rfl (by (try simp only [List.map_toArray, List.map_cons, List.map_nil]); first | done | rfl | (simp only [List.length_drop, List.length_take]; rfl)) ?_; (with_reducible refine (joustref32_Make.calls k (IntKind.u64.wrap (a0_1 - a0_0)) a0_1 t163 t164 t165 _ A4.out).mono ?_); rintro e w11 ⟨rfl, hb⟩; refine ⟨_, rfl, ?_⟩; have n0_ := Az (blk_below (g := gb160) (o := .cells #[.int .u64 a0_0, .int .u64 a0_1] 47 (0, 0)) of_lies hb); have n1_ := Az (blk_below (g := gb161) (o := .cells #[.int .u64 0, .int .u64 0] 47 (0, 0)) of_lies hb); have n2_ := Az (below_step (low HB) hb); clear BK160; clear BK161; clear HB; have BK160 := n0_; have BK161 := n1_; have HB := n2_; clear n0_ n1_ n2_; (try clear hb); (try clear hb2); (try clear hk); (try clear hi); obtain ⟨hcz12_0, hcz12_1, hfz12_0, hfz12_1⟩ := cells2 BK161.out))
  refine bodyPost_ret (results_ct rfl _ _ gb161 47 #[.int .u64 t163, .int .u64 t164] (0, 0) _ rfl of_lies Tryd.underlying47 rfl (by kernel_rfl)) rfl ?_
  exact ⟨by first | rfl | (simp [errW_none, errW_some] <;> rfl) | (simp [*, errW_none, errW_some] <;> rfl), low HB⟩
 ·
  replace c3 := Bool.eq_false_iff.mpr c3
  subst c3
  have H1 : (some (0, 0, 2)) = some (r1, r2, r3) := by rw [if_neg (show ¬ (false = true) by decide)] at H; exact H
  clear H
  have H := H1
  clear H1
  simp only [Option.some.injEq, Prod.mk.injEq] at H
  obtain ⟨rfl, rfl, rfl⟩ := H
  go_enter Tryd.func45, Tryd.ntmps45
  go_wp2_with (first | ((with_reducible refine gate_dst (N := 1) rfl ?_); refine box_event ?hg (N := 1) ?hd (cs := #[.int .u64 a0_0, .int .u64 a0_1]) (t := 47) ?hr ?_; (case hd => rfl); (case hg => rfl); (case hr => first | (go_simp; done) | (go_simp; rfl)); intro gb160 hg w13 hbox hb; have n0_ := Az (below_step (low HB) hb); have n1_ := Az (hbox); have n2_ := Az ((by rw [hg]; exact (below_size (low HB)) : w.heap.size ≤ gb160)); have n3_ := Az ((by rw [hg]; exact (below_size (low HB)) : w.heap.size ≤ gb160)); clear HB; have HB := n0_; have BK160 := n1_; have GW160 := n2_; have GE160 := n3_; clear n0_ n1_ n2_ n3_; clear hb hbox hg) | ((with_reducible refine gate_dst (N := 2) rfl ?_); refine box_event ?hg (N := 2) ?hd (cs := #[.int .u64 0, .int .u64 0]) (t := 47) ?hr ?_; (case hd => rfl); (case hg => rfl); (case hr => first | (go_simp; done) | (go_simp; rfl)); intro gb161 hg w14 hbox hb; have n0_ := Az (blk_below (g := gb160) (o := .cells #[.int .u64 a0_0, .int .u64 a0_1] 47 (0, 0)) of_lies hb); have n1_ := Az (below_step (low HB) hb); have n2_ := Az (hbox); have n3_ := Az ((by rw [hg]; exact (below_size (low HB)) : w.heap.size ≤ gb161)); have n4_ := Az ((by rw [hg]; exact (below_size (low HB)) : w.heap.size ≤ gb161)); have n5_ := Az ((by rw [hg]; exact Nat.ne_of_lt (blk_lt (g := gb160) (o := .cells #[.int .u64 a0_0, .int .u64 a0_1] 47 (0, 0)) of_lies) : gb160 ≠ gb161)); have n6_ := Az ((by rw [hg]; exact Nat.ne_of_gt (blk_lt (g := gb160) (o := .cells #[.int .u64 a0_0, .int .u64 a0_1] 47 (0, 0)) of_lies) : gb161 ≠ gb160)); clear BK160; clear HB; have BK160 := n0_; have HB := n1_; have BK161 := n2_; have GW161 := n3_; have GE161 := n4_; have NB160_161 := n5_; have NB161_160 := n6_; clear n0_ n1_ n2_ n3_ n4_ n5_ n6_; clear hb hbox hg; have hnb15 := NB160_161.out; have hnc15 := NB161_160.out; obtain ⟨hcz16_0, hcz16_1, hfz16_0, hfz16_1⟩ := cells2 BK160.out) | ((with_reducible refine gate_callee (f := 41) rfl ?_); refine goesL_ (some 5) rfl rfl Tryd.func41 (by kernel_rfl) rfl #[.agg #[.int .u64 a0_0, .int .u64 a0_1]] rfl (by (try simp only [List.map_toArray, List.map_cons, List.map_nil]); first | done | rfl | (simp only [List.length_drop, List.length_take]; rfl)) ?_; (with_reducible refine (joustref32_May.calls k a0_0 a0_1 false _ A2.out).mono ?_); rintro e w17 ⟨rfl, hb⟩; refine ⟨_, rfl, ?_⟩; have n0_ := Az (blk_below (g := gb160) (o := .cells #[.int .u64 a0_0, .int .u64 a0_1] 47 (0, 0)) of_lies hb); have n1_ := Az (blk_below (g := gb161) (o := .cells #[.int .u64 0, .int .u64 0] 47 (0, 0)) of_lies hb); have n2_ := Az (below_step (low HB) hb); clear BK160; clear BK161; clear HB; have BK160 := n0_; have BK161 := n1_; have HB := n2_; clear n0_ n1_ n2_; (try clear hb); (try clear hb2); (try clear hk); (try clear hi); obtain ⟨hcz18_0, hcz18_1, hfz18_0, hfz18_1⟩ := cells2 BK161.out))
  refine bodyPost_ret (results_ct rfl _ _ gb161 47 #[.int .u64 0, .int .u64 0] (0, 0) _ rfl of_lies Tryd.underlying47 rfl (by kernel_rfl)) rfl ?_
  exact ⟨by first | rfl | (simp [errW_none, errW_some] <;> rfl) | (simp [*, errW_none, errW_some] <;> rfl), low HB⟩
def joustref32_words.f (a0 : Int) (a1 : Int) : Option (Int × Int) := some (IntKind.u64.wrap ((IntKind.u64.wrap ((IntKind.u64.wrap ((IntKind.u64.wrap (Int.tdiv a0 4294967296)) * (IntKind.u64.wrap (Int.tdiv a1 4294967296)))) + (IntKind.u64.wrap (Int.tdiv (IntKind.u64.wrap ((IntKind.u64.wrap ((IntKind.u64.wrap (Int.tdiv a0 4294967296)) * (Int.tmod a1 4294967296))) + (IntKind.u64.wrap (Int.tdiv (IntKind.u64.wrap ((Int.tmod a0 4294967296) * (Int.tmod a1 4294967296))) 4294967296)))) 4294967296)))) + (IntKind.u64.wrap (Int.tdiv (IntKind.u64.wrap ((IntKind.u64.wrap ((Int.tmod a0 4294967296) * (IntKind.u64.wrap (Int.tdiv a1 4294967296)))) + (Int.tmod (IntKind.u64.wrap ((IntKind.u64.wrap ((IntKind.u64.wrap (Int.tdiv a0 4294967296)) * (Int.tmod a1 4294967296))) + (IntKind.u64.wrap (Int.tdiv (IntKind.u64.wrap ((Int.tmod a0 4294967296) * (Int.tmod a1 4294967296))) 4294967296)))) 4294967296))) 4294967296))), IntKind.u64.wrap ((IntKind.u64.wrap ((Int.tmod (IntKind.u64.wrap ((IntKind.u64.wrap ((Int.tmod a0 4294967296) * (IntKind.u64.wrap (Int.tdiv a1 4294967296)))) + (Int.tmod (IntKind.u64.wrap ((IntKind.u64.wrap ((IntKind.u64.wrap (Int.tdiv a0 4294967296)) * (Int.tmod a1 4294967296))) + (IntKind.u64.wrap (Int.tdiv (IntKind.u64.wrap ((Int.tmod a0 4294967296) * (Int.tmod a1 4294967296))) 4294967296)))) 4294967296))) 4294967296) * 4294967296)) + (Int.tmod (IntKind.u64.wrap ((Int.tmod a0 4294967296) * (Int.tmod a1 4294967296))) 4294967296)))
set_option maxHeartbeats 8000000 in
set_option maxRecDepth 100000 in
theorem joustref32_words.calls (a0 : Int) (a1 : Int) (r1 : Int) (r2 : Int) (w : World) (h : joustref32_words.f a0 a1 = some (r1, r2)) :
  Calls Tryd.prog 73 #[.int .u64 a0, .int .u64 a1] w fun e w' => e = .returned (.tuple #[.int .u64 r1, .int .u64 r2]) ∧ Drawn0 w w' := by
 have H : (some (IntKind.u64.wrap ((IntKind.u64.wrap ((IntKind.u64.wrap ((IntKind.u64.wrap (Int.tdiv a0 4294967296)) * (IntKind.u64.wrap (Int.tdiv a1 4294967296)))) + (IntKind.u64.wrap (Int.tdiv (IntKind.u64.wrap ((IntKind.u64.wrap ((IntKind.u64.wrap (Int.tdiv a0 4294967296)) * (Int.tmod a1 4294967296))) + (IntKind.u64.wrap (Int.tdiv (IntKind.u64.wrap ((Int.tmod a0 4294967296) * (Int.tmod a1 4294967296))) 4294967296)))) 4294967296)))) + (IntKind.u64.wrap (Int.tdiv (IntKind.u64.wrap ((IntKind.u64.wrap ((Int.tmod a0 4294967296) * (IntKind.u64.wrap (Int.tdiv a1 4294967296)))) + (Int.tmod (IntKind.u64.wrap ((IntKind.u64.wrap ((IntKind.u64.wrap (Int.tdiv a0 4294967296)) * (Int.tmod a1 4294967296))) + (IntKind.u64.wrap (Int.tdiv (IntKind.u64.wrap ((Int.tmod a0 4294967296) * (Int.tmod a1 4294967296))) 4294967296)))) 4294967296))) 4294967296))), IntKind.u64.wrap ((IntKind.u64.wrap ((Int.tmod (IntKind.u64.wrap ((IntKind.u64.wrap ((Int.tmod a0 4294967296) * (IntKind.u64.wrap (Int.tdiv a1 4294967296)))) + (Int.tmod (IntKind.u64.wrap ((IntKind.u64.wrap ((IntKind.u64.wrap (Int.tdiv a0 4294967296)) * (Int.tmod a1 4294967296))) + (IntKind.u64.wrap (Int.tdiv (IntKind.u64.wrap ((Int.tmod a0 4294967296) * (Int.tmod a1 4294967296))) 4294967296)))) 4294967296))) 4294967296) * 4294967296)) + (Int.tmod (IntKind.u64.wrap ((Int.tmod a0 4294967296) * (Int.tmod a1 4294967296))) 4294967296)))) = some (r1, r2) := h
 clear h
 simp only [Option.some.injEq, Prod.mk.injEq] at H
 obtain ⟨rfl, rfl⟩ := H
 go_enter Tryd.func73, Tryd.ntmps73
 go_wp2
 go_ret2
 exact ⟨by first | rfl | (simp; done) | (simp [*]; done), by repeat (first | exact Drawn0.refl _ | apply Drawn0.step)⟩
def joustref32_order.j0 : Nat → Int → Int → Int → Int → Bool → Option (Int)
 | 0, _, _, _, _, _ => none
 | k + 1, x5, x6, x7, x8, x37 => if x37 = true then (some (-1)) else (if x5 > x7 then (some 1) else (if x6 > x8 then (some 1) else (some 0)))
def joustref32_order.f (k : Nat) (a0_0 : Int) (a0_1 : Int) (a1_0 : Int) (a1_1 : Int) : Option (Int) := (joustref32_words.f a0_0 a1_1).bind fun bt168 => ((joustref32_words.f a1_0 a0_1).bind fun bt170 => (if bt168.1 < bt170.1 then (joustref32_order.j0 k bt168.1 bt168.2 bt170.1 bt170.2 true) else (if bt168.1 = bt170.1 then (joustref32_order.j0 k bt168.1 bt168.2 bt170.1 bt170.2 (decide (bt168.2 < bt170.2))) else (joustref32_order.j0 k bt168.1 bt168.2 bt170.1 bt170.2 false))))
theorem joustref32_order.mono_l : ∀ k, (∀ y0 y1 y2 y3 y4, LeO (joustref32_order.j0 k y0 y1 y2 y3 y4) (joustref32_order.j0 (k + 1) y0 y1 y2 y3 y4))
 | 0 => fun _ _ _ _ _ r h => by simp [joustref32_order.j0] at h
 | k + 1 => by
  have ih0 := joustref32_order.mono_l k
  ·
   intro y0 y1 y2 y3 y4
   unfold joustref32_order.j0
   repeat' first
   | (with_reducible exact ih0 _ _ _ _ _)
   | (with_reducible exact LeO.refl _)
   | (with_reducible exact LeO.none _)
   | (with_reducible refine LeO.ite ?_ ?_)
   | (with_reducible refine LeO.bind ?_ (fun _ => ?_))
   | exact ih0 _ _ _ _ _
   | exact LeO.none _
   | refine LeO.ite ?_ ?_
   | refine LeO.bind ?_ (fun _ => ?_)
theorem joustref32_order.mono : ∀ a0 a1 a2 a3 k, LeO (joustref32_order.f k a0 a1 a2 a3) (joustref32_order.f (k + 1) a0 a1 a2 a3) := by
 intro a0 a1 a2 a3 k
 have ih0 := joustref32_order.mono_l k
 unfold joustref32_order.f
 repeat' first
   | (with_reducible exact ih0 _ _ _ _ _)
   | (with_reducible exact LeO.refl _)
   | (with_reducible exact LeO.none _)
   | (with_reducible refine LeO.ite ?_ ?_)
   | (with_reducible refine LeO.bind ?_ (fun _ => ?_))
   | exact ih0 _ _ _ _ _
   | exact LeO.none _
   | refine LeO.ite ?_ ?_
   | refine LeO.bind ?_ (fun _ => ?_)
set_option maxHeartbeats 8000000 in
set_option maxRecDepth 100000 in
theorem joustref32_order.calls (k : Nat) (a0_0 : Int) (a0_1 : Int) (a1_0 : Int) (a1_1 : Int) (r : Int) (w : World) (h : joustref32_order.f k a0_0 a0_1 a1_0 a1_1 = some r) :
  Calls Tryd.prog 72 #[.agg #[.int .u64 a0_0, .int .u64 a0_1], .agg #[.int .u64 a1_0, .int .u64 a1_1]] w fun e w' => e = .returned (.int .i64 r) ∧ Below w.heap.size w w' := by
 have hu47 := Tryd.underlying47
 have HB := Az (Below.refl w.heap.size w)
 have H : ((joustref32_words.f a0_0 a1_1).bind fun bt168 => ((joustref32_words.f a1_0 a0_1).bind fun bt170 => (if bt168.1 < bt170.1 then (joustref32_order.j0 k bt168.1 bt168.2 bt170.1 bt170.2 true) else (if bt168.1 = bt170.1 then (joustref32_order.j0 k bt168.1 bt168.2 bt170.1 bt170.2 (decide (bt168.2 < bt170.2))) else (joustref32_order.j0 k bt168.1 bt168.2 bt170.1 bt170.2 false))))) = some r := h
 clear h
 replace H := Option.bind_eq_some_iff.mp H
 obtain ⟨⟨t168, t169⟩, A30, H⟩ := H
 replace H : ((joustref32_words.f a1_0 a0_1).bind fun bt170 => (if t168 < bt170.1 then (joustref32_order.j0 k t168 t169 bt170.1 bt170.2 true) else (if t168 = bt170.1 then (joustref32_order.j0 k t168 t169 bt170.1 bt170.2 (decide (t169 < bt170.2))) else (joustref32_order.j0 k t168 t169 bt170.1 bt170.2 false)))) = some r := H
 have A3 := Az A30
 clear A30
 replace H := Option.bind_eq_some_iff.mp H
 obtain ⟨⟨t170, t171⟩, A40, H⟩ := H
 replace H : (if t168 < t170 then (joustref32_order.j0 k t168 t169 t170 t171 true) else (if t168 = t170 then (joustref32_order.j0 k t168 t169 t170 t171 (decide (t169 < t171))) else (joustref32_order.j0 k t168 t169 t170 t171 false))) = some r := H
 have A4 := Az A40
 clear A40
 have HC5 := Az H
 clear H
 go_enter Tryd.func72, Tryd.ntmps72
 go_upto_region 3 with (first | ((with_reducible refine gate_dst (N := 2) rfl ?_); refine box_event ?hg (N := 2) ?hd (cs := #[.int .u64 a0_0, .int .u64 a0_1]) (t := 47) ?hr ?_; (case hd => rfl); (case hg => rfl); (case hr => first | (go_simp; done) | (go_simp; rfl)); intro gb166 hg w6 hbox hb; have n0_ := Az (below_step (low HB) hb); have n1_ := Az (hbox); have n2_ := Az ((by rw [hg]; exact (below_size (low HB)) : w.heap.size ≤ gb166)); have n3_ := Az ((by rw [hg]; exact (below_size (low HB)) : w.heap.size ≤ gb166)); clear HB; have HB := n0_; have BK166 := n1_; have GW166 := n2_; have GE166 := n3_; clear n0_ n1_ n2_ n3_; clear hb hbox hg) | ((with_reducible refine gate_dst (N := 3) rfl ?_); refine box_event ?hg (N := 3) ?hd (cs := #[.int .u64 a1_0, .int .u64 a1_1]) (t := 47) ?hr ?_; (case hd => rfl); (case hg => rfl); (case hr => first | (go_simp; done) | (go_simp; rfl)); intro gb167 hg w7 hbox hb; have n0_ := Az (blk_below (g := gb166) (o := .cells #[.int .u64 a0_0, .int .u64 a0_1] 47 (0, 0)) of_lies hb); have n1_ := Az (below_step (low HB) hb); have n2_ := Az (hbox); have n3_ := Az ((by rw [hg]; exact (below_size (low HB)) : w.heap.size ≤ gb167)); have n4_ := Az ((by rw [hg]; exact (below_size (low HB)) : w.heap.size ≤ gb167)); have n5_ := Az ((by rw [hg]; exact Nat.ne_of_lt (blk_lt (g := gb166) (o := .cells #[.int .u64 a0_0, .int .u64 a0_1] 47 (0, 0)) of_lies) : gb166 ≠ gb167)); have n6_ := Az ((by rw [hg]; exact Nat.ne_of_gt (blk_lt (g := gb166) (o := .cells #[.int .u64 a0_0, .int .u64 a0_1] 47 (0, 0)) of_lies) : gb167 ≠ gb166)); clear BK166; clear HB; have BK166 := n0_; have HB := n1_; have BK167 := n2_; have GW167 := n3_; have GE167 := n4_; have NB166_167 := n5_; have NB167_166 := n6_; clear n0_ n1_ n2_ n3_ n4_ n5_ n6_; clear hb hbox hg; have hnb8 := NB166_167.out; have hnc8 := NB167_166.out; obtain ⟨hcz9_0, hcz9_1, hfz9_0, hfz9_1⟩ := cells2 BK166.out; obtain ⟨hcz10_0, hcz10_1, hfz10_0, hfz10_1⟩ := cells2 BK167.out) | ((with_reducible refine gate_callee (f := 73) rfl ?_); refine goesL_ (some 14) rfl rfl Tryd.func73 (by kernel_rfl) rfl #[.int .u64 a0_0, .int .u64 a1_1] rfl (by (try simp only [List.map_toArray, List.map_cons, List.map_nil]); first | done | rfl | (simp only [List.length_drop, List.length_take]; rfl)) ?_; (with_reducible refine (joustref32_words.calls a0_0 a1_1 t168 t169 _ A3.out).mono ?_); rintro e w' ⟨rfl, ⟨nd, rfl⟩⟩; refine ⟨_, rfl, ?_⟩) | ((with_reducible refine gate_callee (f := 73) rfl ?_); refine goesL_ (some 22) rfl rfl Tryd.func73 (by kernel_rfl) rfl #[.int .u64 a1_0, .int .u64 a0_1] rfl (by (try simp only [List.map_toArray, List.map_cons, List.map_nil]); first | done | rfl | (simp only [List.length_drop, List.length_take]; rfl)) ?_; (with_reducible refine (joustref32_words.calls a1_0 a0_1 t170 t171 _ A4.out).mono ?_); rintro e w' ⟨rfl, ⟨nd, rfl⟩⟩; refine ⟨_, rfl, ?_⟩))
 (try simp only [Act.put, List.setIfInBounds_toArray, List.set_cons_zero, List.set_cons_succ])
 go_cut [37] (fun v37 wc => ∃ (kq : Nat) (x37_4 : Bool), v37 = .bool x37_4 ∧ Aside0 (joustref32_order.j0 kq t168 t169 t170 t171 x37_4 = some r) ∧ Aside0 (kq ≤ k) ∧ Aside0 (wc.heap[gb166]? = some (.cells #[.int .u64 a0_0, .int .u64 a0_1] 47 (0, 0))) ∧ Aside0 (wc.heap[gb167]? = some (.cells #[.int .u64 a1_0, .int .u64 a1_1] 47 (0, 0))) ∧ Aside0 (Below w.heap.size w wc))
 case first =>
  have H := HC5.out
  clear HC5
  by_cases c11 : t168 < t170
  ·
   rw [if_pos c11] at H
   have c11b0 : decide (t168 < t170) = true := decide_eq_true c11
   clear c11
   (first | rw [c11b0] | (simp only [i64_w, i32_w]; rw [c11b0]) | skip)
   have H' := Az H
   clear H
   go_wp2
   go_meet
   case rel => exact ⟨_, (true), (by first | rfl | (simp; done) | (simp [*]; done)), H', ⟨by first | omega | exact Nat.le_refl _⟩, ⟨of_lies⟩, ⟨of_lies⟩, ⟨low HB⟩⟩
  ·
   rw [if_neg c11] at H
   have c11b0 : decide (t168 < t170) = false := decide_eq_false c11
   clear c11
   (first | rw [c11b0] | (simp only [i64_w, i32_w]; rw [c11b0]) | skip)
   by_cases c12 : t168 = t170
   ·
    rw [if_pos c12] at H
    have c12b0 : (t168 == t170) = true := beq_iff_eq.mpr c12
    have c12b1 : (t168 != t170) = false := bne_eq_false_iff_eq.mpr c12
    clear c12
    have H' := Az H
    clear H
    go_wp2
    go_meet
    case rel => exact ⟨_, (decide (t169 < t171)), (by first | rfl | (simp; done) | (simp [*]; done)), H', ⟨by first | omega | exact Nat.le_refl _⟩, ⟨of_lies⟩, ⟨of_lies⟩, ⟨low HB⟩⟩
   ·
    rw [if_neg c12] at H
    have c12b0 : (t168 == t170) = false := beq_eq_false_iff_ne.mpr c12
    have c12b1 : (t168 != t170) = true := bne_iff_ne.mpr c12
    have H' := Az H
    clear H
    go_wp2
    go_meet
    case rel => exact ⟨_, (false), (by first | rfl | (simp; done) | (simp [*]; done)), H', ⟨by first | omega | exact Nat.le_refl _⟩, ⟨of_lies⟩, ⟨of_lies⟩, ⟨low HB⟩⟩
 case rest =>
  clear HC5
  try clear c1
  try clear p2
  try clear c7
  try clear c8
  try clear c11
  try clear c11b0
  try clear c12
  try clear c12b0
  try clear c12b1
  try clear hcz10_0
  try clear hcz10_1
  try clear hcz9_0
  try clear hcz9_1
  try clear hfz10_0
  try clear hfz10_1
  try clear hfz9_0
  try clear hfz9_1
  obtain ⟨kq, x37_4, rfl, HA, HJ4, BK166, BK167, HB⟩ := hcut
  cases kq with
  | zero => exact absurd HA.out (by simp [joustref32_order.j0])
  | succ kj4 =>
   have H := HA.out
   clear HA
   simp only [joustref32_order.j0] at H
   by_cases c13 : x37_4 = true
   ·
    subst c13
    have H1 : (some (-1)) = some r := by rw [if_pos rfl] at H; exact H
    clear H
    have H := H1
    clear H1
    obtain rfl := Option.some.inj H
    go_wp2
    go_ret
    exact ⟨by first | rfl | (simp [errW_none, errW_some] <;> rfl) | (simp [*, errW_none, errW_some] <;> rfl), low HB⟩
   ·
    replace c13 := Bool.eq_false_iff.mpr c13
    subst c13
    have H1 : (if t168 > t170 then (some 1) else (if t169 > t171 then (some 1) else (some 0))) = some r := by rw [if_neg (show ¬ (false = true) by decide)] at H; exact H
    clear H
    have H := H1
    clear H1
    by_cases c14 : t168 > t170
    ·
     rw [if_pos c14] at H
     have c14b0 : decide (t170 < t168) = true := decide_eq_true c14
     clear c14
     obtain rfl := Option.some.inj H
     go_wp2
     go_ret
     exact ⟨by first | rfl | (simp [errW_none, errW_some] <;> rfl) | (simp [*, errW_none, errW_some] <;> rfl), low HB⟩
    ·
     rw [if_neg c14] at H
     have c14b0 : decide (t170 < t168) = false := decide_eq_false c14
     clear c14
     by_cases c15 : t169 > t171
     ·
      rw [if_pos c15] at H
      have c15b0 : decide (t171 < t169) = true := decide_eq_true c15
      clear c15
      obtain rfl := Option.some.inj H
      go_wp2
      go_ret
      exact ⟨by first | rfl | (simp [errW_none, errW_some] <;> rfl) | (simp [*, errW_none, errW_some] <;> rfl), low HB⟩
     ·
      rw [if_neg c15] at H
      have c15b0 : decide (t171 < t169) = false := decide_eq_false c15
      clear c15
      obtain rfl := Option.some.inj H
      go_wp2
      go_ret
      exact ⟨by first | rfl | (simp [errW_none, errW_some] <;> rfl) | (simp [*, errW_none, errW_some] <;> rfl), low HB⟩
end Go.Proofs.YtcdcpnhlmgmnkaaDoor.Podr
end
section
namespace Go.Proofs.YtcdcpnhlmgmnkaaDoor.Podr
open Go.RowKit Go.Proofs.YtcdcpnhlmgmnkaaDoor.Base Go.Proofs.YtcdcpnhlmgmnkaaDoorW.PrintWords Go.Proofs.YtcdcpnhlmgmnkaaDoorW.PrintLast Go.Proofs.YtcdcpnhlmgmnkaaDoorW.PrintMore
attribute [local go_sem] max2_int min2_int max_two min_two max_three min_three max_four min_four   -- for this text's walks alone
set_option linter.unusedVariables false
set_option linter.unusedSimpArgs false
mutual
def joustref32_Sum.j0 : Nat → Bool → Int → Int → Int → Int → Option (Int × Int × Int)
 | 0, _, _, _, _, _ => none
 | k + 1, x28, x173000, x173001, x174000, x174001 => if x28 = true then (some (0, 0, 2)) else ((joustref32_order.f k x173000 x173001 (IntKind.u64.wrap (x174001 - x174000)) x174001).bind fun t177 => (if t177 > 0 then (some (0, 0, 3)) else ((joustref32_divisor.f k x173001 x174001).bind fun t178 => (if t178 = 0 then (none) else ((joustref32_part.f k x173000 (IntKind.u64.wrap (Int.tdiv x174001 t178)) t178).bind fun bt179 => ((joustref32_part.f k x174000 (IntKind.u64.wrap (Int.tdiv x173001 t178)) t178).bind fun bt181 => (if bt179.2 ≥ (IntKind.u64.wrap (t178 - bt181.2)) then (joustref32_Sum.j1 k t178 (IntKind.u64.wrap (Int.tdiv x174001 t178)) (IntKind.u64.wrap (Int.tdiv x173001 t178)) (IntKind.u64.wrap (bt179.2 - (IntKind.u64.wrap (t178 - bt181.2)))) x173000 x173001 x174000 x174001) else (joustref32_Sum.j1 k t178 (IntKind.u64.wrap (Int.tdiv x174001 t178)) (IntKind.u64.wrap (Int.tdiv x173001 t178)) (IntKind.u64.wrap (bt179.2 + bt181.2)) x173000 x173001 x174000 x174001))))))))
def joustref32_Sum.j1 : Nat → Int → Int → Int → Int → Int → Int → Int → Int → Option (Int × Int × Int)
 | 0, _, _, _, _, _, _, _, _ => none
 | k + 1, x6, x7, x8, x10, x173000, x173001, x174000, x174001 => (joustref32_divisor.f k x6 x10).bind fun t183 => (if t183 = 0 then (none) else ((joustref32_words.f x8 (IntKind.u64.wrap (Int.tdiv x174001 t183))).bind fun bt184 => (if bt184.1 > 0 then (joustref32_Sum.j2 k x7 x8 t183 bt184.2 true x173000 x173001 x174000 x174001) else (joustref32_Sum.j2 k x7 x8 t183 bt184.2 (decide (bt184.2 > 9223372036854775807)) x173000 x173001 x174000 x174001))))
def joustref32_Sum.j2 : Nat → Int → Int → Int → Int → Bool → Int → Int → Int → Int → Option (Int × Int × Int)
 | 0, _, _, _, _, _, _, _, _, _ => none
 | k + 1, x7, x8, x13, x15, x101, x173000, x173001, x174000, x174001 => if x101 = true then (some (0, 0, 3)) else ((joustref32_part.f k x173000 x7 x13).bind fun bt186 => ((joustref32_part.f k x174000 x8 x13).bind fun bt188 => (if bt186.2 > 0 then (if bt186.2 = (IntKind.u64.wrap (x13 - bt188.2)) then (some (IntKind.u64.wrap ((IntKind.u64.wrap (bt186.1 + bt188.1)) + 1), x15, 0)) else (some (IntKind.u64.wrap (bt186.1 + bt188.1), x15, 0))) else (some (IntKind.u64.wrap (bt186.1 + bt188.1), x15, 0)))))
end
def joustref32_Sum.f (k : Nat) (a0_0 : Int) (a0_1 : Int) (a1_0 : Int) (a1_1 : Int) : Option (Int × Int × Int) := (joustref32_May.f k a0_0 a0_1).bind fun t175 => (if t175 = true then ((joustref32_May.f k a1_0 a1_1).bind fun t176 => (joustref32_Sum.j0 k (!t176) a0_0 a0_1 a1_0 a1_1)) else (joustref32_Sum.j0 k true a0_0 a0_1 a1_0 a1_1))
theorem joustref32_Sum.mono_l : ∀ k, (∀ y0 y1 y2 y3 y4, LeO (joustref32_Sum.j0 k y0 y1 y2 y3 y4) (joustref32_Sum.j0 (k + 1) y0 y1 y2 y3 y4)) ∧ (∀ y0 y1 y2 y3 y4 y5 y6 y7, LeO (joustref32_Sum.j1 k y0 y1 y2 y3 y4 y5 y6 y7) (joustref32_Sum.j1 (k + 1) y0 y1 y2 y3 y4 y5 y6 y7)) ∧ (∀ y0 y1 y2 y3 y4 y5 y6 y7 y8, LeO (joustref32_Sum.j2 k y0 y1 y2 y3 y4 y5 y6 y7 y8) (joustref32_Sum.j2 (k + 1) y0 y1 y2 y3 y4 y5 y6 y7 y8))
 | 0 => ⟨fun _ _ _ _ _ r h => by simp [joustref32_Sum.j0] at h, fun _ _ _ _ _ _ _ _ r h => by simp [joustref32_Sum.j1] at h, fun _ _ _ _ _ _ _ _ _ r h => by simp [joustref32_Sum.j2] at h⟩
 | k + 1 => by
  obtain ⟨ih0, ih1, ih2⟩ := joustref32_Sum.mono_l k
  refine ⟨?_, ?_, ?_⟩
  ·
   intro y0 y1 y2 y3 y4
   unfold joustref32_Sum.j0
   repeat' first
   | (with_reducible exact ih0 _ _ _ _ _)
   | (with_reducible exact ih1 _ _ _ _ _ _ _ _)
   | (with_reducible exact ih2 _ _ _ _ _ _ _ _ _)
   | (with_reducible exact joustref32_May.mono _ _ _)
   | (with_reducible exact joustref32_divisor.mono _ _ _)
   | (with_reducible exact joustref32_order.mono _ _ _ _ _)
   | (with_reducible exact joustref32_part.mono _ _ _ _)
   | (with_reducible exact LeO.refl _)
   | (with_reducible exact LeO.none _)
   | (with_reducible refine LeO.ite ?_ ?_)
   | (with_reducible refine LeO.bind ?_ (fun _ => ?_))
   | exact ih0 _ _ _ _ _
   | exact ih1 _ _ _ _ _ _ _ _
   | exact ih2 _ _ _ _ _ _ _ _ _
   | exact joustref32_May.mono _ _ _
   | exact joustref32_divisor.mono _ _ _
   | exact joustref32_order.mono _ _ _ _ _
   | exact joustref32_part.mono _ _ _ _
   | exact LeO.none _
   | refine LeO.ite ?_ ?_
   | refine LeO.bind ?_ (fun _ => ?_)
  ·
   intro y0 y1 y2 y3 y4 y5 y6 y7
   unfold joustref32_Sum.j1
   repeat' first
   | (with_reducible exact ih0 _ _ _ _ _)
   | (with_reducible exact ih1 _ _ _ _ _ _ _ _)
   | (with_reducible exact ih2 _ _ _ _ _ _ _ _ _)
   | (with_reducible exact joustref32_May.mono _ _ _)
   | (with_reducible exact joustref32_divisor.mono _ _ _)
   | (with_reducible exact joustref32_order.mono _ _ _ _ _)
   | (with_reducible exact joustref32_part.mono _ _ _ _)
   | (with_reducible exact LeO.refl _)
   | (with_reducible exact LeO.none _)
   | (with_reducible refine LeO.ite ?_ ?_)
   | (with_reducible refine LeO.bind ?_ (fun _ => ?_))
   | exact ih0 _ _ _ _ _
   | exact ih1 _ _ _ _ _ _ _ _
   | exact ih2 _ _ _ _ _ _ _ _ _
   | exact joustref32_May.mono _ _ _
   | exact joustref32_divisor.mono _ _ _
   | exact joustref32_order.mono _ _ _ _ _
   | exact joustref32_part.mono _ _ _ _
   | exact LeO.none _
   | refine LeO.ite ?_ ?_
   | refine LeO.bind ?_ (fun _ => ?_)
  ·
   intro y0 y1 y2 y3 y4 y5 y6 y7 y8
   unfold joustref32_Sum.j2
   repeat' first
   | (with_reducible exact ih0 _ _ _ _ _)
   | (with_reducible exact ih1 _ _ _ _ _ _ _ _)
   | (with_reducible exact ih2 _ _ _ _ _ _ _ _ _)
   | (with_reducible exact joustref32_May.mono _ _ _)
   | (with_reducible exact joustref32_divisor.mono _ _ _)
   | (with_reducible exact joustref32_order.mono _ _ _ _ _)
   | (with_reducible exact joustref32_part.mono _ _ _ _)
   | (with_reducible exact LeO.refl _)
   | (with_reducible exact LeO.none _)
   | (with_reducible refine LeO.ite ?_ ?_)
   | (with_reducible refine LeO.bind ?_ (fun _ => ?_))
   | exact ih0 _ _ _ _ _
   | exact ih1 _ _ _ _ _ _ _ _
   | exact ih2 _ _ _ _ _ _ _ _ _
   | exact joustref32_May.mono _ _ _
   | exact joustref32_divisor.mono _ _ _
   | exact joustref32_order.mono _ _ _ _ _
   | exact joustref32_part.mono _ _ _ _
   | exact LeO.none _
   | refine LeO.ite ?_ ?_
   | refine LeO.bind ?_ (fun _ => ?_)
theorem joustref32_Sum.mono : ∀ a0 a1 a2 a3 k, LeO (joustref32_Sum.f k a0 a1 a2 a3) (joustref32_Sum.f (k + 1) a0 a1 a2 a3) := by
 intro a0 a1 a2 a3 k
 obtain ⟨ih0, ih1, ih2⟩ := joustref32_Sum.mono_l k
 unfold joustref32_Sum.f
 repeat' first
   | (with_reducible exact ih0 _ _ _ _ _)
   | (with_reducible exact ih1 _ _ _ _ _ _ _ _)
   | (with_reducible exact ih2 _ _ _ _ _ _ _ _ _)
   | (with_reducible exact joustref32_May.mono _ _ _)
   | (with_reducible exact joustref32_divisor.mono _ _ _)
   | (with_reducible exact joustref32_order.mono _ _ _ _ _)
   | (with_reducible exact joustref32_part.mono _ _ _ _)
   | (with_reducible exact LeO.refl _)
   | (with_reducible exact LeO.none _)
   | (with_reducible refine LeO.ite ?_ ?_)
   | (with_reducible refine LeO.bind ?_ (fun _ => ?_))
   | exact ih0 _ _ _ _ _
   | exact ih1 _ _ _ _ _ _ _ _
   | exact ih2 _ _ _ _ _ _ _ _ _
   | exact joustref32_May.mono _ _ _
   | exact joustref32_divisor.mono _ _ _
   | exact joustref32_order.mono _ _ _ _ _
   | exact joustref32_part.mono _ _ _ _
   | exact LeO.none _
   | refine LeO.ite ?_ ?_
   | refine LeO.bind ?_ (fun _ => ?_)
set_option maxHeartbeats 8000000 in
set_option maxRecDepth 100000 in
theorem joustref32_Sum.calls (k : Nat) (a0_0 : Int) (a0_1 : Int) (a1_0 : Int) (a1_1 : Int) (r1 : Int) (r2 : Int) (r3 : Int) (w : World) (h : joustref32_Sum.f k a0_0 a0_1 a1_0 a1_1 = some (r1, r2, r3)) :
  Calls Tryd.prog 46 #[.agg #[.int .u64 a0_0, .int .u64 a0_1], .agg #[.int .u64 a1_0, .int .u64 a1_1]] w fun e w' => e = .returned (.tuple #[.agg #[.int .u64 r1, .int .u64 r2], .int .i64 r3]) ∧ Below w.heap.size w w' := by
 have hu47 := Tryd.underlying47
 have HB := Az (Below.refl w.heap.size w)
 have H : ((joustref32_May.f k a0_0 a0_1).bind fun t175 => (if t175 = true then ((joustref32_May.f k a1_0 a1_1).bind fun t176 => (joustref32_Sum.j0 k (!t176) a0_0 a0_1 a1_0 a1_1)) else (joustref32_Sum.j0 k true a0_0 a0_1 a1_0 a1_1))) = some (r1, r2, r3) := h
 clear h
 have HC3 := Az H
 clear H
 go_enter Tryd.func46, Tryd.ntmps46
 go_upto_region 1 with (first | ((with_reducible refine gate_dst (N := 2) rfl ?_); refine box_event ?hg (N := 2) ?hd (cs := #[.int .u64 a0_0, .int .u64 a0_1]) (t := 47) ?hr ?_; (case hd => rfl); (case hg => rfl); (case hr => first | (go_simp; done) | (go_simp; rfl)); intro gb172 hg w4 hbox hb; have n0_ := Az (below_step (low HB) hb); have n1_ := Az (hbox); have n2_ := Az ((by rw [hg]; exact (below_size (low HB)) : w.heap.size ≤ gb172)); have n3_ := Az ((by rw [hg]; exact (below_size (low HB)) : w.heap.size ≤ gb172)); clear HB; have HB := n0_; have BK172 := n1_; have GW172 := n2_; have GE172 := n3_; clear n0_ n1_ n2_ n3_; clear hb hbox hg) | ((with_reducible refine gate_dst (N := 3) rfl ?_); refine box_event ?hg (N := 3) ?hd (cs := #[.int .u64 a1_0, .int .u64 a1_1]) (t := 47) ?hr ?_; (case hd => rfl); (case hg => rfl); (case hr => first | (go_simp; done) | (go_simp; rfl)); intro gb173 hg w5 hbox hb; have n0_ := Az (blk_below (g := gb172) (o := .cells #[.int .u64 a0_0, .int .u64 a0_1] 47 (0, 0)) of_lies hb); have n1_ := Az (below_step (low HB) hb); have n2_ := Az (hbox); have n3_ := Az ((by rw [hg]; exact (below_size (low HB)) : w.heap.size ≤ gb173)); have n4_ := Az ((by rw [hg]; exact (below_size (low HB)) : w.heap.size ≤ gb173)); have n5_ := Az ((by rw [hg]; exact Nat.ne_of_lt (blk_lt (g := gb172) (o := .cells #[.int .u64 a0_0, .int .u64 a0_1] 47 (0, 0)) of_lies) : gb172 ≠ gb173)); have n6_ := Az ((by rw [hg]; exact Nat.ne_of_gt (blk_lt (g := gb172) (o := .cells #[.int .u64 a0_0, .int .u64 a0_1] 47 (0, 0)) of_lies) : gb173 ≠ gb172)); clear BK172; clear HB; have BK172 := n0_; have HB := n1_; have BK173 := n2_; have GW173 := n3_; have GE173 := n4_; have NB172_173 := n5_; have NB173_172 := n6_; clear n0_ n1_ n2_ n3_ n4_ n5_ n6_; clear hb hbox hg) | ((with_reducible refine gate_dst (N := 4) rfl ?_); refine box_event ?hg (N := 4) ?hd (cs := #[.int .u64 0, .int .u64 0]) (t := 47) ?hr ?_; (case hd => rfl); (case hg => rfl); (case hr => first | (go_simp; done) | (go_simp; rfl)); intro gb174 hg w6 hbox hb; have n0_ := Az (blk_below (g := gb172) (o := .cells #[.int .u64 a0_0, .int .u64 a0_1] 47 (0, 0)) of_lies hb); have n1_ := Az (blk_below (g := gb173) (o := .cells #[.int .u64 a1_0, .int .u64 a1_1] 47 (0, 0)) of_lies hb); have n2_ := Az (below_step (low HB) hb); have n3_ := Az (hbox); have n4_ := Az ((by rw [hg]; exact (below_size (low HB)) : w.heap.size ≤ gb174)); have n5_ := Az ((by rw [hg]; exact (below_size (low HB)) : w.heap.size ≤ gb174)); have n6_ := Az ((by rw [hg]; exact Nat.ne_of_lt (blk_lt (g := gb172) (o := .cells #[.int .u64 a0_0, .int .u64 a0_1] 47 (0, 0)) of_lies) : gb172 ≠ gb174)); have n7_ := Az ((by rw [hg]; exact Nat.ne_of_gt (blk_lt (g := gb172) (o := .cells #[.int .u64 a0_0, .int .u64 a0_1] 47 (0, 0)) of_lies) : gb174 ≠ gb172)); have n8_ := Az ((by rw [hg]; exact Nat.ne_of_lt (blk_lt (g := gb173) (o := .cells #[.int .u64 a1_0, .int .u64 a1_1] 47 (0, 0)) of_lies) : gb173 ≠ gb174)); have n9_ := Az ((by rw [hg]; exact Nat.ne_of_gt (blk_lt (g := gb173) (o := .cells #[.int .u64 a1_0, .int .u64 a1_1] 47 (0, 0)) of_lies) : gb174 ≠ gb173)); clear BK172; clear BK173; clear HB; have BK172 := n0_; have BK173 := n1_; have HB := n2_; have BK174 := n3_; have GW174 := n4_; have GE174 := n5_; have NB172_174 := n6_; have NB174_172 := n7_; have NB173_174 := n8_; have NB174_173 := n9_; clear n0_ n1_ n2_ n3_ n4_ n5_ n6_ n7_ n8_ n9_; clear hb hbox hg))
 repeat (go_quiet (first | ((with_reducible refine gate_dst (N := 2) rfl ?_); refine box_event ?hg (N := 2) ?hd (cs := #[.int .u64 a0_0, .int .u64 a0_1]) (t := 47) ?hr ?_; (case hd => rfl); (case hg => rfl); (case hr => first | (go_simp; done) | (go_simp; rfl)); intro gb172 hg w4 hbox hb; have n0_ := Az (below_step (low HB) hb); have n1_ := Az (hbox); have n2_ := Az ((by rw [hg]; exact (below_size (low HB)) : w.heap.size ≤ gb172)); have n3_ := Az ((by rw [hg]; exact (below_size (low HB)) : w.heap.size ≤ gb172)); clear HB; have HB := n0_; have BK172 := n1_; have GW172 := n2_; have GE172 := n3_; clear n0_ n1_ n2_ n3_; clear hb hbox hg) | ((with_reducible refine gate_dst (N := 3) rfl ?_); refine box_event ?hg (N := 3) ?hd (cs := #[.int .u64 a1_0, .int .u64 a1_1]) (t := 47) ?hr ?_; (case hd => rfl); (case hg => rfl); (case hr => first | (go_simp; done) | (go_simp; rfl)); intro gb173 hg w5 hbox hb; have n0_ := Az (blk_below (g := gb172) (o := .cells #[.int .u64 a0_0, .int .u64 a0_1] 47 (0, 0)) of_lies hb); have n1_ := Az (below_step (low HB) hb); have n2_ := Az (hbox); have n3_ := Az ((by rw [hg]; exact (below_size (low HB)) : w.heap.size ≤ gb173)); have n4_ := Az ((by rw [hg]; exact (below_size (low HB)) : w.heap.size ≤ gb173)); have n5_ := Az ((by rw [hg]; exact Nat.ne_of_lt (blk_lt (g := gb172) (o := .cells #[.int .u64 a0_0, .int .u64 a0_1] 47 (0, 0)) of_lies) : gb172 ≠ gb173)); have n6_ := Az ((by rw [hg]; exact Nat.ne_of_gt (blk_lt (g := gb172) (o := .cells #[.int .u64 a0_0, .int .u64 a0_1] 47 (0, 0)) of_lies) : gb173 ≠ gb172)); clear BK172; clear HB; have BK172 := n0_; have HB := n1_; have BK173 := n2_; have GW173 := n3_; have GE173 := n4_; have NB172_173 := n5_; have NB173_172 := n6_; clear n0_ n1_ n2_ n3_ n4_ n5_ n6_; clear hb hbox hg) | ((with_reducible refine gate_dst (N := 4) rfl ?_); refine box_event ?hg (N := 4) ?hd (cs := #[.int .u64 0, .int .u64 0]) (t := 47) ?hr ?_; (case hd => rfl); (case hg => rfl); (case hr => first | (go_simp; done) | (go_simp; rfl)); intro gb174 hg w6 hbox hb; have n0_ := Az (blk_below (g := gb172) (o := .cells #[.int .u64 a0_0, .int .u64 a0_1] 47 (0, 0)) of_lies hb); have n1_ := Az (blk_below (g := gb173) (o := .cells #[.int .u64 a1_0, .int .u64 a1_1] 47 (0, 0)) of_lies hb); have n2_ := Az (below_step (low HB) hb); have n3_ := Az (hbox); have n4_ := Az ((by rw [hg]; exact (below_size (low HB)) : w.heap.size ≤ gb174)); have n5_ := Az ((by rw [hg]; exact (below_size (low HB)) : w.heap.size ≤ gb174)); have n6_ := Az ((by rw [hg]; exact Nat.ne_of_lt (blk_lt (g := gb172) (o := .cells #[.int .u64 a0_0, .int .u64 a0_1] 47 (0, 0)) of_lies) : gb172 ≠ gb174)); have n7_ := Az ((by rw [hg]; exact Nat.ne_of_gt (blk_lt (g := gb172) (o := .cells #[.int .u64 a0_0, .int .u64 a0_1] 47 (0, 0)) of_lies) : gb174 ≠ gb172)); have n8_ := Az ((by rw [hg]; exact Nat.ne_of_lt (blk_lt (g := gb173) (o := .cells #[.int .u64 a1_0, .int .u64 a1_1] 47 (0, 0)) of_lies) : gb173 ≠ gb174)); have n9_ := Az ((by rw [hg]; exact Nat.ne_of_gt (blk_lt (g := gb173) (o := .cells #[.int .u64 a1_0, .int .u64 a1_1] 47 (0, 0)) of_lies) : gb174 ≠ gb173)); clear BK172; clear BK173; clear HB; have BK172 := n0_; have BK173 := n1_; have HB := n2_; have BK174 := n3_; have GW174 := n4_; have GE174 := n5_; have NB172_174 := n6_; have NB174_172 := n7_; have NB173_174 := n8_; have NB174_173 := n9_; clear n0_ n1_ n2_ n3_ n4_ n5_ n6_ n7_ n8_ n9_; clear hb hbox hg)); go_upto_region 1 with (first | ((with_reducible refine gate_dst (N := 2) rfl ?_); refine box_event ?hg (N := 2) ?hd (cs := #[.int .u64 a0_0, .int .u64 a0_1]) (t := 47) ?hr ?_; (case hd => rfl); (case hg => rfl); (case hr => first | (go_simp; done) | (go_simp; rfl)); intro gb172 hg w4 hbox hb; have n0_ := Az (below_step (low HB) hb); have n1_ := Az (hbox); have n2_ := Az ((by rw [hg]; exact (below_size (low HB)) : w.heap.size ≤ gb172)); have n3_ := Az ((by rw [hg]; exact (below_size (low HB)) : w.heap.size ≤ gb172)); clear HB; have HB := n0_; have BK172 := n1_; have GW172 := n2_; have GE172 := n3_; clear n0_ n1_ n2_ n3_; clear hb hbox hg) | ((with_reducible refine gate_dst (N := 3) rfl ?_); refine box_event ?hg (N := 3) ?hd (cs := #[.int .u64 a1_0, .int .u64 a1_1]) (t := 47) ?hr ?_; (case hd => rfl); (case hg => rfl); (case hr => first | (go_simp; done) | (go_simp; rfl)); intro gb173 hg w5 hbox hb; have n0_ := Az (blk_below (g := gb172) (o := .cells #[.int .u64 a0_0, .int .u64 a0_1] 47 (0, 0)) of_lies hb); have n1_ := Az (below_step (low HB) hb); have n2_ := Az (hbox); have n3_ := Az ((by rw [hg]; exact (below_size (low HB)) : w.heap.size ≤ gb173)); have n4_ := Az ((by rw [hg]; exact (below_size (low HB)) : w.heap.size ≤ gb173)); have n5_ := Az ((by rw [hg]; exact Nat.ne_of_lt (blk_lt (g := gb172) (o := .cells #[.int .u64 a0_0, .int .u64 a0_1] 47 (0, 0)) of_lies) : gb172 ≠ gb173)); have n6_ := Az ((by rw [hg]; exact Nat.ne_of_gt (blk_lt (g := gb172) (o := .cells #[.int .u64 a0_0, .int .u64 a0_1] 47 (0, 0)) of_lies) : gb173 ≠ gb172)); clear BK172; clear HB; have BK172 := n0_; have HB := n1_; have BK173 := n2_; have GW173 := n3_; have GE173 := n4_; have NB172_173 := n5_; have NB173_172 := n6_; clear n0_ n1_ n2_ n3_ n4_ n5_ n6_; clear hb hbox hg) | ((with_reducible refine gate_dst (N := 4) rfl ?_); refine box_event ?hg (N := 4) ?hd (cs := #[.int .u64 0, .int .u64 0]) (t := 47) ?hr ?_; (case hd => rfl); (case hg => rfl); (case hr => first | (go_simp; done) | (go_simp; rfl)); intro gb174 hg w6 hbox hb; have n0_ := Az (blk_below (g := gb172) (o := .cells #[.int .u64 a0_0, .int .u64 a0_1] 47 (0, 0)) of_lies hb); have n1_ := Az (blk_below (g := gb173) (o := .cells #[.int .u64 a1_0, .int .u64 a1_1] 47 (0, 0)) of_lies hb); have n2_ := Az (below_step (low HB) hb); have n3_ := Az (hbox); have n4_ := Az ((by rw [hg]; exact (below_size (low HB)) : w.heap.size ≤ gb174)); have n5_ := Az ((by rw [hg]; exact (below_size (low HB)) : w.heap.size ≤ gb174)); have n6_ := Az ((by rw [hg]; exact Nat.ne_of_lt (blk_lt (g := gb172) (o := .cells #[.int .u64 a0_0, .int .u64 a0_1] 47 (0, 0)) of_lies) : gb172 ≠ gb174)); have n7_ := Az ((by rw [hg]; exact Nat.ne_of_gt (blk_lt (g := gb172) (o := .cells #[.int .u64 a0_0, .int .u64 a0_1] 47 (0, 0)) of_lies) : gb174 ≠ gb172)); have n8_ := Az ((by rw [hg]; exact Nat.ne_of_lt (blk_lt (g := gb173) (o := .cells #[.int .u64 a1_0, .int .u64 a1_1] 47 (0, 0)) of_lies) : gb173 ≠ gb174)); have n9_ := Az ((by rw [hg]; exact Nat.ne_of_gt (blk_lt (g := gb173) (o := .cells #[.int .u64 a1_0, .int .u64 a1_1] 47 (0, 0)) of_lies) : gb174 ≠ gb173)); clear BK172; clear BK173; clear HB; have BK172 := n0_; have BK173 := n1_; have HB := n2_; have BK174 := n3_; have GW174 := n4_; have GE174 := n5_; have NB172_174 := n6_; have NB174_172 := n7_; have NB173_174 := n8_; have NB174_173 := n9_; clear n0_ n1_ n2_ n3_ n4_ n5_ n6_ n7_ n8_ n9_; clear hb hbox hg)))
 (try simp only [Act.put, List.setIfInBounds_toArray, List.set_cons_zero, List.set_cons_succ])
 go_cut [28] (fun v28 wc => ∃ (kq : Nat) (x28_2 : Bool), v28 = .bool x28_2 ∧ Aside0 (joustref32_Sum.j0 kq x28_2 a0_0 a0_1 a1_0 a1_1 = some (r1, r2, r3)) ∧ Aside0 (kq ≤ k) ∧ Aside0 (wc.heap[gb172]? = some (.cells #[.int .u64 a0_0, .int .u64 a0_1] 47 (0, 0))) ∧ Aside0 (wc.heap[gb173]? = some (.cells #[.int .u64 a1_0, .int .u64 a1_1] 47 (0, 0))) ∧ Aside0 (wc.heap[gb174]? = some (.cells #[.int .u64 0, .int .u64 0] 47 (0, 0))) ∧ Aside0 (Below w.heap.size w wc))
 case first =>
  have H := HC3.out
  clear HC3
  replace H := Option.bind_eq_some_iff.mp H
  obtain ⟨t175, A70, H⟩ := H
  replace H : (if t175 = true then ((joustref32_May.f k a1_0 a1_1).bind fun t176 => (joustref32_Sum.j0 k (!t176) a0_0 a0_1 a1_0 a1_1)) else (joustref32_Sum.j0 k true a0_0 a0_1 a1_0 a1_1)) = some (r1, r2, r3) := H
  have A7 := Az A70
  clear A70
  by_cases c8 : t175 = true
  ·
   subst c8
   have H1 : ((joustref32_May.f k a1_0 a1_1).bind fun t176 => (joustref32_Sum.j0 k (!t176) a0_0 a0_1 a1_0 a1_1)) = some (r1, r2, r3) := by rw [if_pos rfl] at H; exact H
   clear H
   have H := H1
   clear H1
   replace H := Option.bind_eq_some_iff.mp H
   obtain ⟨t176, A90, H⟩ := H
   replace H : (joustref32_Sum.j0 k (!t176) a0_0 a0_1 a1_0 a1_1) = some (r1, r2, r3) := H
   have A9 := Az A90
   clear A90
   have H' := Az H
   clear H
   have hnb10 := NB172_173.out
   have hnc10 := NB173_172.out
   have hnb11 := NB172_174.out
   have hnc11 := NB174_172.out
   have hcz12_0 : w6.cell? ⟨gb172, 0, none⟩ = some (.int .u64 a0_0) := (blk_cell BK172.out 0).trans rfl
   have hcz12_1 : w6.cell? ⟨gb172, 1, none⟩ = some (.int .u64 a0_1) := (blk_cell BK172.out 1).trans rfl
   have hfz12_0 := blk_frozen BK172.out 0
   have hfz12_1 := blk_frozen BK172.out 1
   go_wp2_with (first | (go_at_call 41; (with_reducible refine (joustref32_May.calls k a0_0 a0_1 true _ A7.out).mono ?_); rintro e w13 ⟨rfl, hb⟩; have n0_ := Az (blk_below (g := gb172) (o := .cells #[.int .u64 a0_0, .int .u64 a0_1] 47 (0, 0)) of_lies hb); have n1_ := Az (blk_below (g := gb173) (o := .cells #[.int .u64 a1_0, .int .u64 a1_1] 47 (0, 0)) of_lies hb); have n2_ := Az (blk_below (g := gb174) (o := .cells #[.int .u64 0, .int .u64 0] 47 (0, 0)) of_lies hb); have n3_ := Az (below_step (low HB) hb); clear BK172; clear BK173; clear BK174; clear HB; have BK172 := n0_; have BK173 := n1_; have BK174 := n2_; have HB := n3_; clear n0_ n1_ n2_ n3_; (try clear hb); (try clear hb2); (try clear hk); (try clear hi); have hnb14 := NB173_174.out; have hnc14 := NB174_173.out; obtain ⟨hcz15_0, hcz15_1, hfz15_0, hfz15_1⟩ := cells2 BK173.out) | (go_at_call 41; (with_reducible refine (joustref32_May.calls k a1_0 a1_1 t176 _ A9.out).mono ?_); rintro e w16 ⟨rfl, hb⟩; have n0_ := Az (blk_below (g := gb172) (o := .cells #[.int .u64 a0_0, .int .u64 a0_1] 47 (0, 0)) of_lies hb); have n1_ := Az (blk_below (g := gb173) (o := .cells #[.int .u64 a1_0, .int .u64 a1_1] 47 (0, 0)) of_lies hb); have n2_ := Az (blk_below (g := gb174) (o := .cells #[.int .u64 0, .int .u64 0] 47 (0, 0)) of_lies hb); have n3_ := Az (below_step (low HB) hb); clear BK172; clear BK173; clear BK174; clear HB; have BK172 := n0_; have BK173 := n1_; have BK174 := n2_; have HB := n3_; clear n0_ n1_ n2_ n3_; (try clear hb); (try clear hb2); (try clear hk); (try clear hi)))
   repeat (go_quiet (first | (go_at_call 41; (with_reducible refine (joustref32_May.calls k a0_0 a0_1 true _ A7.out).mono ?_); rintro e w13 ⟨rfl, hb⟩; have n0_ := Az (blk_below (g := gb172) (o := .cells #[.int .u64 a0_0, .int .u64 a0_1] 47 (0, 0)) of_lies hb); have n1_ := Az (blk_below (g := gb173) (o := .cells #[.int .u64 a1_0, .int .u64 a1_1] 47 (0, 0)) of_lies hb); have n2_ := Az (blk_below (g := gb174) (o := .cells #[.int .u64 0, .int .u64 0] 47 (0, 0)) of_lies hb); have n3_ := Az (below_step (low HB) hb); clear BK172; clear BK173; clear BK174; clear HB; have BK172 := n0_; have BK173 := n1_; have BK174 := n2_; have HB := n3_; clear n0_ n1_ n2_ n3_; (try clear hb); (try clear hb2); (try clear hk); (try clear hi); have hnb14 := NB173_174.out; have hnc14 := NB174_173.out; obtain ⟨hcz15_0, hcz15_1, hfz15_0, hfz15_1⟩ := cells2 BK173.out) | (go_at_call 41; (with_reducible refine (joustref32_May.calls k a1_0 a1_1 t176 _ A9.out).mono ?_); rintro e w16 ⟨rfl, hb⟩; have n0_ := Az (blk_below (g := gb172) (o := .cells #[.int .u64 a0_0, .int .u64 a0_1] 47 (0, 0)) of_lies hb); have n1_ := Az (blk_below (g := gb173) (o := .cells #[.int .u64 a1_0, .int .u64 a1_1] 47 (0, 0)) of_lies hb); have n2_ := Az (blk_below (g := gb174) (o := .cells #[.int .u64 0, .int .u64 0] 47 (0, 0)) of_lies hb); have n3_ := Az (below_step (low HB) hb); clear BK172; clear BK173; clear BK174; clear HB; have BK172 := n0_; have BK173 := n1_; have BK174 := n2_; have HB := n3_; clear n0_ n1_ n2_ n3_; (try clear hb); (try clear hb2); (try clear hk); (try clear hi))); try go_wp2_with (first | (go_at_call 41; (with_reducible refine (joustref32_May.calls k a0_0 a0_1 true _ A7.out).mono ?_); rintro e w13 ⟨rfl, hb⟩; have n0_ := Az (blk_below (g := gb172) (o := .cells #[.int .u64 a0_0, .int .u64 a0_1] 47 (0, 0)) of_lies hb); have n1_ := Az (blk_below (g := gb173) (o := .cells #[.int .u64 a1_0, .int .u64 a1_1] 47 (0, 0)) of_lies hb); have n2_ := Az (blk_below (g := gb174) (o := .cells #[.int .u64 0, .int .u64 0] 47 (0, 0)) of_lies hb); have n3_ := Az (below_step (low HB) hb); clear BK172; clear BK173; clear BK174; clear HB; have BK172 := n0_; have BK173 := n1_; have BK174 := n2_; have HB := n3_; clear n0_ n1_ n2_ n3_; (try clear hb); (try clear hb2); (try clear hk); (try clear hi); have hnb14 := NB173_174.out; have hnc14 := NB174_173.out; obtain ⟨hcz15_0, hcz15_1, hfz15_0, hfz15_1⟩ := cells2 BK173.out) | (go_at_call 41; (with_reducible refine (joustref32_May.calls k a1_0 a1_1 t176 _ A9.out).mono ?_); rintro e w16 ⟨rfl, hb⟩; have n0_ := Az (blk_below (g := gb172) (o := .cells #[.int .u64 a0_0, .int .u64 a0_1] 47 (0, 0)) of_lies hb); have n1_ := Az (blk_below (g := gb173) (o := .cells #[.int .u64 a1_0, .int .u64 a1_1] 47 (0, 0)) of_lies hb); have n2_ := Az (blk_below (g := gb174) (o := .cells #[.int .u64 0, .int .u64 0] 47 (0, 0)) of_lies hb); have n3_ := Az (below_step (low HB) hb); clear BK172; clear BK173; clear BK174; clear HB; have BK172 := n0_; have BK173 := n1_; have BK174 := n2_; have HB := n3_; clear n0_ n1_ n2_ n3_; (try clear hb); (try clear hb2); (try clear hk); (try clear hi))))
   go_meet
   case rel => exact ⟨_, (!t176), (by first | rfl | (simp; done) | (simp [*]; done)), H', ⟨by first | omega | exact Nat.le_refl _⟩, ⟨of_lies⟩, ⟨of_lies⟩, ⟨of_lies⟩, ⟨low HB⟩⟩
  ·
   replace c8 := Bool.eq_false_iff.mpr c8
   subst c8
   have H1 : (joustref32_Sum.j0 k true a0_0 a0_1 a1_0 a1_1) = some (r1, r2, r3) := by rw [if_neg (show ¬ (false = true) by decide)] at H; exact H
   clear H
   have H := H1
   clear H1
   have H' := Az H
   clear H
   have hnb17 := NB172_173.out
   have hnc17 := NB173_172.out
   have hnb18 := NB172_174.out
   have hnc18 := NB174_172.out
   have hcz19_0 : w6.cell? ⟨gb172, 0, none⟩ = some (.int .u64 a0_0) := (blk_cell BK172.out 0).trans rfl
   have hcz19_1 : w6.cell? ⟨gb172, 1, none⟩ = some (.int .u64 a0_1) := (blk_cell BK172.out 1).trans rfl
   have hfz19_0 := blk_frozen BK172.out 0
   have hfz19_1 := blk_frozen BK172.out 1
   go_wp2_with (first | (go_at_call 41; (with_reducible refine (joustref32_May.calls k a0_0 a0_1 false _ A7.out).mono ?_); rintro e w20 ⟨rfl, hb⟩; have n0_ := Az (blk_below (g := gb172) (o := .cells #[.int .u64 a0_0, .int .u64 a0_1] 47 (0, 0)) of_lies hb); have n1_ := Az (blk_below (g := gb173) (o := .cells #[.int .u64 a1_0, .int .u64 a1_1] 47 (0, 0)) of_lies hb); have n2_ := Az (blk_below (g := gb174) (o := .cells #[.int .u64 0, .int .u64 0] 47 (0, 0)) of_lies hb); have n3_ := Az (below_step (low HB) hb); clear BK172; clear BK173; clear BK174; clear HB; have BK172 := n0_; have BK173 := n1_; have BK174 := n2_; have HB := n3_; clear n0_ n1_ n2_ n3_; (try clear hb); (try clear hb2); (try clear hk); (try clear hi)))
   repeat (go_quiet (first | (go_at_call 41; (with_reducible refine (joustref32_May.calls k a0_0 a0_1 false _ A7.out).mono ?_); rintro e w20 ⟨rfl, hb⟩; have n0_ := Az (blk_below (g := gb172) (o := .cells #[.int .u64 a0_0, .int .u64 a0_1] 47 (0, 0)) of_lies hb); have n1_ := Az (blk_below (g := gb173) (o := .cells #[.int .u64 a1_0, .int .u64 a1_1] 47 (0, 0)) of_lies hb); have n2_ := Az (blk_below (g := gb174) (o := .cells #[.int .u64 0, .int .u64 0] 47 (0, 0)) of_lies hb); have n3_ := Az (below_step (low HB) hb); clear BK172; clear BK173; clear BK174; clear HB; have BK172 := n0_; have BK173 := n1_; have BK174 := n2_; have HB := n3_; clear n0_ n1_ n2_ n3_; (try clear hb); (try clear hb2); (try clear hk); (try clear hi))); try go_wp2_with (first | (go_at_call 41; (with_reducible refine (joustref32_May.calls k a0_0 a0_1 false _ A7.out).mono ?_); rintro e w20 ⟨rfl, hb⟩; have n0_ := Az (blk_below (g := gb172) (o := .cells #[.int .u64 a0_0, .int .u64 a0_1] 47 (0, 0)) of_lies hb); have n1_ := Az (blk_below (g := gb173) (o := .cells #[.int .u64 a1_0, .int .u64 a1_1] 47 (0, 0)) of_lies hb); have n2_ := Az (blk_below (g := gb174) (o := .cells #[.int .u64 0, .int .u64 0] 47 (0, 0)) of_lies hb); have n3_ := Az (below_step (low HB) hb); clear BK172; clear BK173; clear BK174; clear HB; have BK172 := n0_; have BK173 := n1_; have BK174 := n2_; have HB := n3_; clear n0_ n1_ n2_ n3_; (try clear hb); (try clear hb2); (try clear hk); (try clear hi))))
   go_meet
   case rel => exact ⟨_, (true), (by first | rfl | (simp; done) | (simp [*]; done)), H', ⟨by first | omega | exact Nat.le_refl _⟩, ⟨of_lies⟩, ⟨of_lies⟩, ⟨of_lies⟩, ⟨low HB⟩⟩
 case rest =>
  clear HC3
  try clear c1
  try clear p2
  try clear c4
  try clear c8
  try clear c10
  try clear c11
  try clear c14
  try clear c17
  try clear c18
  try clear hcz12_0
  try clear hcz12_1
  try clear hcz15_0
  try clear hcz15_1
  try clear hcz19_0
  try clear hcz19_1
  try clear hfz12_0
  try clear hfz12_1
  try clear hfz15_0
  try clear hfz15_1
  try clear hfz19_0
  try clear hfz19_1
  obtain ⟨kq, x28_2, rfl, HA, HJ2, BK172, BK173, BK174, HB⟩ := hcut
  cases kq with
  | zero => exact absurd HA.out (by simp [joustref32_Sum.j0])
  | succ kj2 =>
   have H := HA.out
   clear HA
   simp only [joustref32_Sum.j0] at H
   by_cases c21 : x28_2 = true
   ·
    subst c21
    have H1 : (some (0, 0, 2)) = some (r1, r2, r3) := by rw [if_pos rfl] at H; exact H
    clear H
    have H := H1
    clear H1
    simp only [Option.some.injEq, Prod.mk.injEq] at H
    obtain ⟨rfl, rfl, rfl⟩ := H
    have hnb22 := NB174_172.out
    have hnc22 := NB172_174.out
    have hnb23 := NB174_173.out
    have hnc23 := NB173_174.out
    have hcz24_0 : wc.cell? ⟨gb174, 0, none⟩ = some (.int .u64 0) := (blk_cell BK174.out 0).trans rfl
    have hcz24_1 : wc.cell? ⟨gb174, 1, none⟩ = some (.int .u64 0) := (blk_cell BK174.out 1).trans rfl
    have hfz24_0 := blk_frozen BK174.out 0
    have hfz24_1 := blk_frozen BK174.out 1
    go_wp2
    repeat (go_quiet (fail); try go_wp2)
    refine bodyPost_ret (results_ct rfl _ _ gb174 47 #[.int .u64 0, .int .u64 0] (0, 0) _ rfl of_lies Tryd.underlying47 rfl (by kernel_rfl)) rfl ?_
    exact ⟨by first | rfl | (simp [errW_none, errW_some] <;> rfl) | (simp [*, errW_none, errW_some] <;> rfl), low HB⟩
   ·
    replace c21 := Bool.eq_false_iff.mpr c21
    subst c21
    have H1 : ((joustref32_order.f kj2 a0_0 a0_1 (IntKind.u64.wrap (a1_1 - a1_0)) a1_1).bind fun t177 => (if t177 > 0 then (some (0, 0, 3)) else ((joustref32_divisor.f kj2 a0_1 a1_1).bind fun t178 => (if t178 = 0 then (none) else ((joustref32_part.f kj2 a0_0 (IntKind.u64.wrap (Int.tdiv a1_1 t178)) t178).bind fun bt179 => ((joustref32_part.f kj2 a1_0 (IntKind.u64.wrap (Int.tdiv a0_1 t178)) t178).bind fun bt181 => (if bt179.2 ≥ (IntKind.u64.wrap (t178 - bt181.2)) then (joustref32_Sum.j1 kj2 t178 (IntKind.u64.wrap (Int.tdiv a1_1 t178)) (IntKind.u64.wrap (Int.tdiv a0_1 t178)) (IntKind.u64.wrap (bt179.2 - (IntKind.u64.wrap (t178 - bt181.2)))) a0_0 a0_1 a1_0 a1_1) else (joustref32_Sum.j1 kj2 t178 (IntKind.u64.wrap (Int.tdiv a1_1 t178)) (IntKind.u64.wrap (Int.tdiv a0_1 t178)) (IntKind.u64.wrap (bt179.2 + bt181.2)) a0_0 a0_1 a1_0 a1_1)))))))) = some (r1, r2, r3) := by rw [if_neg (show ¬ (false = true) by decide)] at H; exact H
    clear H
    have H := H1
    clear H1
    replace H := Option.bind_eq_some_iff.mp H
    obtain ⟨t177, A250, H⟩ := H
    replace H : (if t177 > 0 then (some (0, 0, 3)) else ((joustref32_divisor.f kj2 a0_1 a1_1).bind fun t178 => (if t178 = 0 then (none) else ((joustref32_part.f kj2 a0_0 (IntKind.u64.wrap (Int.tdiv a1_1 t178)) t178).bind fun bt179 => ((joustref32_part.f kj2 a1_0 (IntKind.u64.wrap (Int.tdiv a0_1 t178)) t178).bind fun bt181 => (if bt179.2 ≥ (IntKind.u64.wrap (t178 - bt181.2)) then (joustref32_Sum.j1 kj2 t178 (IntKind.u64.wrap (Int.tdiv a1_1 t178)) (IntKind.u64.wrap (Int.tdiv a0_1 t178)) (IntKind.u64.wrap (bt179.2 - (IntKind.u64.wrap (t178 - bt181.2)))) a0_0 a0_1 a1_0 a1_1) else (joustref32_Sum.j1 kj2 t178 (IntKind.u64.wrap (Int.tdiv a1_1 t178)) (IntKind.u64.wrap (Int.tdiv a0_1 t178)) (IntKind.u64.wrap (bt179.2 + bt181.2)) a0_0 a0_1 a1_0 a1_1))))))) = some (r1, r2, r3) := H
    have A25 := Az A250
    clear A250
    by_cases c26 : t177 > 0
    ·
     rw [if_pos c26] at H
     have c26b0 : decide (0 < t177) = true := decide_eq_true c26
     clear c26
     simp only [Option.some.injEq, Prod.mk.injEq] at H
     obtain ⟨rfl, rfl, rfl⟩ := H
     have hnb27 := NB172_173.out
     have hnc27 := NB173_172.out
     have hnb28 := NB172_174.out
     have hnc28 := NB174_172.out
     have hcz29_0 : wc.cell? ⟨gb172, 0, none⟩ = some (.int .u64 a0_0) := (blk_cell BK172.out 0).trans rfl
     have hcz29_1 : wc.cell? ⟨gb172, 1, none⟩ = some (.int .u64 a0_1) := (blk_cell BK172.out 1).trans rfl
     have hfz29_0 := blk_frozen BK172.out 0
     have hfz29_1 := blk_frozen BK172.out 1
     have hnb30 := NB173_174.out
     have hnc30 := NB174_173.out
     have hcz31_0 : wc.cell? ⟨gb173, 0, none⟩ = some (.int .u64 a1_0) := (blk_cell BK173.out 0).trans rfl
     have hcz31_1 : wc.cell? ⟨gb173, 1, none⟩ = some (.int .u64 a1_1) := (blk_cell BK173.out 1).trans rfl
     have hfz31_0 := blk_frozen BK173.out 0
     have hfz31_1 := blk_frozen BK173.out 1
     go_wp2_with (first | (go_at_call 72; (with_reducible refine (joustref32_order.calls kj2 a0_0 a0_1 (IntKind.u64.wrap (a1_1 - a1_0)) a1_1 t177 _ A25.out).mono ?_); rintro e w32 ⟨rfl, hb⟩; have n0_ := Az (blk_below (g := gb172) (o := .cells #[.int .u64 a0_0, .int .u64 a0_1] 47 (0, 0)) of_lies hb); have n1_ := Az (blk_below (g := gb173) (o := .cells #[.int .u64 a1_0, .int .u64 a1_1] 47 (0, 0)) of_lies hb); have n2_ := Az (blk_below (g := gb174) (o := .cells #[.int .u64 0, .int .u64 0] 47 (0, 0)) of_lies hb); have n3_ := Az (below_step (low HB) hb); clear BK172; clear BK173; clear BK174; clear HB; have BK172 := n0_; have BK173 := n1_; have BK174 := n2_; have HB := n3_; clear n0_ n1_ n2_ n3_; (try clear hb); (try clear hb2); (try clear hk); (try clear hi); obtain ⟨hcz33_0, hcz33_1, hfz33_0, hfz33_1⟩ := cells2 BK174.out))
     repeat (go_quiet (first | (go_at_call 72; (with_reducible refine (joustref32_order.calls kj2 a0_0 a0_1 (IntKind.u64.wrap (a1_1 - a1_0)) a1_1 t177 _ A25.out).mono ?_); rintro e w32 ⟨rfl, hb⟩; have n0_ := Az (blk_below (g := gb172) (o := .cells #[.int .u64 a0_0, .int .u64 a0_1] 47 (0, 0)) of_lies hb); have n1_ := Az (blk_below (g := gb173) (o := .cells #[.int .u64 a1_0, .int .u64 a1_1] 47 (0, 0)) of_lies hb); have n2_ := Az (blk_below (g := gb174) (o := .cells #[.int .u64 0, .int .u64 0] 47 (0, 0)) of_lies hb); have n3_ := Az (below_step (low HB) hb); clear BK172; clear BK173; clear BK174; clear HB; have BK172 := n0_; have BK173 := n1_; have BK174 := n2_; have HB := n3_; clear n0_ n1_ n2_ n3_; (try clear hb); (try clear hb2); (try clear hk); (try clear hi); obtain ⟨hcz33_0, hcz33_1, hfz33_0, hfz33_1⟩ := cells2 BK174.out)); try go_wp2_with (first | (go_at_call 72; (with_reducible refine (joustref32_order.calls kj2 a0_0 a0_1 (IntKind.u64.wrap (a1_1 - a1_0)) a1_1 t177 _ A25.out).mono ?_); rintro e w32 ⟨rfl, hb⟩; have n0_ := Az (blk_below (g := gb172) (o := .cells #[.int .u64 a0_0, .int .u64 a0_1] 47 (0, 0)) of_lies hb); have n1_ := Az (blk_below (g := gb173) (o := .cells #[.int .u64 a1_0, .int .u64 a1_1] 47 (0, 0)) of_lies hb); have n2_ := Az (blk_below (g := gb174) (o := .cells #[.int .u64 0, .int .u64 0] 47 (0, 0)) of_lies hb); have n3_ := Az (below_step (low HB) hb); clear BK172; clear BK173; clear BK174; clear HB; have BK172 := n0_; have BK173 := n1_; have BK174 := n2_; have HB := n3_; clear n0_ n1_ n2_ n3_; (try clear hb); (try clear hb2); (try clear hk); (try clear hi); obtain ⟨hcz33_0, hcz33_1, hfz33_0, hfz33_1⟩ := cells2 BK174.out)))
     refine bodyPost_ret (results_ct rfl _ _ gb174 47 #[.int .u64 0, .int .u64 0] (0, 0) _ rfl of_lies Tryd.underlying47 rfl (by kernel_rfl)) rfl ?_
     exact ⟨by first | rfl | (simp [errW_none, errW_some] <;> rfl) | (simp [*, errW_none, errW_some] <;> rfl), low HB⟩
    ·
     rw [if_neg c26] at H
     have c26b0 : decide (0 < t177) = false := decide_eq_false c26
     clear c26
     replace H := Option.bind_eq_some_iff.mp H
     obtain ⟨t178, A340, H⟩ := H
     replace H : (if t178 = 0 then (none) else ((joustref32_part.f kj2 a0_0 (IntKind.u64.wrap (Int.tdiv a1_1 t178)) t178).bind fun bt179 => ((joustref32_part.f kj2 a1_0 (IntKind.u64.wrap (Int.tdiv a0_1 t178)) t178).bind fun bt181 => (if bt179.2 ≥ (IntKind.u64.wrap (t178 - bt181.2)) then (joustref32_Sum.j1 kj2 t178 (IntKind.u64.wrap (Int.tdiv a1_1 t178)) (IntKind.u64.wrap (Int.tdiv a0_1 t178)) (IntKind.u64.wrap (bt179.2 - (IntKind.u64.wrap (t178 - bt181.2)))) a0_0 a0_1 a1_0 a1_1) else (joustref32_Sum.j1 kj2 t178 (IntKind.u64.wrap (Int.tdiv a1_1 t178)) (IntKind.u64.wrap (Int.tdiv a0_1 t178)) (IntKind.u64.wrap (bt179.2 + bt181.2)) a0_0 a0_1 a1_0 a1_1))))) = some (r1, r2, r3) := H
     have A34 := Az A340
     clear A340
     by_cases c35 : t178 = 0
     ·
      rw [if_pos c35] at H
      exact absurd H (by simp)
     ·
      rw [if_neg c35] at H
      have c35b0 : (t178 == 0) = false := beq_eq_false_iff_ne.mpr c35
      have c35b1 : (t178 != 0) = true := bne_iff_ne.mpr c35
      replace H := Option.bind_eq_some_iff.mp H
      obtain ⟨⟨t179, t180⟩, A360, H⟩ := H
      replace H : ((joustref32_part.f kj2 a1_0 (IntKind.u64.wrap (Int.tdiv a0_1 t178)) t178).bind fun bt181 => (if t180 ≥ (IntKind.u64.wrap (t178 - bt181.2)) then (joustref32_Sum.j1 kj2 t178 (IntKind.u64.wrap (Int.tdiv a1_1 t178)) (IntKind.u64.wrap (Int.tdiv a0_1 t178)) (IntKind.u64.wrap (t180 - (IntKind.u64.wrap (t178 - bt181.2)))) a0_0 a0_1 a1_0 a1_1) else (joustref32_Sum.j1 kj2 t178 (IntKind.u64.wrap (Int.tdiv a1_1 t178)) (IntKind.u64.wrap (Int.tdiv a0_1 t178)) (IntKind.u64.wrap (t180 + bt181.2)) a0_0 a0_1 a1_0 a1_1))) = some (r1, r2, r3) := H
      have A36 := Az A360
      clear A360
      replace H := Option.bind_eq_some_iff.mp H
      obtain ⟨⟨t181, t182⟩, A370, H⟩ := H
      replace H : (if t180 ≥ (IntKind.u64.wrap (t178 - t182)) then (joustref32_Sum.j1 kj2 t178 (IntKind.u64.wrap (Int.tdiv a1_1 t178)) (IntKind.u64.wrap (Int.tdiv a0_1 t178)) (IntKind.u64.wrap (t180 - (IntKind.u64.wrap (t178 - t182)))) a0_0 a0_1 a1_0 a1_1) else (joustref32_Sum.j1 kj2 t178 (IntKind.u64.wrap (Int.tdiv a1_1 t178)) (IntKind.u64.wrap (Int.tdiv a0_1 t178)) (IntKind.u64.wrap (t180 + t182)) a0_0 a0_1 a1_0 a1_1)) = some (r1, r2, r3) := H
      have A37 := Az A370
      clear A370
      have HC38 := Az H
      clear H
      have hnb39 := NB172_173.out
      have hnc39 := NB173_172.out
      have hnb40 := NB172_174.out
      have hnc40 := NB174_172.out
      have hcz41_0 : wc.cell? ⟨gb172, 0, none⟩ = some (.int .u64 a0_0) := (blk_cell BK172.out 0).trans rfl
      have hcz41_1 : wc.cell? ⟨gb172, 1, none⟩ = some (.int .u64 a0_1) := (blk_cell BK172.out 1).trans rfl
      have hfz41_0 := blk_frozen BK172.out 0
      have hfz41_1 := blk_frozen BK172.out 1
      have hnb42 := NB173_174.out
      have hnc42 := NB174_173.out
      have hcz43_0 : wc.cell? ⟨gb173, 0, none⟩ = some (.int .u64 a1_0) := (blk_cell BK173.out 0).trans rfl
      have hcz43_1 : wc.cell? ⟨gb173, 1, none⟩ = some (.int .u64 a1_1) := (blk_cell BK173.out 1).trans rfl
      have hfz43_0 := blk_frozen BK173.out 0
      have hfz43_1 := blk_frozen BK173.out 1
      go_upto_if 75 with (first | (go_at_call 72; (with_reducible refine (joustref32_order.calls kj2 a0_0 a0_1 (IntKind.u64.wrap (a1_1 - a1_0)) a1_1 t177 _ A25.out).mono ?_); rintro e w44 ⟨rfl, hb⟩; have n0_ := Az (blk_below (g := gb172) (o := .cells #[.int .u64 a0_0, .int .u64 a0_1] 47 (0, 0)) of_lies hb); have n1_ := Az (blk_below (g := gb173) (o := .cells #[.int .u64 a1_0, .int .u64 a1_1] 47 (0, 0)) of_lies hb); have n2_ := Az (blk_below (g := gb174) (o := .cells #[.int .u64 0, .int .u64 0] 47 (0, 0)) of_lies hb); have n3_ := Az (below_step (low HB) hb); clear BK172; clear BK173; clear BK174; clear HB; have BK172 := n0_; have BK173 := n1_; have BK174 := n2_; have HB := n3_; clear n0_ n1_ n2_ n3_; (try clear hb); (try clear hb2); (try clear hk); (try clear hi); obtain ⟨hcz45_0, hcz45_1, hfz45_0, hfz45_1⟩ := cells2 BK172.out; obtain ⟨hcz46_0, hcz46_1, hfz46_0, hfz46_1⟩ := cells2 BK173.out) | (go_at_call 68; (with_reducible refine (joustref32_divisor.calls kj2 a0_1 a1_1 t178 _ A34.out).mono ?_); rintro e w' ⟨rfl, ⟨nd, rfl⟩⟩; (try first | exact ⟨rfl, _, World.drewN_drewN _ _ _⟩ | exact ⟨rfl, _, Eq.trans (World.drewN_drewN _ _ _) (congrArg (World.drewN _) (Nat.add_assoc _ _ _))⟩)) | (go_at_call 70; (with_reducible refine (joustref32_part.calls kj2 a0_0 (IntKind.u64.wrap (Int.tdiv a1_1 t178)) t178 t179 t180 _ A36.out).mono ?_); rintro e w' ⟨rfl, ⟨nd, rfl⟩⟩; (try first | exact ⟨rfl, _, World.drewN_drewN _ _ _⟩ | exact ⟨rfl, _, Eq.trans (World.drewN_drewN _ _ _) (congrArg (World.drewN _) (Nat.add_assoc _ _ _))⟩)) | (go_at_call 70; (with_reducible refine (joustref32_part.calls kj2 a1_0 (IntKind.u64.wrap (Int.tdiv a0_1 t178)) t178 t181 t182 _ A37.out).mono ?_); rintro e w' ⟨rfl, ⟨nd, rfl⟩⟩; (try first | exact ⟨rfl, _, World.drewN_drewN _ _ _⟩ | exact ⟨rfl, _, Eq.trans (World.drewN_drewN _ _ _) (congrArg (World.drewN _) (Nat.add_assoc _ _ _))⟩)))
      repeat (go_quiet (first | (go_at_call 72; (with_reducible refine (joustref32_order.calls kj2 a0_0 a0_1 (IntKind.u64.wrap (a1_1 - a1_0)) a1_1 t177 _ A25.out).mono ?_); rintro e w44 ⟨rfl, hb⟩; have n0_ := Az (blk_below (g := gb172) (o := .cells #[.int .u64 a0_0, .int .u64 a0_1] 47 (0, 0)) of_lies hb); have n1_ := Az (blk_below (g := gb173) (o := .cells #[.int .u64 a1_0, .int .u64 a1_1] 47 (0, 0)) of_lies hb); have n2_ := Az (blk_below (g := gb174) (o := .cells #[.int .u64 0, .int .u64 0] 47 (0, 0)) of_lies hb); have n3_ := Az (below_step (low HB) hb); clear BK172; clear BK173; clear BK174; clear HB; have BK172 := n0_; have BK173 := n1_; have BK174 := n2_; have HB := n3_; clear n0_ n1_ n2_ n3_; (try clear hb); (try clear hb2); (try clear hk); (try clear hi); obtain ⟨hcz45_0, hcz45_1, hfz45_0, hfz45_1⟩ := cells2 BK172.out; obtain ⟨hcz46_0, hcz46_1, hfz46_0, hfz46_1⟩ := cells2 BK173.out) | (go_at_call 68; (with_reducible refine (joustref32_divisor.calls kj2 a0_1 a1_1 t178 _ A34.out).mono ?_); rintro e w' ⟨rfl, ⟨nd, rfl⟩⟩; (try first | exact ⟨rfl, _, World.drewN_drewN _ _ _⟩ | exact ⟨rfl, _, Eq.trans (World.drewN_drewN _ _ _) (congrArg (World.drewN _) (Nat.add_assoc _ _ _))⟩)) | (go_at_call 70; (with_reducible refine (joustref32_part.calls kj2 a0_0 (IntKind.u64.wrap (Int.tdiv a1_1 t178)) t178 t179 t180 _ A36.out).mono ?_); rintro e w' ⟨rfl, ⟨nd, rfl⟩⟩; (try first | exact ⟨rfl, _, World.drewN_drewN _ _ _⟩ | exact ⟨rfl, _, Eq.trans (World.drewN_drewN _ _ _) (congrArg (World.drewN _) (Nat.add_assoc _ _ _))⟩)) | (go_at_call 70; (with_reducible refine (joustref32_part.calls kj2 a1_0 (IntKind.u64.wrap (Int.tdiv a0_1 t178)) t178 t181 t182 _ A37.out).mono ?_); rintro e w' ⟨rfl, ⟨nd, rfl⟩⟩; (try first | exact ⟨rfl, _, World.drewN_drewN _ _ _⟩ | exact ⟨rfl, _, Eq.trans (World.drewN_drewN _ _ _) (congrArg (World.drewN _) (Nat.add_assoc _ _ _))⟩))); go_upto_if 75 with (first | (go_at_call 72; (with_reducible refine (joustref32_order.calls kj2 a0_0 a0_1 (IntKind.u64.wrap (a1_1 - a1_0)) a1_1 t177 _ A25.out).mono ?_); rintro e w44 ⟨rfl, hb⟩; have n0_ := Az (blk_below (g := gb172) (o := .cells #[.int .u64 a0_0, .int .u64 a0_1] 47 (0, 0)) of_lies hb); have n1_ := Az (blk_below (g := gb173) (o := .cells #[.int .u64 a1_0, .int .u64 a1_1] 47 (0, 0)) of_lies hb); have n2_ := Az (blk_below (g := gb174) (o := .cells #[.int .u64 0, .int .u64 0] 47 (0, 0)) of_lies hb); have n3_ := Az (below_step (low HB) hb); clear BK172; clear BK173; clear BK174; clear HB; have BK172 := n0_; have BK173 := n1_; have BK174 := n2_; have HB := n3_; clear n0_ n1_ n2_ n3_; (try clear hb); (try clear hb2); (try clear hk); (try clear hi); obtain ⟨hcz45_0, hcz45_1, hfz45_0, hfz45_1⟩ := cells2 BK172.out; obtain ⟨hcz46_0, hcz46_1, hfz46_0, hfz46_1⟩ := cells2 BK173.out) | (go_at_call 68; (with_reducible refine (joustref32_divisor.calls kj2 a0_1 a1_1 t178 _ A34.out).mono ?_); rintro e w' ⟨rfl, ⟨nd, rfl⟩⟩; (try first | exact ⟨rfl, _, World.drewN_drewN _ _ _⟩ | exact ⟨rfl, _, Eq.trans (World.drewN_drewN _ _ _) (congrArg (World.drewN _) (Nat.add_assoc _ _ _))⟩)) | (go_at_call 70; (with_reducible refine (joustref32_part.calls kj2 a0_0 (IntKind.u64.wrap (Int.tdiv a1_1 t178)) t178 t179 t180 _ A36.out).mono ?_); rintro e w' ⟨rfl, ⟨nd, rfl⟩⟩; (try first | exact ⟨rfl, _, World.drewN_drewN _ _ _⟩ | exact ⟨rfl, _, Eq.trans (World.drewN_drewN _ _ _) (congrArg (World.drewN _) (Nat.add_assoc _ _ _))⟩)) | (go_at_call 70; (with_reducible refine (joustref32_part.calls kj2 a1_0 (IntKind.u64.wrap (Int.tdiv a0_1 t178)) t178 t181 t182 _ A37.out).mono ?_); rintro e w' ⟨rfl, ⟨nd, rfl⟩⟩; (try first | exact ⟨rfl, _, World.drewN_drewN _ _ _⟩ | exact ⟨rfl, _, Eq.trans (World.drewN_drewN _ _ _) (congrArg (World.drewN _) (Nat.add_assoc _ _ _))⟩))))
      (try simp only [Act.put, List.setIfInBounds_toArray, List.set_cons_zero, List.set_cons_succ])
      go_cut [10] (fun v10 wc => ∃ (kq : Nat) (x10_37 : Int), v10 = .int .u64 x10_37 ∧ Aside0 (joustref32_Sum.j1 kq t178 (IntKind.u64.wrap (Int.tdiv a1_1 t178)) (IntKind.u64.wrap (Int.tdiv a0_1 t178)) x10_37 a0_0 a0_1 a1_0 a1_1 = some (r1, r2, r3)) ∧ Aside0 (kq ≤ kj2) ∧ Aside0 (wc.heap[gb172]? = some (.cells #[.int .u64 a0_0, .int .u64 a0_1] 47 (0, 0))) ∧ Aside0 (wc.heap[gb173]? = some (.cells #[.int .u64 a1_0, .int .u64 a1_1] 47 (0, 0))) ∧ Aside0 (wc.heap[gb174]? = some (.cells #[.int .u64 0, .int .u64 0] 47 (0, 0))) ∧ Aside0 (Below w.heap.size w wc))
      case first =>
       have H := HC38.out
       clear HC38
       by_cases c47 : t180 ≥ (IntKind.u64.wrap (t178 - t182))
       ·
        rw [if_pos c47] at H
        have c47b0 : decide ((IntKind.u64.wrap (t178 - t182)) ≤ t180) = true := decide_eq_true c47
        clear c47
        (first | rw [c47b0] | (simp only [i64_w, i32_w]; rw [c47b0]) | skip)
        have H' := Az H
        clear H
        go_wp2
        repeat (go_quiet (fail); try go_wp2)
        go_meet
        case rel => exact ⟨_, (IntKind.u64.wrap (t180 - (IntKind.u64.wrap (t178 - t182)))), (by first | rfl | (simp; done) | (simp [*]; done)), H', ⟨by have := HJ2.out; first | omega | exact Nat.le_refl _⟩, ⟨of_lies⟩, ⟨of_lies⟩, ⟨of_lies⟩, ⟨low HB⟩⟩
       ·
        rw [if_neg c47] at H
        have c47b0 : decide ((IntKind.u64.wrap (t178 - t182)) ≤ t180) = false := decide_eq_false c47
        clear c47
        (first | rw [c47b0] | (simp only [i64_w, i32_w]; rw [c47b0]) | skip)
        have H' := Az H
        clear H
        go_wp2
        repeat (go_quiet (fail); try go_wp2)
        go_meet
        case rel => exact ⟨_, (IntKind.u64.wrap (t180 + t182)), (by first | rfl | (simp; done) | (simp [*]; done)), H', ⟨by have := HJ2.out; first | omega | exact Nat.le_refl _⟩, ⟨of_lies⟩, ⟨of_lies⟩, ⟨of_lies⟩, ⟨low HB⟩⟩
      case rest =>
       clear HC38
       try clear c1
       try clear c2
       try clear p2
       try clear c3
       try clear c4
       try clear c8
       try clear c10
       try clear c11
       try clear c14
       try clear c17
       try clear c18
       try clear c21
       try clear c22
       try clear c23
       try clear c26
       try clear c26b0
       try clear c27
       try clear c28
       try clear c30
       try clear c35
       try clear c35b0
       try clear c35b1
       try clear c39
       try clear c40
       try clear c42
       try clear c46
       try clear c47
       try clear c47b0
       try clear hcz12_0
       try clear hcz12_1
       try clear hcz15_0
       try clear hcz15_1
       try clear hcz19_0
       try clear hcz19_1
       try clear hcz24_0
       try clear hcz24_1
       try clear hcz29_0
       try clear hcz29_1
       try clear hcz31_0
       try clear hcz31_1
       try clear hcz33_0
       try clear hcz33_1
       try clear hcz41_0
       try clear hcz41_1
       try clear hcz43_0
       try clear hcz43_1
       try clear hcz45_0
       try clear hcz45_1
       try clear hcz46_0
       try clear hcz46_1
       try clear hfz12_0
       try clear hfz12_1
       try clear hfz15_0
       try clear hfz15_1
       try clear hfz19_0
       try clear hfz19_1
       try clear hfz24_0
       try clear hfz24_1
       try clear hfz29_0
       try clear hfz29_1
       try clear hfz31_0
       try clear hfz31_1
       try clear hfz33_0
       try clear hfz33_1
       try clear hfz41_0
       try clear hfz41_1
       try clear hfz43_0
       try clear hfz43_1
       try clear hfz45_0
       try clear hfz45_1
       try clear hfz46_0
       try clear hfz46_1
       try clear p2
       obtain ⟨kq, x10_37, rfl, HA, HJ37, BK172, BK173, BK174, HB⟩ := hcut
       cases kq with
       | zero => exact absurd HA.out (by simp [joustref32_Sum.j1])
       | succ kj37 =>
        have H := HA.out
        clear HA
        simp only [joustref32_Sum.j1] at H
        replace H := Option.bind_eq_some_iff.mp H
        obtain ⟨t183, A480, H⟩ := H
        replace H : (if t183 = 0 then (none) else ((joustref32_words.f (IntKind.u64.wrap (Int.tdiv a0_1 t178)) (IntKind.u64.wrap (Int.tdiv a1_1 t183))).bind fun bt184 => (if bt184.1 > 0 then (joustref32_Sum.j2 kj37 (IntKind.u64.wrap (Int.tdiv a1_1 t178)) (IntKind.u64.wrap (Int.tdiv a0_1 t178)) t183 bt184.2 true a0_0 a0_1 a1_0 a1_1) else (joustref32_Sum.j2 kj37 (IntKind.u64.wrap (Int.tdiv a1_1 t178)) (IntKind.u64.wrap (Int.tdiv a0_1 t178)) t183 bt184.2 (decide (bt184.2 > 9223372036854775807)) a0_0 a0_1 a1_0 a1_1)))) = some (r1, r2, r3) := H
        have A48 := Az A480
        clear A480
        by_cases c49 : t183 = 0
        ·
         rw [if_pos c49] at H
         exact absurd H (by simp)
        ·
         rw [if_neg c49] at H
         have c49b0 : (t183 == 0) = false := beq_eq_false_iff_ne.mpr c49
         have c49b1 : (t183 != 0) = true := bne_iff_ne.mpr c49
         replace H := Option.bind_eq_some_iff.mp H
         obtain ⟨⟨t184, t185⟩, A500, H⟩ := H
         replace H : (if t184 > 0 then (joustref32_Sum.j2 kj37 (IntKind.u64.wrap (Int.tdiv a1_1 t178)) (IntKind.u64.wrap (Int.tdiv a0_1 t178)) t183 t185 true a0_0 a0_1 a1_0 a1_1) else (joustref32_Sum.j2 kj37 (IntKind.u64.wrap (Int.tdiv a1_1 t178)) (IntKind.u64.wrap (Int.tdiv a0_1 t178)) t183 t185 (decide (t185 > 9223372036854775807)) a0_0 a0_1 a1_0 a1_1)) = some (r1, r2, r3) := H
         have A50 := Az A500
         clear A500
         have HC51 := Az H
         clear H
         go_upto_region 14 with (first | (go_at_call 68; (with_reducible refine (joustref32_divisor.calls kj37 t178 x10_37 t183 _ A48.out).mono ?_); rintro e w' ⟨rfl, ⟨nd, rfl⟩⟩; (try first | exact ⟨rfl, _, World.drewN_drewN _ _ _⟩ | exact ⟨rfl, _, Eq.trans (World.drewN_drewN _ _ _) (congrArg (World.drewN _) (Nat.add_assoc _ _ _))⟩); have hnb52 := NB173_172.out; have hnc52 := NB172_173.out; have hnb53 := NB173_174.out; have hnc53 := NB174_173.out; obtain ⟨hcz54_0, hcz54_1, hfz54_0, hfz54_1⟩ := cells2 BK173.out) | (go_at_call 73; (with_reducible refine (joustref32_words.calls (IntKind.u64.wrap (Int.tdiv a0_1 t178)) (IntKind.u64.wrap (Int.tdiv a1_1 t183)) t184 t185 _ A50.out).mono ?_); rintro e w' ⟨rfl, ⟨nd, rfl⟩⟩; (try first | exact ⟨rfl, _, World.drewN_drewN _ _ _⟩ | exact ⟨rfl, _, Eq.trans (World.drewN_drewN _ _ _) (congrArg (World.drewN _) (Nat.add_assoc _ _ _))⟩)))
         repeat (go_quiet (first | (go_at_call 68; (with_reducible refine (joustref32_divisor.calls kj37 t178 x10_37 t183 _ A48.out).mono ?_); rintro e w' ⟨rfl, ⟨nd, rfl⟩⟩; (try first | exact ⟨rfl, _, World.drewN_drewN _ _ _⟩ | exact ⟨rfl, _, Eq.trans (World.drewN_drewN _ _ _) (congrArg (World.drewN _) (Nat.add_assoc _ _ _))⟩); have hnb52 := NB173_172.out; have hnc52 := NB172_173.out; have hnb53 := NB173_174.out; have hnc53 := NB174_173.out; obtain ⟨hcz54_0, hcz54_1, hfz54_0, hfz54_1⟩ := cells2 BK173.out) | (go_at_call 73; (with_reducible refine (joustref32_words.calls (IntKind.u64.wrap (Int.tdiv a0_1 t178)) (IntKind.u64.wrap (Int.tdiv a1_1 t183)) t184 t185 _ A50.out).mono ?_); rintro e w' ⟨rfl, ⟨nd, rfl⟩⟩; (try first | exact ⟨rfl, _, World.drewN_drewN _ _ _⟩ | exact ⟨rfl, _, Eq.trans (World.drewN_drewN _ _ _) (congrArg (World.drewN _) (Nat.add_assoc _ _ _))⟩))); go_upto_region 14 with (first | (go_at_call 68; (with_reducible refine (joustref32_divisor.calls kj37 t178 x10_37 t183 _ A48.out).mono ?_); rintro e w' ⟨rfl, ⟨nd, rfl⟩⟩; (try first | exact ⟨rfl, _, World.drewN_drewN _ _ _⟩ | exact ⟨rfl, _, Eq.trans (World.drewN_drewN _ _ _) (congrArg (World.drewN _) (Nat.add_assoc _ _ _))⟩); have hnb52 := NB173_172.out; have hnc52 := NB172_173.out; have hnb53 := NB173_174.out; have hnc53 := NB174_173.out; obtain ⟨hcz54_0, hcz54_1, hfz54_0, hfz54_1⟩ := cells2 BK173.out) | (go_at_call 73; (with_reducible refine (joustref32_words.calls (IntKind.u64.wrap (Int.tdiv a0_1 t178)) (IntKind.u64.wrap (Int.tdiv a1_1 t183)) t184 t185 _ A50.out).mono ?_); rintro e w' ⟨rfl, ⟨nd, rfl⟩⟩; (try first | exact ⟨rfl, _, World.drewN_drewN _ _ _⟩ | exact ⟨rfl, _, Eq.trans (World.drewN_drewN _ _ _) (congrArg (World.drewN _) (Nat.add_assoc _ _ _))⟩))))
         (try simp only [Act.put, List.setIfInBounds_toArray, List.set_cons_zero, List.set_cons_succ])
         go_cut [101] (fun v101 wc => ∃ (kq : Nat) (x101_50 : Bool), v101 = .bool x101_50 ∧ Aside0 (joustref32_Sum.j2 kq (IntKind.u64.wrap (Int.tdiv a1_1 t178)) (IntKind.u64.wrap (Int.tdiv a0_1 t178)) t183 t185 x101_50 a0_0 a0_1 a1_0 a1_1 = some (r1, r2, r3)) ∧ Aside0 (kq ≤ kj37) ∧ Aside0 (wc.heap[gb172]? = some (.cells #[.int .u64 a0_0, .int .u64 a0_1] 47 (0, 0))) ∧ Aside0 (wc.heap[gb173]? = some (.cells #[.int .u64 a1_0, .int .u64 a1_1] 47 (0, 0))) ∧ Aside0 (wc.heap[gb174]? = some (.cells #[.int .u64 0, .int .u64 0] 47 (0, 0))) ∧ Aside0 (Below w.heap.size w wc))
         case first =>
          have H := HC51.out
          clear HC51
          by_cases c55 : t184 > 0
          ·
           rw [if_pos c55] at H
           have c55b0 : decide (0 < t184) = true := decide_eq_true c55
           clear c55
           (first | rw [c55b0] | (simp only [i64_w, i32_w]; rw [c55b0]) | skip)
           have H' := Az H
           clear H
           go_wp2
           repeat (go_quiet (fail); try go_wp2)
           go_meet
           case rel => exact ⟨_, (true), (by first | rfl | (simp; done) | (simp [*]; done)), H', ⟨by have := HJ2.out; have := HJ37.out; first | omega | exact Nat.le_refl _⟩, ⟨of_lies⟩, ⟨of_lies⟩, ⟨of_lies⟩, ⟨low HB⟩⟩
          ·
           rw [if_neg c55] at H
           have c55b0 : decide (0 < t184) = false := decide_eq_false c55
           clear c55
           (first | rw [c55b0] | (simp only [i64_w, i32_w]; rw [c55b0]) | skip)
           have H' := Az H
           clear H
           go_wp2
           repeat (go_quiet (fail); try go_wp2)
           go_meet
           case rel => exact ⟨_, (decide (t185 > 9223372036854775807)), (by first | rfl | (simp; done) | (simp [*]; done)), H', ⟨by have := HJ2.out; have := HJ37.out; first | omega | exact Nat.le_refl _⟩, ⟨of_lies⟩, ⟨of_lies⟩, ⟨of_lies⟩, ⟨low HB⟩⟩
         case rest =>
          clear HC51
          try clear c1
          try clear c2
          try clear p2
          try clear c3
          try clear c4
          try clear c5
          try clear c8
          try clear c10
          try clear c11
          try clear c14
          try clear c17
          try clear c18
          try clear c21
          try clear c22
          try clear c23
          try clear c26
          try clear c26b0
          try clear c27
          try clear c28
          try clear c30
          try clear c35
          try clear c35b0
          try clear c35b1
          try clear c39
          try clear c40
          try clear c42
          try clear c46
          try clear c47
          try clear c47b0
          try clear c49
          try clear c49b0
          try clear c49b1
          try clear c52
          try clear c53
          try clear c55
          try clear c55b0
          try clear hcz12_0
          try clear hcz12_1
          try clear hcz15_0
          try clear hcz15_1
          try clear hcz19_0
          try clear hcz19_1
          try clear hcz24_0
          try clear hcz24_1
          try clear hcz29_0
          try clear hcz29_1
          try clear hcz31_0
          try clear hcz31_1
          try clear hcz33_0
          try clear hcz33_1
          try clear hcz41_0
          try clear hcz41_1
          try clear hcz43_0
          try clear hcz43_1
          try clear hcz45_0
          try clear hcz45_1
          try clear hcz46_0
          try clear hcz46_1
          try clear hcz54_0
          try clear hcz54_1
          try clear hfz12_0
          try clear hfz12_1
          try clear hfz15_0
          try clear hfz15_1
          try clear hfz19_0
          try clear hfz19_1
          try clear hfz24_0
          try clear hfz24_1
          try clear hfz29_0
          try clear hfz29_1
          try clear hfz31_0
          try clear hfz31_1
          try clear hfz33_0
          try clear hfz33_1
          try clear hfz41_0
          try clear hfz41_1
          try clear hfz43_0
          try clear hfz43_1
          try clear hfz45_0
          try clear hfz45_1
          try clear hfz46_0
          try clear hfz46_1
          try clear hfz54_0
          try clear hfz54_1
          try clear p2
          obtain ⟨kq, x101_50, rfl, HA, HJ50, BK172, BK173, BK174, HB⟩ := hcut
          cases kq with
          | zero => exact absurd HA.out (by simp [joustref32_Sum.j2])
          | succ kj50 =>
           have H := HA.out
           clear HA
           simp only [joustref32_Sum.j2] at H
           by_cases c56 : x101_50 = true
           ·
            subst c56
            have H1 : (some (0, 0, 3)) = some (r1, r2, r3) := by rw [if_pos rfl] at H; exact H
            clear H
            have H := H1
            clear H1
            simp only [Option.some.injEq, Prod.mk.injEq] at H
            obtain ⟨rfl, rfl, rfl⟩ := H
            have hnb57 := NB174_172.out
            have hnc57 := NB172_174.out
            have hnb58 := NB174_173.out
            have hnc58 := NB173_174.out
            have hcz59_0 : wc.cell? ⟨gb174, 0, none⟩ = some (.int .u64 0) := (blk_cell BK174.out 0).trans rfl
            have hcz59_1 : wc.cell? ⟨gb174, 1, none⟩ = some (.int .u64 0) := (blk_cell BK174.out 1).trans rfl
            have hfz59_0 := blk_frozen BK174.out 0
            have hfz59_1 := blk_frozen BK174.out 1
            go_wp2
            repeat (go_quiet (fail); try go_wp2)
            refine bodyPost_ret (results_ct rfl _ _ gb174 47 #[.int .u64 0, .int .u64 0] (0, 0) _ rfl of_lies Tryd.underlying47 rfl (by kernel_rfl)) rfl ?_
            exact ⟨by first | rfl | (simp [errW_none, errW_some] <;> rfl) | (simp [*, errW_none, errW_some] <;> rfl), low HB⟩
           ·
            replace c56 := Bool.eq_false_iff.mpr c56
            subst c56
            have H1 : ((joustref32_part.f kj50 a0_0 (IntKind.u64.wrap (Int.tdiv a1_1 t178)) t183).bind fun bt186 => ((joustref32_part.f kj50 a1_0 (IntKind.u64.wrap (Int.tdiv a0_1 t178)) t183).bind fun bt188 => (if bt186.2 > 0 then (if bt186.2 = (IntKind.u64.wrap (t183 - bt188.2)) then (some (IntKind.u64.wrap ((IntKind.u64.wrap (bt186.1 + bt188.1)) + 1), t185, 0)) else (some (IntKind.u64.wrap (bt186.1 + bt188.1), t185, 0))) else (some (IntKind.u64.wrap (bt186.1 + bt188.1), t185, 0))))) = some (r1, r2, r3) := by rw [if_neg (show ¬ (false = true) by decide)] at H; exact H
            clear H
            have H := H1
            clear H1
            replace H := Option.bind_eq_some_iff.mp H
            obtain ⟨⟨t186, t187⟩, A600, H⟩ := H
            replace H : ((joustref32_part.f kj50 a1_0 (IntKind.u64.wrap (Int.tdiv a0_1 t178)) t183).bind fun bt188 => (if t187 > 0 then (if t187 = (IntKind.u64.wrap (t183 - bt188.2)) then (some (IntKind.u64.wrap ((IntKind.u64.wrap (t186 + bt188.1)) + 1), t185, 0)) else (some (IntKind.u64.wrap (t186 + bt188.1), t185, 0))) else (some (IntKind.u64.wrap (t186 + bt188.1), t185, 0)))) = some (r1, r2, r3) := H
            have A60 := Az A600
            clear A600
            replace H := Option.bind_eq_some_iff.mp H
            obtain ⟨⟨t188, t189⟩, A610, H⟩ := H
            replace H : (if t187 > 0 then (if t187 = (IntKind.u64.wrap (t183 - t189)) then (some (IntKind.u64.wrap ((IntKind.u64.wrap (t186 + t188)) + 1), t185, 0)) else (some (IntKind.u64.wrap (t186 + t188), t185, 0))) else (some (IntKind.u64.wrap (t186 + t188), t185, 0))) = some (r1, r2, r3) := H
            have A61 := Az A610
            clear A610
            by_cases c62 : t187 > 0
            ·
             rw [if_pos c62] at H
             have c62b0 : decide (0 < t187) = true := decide_eq_true c62
             clear c62
             by_cases c63 : t187 = (IntKind.u64.wrap (t183 - t189))
             ·
              rw [if_pos c63] at H
              have c63b0 : (t187 == (IntKind.u64.wrap (t183 - t189))) = true := beq_iff_eq.mpr c63
              have c63b1 : (t187 != (IntKind.u64.wrap (t183 - t189))) = false := bne_eq_false_iff_eq.mpr c63
              clear c63
              simp only [Option.some.injEq, Prod.mk.injEq] at H
              obtain ⟨rfl, rfl, rfl⟩ := H
              have hnb64 := NB172_173.out
              have hnc64 := NB173_172.out
              have hnb65 := NB172_174.out
              have hnc65 := NB174_172.out
              have hcz66_0 : wc.cell? ⟨gb172, 0, none⟩ = some (.int .u64 a0_0) := (blk_cell BK172.out 0).trans rfl
              have hcz66_1 : wc.cell? ⟨gb172, 1, none⟩ = some (.int .u64 a0_1) := (blk_cell BK172.out 1).trans rfl
              have hfz66_0 := blk_frozen BK172.out 0
              have hfz66_1 := blk_frozen BK172.out 1
              go_wp2_with (first | (go_at_call 70; (with_reducible refine (joustref32_part.calls kj50 a0_0 (IntKind.u64.wrap (Int.tdiv a1_1 t178)) t183 t186 t187 _ A60.out).mono ?_); rintro e w' ⟨rfl, ⟨nd, rfl⟩⟩; (try first | exact ⟨rfl, _, World.drewN_drewN _ _ _⟩ | exact ⟨rfl, _, Eq.trans (World.drewN_drewN _ _ _) (congrArg (World.drewN _) (Nat.add_assoc _ _ _))⟩); have hnb67 := NB173_174.out; have hnc67 := NB174_173.out; obtain ⟨hcz68_0, hcz68_1, hfz68_0, hfz68_1⟩ := cells2 BK173.out) | (go_at_call 70; (with_reducible refine (joustref32_part.calls kj50 a1_0 (IntKind.u64.wrap (Int.tdiv a0_1 t178)) t183 t188 t189 _ A61.out).mono ?_); rintro e w' ⟨rfl, ⟨nd, rfl⟩⟩; (try first | exact ⟨rfl, _, World.drewN_drewN _ _ _⟩ | exact ⟨rfl, _, Eq.trans (World.drewN_drewN _ _ _) (congrArg (World.drewN _) (Nat.add_assoc _ _ _))⟩); obtain ⟨hcz69_0, hcz69_1, hfz69_0, hfz69_1⟩ := cells2 BK174.out))
              repeat (go_quiet (first | (go_at_call 70; (with_reducible refine (joustref32_part.calls kj50 a0_0 (IntKind.u64.wrap (Int.tdiv a1_1 t178)) t183 t186 t187 _ A60.out).mono ?_); rintro e w' ⟨rfl, ⟨nd, rfl⟩⟩; (try first | exact ⟨rfl, _, World.drewN_drewN _ _ _⟩ | exact ⟨rfl, _, Eq.trans (World.drewN_drewN _ _ _) (congrArg (World.drewN _) (Nat.add_assoc _ _ _))⟩); have hnb67 := NB173_174.out; have hnc67 := NB174_173.out; obtain ⟨hcz68_0, hcz68_1, hfz68_0, hfz68_1⟩ := cells2 BK173.out) | (go_at_call 70; (with_reducible refine (joustref32_part.calls kj50 a1_0 (IntKind.u64.wrap (Int.tdiv a0_1 t178)) t183 t188 t189 _ A61.out).mono ?_); rintro e w' ⟨rfl, ⟨nd, rfl⟩⟩; (try first | exact ⟨rfl, _, World.drewN_drewN _ _ _⟩ | exact ⟨rfl, _, Eq.trans (World.drewN_drewN _ _ _) (congrArg (World.drewN _) (Nat.add_assoc _ _ _))⟩); obtain ⟨hcz69_0, hcz69_1, hfz69_0, hfz69_1⟩ := cells2 BK174.out)); try go_wp2_with (first | (go_at_call 70; (with_reducible refine (joustref32_part.calls kj50 a0_0 (IntKind.u64.wrap (Int.tdiv a1_1 t178)) t183 t186 t187 _ A60.out).mono ?_); rintro e w' ⟨rfl, ⟨nd, rfl⟩⟩; (try first | exact ⟨rfl, _, World.drewN_drewN _ _ _⟩ | exact ⟨rfl, _, Eq.trans (World.drewN_drewN _ _ _) (congrArg (World.drewN _) (Nat.add_assoc _ _ _))⟩); have hnb67 := NB173_174.out; have hnc67 := NB174_173.out; obtain ⟨hcz68_0, hcz68_1, hfz68_0, hfz68_1⟩ := cells2 BK173.out) | (go_at_call 70; (with_reducible refine (joustref32_part.calls kj50 a1_0 (IntKind.u64.wrap (Int.tdiv a0_1 t178)) t183 t188 t189 _ A61.out).mono ?_); rintro e w' ⟨rfl, ⟨nd, rfl⟩⟩; (try first | exact ⟨rfl, _, World.drewN_drewN _ _ _⟩ | exact ⟨rfl, _, Eq.trans (World.drewN_drewN _ _ _) (congrArg (World.drewN _) (Nat.add_assoc _ _ _))⟩); obtain ⟨hcz69_0, hcz69_1, hfz69_0, hfz69_1⟩ := cells2 BK174.out)))
              refine bodyPost_ret (results_ct rfl _ _ gb174 47 #[.int .u64 (IntKind.u64.wrap ((IntKind.u64.wrap (t186 + t188)) + 1)), .int .u64 t185] (0, 0) _ rfl of_lies Tryd.underlying47 rfl (by kernel_rfl)) rfl ?_
              exact ⟨by first | rfl | (simp [errW_none, errW_some] <;> rfl) | (simp [*, errW_none, errW_some] <;> rfl), low HB⟩
             ·
              rw [if_neg c63] at H
              have c63b0 : (t187 == (IntKind.u64.wrap (t183 - t189))) = false := beq_eq_false_iff_ne.mpr c63
              have c63b1 : (t187 != (IntKind.u64.wrap (t183 - t189))) = true := bne_iff_ne.mpr c63
              simp only [Option.some.injEq, Prod.mk.injEq] at H
              obtain ⟨rfl, rfl, rfl⟩ := H
              have hnb70 := NB172_173.out
              have hnc70 := NB173_172.out
              have hnb71 := NB172_174.out
              have hnc71 := NB174_172.out
              have hcz72_0 : wc.cell? ⟨gb172, 0, none⟩ = some (.int .u64 a0_0) := (blk_cell BK172.out 0).trans rfl
              have hcz72_1 : wc.cell? ⟨gb172, 1, none⟩ = some (.int .u64 a0_1) := (blk_cell BK172.out 1).trans rfl
              have hfz72_0 := blk_frozen BK172.out 0
              have hfz72_1 := blk_frozen BK172.out 1
              go_wp2_with (first | (go_at_call 70; (with_reducible refine (joustref32_part.calls kj50 a0_0 (IntKind.u64.wrap (Int.tdiv a1_1 t178)) t183 t186 t187 _ A60.out).mono ?_); rintro e w' ⟨rfl, ⟨nd, rfl⟩⟩; (try first | exact ⟨rfl, _, World.drewN_drewN _ _ _⟩ | exact ⟨rfl, _, Eq.trans (World.drewN_drewN _ _ _) (congrArg (World.drewN _) (Nat.add_assoc _ _ _))⟩); have hnb73 := NB173_174.out; have hnc73 := NB174_173.out; obtain ⟨hcz74_0, hcz74_1, hfz74_0, hfz74_1⟩ := cells2 BK173.out) | (go_at_call 70; (with_reducible refine (joustref32_part.calls kj50 a1_0 (IntKind.u64.wrap (Int.tdiv a0_1 t178)) t183 t188 t189 _ A61.out).mono ?_); rintro e w' ⟨rfl, ⟨nd, rfl⟩⟩; (try first | exact ⟨rfl, _, World.drewN_drewN _ _ _⟩ | exact ⟨rfl, _, Eq.trans (World.drewN_drewN _ _ _) (congrArg (World.drewN _) (Nat.add_assoc _ _ _))⟩); obtain ⟨hcz75_0, hcz75_1, hfz75_0, hfz75_1⟩ := cells2 BK174.out))
              repeat (go_quiet (first | (go_at_call 70; (with_reducible refine (joustref32_part.calls kj50 a0_0 (IntKind.u64.wrap (Int.tdiv a1_1 t178)) t183 t186 t187 _ A60.out).mono ?_); rintro e w' ⟨rfl, ⟨nd, rfl⟩⟩; (try first | exact ⟨rfl, _, World.drewN_drewN _ _ _⟩ | exact ⟨rfl, _, Eq.trans (World.drewN_drewN _ _ _) (congrArg (World.drewN _) (Nat.add_assoc _ _ _))⟩); have hnb73 := NB173_174.out; have hnc73 := NB174_173.out; obtain ⟨hcz74_0, hcz74_1, hfz74_0, hfz74_1⟩ := cells2 BK173.out) | (go_at_call 70; (with_reducible refine (joustref32_part.calls kj50 a1_0 (IntKind.u64.wrap (Int.tdiv a0_1 t178)) t183 t188 t189 _ A61.out).mono ?_); rintro e w' ⟨rfl, ⟨nd, rfl⟩⟩; (try first | exact ⟨rfl, _, World.drewN_drewN _ _ _⟩ | exact ⟨rfl, _, Eq.trans (World.drewN_drewN _ _ _) (congrArg (World.drewN _) (Nat.add_assoc _ _ _))⟩); obtain ⟨hcz75_0, hcz75_1, hfz75_0, hfz75_1⟩ := cells2 BK174.out)); try go_wp2_with (first | (go_at_call 70; (with_reducible refine (joustref32_part.calls kj50 a0_0 (IntKind.u64.wrap (Int.tdiv a1_1 t178)) t183 t186 t187 _ A60.out).mono ?_); rintro e w' ⟨rfl, ⟨nd, rfl⟩⟩; (try first | exact ⟨rfl, _, World.drewN_drewN _ _ _⟩ | exact ⟨rfl, _, Eq.trans (World.drewN_drewN _ _ _) (congrArg (World.drewN _) (Nat.add_assoc _ _ _))⟩); have hnb73 := NB173_174.out; have hnc73 := NB174_173.out; obtain ⟨hcz74_0, hcz74_1, hfz74_0, hfz74_1⟩ := cells2 BK173.out) | (go_at_call 70; (with_reducible refine (joustref32_part.calls kj50 a1_0 (IntKind.u64.wrap (Int.tdiv a0_1 t178)) t183 t188 t189 _ A61.out).mono ?_); rintro e w' ⟨rfl, ⟨nd, rfl⟩⟩; (try first | exact ⟨rfl, _, World.drewN_drewN _ _ _⟩ | exact ⟨rfl, _, Eq.trans (World.drewN_drewN _ _ _) (congrArg (World.drewN _) (Nat.add_assoc _ _ _))⟩); obtain ⟨hcz75_0, hcz75_1, hfz75_0, hfz75_1⟩ := cells2 BK174.out)))
              refine bodyPost_ret (results_ct rfl _ _ gb174 47 #[.int .u64 (IntKind.u64.wrap (t186 + t188)), .int .u64 t185] (0, 0) _ rfl of_lies Tryd.underlying47 rfl (by kernel_rfl)) rfl ?_
              exact ⟨by first | rfl | (simp [errW_none, errW_some] <;> rfl) | (simp [*, errW_none, errW_some] <;> rfl), low HB⟩
            ·
             rw [if_neg c62] at H
             have c62b0 : decide (0 < t187) = false := decide_eq_false c62
             clear c62
             simp only [Option.some.injEq, Prod.mk.injEq] at H
             obtain ⟨rfl, rfl, rfl⟩ := H
             have hnb76 := NB172_173.out
             have hnc76 := NB173_172.out
             have hnb77 := NB172_174.out
             have hnc77 := NB174_172.out
             have hcz78_0 : wc.cell? ⟨gb172, 0, none⟩ = some (.int .u64 a0_0) := (blk_cell BK172.out 0).trans rfl
             have hcz78_1 : wc.cell? ⟨gb172, 1, none⟩ = some (.int .u64 a0_1) := (blk_cell BK172.out 1).trans rfl
             have hfz78_0 := blk_frozen BK172.out 0
             have hfz78_1 := blk_frozen BK172.out 1
             go_wp2_with (first | (go_at_call 70; (with_reducible refine (joustref32_part.calls kj50 a0_0 (IntKind.u64.wrap (Int.tdiv a1_1 t178)) t183 t186 t187 _ A60.out).mono ?_); rintro e w' ⟨rfl, ⟨nd, rfl⟩⟩; (try first | exact ⟨rfl, _, World.drewN_drewN _ _ _⟩ | exact ⟨rfl, _, Eq.trans (World.drewN_drewN _ _ _) (congrArg (World.drewN _) (Nat.add_assoc _ _ _))⟩); have hnb79 := NB173_174.out; have hnc79 := NB174_173.out; obtain ⟨hcz80_0, hcz80_1, hfz80_0, hfz80_1⟩ := cells2 BK173.out) | (go_at_call 70; (with_reducible refine (joustref32_part.calls kj50 a1_0 (IntKind.u64.wrap (Int.tdiv a0_1 t178)) t183 t188 t189 _ A61.out).mono ?_); rintro e w' ⟨rfl, ⟨nd, rfl⟩⟩; (try first | exact ⟨rfl, _, World.drewN_drewN _ _ _⟩ | exact ⟨rfl, _, Eq.trans (World.drewN_drewN _ _ _) (congrArg (World.drewN _) (Nat.add_assoc _ _ _))⟩); obtain ⟨hcz81_0, hcz81_1, hfz81_0, hfz81_1⟩ := cells2 BK174.out))
             repeat (go_quiet (first | (go_at_call 70; (with_reducible refine (joustref32_part.calls kj50 a0_0 (IntKind.u64.wrap (Int.tdiv a1_1 t178)) t183 t186 t187 _ A60.out).mono ?_); rintro e w' ⟨rfl, ⟨nd, rfl⟩⟩; (try first | exact ⟨rfl, _, World.drewN_drewN _ _ _⟩ | exact ⟨rfl, _, Eq.trans (World.drewN_drewN _ _ _) (congrArg (World.drewN _) (Nat.add_assoc _ _ _))⟩); have hnb79 := NB173_174.out; have hnc79 := NB174_173.out; obtain ⟨hcz80_0, hcz80_1, hfz80_0, hfz80_1⟩ := cells2 BK173.out) | (go_at_call 70; (with_reducible refine (joustref32_part.calls kj50 a1_0 (IntKind.u64.wrap (Int.tdiv a0_1 t178)) t183 t188 t189 _ A61.out).mono ?_); rintro e w' ⟨rfl, ⟨nd, rfl⟩⟩; (try first | exact ⟨rfl, _, World.drewN_drewN _ _ _⟩ | exact ⟨rfl, _, Eq.trans (World.drewN_drewN _ _ _) (congrArg (World.drewN _) (Nat.add_assoc _ _ _))⟩); obtain ⟨hcz81_0, hcz81_1, hfz81_0, hfz81_1⟩ := cells2 BK174.out)); try go_wp2_with (first | (go_at_call 70; (with_reducible refine (joustref32_part.calls kj50 a0_0 (IntKind.u64.wrap (Int.tdiv a1_1 t178)) t183 t186 t187 _ A60.out).mono ?_); rintro e w' ⟨rfl, ⟨nd, rfl⟩⟩; (try first | exact ⟨rfl, _, World.drewN_drewN _ _ _⟩ | exact ⟨rfl, _, Eq.trans (World.drewN_drewN _ _ _) (congrArg (World.drewN _) (Nat.add_assoc _ _ _))⟩); have hnb79 := NB173_174.out; have hnc79 := NB174_173.out; obtain ⟨hcz80_0, hcz80_1, hfz80_0, hfz80_1⟩ := cells2 BK173.out) | (go_at_call 70; (with_reducible refine (joustref32_part.calls kj50 a1_0 (IntKind.u64.wrap (Int.tdiv a0_1 t178)) t183 t188 t189 _ A61.out).mono ?_); rintro e w' ⟨rfl, ⟨nd, rfl⟩⟩; (try first | exact ⟨rfl, _, World.drewN_drewN _ _ _⟩ | exact ⟨rfl, _, Eq.trans (World.drewN_drewN _ _ _) (congrArg (World.drewN _) (Nat.add_assoc _ _ _))⟩); obtain ⟨hcz81_0, hcz81_1, hfz81_0, hfz81_1⟩ := cells2 BK174.out)))
             refine bodyPost_ret (results_ct rfl _ _ gb174 47 #[.int .u64 (IntKind.u64.wrap (t186 + t188)), .int .u64 t185] (0, 0) _ rfl of_lies Tryd.underlying47 rfl (by kernel_rfl)) rfl ?_
             exact ⟨by first | rfl | (simp [errW_none, errW_some] <;> rfl) | (simp [*, errW_none, errW_some] <;> rfl), low HB⟩
def joustref32_Compare.f (k : Nat) (a0_0 : Int) (a0_1 : Int) (a1_0 : Int) (a1_1 : Int) : Option (Int × Int) := (joustref32_May.f k a0_0 a0_1).bind fun t192 => (if t192 = true then ((joustref32_May.f k a1_0 a1_1).bind fun t193 => (if t193 = true then ((joustref32_order.f k a0_0 a0_1 a1_0 a1_1).bind fun t194 => (some (t194, 0))) else (some (0, 2)))) else (some (0, 2)))
theorem joustref32_Compare.mono : ∀ a0 a1 a2 a3 k, LeO (joustref32_Compare.f k a0 a1 a2 a3) (joustref32_Compare.f (k + 1) a0 a1 a2 a3) := by
 intro a0 a1 a2 a3 k
 unfold joustref32_Compare.f
 repeat' first
   | (with_reducible exact joustref32_May.mono _ _ _)
   | (with_reducible exact joustref32_order.mono _ _ _ _ _)
   | (with_reducible exact LeO.refl _)
   | (with_reducible exact LeO.none _)
   | (with_reducible refine LeO.ite ?_ ?_)
   | (with_reducible refine LeO.bind ?_ (fun _ => ?_))
   | exact joustref32_May.mono _ _ _
   | exact joustref32_order.mono _ _ _ _ _
   | exact LeO.none _
   | refine LeO.ite ?_ ?_
   | refine LeO.bind ?_ (fun _ => ?_)
set_option maxHeartbeats 8000000 in
set_option maxRecDepth 100000 in
theorem joustref32_Compare.calls (k : Nat) (a0_0 : Int) (a0_1 : Int) (a1_0 : Int) (a1_1 : Int) (r1 : Int) (r2 : Int) (w : World) (h : joustref32_Compare.f k a0_0 a0_1 a1_0 a1_1 = some (r1, r2)) :
  Calls Tryd.prog 47 #[.agg #[.int .u64 a0_0, .int .u64 a0_1], .agg #[.int .u64 a1_0, .int .u64 a1_1]] w fun e w' => e = .returned (.tuple #[.int .i64 r1, .int .i64 r2]) ∧ Below w.heap.size w w' := by
 have hu47 := Tryd.underlying47
 have HB := Az (Below.refl w.heap.size w)
 have H : ((joustref32_May.f k a0_0 a0_1).bind fun t192 => (if t192 = true then ((joustref32_May.f k a1_0 a1_1).bind fun t193 => (if t193 = true then ((joustref32_order.f k a0_0 a0_1 a1_0 a1_1).bind fun t194 => (some (t194, 0))) else (some (0, 2)))) else (some (0, 2)))) = some (r1, r2) := h
 clear h
 replace H := Option.bind_eq_some_iff.mp H
 obtain ⟨t192, A30, H⟩ := H
 replace H : (if t192 = true then ((joustref32_May.f k a1_0 a1_1).bind fun t193 => (if t193 = true then ((joustref32_order.f k a0_0 a0_1 a1_0 a1_1).bind fun t194 => (some (t194, 0))) else (some (0, 2)))) else (some (0, 2))) = some (r1, r2) := H
 have A3 := Az A30
 clear A30
 by_cases c4 : t192 = true
 ·
  subst c4
  have H1 : ((joustref32_May.f k a1_0 a1_1).bind fun t193 => (if t193 = true then ((joustref32_order.f k a0_0 a0_1 a1_0 a1_1).bind fun t194 => (some (t194, 0))) else (some (0, 2)))) = some (r1, r2) := by rw [if_pos rfl] at H; exact H
  clear H
  have H := H1
  clear H1
  replace H := Option.bind_eq_some_iff.mp H
  obtain ⟨t193, A50, H⟩ := H
  replace H : (if t193 = true then ((joustref32_order.f k a0_0 a0_1 a1_0 a1_1).bind fun t194 => (some (t194, 0))) else (some (0, 2))) = some (r1, r2) := H
  have A5 := Az A50
  clear A50
  by_cases c6 : t193 = true
  ·
   subst c6
   have H1 : ((joustref32_order.f k a0_0 a0_1 a1_0 a1_1).bind fun t194 => (some (t194, 0))) = some (r1, r2) := by rw [if_pos rfl] at H; exact H
   clear H
   have H := H1
   clear H1
   replace H := Option.bind_eq_some_iff.mp H
   obtain ⟨t194, A70, H⟩ := H
   replace H : (some (t194, 0)) = some (r1, r2) := H
   have A7 := Az A70
   clear A70
   simp only [Option.some.injEq, Prod.mk.injEq] at H
   obtain ⟨rfl, rfl⟩ := H
   go_enter Tryd.func47, Tryd.ntmps47
   go_wp2_with (first | ((with_reducible refine gate_dst (N := 2) rfl ?_); refine box_event ?hg (N := 2) ?hd (cs := #[.int .u64 a0_0, .int .u64 a0_1]) (t := 47) ?hr ?_; (case hd => rfl); (case hg => rfl); (case hr => first | (go_simp; done) | (go_simp; rfl)); intro gb190 hg w8 hbox hb; have n0_ := Az (below_step (low HB) hb); have n1_ := Az (hbox); have n2_ := Az ((by rw [hg]; exact (below_size (low HB)) : w.heap.size ≤ gb190)); have n3_ := Az ((by rw [hg]; exact (below_size (low HB)) : w.heap.size ≤ gb190)); clear HB; have HB := n0_; have BK190 := n1_; have GW190 := n2_; have GE190 := n3_; clear n0_ n1_ n2_ n3_; clear hb hbox hg) | ((with_reducible refine gate_dst (N := 3) rfl ?_); refine box_event ?hg (N := 3) ?hd (cs := #[.int .u64 a1_0, .int .u64 a1_1]) (t := 47) ?hr ?_; (case hd => rfl); (case hg => rfl); (case hr => first | (go_simp; done) | (go_simp; rfl)); intro gb191 hg w9 hbox hb; have n0_ := Az (blk_below (g := gb190) (o := .cells #[.int .u64 a0_0, .int .u64 a0_1] 47 (0, 0)) of_lies hb); have n1_ := Az (below_step (low HB) hb); have n2_ := Az (hbox); have n3_ := Az ((by rw [hg]; exact (below_size (low HB)) : w.heap.size ≤ gb191)); have n4_ := Az ((by rw [hg]; exact (below_size (low HB)) : w.heap.size ≤ gb191)); have n5_ := Az ((by rw [hg]; exact Nat.ne_of_lt (blk_lt (g := gb190) (o := .cells #[.int .u64 a0_0, .int .u64 a0_1] 47 (0, 0)) of_lies) : gb190 ≠ gb191)); have n6_ := Az ((by rw [hg]; exact Nat.ne_of_gt (blk_lt (g := gb190) (o := .cells #[.int .u64 a0_0, .int .u64 a0_1] 47 (0, 0)) of_lies) : gb191 ≠ gb190)); clear BK190; clear HB; have BK190 := n0_; have HB := n1_; have BK191 := n2_; have GW191 := n3_; have GE191 := n4_; have NB190_191 := n5_; have NB191_190 := n6_; clear n0_ n1_ n2_ n3_ n4_ n5_ n6_; clear hb hbox hg; have hnb10 := NB190_191.out; have hnc10 := NB191_190.out; obtain ⟨hcz11_0, hcz11_1, hfz11_0, hfz11_1⟩ := cells2 BK190.out) | ((with_reducible refine gate_callee (f := 41) rfl ?_); refine goesL_ (some 7) rfl rfl Tryd.func41 (by kernel_rfl) rfl #[.agg #[.int .u64 a0_0, .int .u64 a0_1]] rfl (by (try simp only [List.map_toArray, List.map_cons, List.map_nil]); first | done | rfl | (simp only [List.length_drop, List.length_take]; rfl)) ?_; (with_reducible refine (joustref32_May.calls k a0_0 a0_1 true _ A3.out).mono ?_); rintro e w12 ⟨rfl, hb⟩; refine ⟨_, rfl, ?_⟩; have n0_ := Az (blk_below (g := gb190) (o := .cells #[.int .u64 a0_0, .int .u64 a0_1] 47 (0, 0)) of_lies hb); have n1_ := Az (blk_below (g := gb191) (o := .cells #[.int .u64 a1_0, .int .u64 a1_1] 47 (0, 0)) of_lies hb); have n2_ := Az (below_step (low HB) hb); clear BK190; clear BK191; clear HB; have BK190 := n0_; have BK191 := n1_; have HB := n2_; clear n0_ n1_ n2_; (try clear hb); (try clear hb2); (try clear hk); (try clear hi); obtain ⟨hcz13_0, hcz13_1, hfz13_0, hfz13_1⟩ := cells2 BK191.out) | (go_at_call 41; (with_reducible refine (joustref32_May.calls k a1_0 a1_1 true _ A5.out).mono ?_); rintro e w14 ⟨rfl, hb⟩; have n0_ := Az (blk_below (g := gb190) (o := .cells #[.int .u64 a0_0, .int .u64 a0_1] 47 (0, 0)) of_lies hb); have n1_ := Az (blk_below (g := gb191) (o := .cells #[.int .u64 a1_0, .int .u64 a1_1] 47 (0, 0)) of_lies hb); have n2_ := Az (below_step (low HB) hb); clear BK190; clear BK191; clear HB; have BK190 := n0_; have BK191 := n1_; have HB := n2_; clear n0_ n1_ n2_; (try clear hb); (try clear hb2); (try clear hk); (try clear hi); obtain ⟨hcz15_0, hcz15_1, hfz15_0, hfz15_1⟩ := cells2 BK190.out; obtain ⟨hcz16_0, hcz16_1, hfz16_0, hfz16_1⟩ := cells2 BK191.out) | ((with_reducible refine gate_callee (f := 72) rfl ?_); refine goesL_ (some 16) rfl rfl Tryd.func72 (by kernel_rfl) rfl #[.agg #[.int .u64 a0_0, .int .u64 a0_1], .agg #[.int .u64 a1_0, .int .u64 a1_1]] rfl (by (try simp only [List.map_toArray, List.map_cons, List.map_nil]); first | done | rfl | (simp only [List.length_drop, List.length_take]; rfl)) ?_; (with_reducible refine (joustref32_order.calls k a0_0 a0_1 a1_0 a1_1 t194 _ A7.out).mono ?_); rintro e w17 ⟨rfl, hb⟩; refine ⟨_, rfl, ?_⟩; have n0_ := Az (blk_below (g := gb190) (o := .cells #[.int .u64 a0_0, .int .u64 a0_1] 47 (0, 0)) of_lies hb); have n1_ := Az (blk_below (g := gb191) (o := .cells #[.int .u64 a1_0, .int .u64 a1_1] 47 (0, 0)) of_lies hb); have n2_ := Az (below_step (low HB) hb); clear BK190; clear BK191; clear HB; have BK190 := n0_; have BK191 := n1_; have HB := n2_; clear n0_ n1_ n2_; (try clear hb); (try clear hb2); (try clear hk); (try clear hi)))
   go_ret2
   exact ⟨by first | rfl | (simp [errW_none, errW_some] <;> rfl) | (simp [*, errW_none, errW_some] <;> rfl), low HB⟩
  ·
   replace c6 := Bool.eq_false_iff.mpr c6
   subst c6
   have H1 : (some (0, 2)) = some (r1, r2) := by rw [if_neg (show ¬ (false = true) by decide)] at H; exact H
   clear H
   have H := H1
   clear H1
   simp only [Option.some.injEq, Prod.mk.injEq] at H
   obtain ⟨rfl, rfl⟩ := H
   go_enter Tryd.func47, Tryd.ntmps47
   go_wp2_with (first | ((with_reducible refine gate_dst (N := 2) rfl ?_); refine box_event ?hg (N := 2) ?hd (cs := #[.int .u64 a0_0, .int .u64 a0_1]) (t := 47) ?hr ?_; (case hd => rfl); (case hg => rfl); (case hr => first | (go_simp; done) | (go_simp; rfl)); intro gb190 hg w18 hbox hb; have n0_ := Az (below_step (low HB) hb); have n1_ := Az (hbox); have n2_ := Az ((by rw [hg]; exact (below_size (low HB)) : w.heap.size ≤ gb190)); have n3_ := Az ((by rw [hg]; exact (below_size (low HB)) : w.heap.size ≤ gb190)); clear HB; have HB := n0_; have BK190 := n1_; have GW190 := n2_; have GE190 := n3_; clear n0_ n1_ n2_ n3_; clear hb hbox hg) | ((with_reducible refine gate_dst (N := 3) rfl ?_); refine box_event ?hg (N := 3) ?hd (cs := #[.int .u64 a1_0, .int .u64 a1_1]) (t := 47) ?hr ?_; (case hd => rfl); (case hg => rfl); (case hr => first | (go_simp; done) | (go_simp; rfl)); intro gb191 hg w19 hbox hb; have n0_ := Az (blk_below (g := gb190) (o := .cells #[.int .u64 a0_0, .int .u64 a0_1] 47 (0, 0)) of_lies hb); have n1_ := Az (below_step (low HB) hb); have n2_ := Az (hbox); have n3_ := Az ((by rw [hg]; exact (below_size (low HB)) : w.heap.size ≤ gb191)); have n4_ := Az ((by rw [hg]; exact (below_size (low HB)) : w.heap.size ≤ gb191)); have n5_ := Az ((by rw [hg]; exact Nat.ne_of_lt (blk_lt (g := gb190) (o := .cells #[.int .u64 a0_0, .int .u64 a0_1] 47 (0, 0)) of_lies) : gb190 ≠ gb191)); have n6_ := Az ((by rw [hg]; exact Nat.ne_of_gt (blk_lt (g := gb190) (o := .cells #[.int .u64 a0_0, .int .u64 a0_1] 47 (0, 0)) of_lies) : gb191 ≠ gb190)); clear BK190; clear HB; have BK190 := n0_; have HB := n1_; have BK191 := n2_; have GW191 := n3_; have GE191 := n4_; have NB190_191 := n5_; have NB191_190 := n6_; clear n0_ n1_ n2_ n3_ n4_ n5_ n6_; clear hb hbox hg; have hnb20 := NB190_191.out; have hnc20 := NB191_190.out; obtain ⟨hcz21_0, hcz21_1, hfz21_0, hfz21_1⟩ := cells2 BK190.out) | ((with_reducible refine gate_callee (f := 41) rfl ?_); refine goesL_ (some 7) rfl rfl Tryd.func41 (by kernel_rfl) rfl #[.agg #[.int .u64 a0_0, .int .u64 a0_1]] rfl (by (try simp only [List.map_toArray, List.map_cons, List.map_nil]); first | done | rfl | (simp only [List.length_drop, List.length_take]; rfl)) ?_; (with_reducible refine (joustref32_May.calls k a0_0 a0_1 true _ A3.out).mono ?_); rintro e w22 ⟨rfl, hb⟩; refine ⟨_, rfl, ?_⟩; have n0_ := Az (blk_below (g := gb190) (o := .cells #[.int .u64 a0_0, .int .u64 a0_1] 47 (0, 0)) of_lies hb); have n1_ := Az (blk_below (g := gb191) (o := .cells #[.int .u64 a1_0, .int .u64 a1_1] 47 (0, 0)) of_lies hb); have n2_ := Az (below_step (low HB) hb); clear BK190; clear BK191; clear HB; have BK190 := n0_; have BK191 := n1_; have HB := n2_; clear n0_ n1_ n2_; (try clear hb); (try clear hb2); (try clear hk); (try clear hi); obtain ⟨hcz23_0, hcz23_1, hfz23_0, hfz23_1⟩ := cells2 BK191.out) | (go_at_call 41; (with_reducible refine (joustref32_May.calls k a1_0 a1_1 false _ A5.out).mono ?_); rintro e w24 ⟨rfl, hb⟩; have n0_ := Az (blk_below (g := gb190) (o := .cells #[.int .u64 a0_0, .int .u64 a0_1] 47 (0, 0)) of_lies hb); have n1_ := Az (blk_below (g := gb191) (o := .cells #[.int .u64 a1_0, .int .u64 a1_1] 47 (0, 0)) of_lies hb); have n2_ := Az (below_step (low HB) hb); clear BK190; clear BK191; clear HB; have BK190 := n0_; have BK191 := n1_; have HB := n2_; clear n0_ n1_ n2_; (try clear hb); (try clear hb2); (try clear hk); (try clear hi)))
   go_ret2
   exact ⟨by first | rfl | (simp [errW_none, errW_some] <;> rfl) | (simp [*, errW_none, errW_some] <;> rfl), low HB⟩
 ·
  replace c4 := Bool.eq_false_iff.mpr c4
  subst c4
  have H1 : (some (0, 2)) = some (r1, r2) := by rw [if_neg (show ¬ (false = true) by decide)] at H; exact H
  clear H
  have H := H1
  clear H1
  simp only [Option.some.injEq, Prod.mk.injEq] at H
  obtain ⟨rfl, rfl⟩ := H
  go_enter Tryd.func47, Tryd.ntmps47
  go_wp2_with (first | ((with_reducible refine gate_dst (N := 2) rfl ?_); refine box_event ?hg (N := 2) ?hd (cs := #[.int .u64 a0_0, .int .u64 a0_1]) (t := 47) ?hr ?_; (case hd => rfl); (case hg => rfl); (case hr => first | (go_simp; done) | (go_simp; rfl)); intro gb190 hg w25 hbox hb; have n0_ := Az (below_step (low HB) hb); have n1_ := Az (hbox); have n2_ := Az ((by rw [hg]; exact (below_size (low HB)) : w.heap.size ≤ gb190)); have n3_ := Az ((by rw [hg]; exact (below_size (low HB)) : w.heap.size ≤ gb190)); clear HB; have HB := n0_; have BK190 := n1_; have GW190 := n2_; have GE190 := n3_; clear n0_ n1_ n2_ n3_; clear hb hbox hg) | ((with_reducible refine gate_dst (N := 3) rfl ?_); refine box_event ?hg (N := 3) ?hd (cs := #[.int .u64 a1_0, .int .u64 a1_1]) (t := 47) ?hr ?_; (case hd => rfl); (case hg => rfl); (case hr => first | (go_simp; done) | (go_simp; rfl)); intro gb191 hg w26 hbox hb; have n0_ := Az (blk_below (g := gb190) (o := .cells #[.int .u64 a0_0, .int .u64 a0_1] 47 (0, 0)) of_lies hb); have n1_ := Az (below_step (low HB) hb); have n2_ := Az (hbox); have n3_ := Az ((by rw [hg]; exact (below_size (low HB)) : w.heap.size ≤ gb191)); have n4_ := Az ((by rw [hg]; exact (below_size (low HB)) : w.heap.size ≤ gb191)); have n5_ := Az ((by rw [hg]; exact Nat.ne_of_lt (blk_lt (g := gb190) (o := .cells #[.int .u64 a0_0, .int .u64 a0_1] 47 (0, 0)) of_lies) : gb190 ≠ gb191)); have n6_ := Az ((by rw [hg]; exact Nat.ne_of_gt (blk_lt (g := gb190) (o := .cells #[.int .u64 a0_0, .int .u64 a0_1] 47 (0, 0)) of_lies) : gb191 ≠ gb190)); clear BK190; clear HB; have BK190 := n0_; have HB := n1_; have BK191 := n2_; have GW191 := n3_; have GE191 := n4_; have NB190_191 := n5_; have NB191_190 := n6_; clear n0_ n1_ n2_ n3_ n4_ n5_ n6_; clear hb hbox hg; have hnb27 := NB190_191.out; have hnc27 := NB191_190.out; obtain ⟨hcz28_0, hcz28_1, hfz28_0, hfz28_1⟩ := cells2 BK190.out) | ((with_reducible refine gate_callee (f := 41) rfl ?_); refine goesL_ (some 7) rfl rfl Tryd.func41 (by kernel_rfl) rfl #[.agg #[.int .u64 a0_0, .int .u64 a0_1]] rfl (by (try simp only [List.map_toArray, List.map_cons, List.map_nil]); first | done | rfl | (simp only [List.length_drop, List.length_take]; rfl)) ?_; (with_reducible refine (joustref32_May.calls k a0_0 a0_1 false _ A3.out).mono ?_); rintro e w29 ⟨rfl, hb⟩; refine ⟨_, rfl, ?_⟩; have n0_ := Az (blk_below (g := gb190) (o := .cells #[.int .u64 a0_0, .int .u64 a0_1] 47 (0, 0)) of_lies hb); have n1_ := Az (blk_below (g := gb191) (o := .cells #[.int .u64 a1_0, .int .u64 a1_1] 47 (0, 0)) of_lies hb); have n2_ := Az (below_step (low HB) hb); clear BK190; clear BK191; clear HB; have BK190 := n0_; have BK191 := n1_; have HB := n2_; clear n0_ n1_ n2_; (try clear hb); (try clear hb2); (try clear hk); (try clear hi)))
  go_ret2
  exact ⟨by first | rfl | (simp [errW_none, errW_some] <;> rfl) | (simp [*, errW_none, errW_some] <;> rfl), low HB⟩
def joustref32_Choose.f (k : Nat) (a0 : Int) (a1 : Int) : Option (Int × Int) := if a0 < 0 then (some (0, 2)) else (if a0 > 60 then (some (0, 2)) else ((joustref32_sets.f k a0 a1).bind fun t195 => (some (t195, 0))))
theorem joustref32_Choose.mono : ∀ a0 a1 k, LeO (joustref32_Choose.f k a0 a1) (joustref32_Choose.f (k + 1) a0 a1) := by
 intro a0 a1 k
 unfold joustref32_Choose.f
 repeat' first
   | (with_reducible exact joustref32_sets.mono _ _ _)
   | (with_reducible exact LeO.refl _)
   | (with_reducible exact LeO.none _)
   | (with_reducible refine LeO.ite ?_ ?_)
   | (with_reducible refine LeO.bind ?_ (fun _ => ?_))
   | exact joustref32_sets.mono _ _ _
   | exact LeO.none _
   | refine LeO.ite ?_ ?_
   | refine LeO.bind ?_ (fun _ => ?_)
set_option maxHeartbeats 8000000 in
set_option maxRecDepth 100000 in
theorem joustref32_Choose.calls (k : Nat) (a0 : Int) (a1 : Int) (r1 : Int) (r2 : Int) (w : World) (h : joustref32_Choose.f k a0 a1 = some (r1, r2)) :
  Calls Tryd.prog 48 #[.int .i64 a0, .int .i64 a1] w fun e w' => e = .returned (.tuple #[.int .u64 r1, .int .i64 r2]) ∧ Below w.heap.size w w' := by
 have HB := Az (Below.refl w.heap.size w)
 have H : (if a0 < 0 then (some (0, 2)) else (if a0 > 60 then (some (0, 2)) else ((joustref32_sets.f k a0 a1).bind fun t195 => (some (t195, 0))))) = some (r1, r2) := h
 clear h
 by_cases c3 : a0 < 0
 ·
  rw [if_pos c3] at H
  have c3b0 : decide (a0 < 0) = true := decide_eq_true c3
  clear c3
  simp only [Option.some.injEq, Prod.mk.injEq] at H
  obtain ⟨rfl, rfl⟩ := H
  go_enter Tryd.func48, Tryd.ntmps48
  go_wp2
  go_ret2
  exact ⟨by first | rfl | (simp [errW_none, errW_some] <;> rfl) | (simp [*, errW_none, errW_some] <;> rfl), low HB⟩
 ·
  rw [if_neg c3] at H
  have c3b0 : decide (a0 < 0) = false := decide_eq_false c3
  clear c3
  by_cases c4 : a0 > 60
  ·
   rw [if_pos c4] at H
   have c4b0 : decide (60 < a0) = true := decide_eq_true c4
   clear c4
   simp only [Option.some.injEq, Prod.mk.injEq] at H
   obtain ⟨rfl, rfl⟩ := H
   go_enter Tryd.func48, Tryd.ntmps48
   go_wp2
   go_ret2
   exact ⟨by first | rfl | (simp [errW_none, errW_some] <;> rfl) | (simp [*, errW_none, errW_some] <;> rfl), low HB⟩
  ·
   rw [if_neg c4] at H
   have c4b0 : decide (60 < a0) = false := decide_eq_false c4
   clear c4
   replace H := Option.bind_eq_some_iff.mp H
   obtain ⟨t195, A50, H⟩ := H
   replace H : (some (t195, 0)) = some (r1, r2) := H
   have A5 := Az A50
   clear A50
   simp only [Option.some.injEq, Prod.mk.injEq] at H
   obtain ⟨rfl, rfl⟩ := H
   go_enter Tryd.func48, Tryd.ntmps48
   go_wp2_with (first | ((with_reducible refine gate_callee (f := 61) rfl ?_); refine goesL_ (some 14) rfl rfl Tryd.func61 (by kernel_rfl) rfl #[.int .i64 a0, .int .i64 a1] rfl (by (try simp only [List.map_toArray, List.map_cons, List.map_nil]); first | done | rfl | (simp only [List.length_drop, List.length_take]; rfl)) ?_; (with_reducible refine (joustref32_sets.calls k a0 a1 t195 _ A5.out).mono ?_); rintro e w6 ⟨rfl, hb⟩; refine ⟨_, rfl, ?_⟩; have n0_ := Az (below_step (low HB) hb); clear HB; have HB := n0_; clear n0_; (try clear hb); (try clear hb2); (try clear hk); (try clear hi)))
   go_ret2
   exact ⟨by first | rfl | (simp [errW_none, errW_some] <;> rfl) | (simp [*, errW_none, errW_some] <;> rfl), low HB⟩
end Go.Proofs.YtcdcpnhlmgmnkaaDoor.Podr
end
