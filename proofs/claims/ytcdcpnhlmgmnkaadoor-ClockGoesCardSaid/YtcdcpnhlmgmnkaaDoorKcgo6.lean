/- Joined by a program of this session (pack.py) out of: Pclkx2 Pclkx3 Pclkx4 Pclkx5 Pclkx7 -/
import Derived.Test.YtcdcpnhlmgmnkaaDoorKcgo4
import Derived.Test.YtcdcpnhlmgmnkaaDoorKcgo5
section
namespace Go.Proofs.YtcdcpnhlmgmnkaaDoor.Pclk
open Go.RowKit Go.Proofs.YtcdcpnhlmgmnkaaDoor.Base Go.Proofs.YtcdcpnhlmgmnkaaDoorW.PrintWords Go.Proofs.YtcdcpnhlmgmnkaaDoorW.PrintLast Go.Proofs.YtcdcpnhlmgmnkaaDoorW.PrintMore
attribute [local go_sem] max2_int min2_int max_two min_two max_three min_three max_four min_four   -- for this text's walks alone
set_option linter.unusedVariables false
set_option linter.unusedSimpArgs false
def clock_within.f (a0 : Int) : Option (Bool) := if a0 ≥ 0 then (some (decide (a0 ≤ 1073741824))) else (some false)
set_option maxHeartbeats 8000000 in
set_option maxRecDepth 100000 in
theorem clock_within.calls (a0 : Int) (r : Bool) (w : World) (h : clock_within.f a0 = some r) :
  Calls Tryd.prog 50 #[.int .i64 a0] w fun e w' => e = .returned (.bool r) ∧ Drawn0 w w' := by
 have H : (if a0 ≥ 0 then (some (decide (a0 ≤ 1073741824))) else (some false)) = some r := h
 clear h
 by_cases c2 : a0 ≥ 0
 ·
  rw [if_pos c2] at H
  have c2b0 : decide (0 ≤ a0) = true := decide_eq_true c2
  clear c2
  obtain rfl := Option.some.inj H
  go_enter Tryd.func50, Tryd.ntmps50
  go_wp2
  go_ret
  exact ⟨by first | rfl | (simp; done) | (simp [*]; done), by repeat (first | exact Drawn0.refl _ | apply Drawn0.step)⟩
 ·
  rw [if_neg c2] at H
  have c2b0 : decide (0 ≤ a0) = false := decide_eq_false c2
  clear c2
  obtain rfl := Option.some.inj H
  go_enter Tryd.func50, Tryd.ntmps50
  go_wp2
  go_ret
  exact ⟨by first | rfl | (simp; done) | (simp [*]; done), by repeat (first | exact Drawn0.refl _ | apply Drawn0.step)⟩
def clock_May.l0 : Nat → Int → Int → Int → Int → Int → Int → Int → Int → Bool → Int → Int → Option (Bool)
 | 0, _, _, _, _, _, _, _, _, _, _, _ => none
 | k + 1, x8, x608, x609, x102000, x102001, x102002, x102003, x102004, x102005, x102006, x102007 => if x8 < 2 then (if x8 = 0 then ((clock_within.f x608).bind fun t102 => (if t102 = true then (if ((x608 == 0) != ((wrap64 (x102007)) == x8)) = true then (some false) else (clock_May.l0 k (wrap64 (x8 + 1)) x608 x609 x102000 x102001 x102002 x102003 x102004 x102005 x102006 x102007)) else (some false))) else (if x8 = 1 then ((clock_within.f x609).bind fun t103 => (if t103 = true then (if ((x609 == 0) != ((wrap64 (x102007)) == x8)) = true then (some false) else (clock_May.l0 k (wrap64 (x8 + 1)) x608 x609 x102000 x102001 x102002 x102003 x102004 x102005 x102006 x102007)) else (some false))) else (none))) else ((clock_within.f x102002).bind fun t104 => (if t104 = true then ((clock_within.f x102003).bind fun t105 => (if t105 = true then ((clock_within.f x102006).bind fun t106 => (if t106 = true then (if x102004 < 2 then (if x102007 = 2 then (some true) else (if x102007 < 2 then (some (!x102005)) else (some false))) else (some false)) else (some false))) else (some false))) else (some false)))
def clock_May.f (k : Nat) (a0_0 : Int) (a0_1 : Int) (a0_2 : Int) (a0_3 : Int) (a0_4 : Int) (a0_5 : Bool) (a0_6 : Int) (a0_7 : Int) : Option (Bool) := clock_May.l0 k 0 a0_0 a0_1 a0_0 a0_1 a0_2 a0_3 a0_4 a0_5 a0_6 a0_7
set_option maxHeartbeats 8000000 in
set_option maxRecDepth 100000 in
theorem clock_May.calls (k : Nat) (a0_0 : Int) (a0_1 : Int) (a0_2 : Int) (a0_3 : Int) (a0_4 : Int) (a0_5 : Bool) (a0_6 : Int) (a0_7 : Int) (r : Bool) (w : World) (h : clock_May.f k a0_0 a0_1 a0_2 a0_3 a0_4 a0_5 a0_6 a0_7 = some r) :
  Calls Tryd.prog 15 #[.agg #[.int .i64 a0_0, .int .i64 a0_1, .int .i64 a0_2, .int .i64 a0_3, .int .u8 a0_4, .bool a0_5, .int .i64 a0_6, .int .u8 a0_7]] w fun e w' => e = .returned (.bool r) ∧ Below w.heap.size w w' := by
 have hu24 := Tryd.underlying24
 have hu22 := Tryd.underlying22
 have HB := Az (Below.refl w.heap.size w)
 have H : (clock_May.l0 k 0 a0_0 a0_1 a0_0 a0_1 a0_2 a0_3 a0_4 a0_5 a0_6 a0_7) = some r := h
 clear h
 have H' := Az H
 clear H
 go_enter Tryd.func15, Tryd.ntmps15
 go_wp2_with (first | ((with_reducible refine gate_dst (N := 1) rfl ?_); refine box_event ?hg (N := 1) ?hd (cs := #[.int .i64 a0_0, .int .i64 a0_1, .int .i64 a0_2, .int .i64 a0_3, .int .u8 a0_4, .bool a0_5, .int .i64 a0_6, .int .u8 a0_7]) (t := 24) ?hr ?_; (case hd => rfl); (case hg => rfl); (case hr => first | (go_simp; done) | (go_simp; rfl)); intro gb101 hg w2 hbox hb; have n0_ := Az (below_step (low HB) hb); have n1_ := Az (hbox); have n2_ := Az ((by rw [hg]; exact (below_size (low HB)) : w.heap.size ≤ gb101)); have n3_ := Az ((by rw [hg]; exact (below_size (low HB)) : w.heap.size ≤ gb101)); clear HB; have HB := n0_; have BK101 := n1_; have GW101 := n2_; have GE101 := n3_; clear n0_ n1_ n2_ n3_; clear hb hbox hg; obtain ⟨hcz3_0, hcz3_1, hcz3_2, hcz3_3, hcz3_4, hcz3_5, hcz3_6, hcz3_7, hfz3_0, hfz3_1, hfz3_2, hfz3_3, hfz3_4, hfz3_5, hfz3_6, hfz3_7⟩ := cells8 BK101.out))
 go_loopg [8] k (fun kq v8 w' => ∃ (x8_1 : Int), v8 = .int .i64 x8_1 ∧ Aside0 (clock_May.l0 kq x8_1 a0_0 a0_1 a0_0 a0_1 a0_2 a0_3 a0_4 a0_5 a0_6 a0_7 = some r) ∧ Aside0 (kq ≤ k) ∧ Aside0 (w'.heap[gb101]? = some (.cells #[.int .i64 a0_0, .int .i64 a0_1, .int .i64 a0_2, .int .i64 a0_3, .int .u8 a0_4, .bool a0_5, .int .i64 a0_6, .int .u8 a0_7] 24 (0, 0))) ∧ Aside0 (Below w.heap.size w w'))
 case atStart => exact ⟨(0), eqx, H', ⟨Nat.le_refl _⟩, ⟨of_lies⟩, ⟨low HB⟩⟩
 case round =>
  clear H'
  try clear c1
  try clear p2
  try clear hcz3_0
  try clear hcz3_1
  try clear hcz3_2
  try clear hcz3_3
  try clear hcz3_4
  try clear hcz3_5
  try clear hcz3_6
  try clear hcz3_7
  try clear hfz3_0
  try clear hfz3_1
  try clear hfz3_2
  try clear hfz3_3
  try clear hfz3_4
  try clear hfz3_5
  try clear hfz3_6
  try clear hfz3_7
  obtain ⟨x8_1, rfl, HA, HK1, BK101, HB⟩ := hrel
  cases gk with
  | zero => exact absurd HA.out (by simp [clock_May.l0])
  | succ k1 =>
   have H := HA.out
   clear HA
   simp only [clock_May.l0] at H
   by_cases c4 : x8_1 < 2
   ·
    rw [if_pos c4] at H
    have c4b0 : decide (x8_1 < 2) = true := decide_eq_true c4
    clear c4
    by_cases c5 : x8_1 = 0
    ·
     rw [if_pos c5] at H
     have c5b0 : (x8_1 == 0) = true := beq_iff_eq.mpr c5
     have c5b1 : (x8_1 != 0) = false := bne_eq_false_iff_eq.mpr c5
     clear c5
     have hix6 : ∀ (W_ : World), (Instr.index 22 (.agg #[.int .i64 a0_0, .int .i64 a0_1]) (.int .i64 x8_1)).run Tryd.prog W_ = .ok (.int .i64 a0_0) W_ := ix_val (c := 0) (by first | omega | exact beq_iff_eq.mp (by assumption) | exact eq_of_beq (by assumption)) (fun _ => by kernel_rfl)
     replace H := Option.bind_eq_some_iff.mp H
     obtain ⟨t102, A70, H⟩ := H
     replace H : (if t102 = true then (if ((a0_0 == 0) != ((wrap64 (a0_7)) == x8_1)) = true then (some false) else (clock_May.l0 k1 (wrap64 (x8_1 + 1)) a0_0 a0_1 a0_0 a0_1 a0_2 a0_3 a0_4 a0_5 a0_6 a0_7)) else (some false)) = some r := H
     have A7 := Az A70
     clear A70
     by_cases c8 : t102 = true
     ·
      subst c8
      have H1 : (if ((a0_0 == 0) != ((wrap64 (a0_7)) == x8_1)) = true then (some false) else (clock_May.l0 k1 (wrap64 (x8_1 + 1)) a0_0 a0_1 a0_0 a0_1 a0_2 a0_3 a0_4 a0_5 a0_6 a0_7)) = some r := by rw [if_pos rfl] at H; exact H
      clear H
      have H := H1
      clear H1
      by_cases c9 : ((a0_0 == 0) != ((wrap64 (a0_7)) == x8_1)) = true
      ·
       rw [if_pos c9] at H
       have c9b0 : ((a0_0 == 0) != ((wrap64 (a0_7)) == x8_1)) = true := c9
       (try (have c9b1 : decide ((a0_0 == 0) = ((wrap64 (a0_7)) == x8_1)) = false := by simpa using c9))
       (try (have c9b2 : ((a0_0 == 0) == ((wrap64 (a0_7)) == x8_1)) = false := by simpa using c9))
       (try (have c9b3 : ¬ ((a0_0 == 0) = ((wrap64 (a0_7)) == x8_1)) := by simpa using c9))
       clear c9
       obtain rfl := Option.some.inj H
       go_wp2_with (first | ((with_reducible refine gate_callee (f := 50) rfl ?_); refine goesL_ (some 13) rfl rfl Tryd.func50 (by kernel_rfl) rfl #[.int .i64 a0_0] rfl mapx ?_; (with_reducible refine (clock_within.calls a0_0 true _ A7.out).mono ?_); rintro e w' ⟨rfl, ⟨nd, rfl⟩⟩; refine ⟨_, rfl, ?_⟩; obtain ⟨hcz10_0, hcz10_1, hcz10_2, hcz10_3, hcz10_4, hcz10_5, hcz10_6, hcz10_7, hfz10_0, hfz10_1, hfz10_2, hfz10_3, hfz10_4, hfz10_5, hfz10_6, hfz10_7⟩ := cells8 BK101.out))
       go_ret
       exact ⟨by first | rfl | (simp [errW_none, errW_some] <;> rfl) | (simp [*, errW_none, errW_some] <;> rfl), low HB⟩
      ·
       rw [if_neg c9] at H
       have c9b0 : ((a0_0 == 0) != ((wrap64 (a0_7)) == x8_1)) = false := by simpa using c9
       (try (have c9b1 : decide ((a0_0 == 0) = ((wrap64 (a0_7)) == x8_1)) = true := by simpa using c9))
       (try (have c9b2 : ((a0_0 == 0) == ((wrap64 (a0_7)) == x8_1)) = true := by simpa using c9))
       clear c9
       have H' := Az H
       clear H
       go_wp2_with (first | ((with_reducible refine gate_callee (f := 50) rfl ?_); refine goesL_ (some 13) rfl rfl Tryd.func50 (by kernel_rfl) rfl #[.int .i64 a0_0] rfl mapx ?_; (with_reducible refine (clock_within.calls a0_0 true _ A7.out).mono ?_); rintro e w' ⟨rfl, ⟨nd, rfl⟩⟩; refine ⟨_, rfl, ?_⟩; obtain ⟨hcz11_0, hcz11_1, hcz11_2, hcz11_3, hcz11_4, hcz11_5, hcz11_6, hcz11_7, hfz11_0, hfz11_1, hfz11_2, hfz11_3, hfz11_4, hfz11_5, hfz11_6, hfz11_7⟩ := cells8 BK101.out))
       go_roundg k1
       case measure => have := HK1.out; omega
       case rel => exact ⟨(wrap64 (x8_1 + 1)), eqx, H', ⟨by have := HK1.out; omega⟩, ⟨of_lies⟩, ⟨low HB⟩⟩
     ·
      replace c8 := Bool.eq_false_iff.mpr c8
      subst c8
      have H1 : (some false) = some r := by rw [if_neg (show ¬ (false = true) by decide)] at H; exact H
      clear H
      have H := H1
      clear H1
      obtain rfl := Option.some.inj H
      go_wp2_with (first | ((with_reducible refine gate_callee (f := 50) rfl ?_); refine goesL_ (some 13) rfl rfl Tryd.func50 (by kernel_rfl) rfl #[.int .i64 a0_0] rfl mapx ?_; (with_reducible refine (clock_within.calls a0_0 false _ A7.out).mono ?_); rintro e w' ⟨rfl, ⟨nd, rfl⟩⟩; refine ⟨_, rfl, ?_⟩))
      go_ret
      exact ⟨by first | rfl | (simp [errW_none, errW_some] <;> rfl) | (simp [*, errW_none, errW_some] <;> rfl), low HB⟩
    ·
     rw [if_neg c5] at H
     have c5b0 : (x8_1 == 0) = false := beq_eq_false_iff_ne.mpr c5
     have c5b1 : (x8_1 != 0) = true := bne_iff_ne.mpr c5
     by_cases c12 : x8_1 = 1
     ·
      rw [if_pos c12] at H
      have c12b0 : (x8_1 == 1) = true := beq_iff_eq.mpr c12
      have c12b1 : (x8_1 != 1) = false := bne_eq_false_iff_eq.mpr c12
      clear c12
      have hix13 : ∀ (W_ : World), (Instr.index 22 (.agg #[.int .i64 a0_0, .int .i64 a0_1]) (.int .i64 x8_1)).run Tryd.prog W_ = .ok (.int .i64 a0_1) W_ := ix_val (c := 1) (by first | omega | exact beq_iff_eq.mp (by assumption) | exact eq_of_beq (by assumption)) (fun _ => by kernel_rfl)
      replace H := Option.bind_eq_some_iff.mp H
      obtain ⟨t103, A140, H⟩ := H
      replace H : (if t103 = true then (if ((a0_1 == 0) != ((wrap64 (a0_7)) == x8_1)) = true then (some false) else (clock_May.l0 k1 (wrap64 (x8_1 + 1)) a0_0 a0_1 a0_0 a0_1 a0_2 a0_3 a0_4 a0_5 a0_6 a0_7)) else (some false)) = some r := H
      have A14 := Az A140
      clear A140
      by_cases c15 : t103 = true
      ·
       subst c15
       have H1 : (if ((a0_1 == 0) != ((wrap64 (a0_7)) == x8_1)) = true then (some false) else (clock_May.l0 k1 (wrap64 (x8_1 + 1)) a0_0 a0_1 a0_0 a0_1 a0_2 a0_3 a0_4 a0_5 a0_6 a0_7)) = some r := by rw [if_pos rfl] at H; exact H
       clear H
       have H := H1
       clear H1
       by_cases c16 : ((a0_1 == 0) != ((wrap64 (a0_7)) == x8_1)) = true
       ·
        rw [if_pos c16] at H
        have c16b0 : ((a0_1 == 0) != ((wrap64 (a0_7)) == x8_1)) = true := c16
        (try (have c16b1 : decide ((a0_1 == 0) = ((wrap64 (a0_7)) == x8_1)) = false := by simpa using c16))
        (try (have c16b2 : ((a0_1 == 0) == ((wrap64 (a0_7)) == x8_1)) = false := by simpa using c16))
        (try (have c16b3 : ¬ ((a0_1 == 0) = ((wrap64 (a0_7)) == x8_1)) := by simpa using c16))
        clear c16
        obtain rfl := Option.some.inj H
        go_wp2_with (first | ((with_reducible refine gate_callee (f := 50) rfl ?_); refine goesL_ (some 13) rfl rfl Tryd.func50 (by kernel_rfl) rfl #[.int .i64 a0_1] rfl mapx ?_; (with_reducible refine (clock_within.calls a0_1 true _ A14.out).mono ?_); rintro e w' ⟨rfl, ⟨nd, rfl⟩⟩; refine ⟨_, rfl, ?_⟩; obtain ⟨hcz17_0, hcz17_1, hcz17_2, hcz17_3, hcz17_4, hcz17_5, hcz17_6, hcz17_7, hfz17_0, hfz17_1, hfz17_2, hfz17_3, hfz17_4, hfz17_5, hfz17_6, hfz17_7⟩ := cells8 BK101.out))
        go_ret
        exact ⟨by first | rfl | (simp [errW_none, errW_some] <;> rfl) | (simp [*, errW_none, errW_some] <;> rfl), low HB⟩
       ·
        rw [if_neg c16] at H
        have c16b0 : ((a0_1 == 0) != ((wrap64 (a0_7)) == x8_1)) = false := by simpa using c16
        (try (have c16b1 : decide ((a0_1 == 0) = ((wrap64 (a0_7)) == x8_1)) = true := by simpa using c16))
        (try (have c16b2 : ((a0_1 == 0) == ((wrap64 (a0_7)) == x8_1)) = true := by simpa using c16))
        clear c16
        have H' := Az H
        clear H
        go_wp2_with (first | ((with_reducible refine gate_callee (f := 50) rfl ?_); refine goesL_ (some 13) rfl rfl Tryd.func50 (by kernel_rfl) rfl #[.int .i64 a0_1] rfl mapx ?_; (with_reducible refine (clock_within.calls a0_1 true _ A14.out).mono ?_); rintro e w' ⟨rfl, ⟨nd, rfl⟩⟩; refine ⟨_, rfl, ?_⟩; obtain ⟨hcz18_0, hcz18_1, hcz18_2, hcz18_3, hcz18_4, hcz18_5, hcz18_6, hcz18_7, hfz18_0, hfz18_1, hfz18_2, hfz18_3, hfz18_4, hfz18_5, hfz18_6, hfz18_7⟩ := cells8 BK101.out))
        go_roundg k1
        case measure => have := HK1.out; omega
        case rel => exact ⟨(wrap64 (x8_1 + 1)), eqx, H', ⟨by have := HK1.out; omega⟩, ⟨of_lies⟩, ⟨low HB⟩⟩
      ·
       replace c15 := Bool.eq_false_iff.mpr c15
       subst c15
       have H1 : (some false) = some r := by rw [if_neg (show ¬ (false = true) by decide)] at H; exact H
       clear H
       have H := H1
       clear H1
       obtain rfl := Option.some.inj H
       go_wp2_with (first | ((with_reducible refine gate_callee (f := 50) rfl ?_); refine goesL_ (some 13) rfl rfl Tryd.func50 (by kernel_rfl) rfl #[.int .i64 a0_1] rfl mapx ?_; (with_reducible refine (clock_within.calls a0_1 false _ A14.out).mono ?_); rintro e w' ⟨rfl, ⟨nd, rfl⟩⟩; refine ⟨_, rfl, ?_⟩))
       go_ret
       exact ⟨by first | rfl | (simp [errW_none, errW_some] <;> rfl) | (simp [*, errW_none, errW_some] <;> rfl), low HB⟩
     ·
      rw [if_neg c12] at H
      exact absurd H (by simp)
   ·
    rw [if_neg c4] at H
    have c4b0 : decide (x8_1 < 2) = false := decide_eq_false c4
    clear c4
    replace H := Option.bind_eq_some_iff.mp H
    obtain ⟨t104, A190, H⟩ := H
    replace H : (if t104 = true then ((clock_within.f a0_3).bind fun t105 => (if t105 = true then ((clock_within.f a0_6).bind fun t106 => (if t106 = true then (if a0_4 < 2 then (if a0_7 = 2 then (some true) else (if a0_7 < 2 then (some (!a0_5)) else (some false))) else (some false)) else (some false))) else (some false))) else (some false)) = some r := H
    have A19 := Az A190
    clear A190
    by_cases c20 : t104 = true
    ·
     subst c20
     have H1 : ((clock_within.f a0_3).bind fun t105 => (if t105 = true then ((clock_within.f a0_6).bind fun t106 => (if t106 = true then (if a0_4 < 2 then (if a0_7 = 2 then (some true) else (if a0_7 < 2 then (some (!a0_5)) else (some false))) else (some false)) else (some false))) else (some false))) = some r := by rw [if_pos rfl] at H; exact H
     clear H
     have H := H1
     clear H1
     replace H := Option.bind_eq_some_iff.mp H
     obtain ⟨t105, A210, H⟩ := H
     replace H : (if t105 = true then ((clock_within.f a0_6).bind fun t106 => (if t106 = true then (if a0_4 < 2 then (if a0_7 = 2 then (some true) else (if a0_7 < 2 then (some (!a0_5)) else (some false))) else (some false)) else (some false))) else (some false)) = some r := H
     have A21 := Az A210
     clear A210
     by_cases c22 : t105 = true
     ·
      subst c22
      have H1 : ((clock_within.f a0_6).bind fun t106 => (if t106 = true then (if a0_4 < 2 then (if a0_7 = 2 then (some true) else (if a0_7 < 2 then (some (!a0_5)) else (some false))) else (some false)) else (some false))) = some r := by rw [if_pos rfl] at H; exact H
      clear H
      have H := H1
      clear H1
      replace H := Option.bind_eq_some_iff.mp H
      obtain ⟨t106, A230, H⟩ := H
      replace H : (if t106 = true then (if a0_4 < 2 then (if a0_7 = 2 then (some true) else (if a0_7 < 2 then (some (!a0_5)) else (some false))) else (some false)) else (some false)) = some r := H
      have A23 := Az A230
      clear A230
      by_cases c24 : t106 = true
      ·
       subst c24
       have H1 : (if a0_4 < 2 then (if a0_7 = 2 then (some true) else (if a0_7 < 2 then (some (!a0_5)) else (some false))) else (some false)) = some r := by rw [if_pos rfl] at H; exact H
       clear H
       have H := H1
       clear H1
       by_cases c25 : a0_4 < 2
       ·
        rw [if_pos c25] at H
        have c25b0 : decide (a0_4 < 2) = true := decide_eq_true c25
        clear c25
        by_cases c26 : a0_7 = 2
        ·
         rw [if_pos c26] at H
         have c26b0 : (a0_7 == 2) = true := beq_iff_eq.mpr c26
         have c26b1 : (a0_7 != 2) = false := bne_eq_false_iff_eq.mpr c26
         clear c26
         obtain rfl := Option.some.inj H
         have hcz27_0 : wr.cell? ⟨gb101, 0, none⟩ = some (.int .i64 a0_0) := (blk_cell BK101.out 0).trans rfl
         have hcz27_1 : wr.cell? ⟨gb101, 1, none⟩ = some (.int .i64 a0_1) := (blk_cell BK101.out 1).trans rfl
         have hcz27_2 : wr.cell? ⟨gb101, 2, none⟩ = some (.int .i64 a0_2) := (blk_cell BK101.out 2).trans rfl
         have hcz27_3 : wr.cell? ⟨gb101, 3, none⟩ = some (.int .i64 a0_3) := (blk_cell BK101.out 3).trans rfl
         have hcz27_4 : wr.cell? ⟨gb101, 4, none⟩ = some (.int .u8 a0_4) := (blk_cell BK101.out 4).trans rfl
         have hcz27_5 : wr.cell? ⟨gb101, 5, none⟩ = some (.bool a0_5) := (blk_cell BK101.out 5).trans rfl
         have hcz27_6 : wr.cell? ⟨gb101, 6, none⟩ = some (.int .i64 a0_6) := (blk_cell BK101.out 6).trans rfl
         have hcz27_7 : wr.cell? ⟨gb101, 7, none⟩ = some (.int .u8 a0_7) := (blk_cell BK101.out 7).trans rfl
         have hfz27_0 := blk_frozen BK101.out 0
         have hfz27_1 := blk_frozen BK101.out 1
         have hfz27_2 := blk_frozen BK101.out 2
         have hfz27_3 := blk_frozen BK101.out 3
         have hfz27_4 := blk_frozen BK101.out 4
         have hfz27_5 := blk_frozen BK101.out 5
         have hfz27_6 := blk_frozen BK101.out 6
         have hfz27_7 := blk_frozen BK101.out 7
         go_wp2_with (first | ((with_reducible refine gate_callee (f := 50) rfl ?_); refine goesL_ (some 28) rfl rfl Tryd.func50 (by kernel_rfl) rfl #[.int .i64 a0_2] rfl mapx ?_; (with_reducible refine (clock_within.calls a0_2 true _ A19.out).mono ?_); rintro e w' ⟨rfl, ⟨nd, rfl⟩⟩; refine ⟨_, rfl, ?_⟩) | (go_at_call 50; (with_reducible refine (clock_within.calls a0_3 true _ A21.out).mono ?_); rintro e w' ⟨rfl, ⟨nd, rfl⟩⟩) | (go_at_call 50; (with_reducible refine (clock_within.calls a0_6 true _ A23.out).mono ?_); rintro e w' ⟨rfl, ⟨nd, rfl⟩⟩))
         go_ret
         exact ⟨by first | rfl | (simp [errW_none, errW_some] <;> rfl) | (simp [*, errW_none, errW_some] <;> rfl), low HB⟩
        ·
         rw [if_neg c26] at H
         have c26b0 : (a0_7 == 2) = false := beq_eq_false_iff_ne.mpr c26
         have c26b1 : (a0_7 != 2) = true := bne_iff_ne.mpr c26
         by_cases c28 : a0_7 < 2
         ·
          rw [if_pos c28] at H
          have c28b0 : decide (a0_7 < 2) = true := decide_eq_true c28
          clear c28
          obtain rfl := Option.some.inj H
          have hcz29_0 : wr.cell? ⟨gb101, 0, none⟩ = some (.int .i64 a0_0) := (blk_cell BK101.out 0).trans rfl
          have hcz29_1 : wr.cell? ⟨gb101, 1, none⟩ = some (.int .i64 a0_1) := (blk_cell BK101.out 1).trans rfl
          have hcz29_2 : wr.cell? ⟨gb101, 2, none⟩ = some (.int .i64 a0_2) := (blk_cell BK101.out 2).trans rfl
          have hcz29_3 : wr.cell? ⟨gb101, 3, none⟩ = some (.int .i64 a0_3) := (blk_cell BK101.out 3).trans rfl
          have hcz29_4 : wr.cell? ⟨gb101, 4, none⟩ = some (.int .u8 a0_4) := (blk_cell BK101.out 4).trans rfl
          have hcz29_5 : wr.cell? ⟨gb101, 5, none⟩ = some (.bool a0_5) := (blk_cell BK101.out 5).trans rfl
          have hcz29_6 : wr.cell? ⟨gb101, 6, none⟩ = some (.int .i64 a0_6) := (blk_cell BK101.out 6).trans rfl
          have hcz29_7 : wr.cell? ⟨gb101, 7, none⟩ = some (.int .u8 a0_7) := (blk_cell BK101.out 7).trans rfl
          have hfz29_0 := blk_frozen BK101.out 0
          have hfz29_1 := blk_frozen BK101.out 1
          have hfz29_2 := blk_frozen BK101.out 2
          have hfz29_3 := blk_frozen BK101.out 3
          have hfz29_4 := blk_frozen BK101.out 4
          have hfz29_5 := blk_frozen BK101.out 5
          have hfz29_6 := blk_frozen BK101.out 6
          have hfz29_7 := blk_frozen BK101.out 7
          go_wp2_with (first | ((with_reducible refine gate_callee (f := 50) rfl ?_); refine goesL_ (some 28) rfl rfl Tryd.func50 (by kernel_rfl) rfl #[.int .i64 a0_2] rfl mapx ?_; (with_reducible refine (clock_within.calls a0_2 true _ A19.out).mono ?_); rintro e w' ⟨rfl, ⟨nd, rfl⟩⟩; refine ⟨_, rfl, ?_⟩) | (go_at_call 50; (with_reducible refine (clock_within.calls a0_3 true _ A21.out).mono ?_); rintro e w' ⟨rfl, ⟨nd, rfl⟩⟩) | (go_at_call 50; (with_reducible refine (clock_within.calls a0_6 true _ A23.out).mono ?_); rintro e w' ⟨rfl, ⟨nd, rfl⟩⟩))
          go_ret
          exact ⟨by first | rfl | (simp [errW_none, errW_some] <;> rfl) | (simp [*, errW_none, errW_some] <;> rfl), low HB⟩
         ·
          rw [if_neg c28] at H
          have c28b0 : decide (a0_7 < 2) = false := decide_eq_false c28
          clear c28
          obtain rfl := Option.some.inj H
          have hcz30_0 : wr.cell? ⟨gb101, 0, none⟩ = some (.int .i64 a0_0) := (blk_cell BK101.out 0).trans rfl
          have hcz30_1 : wr.cell? ⟨gb101, 1, none⟩ = some (.int .i64 a0_1) := (blk_cell BK101.out 1).trans rfl
          have hcz30_2 : wr.cell? ⟨gb101, 2, none⟩ = some (.int .i64 a0_2) := (blk_cell BK101.out 2).trans rfl
          have hcz30_3 : wr.cell? ⟨gb101, 3, none⟩ = some (.int .i64 a0_3) := (blk_cell BK101.out 3).trans rfl
          have hcz30_4 : wr.cell? ⟨gb101, 4, none⟩ = some (.int .u8 a0_4) := (blk_cell BK101.out 4).trans rfl
          have hcz30_5 : wr.cell? ⟨gb101, 5, none⟩ = some (.bool a0_5) := (blk_cell BK101.out 5).trans rfl
          have hcz30_6 : wr.cell? ⟨gb101, 6, none⟩ = some (.int .i64 a0_6) := (blk_cell BK101.out 6).trans rfl
          have hcz30_7 : wr.cell? ⟨gb101, 7, none⟩ = some (.int .u8 a0_7) := (blk_cell BK101.out 7).trans rfl
          have hfz30_0 := blk_frozen BK101.out 0
          have hfz30_1 := blk_frozen BK101.out 1
          have hfz30_2 := blk_frozen BK101.out 2
          have hfz30_3 := blk_frozen BK101.out 3
          have hfz30_4 := blk_frozen BK101.out 4
          have hfz30_5 := blk_frozen BK101.out 5
          have hfz30_6 := blk_frozen BK101.out 6
          have hfz30_7 := blk_frozen BK101.out 7
          go_wp2_with (first | ((with_reducible refine gate_callee (f := 50) rfl ?_); refine goesL_ (some 28) rfl rfl Tryd.func50 (by kernel_rfl) rfl #[.int .i64 a0_2] rfl mapx ?_; (with_reducible refine (clock_within.calls a0_2 true _ A19.out).mono ?_); rintro e w' ⟨rfl, ⟨nd, rfl⟩⟩; refine ⟨_, rfl, ?_⟩) | (go_at_call 50; (with_reducible refine (clock_within.calls a0_3 true _ A21.out).mono ?_); rintro e w' ⟨rfl, ⟨nd, rfl⟩⟩) | (go_at_call 50; (with_reducible refine (clock_within.calls a0_6 true _ A23.out).mono ?_); rintro e w' ⟨rfl, ⟨nd, rfl⟩⟩))
          go_ret
          exact ⟨by first | rfl | (simp [errW_none, errW_some] <;> rfl) | (simp [*, errW_none, errW_some] <;> rfl), low HB⟩
       ·
        rw [if_neg c25] at H
        have c25b0 : decide (a0_4 < 2) = false := decide_eq_false c25
        clear c25
        obtain rfl := Option.some.inj H
        have hcz31_0 : wr.cell? ⟨gb101, 0, none⟩ = some (.int .i64 a0_0) := (blk_cell BK101.out 0).trans rfl
        have hcz31_1 : wr.cell? ⟨gb101, 1, none⟩ = some (.int .i64 a0_1) := (blk_cell BK101.out 1).trans rfl
        have hcz31_2 : wr.cell? ⟨gb101, 2, none⟩ = some (.int .i64 a0_2) := (blk_cell BK101.out 2).trans rfl
        have hcz31_3 : wr.cell? ⟨gb101, 3, none⟩ = some (.int .i64 a0_3) := (blk_cell BK101.out 3).trans rfl
        have hcz31_4 : wr.cell? ⟨gb101, 4, none⟩ = some (.int .u8 a0_4) := (blk_cell BK101.out 4).trans rfl
        have hcz31_5 : wr.cell? ⟨gb101, 5, none⟩ = some (.bool a0_5) := (blk_cell BK101.out 5).trans rfl
        have hcz31_6 : wr.cell? ⟨gb101, 6, none⟩ = some (.int .i64 a0_6) := (blk_cell BK101.out 6).trans rfl
        have hcz31_7 : wr.cell? ⟨gb101, 7, none⟩ = some (.int .u8 a0_7) := (blk_cell BK101.out 7).trans rfl
        have hfz31_0 := blk_frozen BK101.out 0
        have hfz31_1 := blk_frozen BK101.out 1
        have hfz31_2 := blk_frozen BK101.out 2
        have hfz31_3 := blk_frozen BK101.out 3
        have hfz31_4 := blk_frozen BK101.out 4
        have hfz31_5 := blk_frozen BK101.out 5
        have hfz31_6 := blk_frozen BK101.out 6
        have hfz31_7 := blk_frozen BK101.out 7
        go_wp2_with (first | ((with_reducible refine gate_callee (f := 50) rfl ?_); refine goesL_ (some 28) rfl rfl Tryd.func50 (by kernel_rfl) rfl #[.int .i64 a0_2] rfl mapx ?_; (with_reducible refine (clock_within.calls a0_2 true _ A19.out).mono ?_); rintro e w' ⟨rfl, ⟨nd, rfl⟩⟩; refine ⟨_, rfl, ?_⟩) | (go_at_call 50; (with_reducible refine (clock_within.calls a0_3 true _ A21.out).mono ?_); rintro e w' ⟨rfl, ⟨nd, rfl⟩⟩) | (go_at_call 50; (with_reducible refine (clock_within.calls a0_6 true _ A23.out).mono ?_); rintro e w' ⟨rfl, ⟨nd, rfl⟩⟩))
        go_ret
        exact ⟨by first | rfl | (simp [errW_none, errW_some] <;> rfl) | (simp [*, errW_none, errW_some] <;> rfl), low HB⟩
      ·
       replace c24 := Bool.eq_false_iff.mpr c24
       subst c24
       have H1 : (some false) = some r := by rw [if_neg (show ¬ (false = true) by decide)] at H; exact H
       clear H
       have H := H1
       clear H1
       obtain rfl := Option.some.inj H
       have hcz32_0 : wr.cell? ⟨gb101, 0, none⟩ = some (.int .i64 a0_0) := (blk_cell BK101.out 0).trans rfl
       have hcz32_1 : wr.cell? ⟨gb101, 1, none⟩ = some (.int .i64 a0_1) := (blk_cell BK101.out 1).trans rfl
       have hcz32_2 : wr.cell? ⟨gb101, 2, none⟩ = some (.int .i64 a0_2) := (blk_cell BK101.out 2).trans rfl
       have hcz32_3 : wr.cell? ⟨gb101, 3, none⟩ = some (.int .i64 a0_3) := (blk_cell BK101.out 3).trans rfl
       have hcz32_4 : wr.cell? ⟨gb101, 4, none⟩ = some (.int .u8 a0_4) := (blk_cell BK101.out 4).trans rfl
       have hcz32_5 : wr.cell? ⟨gb101, 5, none⟩ = some (.bool a0_5) := (blk_cell BK101.out 5).trans rfl
       have hcz32_6 : wr.cell? ⟨gb101, 6, none⟩ = some (.int .i64 a0_6) := (blk_cell BK101.out 6).trans rfl
       have hcz32_7 : wr.cell? ⟨gb101, 7, none⟩ = some (.int .u8 a0_7) := (blk_cell BK101.out 7).trans rfl
       have hfz32_0 := blk_frozen BK101.out 0
       have hfz32_1 := blk_frozen BK101.out 1
       have hfz32_2 := blk_frozen BK101.out 2
       have hfz32_3 := blk_frozen BK101.out 3
       have hfz32_4 := blk_frozen BK101.out 4
       have hfz32_5 := blk_frozen BK101.out 5
       have hfz32_6 := blk_frozen BK101.out 6
       have hfz32_7 := blk_frozen BK101.out 7
       go_wp2_with (first | ((with_reducible refine gate_callee (f := 50) rfl ?_); refine goesL_ (some 28) rfl rfl Tryd.func50 (by kernel_rfl) rfl #[.int .i64 a0_2] rfl mapx ?_; (with_reducible refine (clock_within.calls a0_2 true _ A19.out).mono ?_); rintro e w' ⟨rfl, ⟨nd, rfl⟩⟩; refine ⟨_, rfl, ?_⟩) | (go_at_call 50; (with_reducible refine (clock_within.calls a0_3 true _ A21.out).mono ?_); rintro e w' ⟨rfl, ⟨nd, rfl⟩⟩) | (go_at_call 50; (with_reducible refine (clock_within.calls a0_6 false _ A23.out).mono ?_); rintro e w' ⟨rfl, ⟨nd, rfl⟩⟩))
       go_ret
       exact ⟨by first | rfl | (simp [errW_none, errW_some] <;> rfl) | (simp [*, errW_none, errW_some] <;> rfl), low HB⟩
     ·
      replace c22 := Bool.eq_false_iff.mpr c22
      subst c22
      have H1 : (some false) = some r := by rw [if_neg (show ¬ (false = true) by decide)] at H; exact H
      clear H
      have H := H1
      clear H1
      obtain rfl := Option.some.inj H
      have hcz33_0 : wr.cell? ⟨gb101, 0, none⟩ = some (.int .i64 a0_0) := (blk_cell BK101.out 0).trans rfl
      have hcz33_1 : wr.cell? ⟨gb101, 1, none⟩ = some (.int .i64 a0_1) := (blk_cell BK101.out 1).trans rfl
      have hcz33_2 : wr.cell? ⟨gb101, 2, none⟩ = some (.int .i64 a0_2) := (blk_cell BK101.out 2).trans rfl
      have hcz33_3 : wr.cell? ⟨gb101, 3, none⟩ = some (.int .i64 a0_3) := (blk_cell BK101.out 3).trans rfl
      have hcz33_4 : wr.cell? ⟨gb101, 4, none⟩ = some (.int .u8 a0_4) := (blk_cell BK101.out 4).trans rfl
      have hcz33_5 : wr.cell? ⟨gb101, 5, none⟩ = some (.bool a0_5) := (blk_cell BK101.out 5).trans rfl
      have hcz33_6 : wr.cell? ⟨gb101, 6, none⟩ = some (.int .i64 a0_6) := (blk_cell BK101.out 6).trans rfl
      have hcz33_7 : wr.cell? ⟨gb101, 7, none⟩ = some (.int .u8 a0_7) := (blk_cell BK101.out 7).trans rfl
      have hfz33_0 := blk_frozen BK101.out 0
      have hfz33_1 := blk_frozen BK101.out 1
      have hfz33_2 := blk_frozen BK101.out 2
      have hfz33_3 := blk_frozen BK101.out 3
      have hfz33_4 := blk_frozen BK101.out 4
      have hfz33_5 := blk_frozen BK101.out 5
      have hfz33_6 := blk_frozen BK101.out 6
      have hfz33_7 := blk_frozen BK101.out 7
      go_wp2_with (first | ((with_reducible refine gate_callee (f := 50) rfl ?_); refine goesL_ (some 28) rfl rfl Tryd.func50 (by kernel_rfl) rfl #[.int .i64 a0_2] rfl mapx ?_; (with_reducible refine (clock_within.calls a0_2 true _ A19.out).mono ?_); rintro e w' ⟨rfl, ⟨nd, rfl⟩⟩; refine ⟨_, rfl, ?_⟩) | (go_at_call 50; (with_reducible refine (clock_within.calls a0_3 false _ A21.out).mono ?_); rintro e w' ⟨rfl, ⟨nd, rfl⟩⟩))
      go_ret
      exact ⟨by first | rfl | (simp [errW_none, errW_some] <;> rfl) | (simp [*, errW_none, errW_some] <;> rfl), low HB⟩
    ·
     replace c20 := Bool.eq_false_iff.mpr c20
     subst c20
     have H1 : (some false) = some r := by rw [if_neg (show ¬ (false = true) by decide)] at H; exact H
     clear H
     have H := H1
     clear H1
     obtain rfl := Option.some.inj H
     have hcz34_0 : wr.cell? ⟨gb101, 0, none⟩ = some (.int .i64 a0_0) := (blk_cell BK101.out 0).trans rfl
     have hcz34_1 : wr.cell? ⟨gb101, 1, none⟩ = some (.int .i64 a0_1) := (blk_cell BK101.out 1).trans rfl
     have hcz34_2 : wr.cell? ⟨gb101, 2, none⟩ = some (.int .i64 a0_2) := (blk_cell BK101.out 2).trans rfl
     have hcz34_3 : wr.cell? ⟨gb101, 3, none⟩ = some (.int .i64 a0_3) := (blk_cell BK101.out 3).trans rfl
     have hcz34_4 : wr.cell? ⟨gb101, 4, none⟩ = some (.int .u8 a0_4) := (blk_cell BK101.out 4).trans rfl
     have hcz34_5 : wr.cell? ⟨gb101, 5, none⟩ = some (.bool a0_5) := (blk_cell BK101.out 5).trans rfl
     have hcz34_6 : wr.cell? ⟨gb101, 6, none⟩ = some (.int .i64 a0_6) := (blk_cell BK101.out 6).trans rfl
     have hcz34_7 : wr.cell? ⟨gb101, 7, none⟩ = some (.int .u8 a0_7) := (blk_cell BK101.out 7).trans rfl
     have hfz34_0 := blk_frozen BK101.out 0
     have hfz34_1 := blk_frozen BK101.out 1
     have hfz34_2 := blk_frozen BK101.out 2
     have hfz34_3 := blk_frozen BK101.out 3
     have hfz34_4 := blk_frozen BK101.out 4
     have hfz34_5 := blk_frozen BK101.out 5
     have hfz34_6 := blk_frozen BK101.out 6
     have hfz34_7 := blk_frozen BK101.out 7
     go_wp2_with (first | ((with_reducible refine gate_callee (f := 50) rfl ?_); refine goesL_ (some 28) rfl rfl Tryd.func50 (by kernel_rfl) rfl #[.int .i64 a0_2] rfl mapx ?_; (with_reducible refine (clock_within.calls a0_2 false _ A19.out).mono ?_); rintro e w' ⟨rfl, ⟨nd, rfl⟩⟩; refine ⟨_, rfl, ?_⟩))
     go_ret
     exact ⟨by first | rfl | (simp [errW_none, errW_some] <;> rfl) | (simp [*, errW_none, errW_some] <;> rfl), low HB⟩
def clock_New.f (k : Nat) (a0 : Int) (a1 : Int) (a2 : Int) : Option (Int × Int × Int × Int × Int × Bool × Int × Int × Int) := (clock_May.f k a0 a0 a1 a2 0 false 0 2).bind fun t109 => (if t109 = true then (some (a0, a0, a1, a2, 0, false, 0, 2, 0)) else (some (0, 0, 0, 0, 0, false, 0, 0, 2)))
set_option maxHeartbeats 8000000 in
set_option maxRecDepth 100000 in
theorem clock_New.calls (k : Nat) (a0 : Int) (a1 : Int) (a2 : Int) (r1 : Int) (r2 : Int) (r3 : Int) (r4 : Int) (r5 : Int) (r6 : Bool) (r7 : Int) (r8 : Int) (r9 : Int) (w : World) (h : clock_New.f k a0 a1 a2 = some (r1, r2, r3, r4, r5, r6, r7, r8, r9)) :
  Calls Tryd.prog 13 #[.int .i64 a0, .int .i64 a1, .int .i64 a2] w fun e w' => e = .returned (.tuple #[.agg #[.int .i64 r1, .int .i64 r2, .int .i64 r3, .int .i64 r4, .int .u8 r5, .bool r6, .int .i64 r7, .int .u8 r8], .int .i64 r9]) ∧ Below w.heap.size w w' := by
 have hu24 := Tryd.underlying24
 have hu22 := Tryd.underlying22
 have HB := Az (Below.refl w.heap.size w)
 have H : ((clock_May.f k a0 a0 a1 a2 0 false 0 2).bind fun t109 => (if t109 = true then (some (a0, a0, a1, a2, 0, false, 0, 2, 0)) else (some (0, 0, 0, 0, 0, false, 0, 0, 2)))) = some (r1, r2, r3, r4, r5, r6, r7, r8, r9) := h
 clear h
 replace H := Option.bind_eq_some_iff.mp H
 obtain ⟨t109, A40, H⟩ := H
 replace H : (if t109 = true then (some (a0, a0, a1, a2, 0, false, 0, 2, 0)) else (some (0, 0, 0, 0, 0, false, 0, 0, 2))) = some (r1, r2, r3, r4, r5, r6, r7, r8, r9) := H
 have A4 := Az A40
 clear A40
 by_cases c5 : t109 = true
 ·
  subst c5
  have H1 : (some (a0, a0, a1, a2, 0, false, 0, 2, 0)) = some (r1, r2, r3, r4, r5, r6, r7, r8, r9) := by rw [if_pos rfl] at H; exact H
  clear H
  have H := H1
  clear H1
  simp only [Option.some.injEq, Prod.mk.injEq] at H
  obtain ⟨rfl, rfl, rfl, rfl, rfl, rfl, rfl, rfl, rfl⟩ := H
  go_enter Tryd.func13, Tryd.ntmps13
  go_wp2_with (first | ((with_reducible refine gate_dst (N := 6) rfl ?_); refine box_event ?hg (N := 6) ?hd (cs := #[.int .i64 0, .int .i64 0, .int .i64 0, .int .i64 0, .int .u8 0, .bool false, .int .i64 0, .int .u8 0]) (t := 24) ?hr ?_; (case hd => rfl); (case hg => rfl); (case hr => first | (go_simp; done) | (go_simp; rfl)); intro gb107 hg w6 hbox hb; have n0_ := Az (below_step (low HB) hb); have n1_ := Az (hbox); have n2_ := Az ((by rw [hg]; exact (below_size (low HB)) : w.heap.size ≤ gb107)); have n3_ := Az ((by rw [hg]; exact (below_size (low HB)) : w.heap.size ≤ gb107)); clear HB; have HB := n0_; have BK107 := n1_; have GW107 := n2_; have GE107 := n3_; clear n0_ n1_ n2_ n3_; clear hb hbox hg) | ((with_reducible refine gate_dst (N := 8) rfl ?_); refine box_event ?hg (N := 8) ?hd (cs := #[.int .i64 0, .int .i64 0, .int .i64 0, .int .i64 0, .int .u8 0, .bool false, .int .i64 0, .int .u8 0]) (t := 24) ?hr ?_; (case hd => rfl); (case hg => rfl); (case hr => first | (go_simp; done) | (go_simp; rfl)); intro gb108 hg w7 hbox hb; have n0_ := Az (blk_below (g := gb107) (o := .cells #[.int .i64 0, .int .i64 0, .int .i64 0, .int .i64 0, .int .u8 0, .bool false, .int .i64 0, .int .u8 0] 24 (0, 0)) of_lies hb); have n1_ := Az (below_step (low HB) hb); have n2_ := Az (hbox); have n3_ := Az ((by rw [hg]; exact (below_size (low HB)) : w.heap.size ≤ gb108)); have n4_ := Az ((by rw [hg]; exact (below_size (low HB)) : w.heap.size ≤ gb108)); have n5_ := Az ((by rw [hg]; exact Nat.ne_of_lt (blk_lt (g := gb107) (o := .cells #[.int .i64 0, .int .i64 0, .int .i64 0, .int .i64 0, .int .u8 0, .bool false, .int .i64 0, .int .u8 0] 24 (0, 0)) of_lies) : gb107 ≠ gb108)); have n6_ := Az ((by rw [hg]; exact Nat.ne_of_gt (blk_lt (g := gb107) (o := .cells #[.int .i64 0, .int .i64 0, .int .i64 0, .int .i64 0, .int .u8 0, .bool false, .int .i64 0, .int .u8 0] 24 (0, 0)) of_lies) : gb108 ≠ gb107)); clear BK107; clear HB; have BK107 := n0_; have HB := n1_; have BK108 := n2_; have GW108 := n3_; have GE108 := n4_; have NB107_108 := n5_; have NB108_107 := n6_; clear n0_ n1_ n2_ n3_ n4_ n5_ n6_; clear hb hbox hg; have hnb8 := NB108_107.out; have hnc8 := NB107_108.out; obtain ⟨hcz9_0, hcz9_1, hcz9_2, hcz9_3, hcz9_4, hcz9_5, hcz9_6, hcz9_7, hfz9_0, hfz9_1, hfz9_2, hfz9_3, hfz9_4, hfz9_5, hfz9_6, hfz9_7⟩ := cells8 BK108.out) | ((with_reducible refine gate_callee (f := 15) rfl ?_); refine goesL_ (some 16) rfl rfl Tryd.func15 (by kernel_rfl) rfl #[.agg #[.int .i64 a0, .int .i64 a0, .int .i64 a1, .int .i64 a2, .int .u8 0, .bool false, .int .i64 0, .int .u8 2]] rfl mapx ?_; (with_reducible refine (clock_May.calls k a0 a0 a1 a2 0 false 0 2 true _ A4.out).mono ?_); rintro e w10 ⟨rfl, hb⟩; refine ⟨_, rfl, ?_⟩; have n0_ := Az (blk_below (g := gb107) (o := .cells #[.int .i64 0, .int .i64 0, .int .i64 0, .int .i64 0, .int .u8 0, .bool false, .int .i64 0, .int .u8 0] 24 (0, 0)) (by (with_reducible repeat (first | refine bN ?_ _ | refine bD ?_ | refine bA ?_ _)); refine blk_far ?_ NB107_108.out _; (with_reducible repeat (first | refine bN ?_ _ | refine bD ?_ | refine bA ?_ _)); refine blk_far ?_ NB107_108.out _; (with_reducible repeat (first | refine bN ?_ _ | refine bD ?_ | refine bA ?_ _)); refine blk_far ?_ NB107_108.out _; (with_reducible repeat (first | refine bN ?_ _ | refine bD ?_ | refine bA ?_ _)); refine blk_far ?_ NB107_108.out _; (with_reducible repeat (first | refine bN ?_ _ | refine bD ?_ | refine bA ?_ _)); refine blk_far ?_ NB107_108.out _; (with_reducible repeat (first | refine bN ?_ _ | refine bD ?_ | refine bA ?_ _)); refine blk_far ?_ NB107_108.out _; (with_reducible repeat (first | refine bN ?_ _ | refine bD ?_ | refine bA ?_ _)); refine blk_far ?_ NB107_108.out _; (with_reducible repeat (first | refine bN ?_ _ | refine bD ?_ | refine bA ?_ _)); refine blk_far ?_ NB107_108.out _; exact of_lies) hb); have n1_ := Az (blk_below (g := gb108) (o := .cells #[.int .i64 a0, .int .i64 a0, .int .i64 a1, .int .i64 a2, .int .u8 0, .bool false, .int .i64 0, .int .u8 2] 24 (0, 0)) (by (with_reducible repeat (first | refine bN ?_ _ | refine bD ?_ | refine bA ?_ _)); refine blk_put (cs := #[.int .i64 a0, .int .i64 a0, .int .i64 a1, .int .i64 a2, .int .u8 0, .bool false, .int .i64 0, .int .u8 0]) ?_ 7 _ rfl; (with_reducible repeat (first | refine bN ?_ _ | refine bD ?_ | refine bA ?_ _)); refine blk_put (cs := #[.int .i64 a0, .int .i64 a0, .int .i64 a1, .int .i64 a2, .int .u8 0, .bool false, .int .i64 0, .int .u8 0]) ?_ 6 _ rfl; (with_reducible repeat (first | refine bN ?_ _ | refine bD ?_ | refine bA ?_ _)); refine blk_put (cs := #[.int .i64 a0, .int .i64 a0, .int .i64 a1, .int .i64 a2, .int .u8 0, .bool false, .int .i64 0, .int .u8 0]) ?_ 5 _ rfl; (with_reducible repeat (first | refine bN ?_ _ | refine bD ?_ | refine bA ?_ _)); refine blk_put (cs := #[.int .i64 a0, .int .i64 a0, .int .i64 a1, .int .i64 a2, .int .u8 0, .bool false, .int .i64 0, .int .u8 0]) ?_ 4 _ rfl; (with_reducible repeat (first | refine bN ?_ _ | refine bD ?_ | refine bA ?_ _)); refine blk_put (cs := #[.int .i64 a0, .int .i64 a0, .int .i64 a1, .int .i64 0, .int .u8 0, .bool false, .int .i64 0, .int .u8 0]) ?_ 3 _ rfl; (with_reducible repeat (first | refine bN ?_ _ | refine bD ?_ | refine bA ?_ _)); refine blk_put (cs := #[.int .i64 a0, .int .i64 a0, .int .i64 0, .int .i64 0, .int .u8 0, .bool false, .int .i64 0, .int .u8 0]) ?_ 2 _ rfl; (with_reducible repeat (first | refine bN ?_ _ | refine bD ?_ | refine bA ?_ _)); refine blk_put (cs := #[.int .i64 a0, .int .i64 0, .int .i64 0, .int .i64 0, .int .u8 0, .bool false, .int .i64 0, .int .u8 0]) ?_ 1 _ rfl; (with_reducible repeat (first | refine bN ?_ _ | refine bD ?_ | refine bA ?_ _)); refine blk_put (cs := #[.int .i64 0, .int .i64 0, .int .i64 0, .int .i64 0, .int .u8 0, .bool false, .int .i64 0, .int .u8 0]) ?_ 0 _ rfl; exact of_lies) hb); have n2_ := Az (below_step (low HB) hb); clear BK107; clear BK108; clear HB; have BK107 := n0_; have BK108 := n1_; have HB := n2_; clear n0_ n1_ n2_; (try clear hb); (try clear hb2); (try clear hk); (try clear hi); obtain ⟨hcz11_0, hcz11_1, hcz11_2, hcz11_3, hcz11_4, hcz11_5, hcz11_6, hcz11_7, hfz11_0, hfz11_1, hfz11_2, hfz11_3, hfz11_4, hfz11_5, hfz11_6, hfz11_7⟩ := cells8 BK108.out; obtain ⟨hcz12_0, hcz12_1, hcz12_2, hcz12_3, hcz12_4, hcz12_5, hcz12_6, hcz12_7, hfz12_0, hfz12_1, hfz12_2, hfz12_3, hfz12_4, hfz12_5, hfz12_6, hfz12_7⟩ := cells8 BK107.out))
  refine bodyPost_ret (results_ct rfl _ _ gb107 24 #[.int .i64 a0, .int .i64 a0, .int .i64 a1, .int .i64 a2, .int .u8 0, .bool false, .int .i64 0, .int .u8 2] (0, 0) _ rfl (by (with_reducible repeat (first | refine bN ?_ _ | refine bD ?_ | refine bA ?_ _)); refine blk_put (cs := #[.int .i64 a0, .int .i64 a0, .int .i64 a1, .int .i64 a2, .int .u8 0, .bool false, .int .i64 0, .int .u8 0]) ?_ 7 _ rfl; (with_reducible repeat (first | refine bN ?_ _ | refine bD ?_ | refine bA ?_ _)); refine blk_put (cs := #[.int .i64 a0, .int .i64 a0, .int .i64 a1, .int .i64 a2, .int .u8 0, .bool false, .int .i64 0, .int .u8 0]) ?_ 6 _ rfl; (with_reducible repeat (first | refine bN ?_ _ | refine bD ?_ | refine bA ?_ _)); refine blk_put (cs := #[.int .i64 a0, .int .i64 a0, .int .i64 a1, .int .i64 a2, .int .u8 0, .bool false, .int .i64 0, .int .u8 0]) ?_ 5 _ rfl; (with_reducible repeat (first | refine bN ?_ _ | refine bD ?_ | refine bA ?_ _)); refine blk_put (cs := #[.int .i64 a0, .int .i64 a0, .int .i64 a1, .int .i64 a2, .int .u8 0, .bool false, .int .i64 0, .int .u8 0]) ?_ 4 _ rfl; (with_reducible repeat (first | refine bN ?_ _ | refine bD ?_ | refine bA ?_ _)); refine blk_put (cs := #[.int .i64 a0, .int .i64 a0, .int .i64 a1, .int .i64 0, .int .u8 0, .bool false, .int .i64 0, .int .u8 0]) ?_ 3 _ rfl; (with_reducible repeat (first | refine bN ?_ _ | refine bD ?_ | refine bA ?_ _)); refine blk_put (cs := #[.int .i64 a0, .int .i64 a0, .int .i64 0, .int .i64 0, .int .u8 0, .bool false, .int .i64 0, .int .u8 0]) ?_ 2 _ rfl; (with_reducible repeat (first | refine bN ?_ _ | refine bD ?_ | refine bA ?_ _)); refine blk_put (cs := #[.int .i64 a0, .int .i64 0, .int .i64 0, .int .i64 0, .int .u8 0, .bool false, .int .i64 0, .int .u8 0]) ?_ 1 _ rfl; (with_reducible repeat (first | refine bN ?_ _ | refine bD ?_ | refine bA ?_ _)); refine blk_put (cs := #[.int .i64 0, .int .i64 0, .int .i64 0, .int .i64 0, .int .u8 0, .bool false, .int .i64 0, .int .u8 0]) ?_ 0 _ rfl; exact of_lies) Tryd.underlying24 rfl (by kernel_rfl)) rfl ?_
  exact ⟨by first | rfl | (simp [errW_none, errW_some] <;> rfl) | (simp [*, errW_none, errW_some] <;> rfl), low HB⟩
 ·
  replace c5 := Bool.eq_false_iff.mpr c5
  subst c5
  have H1 : (some (0, 0, 0, 0, 0, false, 0, 0, 2)) = some (r1, r2, r3, r4, r5, r6, r7, r8, r9) := by rw [if_neg (show ¬ (false = true) by decide)] at H; exact H
  clear H
  have H := H1
  clear H1
  simp only [Option.some.injEq, Prod.mk.injEq] at H
  obtain ⟨rfl, rfl, rfl, rfl, rfl, rfl, rfl, rfl, rfl⟩ := H
  go_enter Tryd.func13, Tryd.ntmps13
  go_wp2_with (first | ((with_reducible refine gate_dst (N := 6) rfl ?_); refine box_event ?hg (N := 6) ?hd (cs := #[.int .i64 0, .int .i64 0, .int .i64 0, .int .i64 0, .int .u8 0, .bool false, .int .i64 0, .int .u8 0]) (t := 24) ?hr ?_; (case hd => rfl); (case hg => rfl); (case hr => first | (go_simp; done) | (go_simp; rfl)); intro gb107 hg w13 hbox hb; have n0_ := Az (below_step (low HB) hb); have n1_ := Az (hbox); have n2_ := Az ((by rw [hg]; exact (below_size (low HB)) : w.heap.size ≤ gb107)); have n3_ := Az ((by rw [hg]; exact (below_size (low HB)) : w.heap.size ≤ gb107)); clear HB; have HB := n0_; have BK107 := n1_; have GW107 := n2_; have GE107 := n3_; clear n0_ n1_ n2_ n3_; clear hb hbox hg) | ((with_reducible refine gate_dst (N := 8) rfl ?_); refine box_event ?hg (N := 8) ?hd (cs := #[.int .i64 0, .int .i64 0, .int .i64 0, .int .i64 0, .int .u8 0, .bool false, .int .i64 0, .int .u8 0]) (t := 24) ?hr ?_; (case hd => rfl); (case hg => rfl); (case hr => first | (go_simp; done) | (go_simp; rfl)); intro gb108 hg w14 hbox hb; have n0_ := Az (blk_below (g := gb107) (o := .cells #[.int .i64 0, .int .i64 0, .int .i64 0, .int .i64 0, .int .u8 0, .bool false, .int .i64 0, .int .u8 0] 24 (0, 0)) of_lies hb); have n1_ := Az (below_step (low HB) hb); have n2_ := Az (hbox); have n3_ := Az ((by rw [hg]; exact (below_size (low HB)) : w.heap.size ≤ gb108)); have n4_ := Az ((by rw [hg]; exact (below_size (low HB)) : w.heap.size ≤ gb108)); have n5_ := Az ((by rw [hg]; exact Nat.ne_of_lt (blk_lt (g := gb107) (o := .cells #[.int .i64 0, .int .i64 0, .int .i64 0, .int .i64 0, .int .u8 0, .bool false, .int .i64 0, .int .u8 0] 24 (0, 0)) of_lies) : gb107 ≠ gb108)); have n6_ := Az ((by rw [hg]; exact Nat.ne_of_gt (blk_lt (g := gb107) (o := .cells #[.int .i64 0, .int .i64 0, .int .i64 0, .int .i64 0, .int .u8 0, .bool false, .int .i64 0, .int .u8 0] 24 (0, 0)) of_lies) : gb108 ≠ gb107)); clear BK107; clear HB; have BK107 := n0_; have HB := n1_; have BK108 := n2_; have GW108 := n3_; have GE108 := n4_; have NB107_108 := n5_; have NB108_107 := n6_; clear n0_ n1_ n2_ n3_ n4_ n5_ n6_; clear hb hbox hg; have hnb15 := NB108_107.out; have hnc15 := NB107_108.out; obtain ⟨hcz16_0, hcz16_1, hcz16_2, hcz16_3, hcz16_4, hcz16_5, hcz16_6, hcz16_7, hfz16_0, hfz16_1, hfz16_2, hfz16_3, hfz16_4, hfz16_5, hfz16_6, hfz16_7⟩ := cells8 BK108.out) | ((with_reducible refine gate_callee (f := 15) rfl ?_); refine goesL_ (some 16) rfl rfl Tryd.func15 (by kernel_rfl) rfl #[.agg #[.int .i64 a0, .int .i64 a0, .int .i64 a1, .int .i64 a2, .int .u8 0, .bool false, .int .i64 0, .int .u8 2]] rfl mapx ?_; (with_reducible refine (clock_May.calls k a0 a0 a1 a2 0 false 0 2 false _ A4.out).mono ?_); rintro e w17 ⟨rfl, hb⟩; refine ⟨_, rfl, ?_⟩; have n0_ := Az (blk_below (g := gb107) (o := .cells #[.int .i64 0, .int .i64 0, .int .i64 0, .int .i64 0, .int .u8 0, .bool false, .int .i64 0, .int .u8 0] 24 (0, 0)) (by (with_reducible repeat (first | refine bN ?_ _ | refine bD ?_ | refine bA ?_ _)); refine blk_far ?_ NB107_108.out _; (with_reducible repeat (first | refine bN ?_ _ | refine bD ?_ | refine bA ?_ _)); refine blk_far ?_ NB107_108.out _; (with_reducible repeat (first | refine bN ?_ _ | refine bD ?_ | refine bA ?_ _)); refine blk_far ?_ NB107_108.out _; (with_reducible repeat (first | refine bN ?_ _ | refine bD ?_ | refine bA ?_ _)); refine blk_far ?_ NB107_108.out _; (with_reducible repeat (first | refine bN ?_ _ | refine bD ?_ | refine bA ?_ _)); refine blk_far ?_ NB107_108.out _; (with_reducible repeat (first | refine bN ?_ _ | refine bD ?_ | refine bA ?_ _)); refine blk_far ?_ NB107_108.out _; (with_reducible repeat (first | refine bN ?_ _ | refine bD ?_ | refine bA ?_ _)); refine blk_far ?_ NB107_108.out _; (with_reducible repeat (first | refine bN ?_ _ | refine bD ?_ | refine bA ?_ _)); refine blk_far ?_ NB107_108.out _; exact of_lies) hb); have n1_ := Az (blk_below (g := gb108) (o := .cells #[.int .i64 a0, .int .i64 a0, .int .i64 a1, .int .i64 a2, .int .u8 0, .bool false, .int .i64 0, .int .u8 2] 24 (0, 0)) (by (with_reducible repeat (first | refine bN ?_ _ | refine bD ?_ | refine bA ?_ _)); refine blk_put (cs := #[.int .i64 a0, .int .i64 a0, .int .i64 a1, .int .i64 a2, .int .u8 0, .bool false, .int .i64 0, .int .u8 0]) ?_ 7 _ rfl; (with_reducible repeat (first | refine bN ?_ _ | refine bD ?_ | refine bA ?_ _)); refine blk_put (cs := #[.int .i64 a0, .int .i64 a0, .int .i64 a1, .int .i64 a2, .int .u8 0, .bool false, .int .i64 0, .int .u8 0]) ?_ 6 _ rfl; (with_reducible repeat (first | refine bN ?_ _ | refine bD ?_ | refine bA ?_ _)); refine blk_put (cs := #[.int .i64 a0, .int .i64 a0, .int .i64 a1, .int .i64 a2, .int .u8 0, .bool false, .int .i64 0, .int .u8 0]) ?_ 5 _ rfl; (with_reducible repeat (first | refine bN ?_ _ | refine bD ?_ | refine bA ?_ _)); refine blk_put (cs := #[.int .i64 a0, .int .i64 a0, .int .i64 a1, .int .i64 a2, .int .u8 0, .bool false, .int .i64 0, .int .u8 0]) ?_ 4 _ rfl; (with_reducible repeat (first | refine bN ?_ _ | refine bD ?_ | refine bA ?_ _)); refine blk_put (cs := #[.int .i64 a0, .int .i64 a0, .int .i64 a1, .int .i64 0, .int .u8 0, .bool false, .int .i64 0, .int .u8 0]) ?_ 3 _ rfl; (with_reducible repeat (first | refine bN ?_ _ | refine bD ?_ | refine bA ?_ _)); refine blk_put (cs := #[.int .i64 a0, .int .i64 a0, .int .i64 0, .int .i64 0, .int .u8 0, .bool false, .int .i64 0, .int .u8 0]) ?_ 2 _ rfl; (with_reducible repeat (first | refine bN ?_ _ | refine bD ?_ | refine bA ?_ _)); refine blk_put (cs := #[.int .i64 a0, .int .i64 0, .int .i64 0, .int .i64 0, .int .u8 0, .bool false, .int .i64 0, .int .u8 0]) ?_ 1 _ rfl; (with_reducible repeat (first | refine bN ?_ _ | refine bD ?_ | refine bA ?_ _)); refine blk_put (cs := #[.int .i64 0, .int .i64 0, .int .i64 0, .int .i64 0, .int .u8 0, .bool false, .int .i64 0, .int .u8 0]) ?_ 0 _ rfl; exact of_lies) hb); have n2_ := Az (below_step (low HB) hb); clear BK107; clear BK108; clear HB; have BK107 := n0_; have BK108 := n1_; have HB := n2_; clear n0_ n1_ n2_; (try clear hb); (try clear hb2); (try clear hk); (try clear hi); obtain ⟨hcz18_0, hcz18_1, hcz18_2, hcz18_3, hcz18_4, hcz18_5, hcz18_6, hcz18_7, hfz18_0, hfz18_1, hfz18_2, hfz18_3, hfz18_4, hfz18_5, hfz18_6, hfz18_7⟩ := cells8 BK107.out))
  refine bodyPost_ret (results_ct rfl _ _ gb107 24 #[.int .i64 0, .int .i64 0, .int .i64 0, .int .i64 0, .int .u8 0, .bool false, .int .i64 0, .int .u8 0] (0, 0) _ rfl (by (with_reducible repeat (first | refine bN ?_ _ | refine bD ?_ | refine bA ?_ _)); refine blk_put (cs := #[.int .i64 0, .int .i64 0, .int .i64 0, .int .i64 0, .int .u8 0, .bool false, .int .i64 0, .int .u8 0]) ?_ 7 _ rfl; (with_reducible repeat (first | refine bN ?_ _ | refine bD ?_ | refine bA ?_ _)); refine blk_put (cs := #[.int .i64 0, .int .i64 0, .int .i64 0, .int .i64 0, .int .u8 0, .bool false, .int .i64 0, .int .u8 0]) ?_ 6 _ rfl; (with_reducible repeat (first | refine bN ?_ _ | refine bD ?_ | refine bA ?_ _)); refine blk_put (cs := #[.int .i64 0, .int .i64 0, .int .i64 0, .int .i64 0, .int .u8 0, .bool false, .int .i64 0, .int .u8 0]) ?_ 5 _ rfl; (with_reducible repeat (first | refine bN ?_ _ | refine bD ?_ | refine bA ?_ _)); refine blk_put (cs := #[.int .i64 0, .int .i64 0, .int .i64 0, .int .i64 0, .int .u8 0, .bool false, .int .i64 0, .int .u8 0]) ?_ 4 _ rfl; (with_reducible repeat (first | refine bN ?_ _ | refine bD ?_ | refine bA ?_ _)); refine blk_put (cs := #[.int .i64 0, .int .i64 0, .int .i64 0, .int .i64 0, .int .u8 0, .bool false, .int .i64 0, .int .u8 0]) ?_ 3 _ rfl; (with_reducible repeat (first | refine bN ?_ _ | refine bD ?_ | refine bA ?_ _)); refine blk_put (cs := #[.int .i64 0, .int .i64 0, .int .i64 0, .int .i64 0, .int .u8 0, .bool false, .int .i64 0, .int .u8 0]) ?_ 2 _ rfl; (with_reducible repeat (first | refine bN ?_ _ | refine bD ?_ | refine bA ?_ _)); refine blk_put (cs := #[.int .i64 0, .int .i64 0, .int .i64 0, .int .i64 0, .int .u8 0, .bool false, .int .i64 0, .int .u8 0]) ?_ 1 _ rfl; (with_reducible repeat (first | refine bN ?_ _ | refine bD ?_ | refine bA ?_ _)); refine blk_put (cs := #[.int .i64 0, .int .i64 0, .int .i64 0, .int .i64 0, .int .u8 0, .bool false, .int .i64 0, .int .u8 0]) ?_ 0 _ rfl; exact of_lies) Tryd.underlying24 rfl (by kernel_rfl)) rfl ?_
  exact ⟨by first | rfl | (simp [errW_none, errW_some] <;> rfl) | (simp [*, errW_none, errW_some] <;> rfl), low HB⟩
def clock_may.f (k : Nat) (a0_0 : Int) (a0_1 : Int) (a0_2 : Int) (a0_3 : Int) (a0_4 : Int) (a0_5 : Bool) (a0_6 : Int) (a0_7 : Int) (a1 : Int) : Option (Bool) := (clock_May.f k a0_0 a0_1 a0_2 a0_3 a0_4 a0_5 a0_6 a0_7).bind fun t111 => (if t111 = true then ((clock_within.f a1).bind fun t112 => (if t112 = true then (some (decide (a1 ≥ a0_6))) else (some false))) else (some false))
set_option maxHeartbeats 8000000 in
set_option maxRecDepth 100000 in
theorem clock_may.calls (k : Nat) (a0_0 : Int) (a0_1 : Int) (a0_2 : Int) (a0_3 : Int) (a0_4 : Int) (a0_5 : Bool) (a0_6 : Int) (a0_7 : Int) (a1 : Int) (r : Bool) (w : World) (h : clock_may.f k a0_0 a0_1 a0_2 a0_3 a0_4 a0_5 a0_6 a0_7 a1 = some r) :
  Calls Tryd.prog 53 #[.agg #[.int .i64 a0_0, .int .i64 a0_1, .int .i64 a0_2, .int .i64 a0_3, .int .u8 a0_4, .bool a0_5, .int .i64 a0_6, .int .u8 a0_7], .int .i64 a1] w fun e w' => e = .returned (.bool r) ∧ Below w.heap.size w w' := by
 have hu24 := Tryd.underlying24
 have HB := Az (Below.refl w.heap.size w)
 have H : ((clock_May.f k a0_0 a0_1 a0_2 a0_3 a0_4 a0_5 a0_6 a0_7).bind fun t111 => (if t111 = true then ((clock_within.f a1).bind fun t112 => (if t112 = true then (some (decide (a1 ≥ a0_6))) else (some false))) else (some false))) = some r := h
 clear h
 replace H := Option.bind_eq_some_iff.mp H
 obtain ⟨t111, A30, H⟩ := H
 replace H : (if t111 = true then ((clock_within.f a1).bind fun t112 => (if t112 = true then (some (decide (a1 ≥ a0_6))) else (some false))) else (some false)) = some r := H
 have A3 := Az A30
 clear A30
 by_cases c4 : t111 = true
 ·
  subst c4
  have H1 : ((clock_within.f a1).bind fun t112 => (if t112 = true then (some (decide (a1 ≥ a0_6))) else (some false))) = some r := by rw [if_pos rfl] at H; exact H
  clear H
  have H := H1
  clear H1
  replace H := Option.bind_eq_some_iff.mp H
  obtain ⟨t112, A50, H⟩ := H
  replace H : (if t112 = true then (some (decide (a1 ≥ a0_6))) else (some false)) = some r := H
  have A5 := Az A50
  clear A50
  by_cases c6 : t112 = true
  ·
   subst c6
   have H1 : (some (decide (a1 ≥ a0_6))) = some r := by rw [if_pos rfl] at H; exact H
   clear H
   have H := H1
   clear H1
   obtain rfl := Option.some.inj H
   go_enter Tryd.func53, Tryd.ntmps53
   go_wp2_with (first | ((with_reducible refine gate_dst (N := 2) rfl ?_); refine box_event ?hg (N := 2) ?hd (cs := #[.int .i64 a0_0, .int .i64 a0_1, .int .i64 a0_2, .int .i64 a0_3, .int .u8 a0_4, .bool a0_5, .int .i64 a0_6, .int .u8 a0_7]) (t := 24) ?hr ?_; (case hd => rfl); (case hg => rfl); (case hr => first | (go_simp; done) | (go_simp; rfl)); intro gb110 hg w7 hbox hb; have n0_ := Az (below_step (low HB) hb); have n1_ := Az (hbox); have n2_ := Az ((by rw [hg]; exact (below_size (low HB)) : w.heap.size ≤ gb110)); have n3_ := Az ((by rw [hg]; exact (below_size (low HB)) : w.heap.size ≤ gb110)); clear HB; have HB := n0_; have BK110 := n1_; have GW110 := n2_; have GE110 := n3_; clear n0_ n1_ n2_ n3_; clear hb hbox hg; obtain ⟨hcz8_0, hcz8_1, hcz8_2, hcz8_3, hcz8_4, hcz8_5, hcz8_6, hcz8_7, hfz8_0, hfz8_1, hfz8_2, hfz8_3, hfz8_4, hfz8_5, hfz8_6, hfz8_7⟩ := cells8 BK110.out) | ((with_reducible refine gate_callee (f := 15) rfl ?_); refine goesL_ (some 6) rfl rfl Tryd.func15 (by kernel_rfl) rfl #[.agg #[.int .i64 a0_0, .int .i64 a0_1, .int .i64 a0_2, .int .i64 a0_3, .int .u8 a0_4, .bool a0_5, .int .i64 a0_6, .int .u8 a0_7]] rfl mapx ?_; (with_reducible refine (clock_May.calls k a0_0 a0_1 a0_2 a0_3 a0_4 a0_5 a0_6 a0_7 true _ A3.out).mono ?_); rintro e w9 ⟨rfl, hb⟩; refine ⟨_, rfl, ?_⟩; have n0_ := Az (blk_below (g := gb110) (o := .cells #[.int .i64 a0_0, .int .i64 a0_1, .int .i64 a0_2, .int .i64 a0_3, .int .u8 a0_4, .bool a0_5, .int .i64 a0_6, .int .u8 a0_7] 24 (0, 0)) of_lies hb); have n1_ := Az (below_step (low HB) hb); clear BK110; clear HB; have BK110 := n0_; have HB := n1_; clear n0_ n1_; (try clear hb); (try clear hb2); (try clear hk); (try clear hi)) | (go_at_call 50; (with_reducible refine (clock_within.calls a1 true _ A5.out).mono ?_); rintro e w' ⟨rfl, ⟨nd, rfl⟩⟩; obtain ⟨hcz10_0, hcz10_1, hcz10_2, hcz10_3, hcz10_4, hcz10_5, hcz10_6, hcz10_7, hfz10_0, hfz10_1, hfz10_2, hfz10_3, hfz10_4, hfz10_5, hfz10_6, hfz10_7⟩ := cells8 BK110.out))
   go_ret
   exact ⟨by first | rfl | (simp [errW_none, errW_some] <;> rfl) | (simp [*, errW_none, errW_some] <;> rfl), low HB⟩
  ·
   replace c6 := Bool.eq_false_iff.mpr c6
   subst c6
   have H1 : (some false) = some r := by rw [if_neg (show ¬ (false = true) by decide)] at H; exact H
   clear H
   have H := H1
   clear H1
   obtain rfl := Option.some.inj H
   go_enter Tryd.func53, Tryd.ntmps53
   go_wp2_with (first | ((with_reducible refine gate_dst (N := 2) rfl ?_); refine box_event ?hg (N := 2) ?hd (cs := #[.int .i64 a0_0, .int .i64 a0_1, .int .i64 a0_2, .int .i64 a0_3, .int .u8 a0_4, .bool a0_5, .int .i64 a0_6, .int .u8 a0_7]) (t := 24) ?hr ?_; (case hd => rfl); (case hg => rfl); (case hr => first | (go_simp; done) | (go_simp; rfl)); intro gb110 hg w11 hbox hb; have n0_ := Az (below_step (low HB) hb); have n1_ := Az (hbox); have n2_ := Az ((by rw [hg]; exact (below_size (low HB)) : w.heap.size ≤ gb110)); have n3_ := Az ((by rw [hg]; exact (below_size (low HB)) : w.heap.size ≤ gb110)); clear HB; have HB := n0_; have BK110 := n1_; have GW110 := n2_; have GE110 := n3_; clear n0_ n1_ n2_ n3_; clear hb hbox hg; obtain ⟨hcz12_0, hcz12_1, hcz12_2, hcz12_3, hcz12_4, hcz12_5, hcz12_6, hcz12_7, hfz12_0, hfz12_1, hfz12_2, hfz12_3, hfz12_4, hfz12_5, hfz12_6, hfz12_7⟩ := cells8 BK110.out) | ((with_reducible refine gate_callee (f := 15) rfl ?_); refine goesL_ (some 6) rfl rfl Tryd.func15 (by kernel_rfl) rfl #[.agg #[.int .i64 a0_0, .int .i64 a0_1, .int .i64 a0_2, .int .i64 a0_3, .int .u8 a0_4, .bool a0_5, .int .i64 a0_6, .int .u8 a0_7]] rfl mapx ?_; (with_reducible refine (clock_May.calls k a0_0 a0_1 a0_2 a0_3 a0_4 a0_5 a0_6 a0_7 true _ A3.out).mono ?_); rintro e w13 ⟨rfl, hb⟩; refine ⟨_, rfl, ?_⟩; have n0_ := Az (blk_below (g := gb110) (o := .cells #[.int .i64 a0_0, .int .i64 a0_1, .int .i64 a0_2, .int .i64 a0_3, .int .u8 a0_4, .bool a0_5, .int .i64 a0_6, .int .u8 a0_7] 24 (0, 0)) of_lies hb); have n1_ := Az (below_step (low HB) hb); clear BK110; clear HB; have BK110 := n0_; have HB := n1_; clear n0_ n1_; (try clear hb); (try clear hb2); (try clear hk); (try clear hi)) | (go_at_call 50; (with_reducible refine (clock_within.calls a1 false _ A5.out).mono ?_); rintro e w' ⟨rfl, ⟨nd, rfl⟩⟩))
   go_ret
   exact ⟨by first | rfl | (simp [errW_none, errW_some] <;> rfl) | (simp [*, errW_none, errW_some] <;> rfl), low HB⟩
 ·
  replace c4 := Bool.eq_false_iff.mpr c4
  subst c4
  have H1 : (some false) = some r := by rw [if_neg (show ¬ (false = true) by decide)] at H; exact H
  clear H
  have H := H1
  clear H1
  obtain rfl := Option.some.inj H
  go_enter Tryd.func53, Tryd.ntmps53
  go_wp2_with (first | ((with_reducible refine gate_dst (N := 2) rfl ?_); refine box_event ?hg (N := 2) ?hd (cs := #[.int .i64 a0_0, .int .i64 a0_1, .int .i64 a0_2, .int .i64 a0_3, .int .u8 a0_4, .bool a0_5, .int .i64 a0_6, .int .u8 a0_7]) (t := 24) ?hr ?_; (case hd => rfl); (case hg => rfl); (case hr => first | (go_simp; done) | (go_simp; rfl)); intro gb110 hg w14 hbox hb; have n0_ := Az (below_step (low HB) hb); have n1_ := Az (hbox); have n2_ := Az ((by rw [hg]; exact (below_size (low HB)) : w.heap.size ≤ gb110)); have n3_ := Az ((by rw [hg]; exact (below_size (low HB)) : w.heap.size ≤ gb110)); clear HB; have HB := n0_; have BK110 := n1_; have GW110 := n2_; have GE110 := n3_; clear n0_ n1_ n2_ n3_; clear hb hbox hg; obtain ⟨hcz15_0, hcz15_1, hcz15_2, hcz15_3, hcz15_4, hcz15_5, hcz15_6, hcz15_7, hfz15_0, hfz15_1, hfz15_2, hfz15_3, hfz15_4, hfz15_5, hfz15_6, hfz15_7⟩ := cells8 BK110.out) | ((with_reducible refine gate_callee (f := 15) rfl ?_); refine goesL_ (some 6) rfl rfl Tryd.func15 (by kernel_rfl) rfl #[.agg #[.int .i64 a0_0, .int .i64 a0_1, .int .i64 a0_2, .int .i64 a0_3, .int .u8 a0_4, .bool a0_5, .int .i64 a0_6, .int .u8 a0_7]] rfl mapx ?_; (with_reducible refine (clock_May.calls k a0_0 a0_1 a0_2 a0_3 a0_4 a0_5 a0_6 a0_7 false _ A3.out).mono ?_); rintro e w16 ⟨rfl, hb⟩; refine ⟨_, rfl, ?_⟩; have n0_ := Az (blk_below (g := gb110) (o := .cells #[.int .i64 a0_0, .int .i64 a0_1, .int .i64 a0_2, .int .i64 a0_3, .int .u8 a0_4, .bool a0_5, .int .i64 a0_6, .int .u8 a0_7] 24 (0, 0)) of_lies hb); have n1_ := Az (below_step (low HB) hb); clear BK110; clear HB; have BK110 := n0_; have HB := n1_; clear n0_ n1_; (try clear hb); (try clear hb2); (try clear hk); (try clear hi)))
  go_ret
  exact ⟨by first | rfl | (simp [errW_none, errW_some] <;> rfl) | (simp [*, errW_none, errW_some] <;> rfl), low HB⟩
def clock_room.f (a0_0 : Int) (a0_1 : Int) (a0_2 : Int) (a0_3 : Int) (a0_4 : Int) (a0_5 : Bool) (a0_6 : Int) (a0_7 : Int) : Option (Int) := if a0_3 > 0 then (if a0_4 = 0 then (some (mn a0_0 a0_3)) else (if a0_4 = 1 then (some (mn a0_1 a0_3)) else (none))) else (if a0_4 = 0 then (some a0_0) else (if a0_4 = 1 then (some a0_1) else (none)))
set_option maxHeartbeats 8000000 in
set_option maxRecDepth 100000 in
theorem clock_room.calls (a0_0 : Int) (a0_1 : Int) (a0_2 : Int) (a0_3 : Int) (a0_4 : Int) (a0_5 : Bool) (a0_6 : Int) (a0_7 : Int) (r : Int) (w : World) (h : clock_room.f a0_0 a0_1 a0_2 a0_3 a0_4 a0_5 a0_6 a0_7 = some r) :
  Calls Tryd.prog 57 #[.agg #[.int .i64 a0_0, .int .i64 a0_1, .int .i64 a0_2, .int .i64 a0_3, .int .u8 a0_4, .bool a0_5, .int .i64 a0_6, .int .u8 a0_7]] w fun e w' => e = .returned (.int .i64 r) ∧ Below w.heap.size w w' := by
 have hu24 := Tryd.underlying24
 have HB := Az (Below.refl w.heap.size w)
 have H : (if a0_3 > 0 then (if a0_4 = 0 then (some (mn a0_0 a0_3)) else (if a0_4 = 1 then (some (mn a0_1 a0_3)) else (none))) else (if a0_4 = 0 then (some a0_0) else (if a0_4 = 1 then (some a0_1) else (none)))) = some r := h
 clear h
 by_cases c2 : a0_3 > 0
 ·
  rw [if_pos c2] at H
  have c2b0 : decide (0 < a0_3) = true := decide_eq_true c2
  clear c2
  by_cases c3 : a0_4 = 0
  ·
   rw [if_pos c3] at H
   have c3b0 : (a0_4 == 0) = true := beq_iff_eq.mpr c3
   have c3b1 : (a0_4 != 0) = false := bne_eq_false_iff_eq.mpr c3
   clear c3
   have hix4 : ∀ (a_ : Addr) (W_ : World), (Instr.indexAt 22 (.pointer (some a_)) (.int .u8 a0_4)).run Tryd.prog W_ = .ok (.pointer (some (a_.add 0))) W_ := ix_any (c := 0) (by first | omega | exact beq_iff_eq.mp (by assumption) | exact eq_of_beq (by assumption)) (fun _ _ => by kernel_rfl)
   obtain ⟨ji5, hji5⟩ : ∃ j_ : Int, (mn a0_0 a0_3) = j_ := ⟨_, rfl⟩
   replace H : (some ji5) = some r := by first | (rw [hji5] at H; exact H) | (simp only [hji5] at H ⊢; exact H)
   have hji5_ : (if a0_3 < a0_0 then a0_3 else a0_0) = ji5 := hji5
   obtain rfl := Option.some.inj H
   go_enter Tryd.func57, Tryd.ntmps57
   go_wp2_with (first | ((with_reducible refine gate_dst (N := 1) rfl ?_); refine box_event ?hg (N := 1) ?hd (cs := #[.int .i64 a0_0, .int .i64 a0_1, .int .i64 a0_2, .int .i64 a0_3, .int .u8 a0_4, .bool a0_5, .int .i64 a0_6, .int .u8 a0_7]) (t := 24) ?hr ?_; (case hd => rfl); (case hg => rfl); (case hr => first | (go_simp; done) | (go_simp; rfl)); intro gb113 hg w6 hbox hb; have n0_ := Az (below_step (low HB) hb); have n1_ := Az (hbox); have n2_ := Az ((by rw [hg]; exact (below_size (low HB)) : w.heap.size ≤ gb113)); have n3_ := Az ((by rw [hg]; exact (below_size (low HB)) : w.heap.size ≤ gb113)); clear HB; have HB := n0_; have BK113 := n1_; have GW113 := n2_; have GE113 := n3_; clear n0_ n1_ n2_ n3_; clear hb hbox hg; obtain ⟨hcz7_0, hcz7_1, hcz7_2, hcz7_3, hcz7_4, hcz7_5, hcz7_6, hcz7_7, hfz7_0, hfz7_1, hfz7_2, hfz7_3, hfz7_4, hfz7_5, hfz7_6, hfz7_7⟩ := cells8 BK113.out))
   repeat (go_quiet (first | ((with_reducible refine gate_dst (N := 1) rfl ?_); refine box_event ?hg (N := 1) ?hd (cs := #[.int .i64 a0_0, .int .i64 a0_1, .int .i64 a0_2, .int .i64 a0_3, .int .u8 a0_4, .bool a0_5, .int .i64 a0_6, .int .u8 a0_7]) (t := 24) ?hr ?_; (case hd => rfl); (case hg => rfl); (case hr => first | (go_simp; done) | (go_simp; rfl)); intro gb113 hg w6 hbox hb; have n0_ := Az (below_step (low HB) hb); have n1_ := Az (hbox); have n2_ := Az ((by rw [hg]; exact (below_size (low HB)) : w.heap.size ≤ gb113)); have n3_ := Az ((by rw [hg]; exact (below_size (low HB)) : w.heap.size ≤ gb113)); clear HB; have HB := n0_; have BK113 := n1_; have GW113 := n2_; have GE113 := n3_; clear n0_ n1_ n2_ n3_; clear hb hbox hg; obtain ⟨hcz7_0, hcz7_1, hcz7_2, hcz7_3, hcz7_4, hcz7_5, hcz7_6, hcz7_7, hfz7_0, hfz7_1, hfz7_2, hfz7_3, hfz7_4, hfz7_5, hfz7_6, hfz7_7⟩ := cells8 BK113.out)); try go_wp2_with (first | ((with_reducible refine gate_dst (N := 1) rfl ?_); refine box_event ?hg (N := 1) ?hd (cs := #[.int .i64 a0_0, .int .i64 a0_1, .int .i64 a0_2, .int .i64 a0_3, .int .u8 a0_4, .bool a0_5, .int .i64 a0_6, .int .u8 a0_7]) (t := 24) ?hr ?_; (case hd => rfl); (case hg => rfl); (case hr => first | (go_simp; done) | (go_simp; rfl)); intro gb113 hg w6 hbox hb; have n0_ := Az (below_step (low HB) hb); have n1_ := Az (hbox); have n2_ := Az ((by rw [hg]; exact (below_size (low HB)) : w.heap.size ≤ gb113)); have n3_ := Az ((by rw [hg]; exact (below_size (low HB)) : w.heap.size ≤ gb113)); clear HB; have HB := n0_; have BK113 := n1_; have GW113 := n2_; have GE113 := n3_; clear n0_ n1_ n2_ n3_; clear hb hbox hg; obtain ⟨hcz7_0, hcz7_1, hcz7_2, hcz7_3, hcz7_4, hcz7_5, hcz7_6, hcz7_7, hfz7_0, hfz7_1, hfz7_2, hfz7_3, hfz7_4, hfz7_5, hfz7_6, hfz7_7⟩ := cells8 BK113.out)))
   go_ret
   exact ⟨by first | rfl | (simp [errW_none, errW_some] <;> rfl) | (simp only [← hji5]; first | rfl | (simp [errW_none, errW_some] <;> rfl)) | (simp [*, errW_none, errW_some] <;> rfl), low HB⟩
  ·
   rw [if_neg c3] at H
   have c3b0 : (a0_4 == 0) = false := beq_eq_false_iff_ne.mpr c3
   have c3b1 : (a0_4 != 0) = true := bne_iff_ne.mpr c3
   by_cases c8 : a0_4 = 1
   ·
    rw [if_pos c8] at H
    have c8b0 : (a0_4 == 1) = true := beq_iff_eq.mpr c8
    have c8b1 : (a0_4 != 1) = false := bne_eq_false_iff_eq.mpr c8
    clear c8
    have hix9 : ∀ (a_ : Addr) (W_ : World), (Instr.indexAt 22 (.pointer (some a_)) (.int .u8 a0_4)).run Tryd.prog W_ = .ok (.pointer (some (a_.add 1))) W_ := ix_any (c := 1) (by first | omega | exact beq_iff_eq.mp (by assumption) | exact eq_of_beq (by assumption)) (fun _ _ => by kernel_rfl)
    obtain ⟨ji10, hji10⟩ : ∃ j_ : Int, (mn a0_1 a0_3) = j_ := ⟨_, rfl⟩
    replace H : (some ji10) = some r := by first | (rw [hji10] at H; exact H) | (simp only [hji10] at H ⊢; exact H)
    have hji10_ : (if a0_3 < a0_1 then a0_3 else a0_1) = ji10 := hji10
    obtain rfl := Option.some.inj H
    go_enter Tryd.func57, Tryd.ntmps57
    go_wp2_with (first | ((with_reducible refine gate_dst (N := 1) rfl ?_); refine box_event ?hg (N := 1) ?hd (cs := #[.int .i64 a0_0, .int .i64 a0_1, .int .i64 a0_2, .int .i64 a0_3, .int .u8 a0_4, .bool a0_5, .int .i64 a0_6, .int .u8 a0_7]) (t := 24) ?hr ?_; (case hd => rfl); (case hg => rfl); (case hr => first | (go_simp; done) | (go_simp; rfl)); intro gb113 hg w11 hbox hb; have n0_ := Az (below_step (low HB) hb); have n1_ := Az (hbox); have n2_ := Az ((by rw [hg]; exact (below_size (low HB)) : w.heap.size ≤ gb113)); have n3_ := Az ((by rw [hg]; exact (below_size (low HB)) : w.heap.size ≤ gb113)); clear HB; have HB := n0_; have BK113 := n1_; have GW113 := n2_; have GE113 := n3_; clear n0_ n1_ n2_ n3_; clear hb hbox hg; obtain ⟨hcz12_0, hcz12_1, hcz12_2, hcz12_3, hcz12_4, hcz12_5, hcz12_6, hcz12_7, hfz12_0, hfz12_1, hfz12_2, hfz12_3, hfz12_4, hfz12_5, hfz12_6, hfz12_7⟩ := cells8 BK113.out))
    repeat (go_quiet (first | ((with_reducible refine gate_dst (N := 1) rfl ?_); refine box_event ?hg (N := 1) ?hd (cs := #[.int .i64 a0_0, .int .i64 a0_1, .int .i64 a0_2, .int .i64 a0_3, .int .u8 a0_4, .bool a0_5, .int .i64 a0_6, .int .u8 a0_7]) (t := 24) ?hr ?_; (case hd => rfl); (case hg => rfl); (case hr => first | (go_simp; done) | (go_simp; rfl)); intro gb113 hg w11 hbox hb; have n0_ := Az (below_step (low HB) hb); have n1_ := Az (hbox); have n2_ := Az ((by rw [hg]; exact (below_size (low HB)) : w.heap.size ≤ gb113)); have n3_ := Az ((by rw [hg]; exact (below_size (low HB)) : w.heap.size ≤ gb113)); clear HB; have HB := n0_; have BK113 := n1_; have GW113 := n2_; have GE113 := n3_; clear n0_ n1_ n2_ n3_; clear hb hbox hg; obtain ⟨hcz12_0, hcz12_1, hcz12_2, hcz12_3, hcz12_4, hcz12_5, hcz12_6, hcz12_7, hfz12_0, hfz12_1, hfz12_2, hfz12_3, hfz12_4, hfz12_5, hfz12_6, hfz12_7⟩ := cells8 BK113.out)); try go_wp2_with (first | ((with_reducible refine gate_dst (N := 1) rfl ?_); refine box_event ?hg (N := 1) ?hd (cs := #[.int .i64 a0_0, .int .i64 a0_1, .int .i64 a0_2, .int .i64 a0_3, .int .u8 a0_4, .bool a0_5, .int .i64 a0_6, .int .u8 a0_7]) (t := 24) ?hr ?_; (case hd => rfl); (case hg => rfl); (case hr => first | (go_simp; done) | (go_simp; rfl)); intro gb113 hg w11 hbox hb; have n0_ := Az (below_step (low HB) hb); have n1_ := Az (hbox); have n2_ := Az ((by rw [hg]; exact (below_size (low HB)) : w.heap.size ≤ gb113)); have n3_ := Az ((by rw [hg]; exact (below_size (low HB)) : w.heap.size ≤ gb113)); clear HB; have HB := n0_; have BK113 := n1_; have GW113 := n2_; have GE113 := n3_; clear n0_ n1_ n2_ n3_; clear hb hbox hg; obtain ⟨hcz12_0, hcz12_1, hcz12_2, hcz12_3, hcz12_4, hcz12_5, hcz12_6, hcz12_7, hfz12_0, hfz12_1, hfz12_2, hfz12_3, hfz12_4, hfz12_5, hfz12_6, hfz12_7⟩ := cells8 BK113.out)))
    go_ret
    exact ⟨by first | rfl | (simp [errW_none, errW_some] <;> rfl) | (simp only [← hji10]; first | rfl | (simp [errW_none, errW_some] <;> rfl)) | (simp [*, errW_none, errW_some] <;> rfl), low HB⟩
   ·
    rw [if_neg c8] at H
    exact absurd H (by simp)
 ·
  rw [if_neg c2] at H
  have c2b0 : decide (0 < a0_3) = false := decide_eq_false c2
  clear c2
  by_cases c13 : a0_4 = 0
  ·
   rw [if_pos c13] at H
   have c13b0 : (a0_4 == 0) = true := beq_iff_eq.mpr c13
   have c13b1 : (a0_4 != 0) = false := bne_eq_false_iff_eq.mpr c13
   clear c13
   have hix14 : ∀ (a_ : Addr) (W_ : World), (Instr.indexAt 22 (.pointer (some a_)) (.int .u8 a0_4)).run Tryd.prog W_ = .ok (.pointer (some (a_.add 0))) W_ := ix_any (c := 0) (by first | omega | exact beq_iff_eq.mp (by assumption) | exact eq_of_beq (by assumption)) (fun _ _ => by kernel_rfl)
   obtain rfl := Option.some.inj H
   go_enter Tryd.func57, Tryd.ntmps57
   go_wp2_with (first | ((with_reducible refine gate_dst (N := 1) rfl ?_); refine box_event ?hg (N := 1) ?hd (cs := #[.int .i64 a0_0, .int .i64 a0_1, .int .i64 a0_2, .int .i64 a0_3, .int .u8 a0_4, .bool a0_5, .int .i64 a0_6, .int .u8 a0_7]) (t := 24) ?hr ?_; (case hd => rfl); (case hg => rfl); (case hr => first | (go_simp; done) | (go_simp; rfl)); intro gb113 hg w15 hbox hb; have n0_ := Az (below_step (low HB) hb); have n1_ := Az (hbox); have n2_ := Az ((by rw [hg]; exact (below_size (low HB)) : w.heap.size ≤ gb113)); have n3_ := Az ((by rw [hg]; exact (below_size (low HB)) : w.heap.size ≤ gb113)); clear HB; have HB := n0_; have BK113 := n1_; have GW113 := n2_; have GE113 := n3_; clear n0_ n1_ n2_ n3_; clear hb hbox hg; obtain ⟨hcz16_0, hcz16_1, hcz16_2, hcz16_3, hcz16_4, hcz16_5, hcz16_6, hcz16_7, hfz16_0, hfz16_1, hfz16_2, hfz16_3, hfz16_4, hfz16_5, hfz16_6, hfz16_7⟩ := cells8 BK113.out))
   repeat (go_quiet (first | ((with_reducible refine gate_dst (N := 1) rfl ?_); refine box_event ?hg (N := 1) ?hd (cs := #[.int .i64 a0_0, .int .i64 a0_1, .int .i64 a0_2, .int .i64 a0_3, .int .u8 a0_4, .bool a0_5, .int .i64 a0_6, .int .u8 a0_7]) (t := 24) ?hr ?_; (case hd => rfl); (case hg => rfl); (case hr => first | (go_simp; done) | (go_simp; rfl)); intro gb113 hg w15 hbox hb; have n0_ := Az (below_step (low HB) hb); have n1_ := Az (hbox); have n2_ := Az ((by rw [hg]; exact (below_size (low HB)) : w.heap.size ≤ gb113)); have n3_ := Az ((by rw [hg]; exact (below_size (low HB)) : w.heap.size ≤ gb113)); clear HB; have HB := n0_; have BK113 := n1_; have GW113 := n2_; have GE113 := n3_; clear n0_ n1_ n2_ n3_; clear hb hbox hg; obtain ⟨hcz16_0, hcz16_1, hcz16_2, hcz16_3, hcz16_4, hcz16_5, hcz16_6, hcz16_7, hfz16_0, hfz16_1, hfz16_2, hfz16_3, hfz16_4, hfz16_5, hfz16_6, hfz16_7⟩ := cells8 BK113.out)); try go_wp2_with (first | ((with_reducible refine gate_dst (N := 1) rfl ?_); refine box_event ?hg (N := 1) ?hd (cs := #[.int .i64 a0_0, .int .i64 a0_1, .int .i64 a0_2, .int .i64 a0_3, .int .u8 a0_4, .bool a0_5, .int .i64 a0_6, .int .u8 a0_7]) (t := 24) ?hr ?_; (case hd => rfl); (case hg => rfl); (case hr => first | (go_simp; done) | (go_simp; rfl)); intro gb113 hg w15 hbox hb; have n0_ := Az (below_step (low HB) hb); have n1_ := Az (hbox); have n2_ := Az ((by rw [hg]; exact (below_size (low HB)) : w.heap.size ≤ gb113)); have n3_ := Az ((by rw [hg]; exact (below_size (low HB)) : w.heap.size ≤ gb113)); clear HB; have HB := n0_; have BK113 := n1_; have GW113 := n2_; have GE113 := n3_; clear n0_ n1_ n2_ n3_; clear hb hbox hg; obtain ⟨hcz16_0, hcz16_1, hcz16_2, hcz16_3, hcz16_4, hcz16_5, hcz16_6, hcz16_7, hfz16_0, hfz16_1, hfz16_2, hfz16_3, hfz16_4, hfz16_5, hfz16_6, hfz16_7⟩ := cells8 BK113.out)))
   go_ret
   exact ⟨by first | rfl | (simp [errW_none, errW_some] <;> rfl) | (simp [*, errW_none, errW_some] <;> rfl), low HB⟩
  ·
   rw [if_neg c13] at H
   have c13b0 : (a0_4 == 0) = false := beq_eq_false_iff_ne.mpr c13
   have c13b1 : (a0_4 != 0) = true := bne_iff_ne.mpr c13
   by_cases c17 : a0_4 = 1
   ·
    rw [if_pos c17] at H
    have c17b0 : (a0_4 == 1) = true := beq_iff_eq.mpr c17
    have c17b1 : (a0_4 != 1) = false := bne_eq_false_iff_eq.mpr c17
    clear c17
    have hix18 : ∀ (a_ : Addr) (W_ : World), (Instr.indexAt 22 (.pointer (some a_)) (.int .u8 a0_4)).run Tryd.prog W_ = .ok (.pointer (some (a_.add 1))) W_ := ix_any (c := 1) (by first | omega | exact beq_iff_eq.mp (by assumption) | exact eq_of_beq (by assumption)) (fun _ _ => by kernel_rfl)
    obtain rfl := Option.some.inj H
    go_enter Tryd.func57, Tryd.ntmps57
    go_wp2_with (first | ((with_reducible refine gate_dst (N := 1) rfl ?_); refine box_event ?hg (N := 1) ?hd (cs := #[.int .i64 a0_0, .int .i64 a0_1, .int .i64 a0_2, .int .i64 a0_3, .int .u8 a0_4, .bool a0_5, .int .i64 a0_6, .int .u8 a0_7]) (t := 24) ?hr ?_; (case hd => rfl); (case hg => rfl); (case hr => first | (go_simp; done) | (go_simp; rfl)); intro gb113 hg w19 hbox hb; have n0_ := Az (below_step (low HB) hb); have n1_ := Az (hbox); have n2_ := Az ((by rw [hg]; exact (below_size (low HB)) : w.heap.size ≤ gb113)); have n3_ := Az ((by rw [hg]; exact (below_size (low HB)) : w.heap.size ≤ gb113)); clear HB; have HB := n0_; have BK113 := n1_; have GW113 := n2_; have GE113 := n3_; clear n0_ n1_ n2_ n3_; clear hb hbox hg; obtain ⟨hcz20_0, hcz20_1, hcz20_2, hcz20_3, hcz20_4, hcz20_5, hcz20_6, hcz20_7, hfz20_0, hfz20_1, hfz20_2, hfz20_3, hfz20_4, hfz20_5, hfz20_6, hfz20_7⟩ := cells8 BK113.out))
    repeat (go_quiet (first | ((with_reducible refine gate_dst (N := 1) rfl ?_); refine box_event ?hg (N := 1) ?hd (cs := #[.int .i64 a0_0, .int .i64 a0_1, .int .i64 a0_2, .int .i64 a0_3, .int .u8 a0_4, .bool a0_5, .int .i64 a0_6, .int .u8 a0_7]) (t := 24) ?hr ?_; (case hd => rfl); (case hg => rfl); (case hr => first | (go_simp; done) | (go_simp; rfl)); intro gb113 hg w19 hbox hb; have n0_ := Az (below_step (low HB) hb); have n1_ := Az (hbox); have n2_ := Az ((by rw [hg]; exact (below_size (low HB)) : w.heap.size ≤ gb113)); have n3_ := Az ((by rw [hg]; exact (below_size (low HB)) : w.heap.size ≤ gb113)); clear HB; have HB := n0_; have BK113 := n1_; have GW113 := n2_; have GE113 := n3_; clear n0_ n1_ n2_ n3_; clear hb hbox hg; obtain ⟨hcz20_0, hcz20_1, hcz20_2, hcz20_3, hcz20_4, hcz20_5, hcz20_6, hcz20_7, hfz20_0, hfz20_1, hfz20_2, hfz20_3, hfz20_4, hfz20_5, hfz20_6, hfz20_7⟩ := cells8 BK113.out)); try go_wp2_with (first | ((with_reducible refine gate_dst (N := 1) rfl ?_); refine box_event ?hg (N := 1) ?hd (cs := #[.int .i64 a0_0, .int .i64 a0_1, .int .i64 a0_2, .int .i64 a0_3, .int .u8 a0_4, .bool a0_5, .int .i64 a0_6, .int .u8 a0_7]) (t := 24) ?hr ?_; (case hd => rfl); (case hg => rfl); (case hr => first | (go_simp; done) | (go_simp; rfl)); intro gb113 hg w19 hbox hb; have n0_ := Az (below_step (low HB) hb); have n1_ := Az (hbox); have n2_ := Az ((by rw [hg]; exact (below_size (low HB)) : w.heap.size ≤ gb113)); have n3_ := Az ((by rw [hg]; exact (below_size (low HB)) : w.heap.size ≤ gb113)); clear HB; have HB := n0_; have BK113 := n1_; have GW113 := n2_; have GE113 := n3_; clear n0_ n1_ n2_ n3_; clear hb hbox hg; obtain ⟨hcz20_0, hcz20_1, hcz20_2, hcz20_3, hcz20_4, hcz20_5, hcz20_6, hcz20_7, hfz20_0, hfz20_1, hfz20_2, hfz20_3, hfz20_4, hfz20_5, hfz20_6, hfz20_7⟩ := cells8 BK113.out)))
    go_ret
    exact ⟨by first | rfl | (simp [errW_none, errW_some] <;> rfl) | (simp [*, errW_none, errW_some] <;> rfl), low HB⟩
   ·
    rw [if_neg c17] at H
    exact absurd H (by simp)
def clock_falls.f (a0_0 : Int) (a0_1 : Int) (a0_2 : Int) (a0_3 : Int) (a0_4 : Int) (a0_5 : Bool) (a0_6 : Int) (a0_7 : Int) (a1 : Int) : Option (Bool) := if a0_5 = true then ((clock_room.f a0_0 a0_1 a0_2 a0_3 a0_4 a0_5 a0_6 a0_7).bind fun t115 => (some (decide ((wrap64 (a1 - a0_6)) > t115)))) else (some false)
def clock_falls.T1 : Bool × List (List Nat × List Nat) := (true, [([], []), ([0], [0]), ([1], [1]), ([2], [2]), ([2], [2]), ([4, 2], [2, 4]), ([3, 5, 2], [2, 3, 5]), ([2], [2]), ([7, 2, 2], [2, 7]), ([6, 8, 2], [2, 6, 8]), ([2, 9], [2, 9]), ([10, 8, 0, 1, 2, 3, 4, 5, 6, 7, 8, 9, 10], [10])])
def clock_falls.B1 : List Nat := [0, 1, 3, 7, 7, 23, 63, 7, 135, 511, 1023, 2047]
theorem clock_falls.tab1 : rtab .any (opsOf Tryd.f55 1) = clock_falls.T1 := by kernel_rfl
theorem clock_falls.bits1 : waitsOk clock_falls.T1.2 clock_falls.B1 = true := by kernel_rfl
set_option maxHeartbeats 8000000 in
set_option maxRecDepth 100000 in
theorem clock_falls.calls (a0_0 : Int) (a0_1 : Int) (a0_2 : Int) (a0_3 : Int) (a0_4 : Int) (a0_5 : Bool) (a0_6 : Int) (a0_7 : Int) (a1 : Int) (r : Bool) (w : World) (h : clock_falls.f a0_0 a0_1 a0_2 a0_3 a0_4 a0_5 a0_6 a0_7 a1 = some r) :
  Calls Tryd.prog 55 #[.agg #[.int .i64 a0_0, .int .i64 a0_1, .int .i64 a0_2, .int .i64 a0_3, .int .u8 a0_4, .bool a0_5, .int .i64 a0_6, .int .u8 a0_7], .int .i64 a1] w fun e w' => e = .returned (.bool r) ∧ Below w.heap.size w w' := by
 have hu24 := Tryd.underlying24
 have HB := Az (Below.refl w.heap.size w)
 have H : (if a0_5 = true then ((clock_room.f a0_0 a0_1 a0_2 a0_3 a0_4 a0_5 a0_6 a0_7).bind fun t115 => (some (decide ((wrap64 (a1 - a0_6)) > t115)))) else (some false)) = some r := h
 clear h
 by_cases c3 : a0_5 = true
 ·
  subst c3
  have H1 : ((clock_room.f a0_0 a0_1 a0_2 a0_3 a0_4 true a0_6 a0_7).bind fun t115 => (some (decide ((wrap64 (a1 - a0_6)) > t115)))) = some r := by rw [if_pos rfl] at H; exact H
  clear H
  have H := H1
  clear H1
  replace H := Option.bind_eq_some_iff.mp H
  obtain ⟨t115, A40, H⟩ := H
  replace H : (some (decide ((wrap64 (a1 - a0_6)) > t115))) = some r := H
  have A4 := Az A40
  clear A40
  obtain rfl := Option.some.inj H
  go_enter Tryd.func55, Tryd.ntmps55
  try go_wp2_with (first | ((with_reducible refine gate_dst (N := 2) rfl ?_); refine box_event ?hg (N := 2) ?hd (cs := #[.int .i64 a0_0, .int .i64 a0_1, .int .i64 a0_2, .int .i64 a0_3, .int .u8 a0_4, .bool true, .int .i64 a0_6, .int .u8 a0_7]) (t := 24) ?hr ?_; (case hd => rfl); (case hg => rfl); (case hr => first | (go_simp; done) | (go_simp; rfl)); intro gb114 hg w5 hbox hb; have n0_ := Az (below_step (low HB) hb); have n1_ := Az (hbox); have n2_ := Az ((by rw [hg]; exact (below_size (low HB)) : w.heap.size ≤ gb114)); have n3_ := Az ((by rw [hg]; exact (below_size (low HB)) : w.heap.size ≤ gb114)); clear HB; have HB := n0_; have BK114 := n1_; have GW114 := n2_; have GE114 := n3_; clear n0_ n1_ n2_ n3_; clear hb hbox hg))
  have n0_ := Az (blk_drew BK114.out)
  have n1_ := Az (below_drew1 HB.out)
  clear BK114
  clear HB
  have BK114 := n0_
  have HB := n1_
  clear n0_ n1_
  refine start_ (n := 12) (S := fun w' => w'.cell? ⟨gb114, 0, none⟩ = some (.int .i64 a0_0) ∧ w'.cell? ⟨gb114, 1, none⟩ = some (.int .i64 a0_1) ∧ w'.cell? ⟨gb114, 2, none⟩ = some (.int .i64 a0_2) ∧ w'.cell? ⟨gb114, 3, none⟩ = some (.int .i64 a0_3) ∧ w'.cell? ⟨gb114, 4, none⟩ = some (.int .u8 a0_4) ∧ w'.cell? ⟨gb114, 5, none⟩ = some (.bool true) ∧ w'.cell? ⟨gb114, 6, none⟩ = some (.int .i64 a0_6) ∧ w'.cell? ⟨gb114, 7, none⟩ = some (.int .u8 a0_7)) (ds := []) #[false, false, false, false, false, false, false, false, false, false, false, false] (by kernel_rfl) rfl rfl ⟨(blk_cell BK114.out 0).trans rfl, (blk_cell BK114.out 1).trans rfl, (blk_cell BK114.out 2).trans rfl, (blk_cell BK114.out 3).trans rfl, (blk_cell BK114.out 4).trans rfl, (blk_cell BK114.out 5).trans rfl, (blk_cell BK114.out 6).trans rfl, (blk_cell BK114.out 7).trans rfl⟩ (fun hHeld => ?_); refine with_tabW clock_falls.tab1 clock_falls.bits1 (fun HT_ HW_ => ?_)
  generalize w5.drew = w6 at BK114 HB hHeld ⊢
  refine pure_ (i := 0) (N := some 5) (v := ?_) (a' := ?_) #[true, false, false, false, false, false, false, false, false, false, false, false] rfl rfl (any_of HT_.out (by kernel_rfl)) (fun _ _ _ h => h) (Or.inl ⟨by rfl, ?_⟩) ?_ ?_
  rotate_left
  ·
   intro w'
   go_simp
   with_reducible rfl
  rotate_left
  ·
   simp only [Act.put, List.setIfInBounds_toArray, List.set_cons_zero, List.set_cons_succ, i64_w, i32_w]
   rfl
  refine take_ (i := 1) (N := some 6) (v := ?_) (a' := ?_) #[true, true, false, false, false, false, false, false, false, false, false, false] rfl rfl (take_ofW HT_.out HW_.out (by kernel_rfl)) (fun _ _ _ h => h) (Or.inl ⟨by rfl, ?_⟩) hHeld ?_ ?_
  rotate_left
  ·
   rintro w' ⟨s0, s1, s2, s3, s4, s5, s6, s7⟩
   go_simp
   with_reducible rfl
  rotate_left
  ·
   simp only [Act.put, List.setIfInBounds_toArray, List.set_cons_zero, List.set_cons_succ, i64_w, i32_w]
   rfl
  refine pure_ (i := 2) (N := some 7) (v := ?_) (a' := ?_) #[true, true, true, false, false, false, false, false, false, false, false, false] rfl rfl (any_of HT_.out (by kernel_rfl)) (fun _ _ _ h => h) (Or.inl ⟨by rfl, ?_⟩) ?_ ?_
  rotate_left
  ·
   intro w'
   go_simp
   with_reducible rfl
  rotate_left
  ·
   simp only [Act.put, List.setIfInBounds_toArray, List.set_cons_zero, List.set_cons_succ, i64_w, i32_w]
   rfl
  refine pure_ (i := 3) (N := some 8) (v := ?_) (a' := ?_) #[true, true, true, true, false, false, false, false, false, false, false, false] rfl rfl (any_of HT_.out (by kernel_rfl)) (fun _ _ _ h => h) (Or.inl ⟨by rfl, ?_⟩) ?_ ?_
  rotate_left
  ·
   intro w'
   go_simp
   with_reducible rfl
  rotate_left
  ·
   simp only [Act.put, List.setIfInBounds_toArray, List.set_cons_zero, List.set_cons_succ, i64_w, i32_w]
   rfl
  refine pure_ (i := 4) (N := some 9) (v := ?_) (a' := ?_) #[true, true, true, true, true, false, false, false, false, false, false, false] rfl rfl (any_of HT_.out (by kernel_rfl)) (fun _ _ _ h => h) (Or.inl ⟨by rfl, ?_⟩) ?_ ?_
  rotate_left
  ·
   intro w'
   go_simp
   with_reducible rfl
  rotate_left
  ·
   simp only [Act.put, List.setIfInBounds_toArray, List.set_cons_zero, List.set_cons_succ, i64_w, i32_w]
   rfl
  refine take_ (i := 5) (N := some 10) (v := ?_) (a' := ?_) #[true, true, true, true, true, true, false, false, false, false, false, false] rfl rfl (take_ofW HT_.out HW_.out (by kernel_rfl)) (fun _ _ _ h => h) (Or.inl ⟨by rfl, ?_⟩) hHeld ?_ ?_
  rotate_left
  ·
   rintro w' ⟨s0, s1, s2, s3, s4, s5, s6, s7⟩
   go_simp
   with_reducible rfl
  rotate_left
  ·
   simp only [Act.put, List.setIfInBounds_toArray, List.set_cons_zero, List.set_cons_succ, i64_w, i32_w]
   rfl
  refine pure_ (i := 6) (N := some 11) (v := ?_) (a' := ?_) #[true, true, true, true, true, true, true, false, false, false, false, false] rfl rfl (any_of HT_.out (by kernel_rfl)) (fun _ _ _ h => h) (Or.inl ⟨by rfl, ?_⟩) ?_ ?_
  rotate_left
  ·
   intro w'
   go_simp
   with_reducible rfl
  rotate_left
  ·
   simp only [Act.put, List.setIfInBounds_toArray, List.set_cons_zero, List.set_cons_succ, i64_w, i32_w]
   rfl
  refine take_ (i := 7) (N := some 12) (v := ?_) (a' := ?_) #[true, true, true, true, true, true, true, true, false, false, false, false] rfl rfl (take_ofW HT_.out HW_.out (by kernel_rfl)) (fun _ _ _ h => h) (Or.inl ⟨by rfl, ?_⟩) hHeld ?_ ?_
  rotate_left
  ·
   rintro w' ⟨s0, s1, s2, s3, s4, s5, s6, s7⟩
   go_simp
   with_reducible rfl
  rotate_left
  ·
   simp only [Act.put, List.setIfInBounds_toArray, List.set_cons_zero, List.set_cons_succ, i64_w, i32_w]
   rfl
  refine one_ (i := 8) (N := some 13) #[true, true, true, true, true, true, true, true, true, false, false, false] rfl rfl (one_of HT_.out (by kernel_rfl)) (by decide) (fun K hK => ?_)
  refine goes_ Tryd.func57 (by kernel_rfl) rfl #[.agg #[.int .i64 a0_0, .int .i64 a0_1, .int .i64 a0_2, .int .i64 a0_3, .int .u8 a0_4, .bool true, .int .i64 a0_6, .int .u8 a0_7]] (by rfl) rfl rfl mapx ?_
  with_reducible refine (clock_room.calls a0_0 a0_1 a0_2 a0_3 a0_4 true a0_6 a0_7 t115 _ A4.out).mono ?_
  rintro e w7 ⟨rfl, hb⟩
  refine ⟨_, rfl, ?_⟩
  have n0_ := Az (blk_below (g := gb114) (o := .cells #[.int .i64 a0_0, .int .i64 a0_1, .int .i64 a0_2, .int .i64 a0_3, .int .u8 a0_4, .bool true, .int .i64 a0_6, .int .u8 a0_7] 24 (0, 0)) of_lies hb)
  have n1_ := Az (below_step (low HB) hb)
  clear BK114
  clear HB
  have BK114 := n0_
  have HB := n1_
  clear n0_ n1_
  (try clear hb)
  (try clear hb2)
  (try clear hk)
  (try clear hi)
  refine hK.out _ _ ⟨(blk_cell BK114.out 0).trans rfl, (blk_cell BK114.out 1).trans rfl, (blk_cell BK114.out 2).trans rfl, (blk_cell BK114.out 3).trans rfl, (blk_cell BK114.out 4).trans rfl, (blk_cell BK114.out 5).trans rfl, (blk_cell BK114.out 6).trans rfl, (blk_cell BK114.out 7).trans rfl⟩ (fun hHeld => ?_)
  clear hK K
  refine norm_ (a' := ?_) ?_ ?_
  rotate_left
  ·
   show Act.put _ (some 13) _ = _
   simp only [Act.put, List.setIfInBounds_toArray, List.set_cons_zero, List.set_cons_succ, i64_w, i32_w]
   rfl
  refine pure_ (i := 9) (N := some 14) (v := ?_) (a' := ?_) #[true, true, true, true, true, true, true, true, true, true, false, false] rfl rfl (any_of HT_.out (by kernel_rfl)) (fun _ _ _ h => h) (Or.inl ⟨by rfl, ?_⟩) ?_ ?_
  rotate_left
  ·
   intro w'
   go_simp
   with_reducible rfl
  rotate_left
  ·
   simp only [Act.put, List.setIfInBounds_toArray, List.set_cons_zero, List.set_cons_succ, i64_w, i32_w]
   rfl
  refine pure_ (i := 10) (N := some 15) (v := ?_) (a' := ?_) #[true, true, true, true, true, true, true, true, true, true, true, false] rfl rfl (any_of HT_.out (by kernel_rfl)) (fun _ _ _ h => h) (Or.inl ⟨by rfl, ?_⟩) ?_ ?_
  rotate_left
  ·
   intro w'
   go_simp
   with_reducible rfl
  rotate_left
  ·
   simp only [Act.put, List.setIfInBounds_toArray, List.set_cons_zero, List.set_cons_succ, i64_w, i32_w]
   rfl
  refine pure_ (i := 11) (N := some 4) (v := ?_) (a' := ?_) #[true, true, true, true, true, true, true, true, true, true, true, true] rfl rfl (any_of HT_.out (by kernel_rfl)) (fun _ _ _ h => h) (Or.inl ⟨by rfl, ?_⟩) ?_ ?_
  rotate_left
  ·
   intro w'
   go_simp
   with_reducible rfl
  rotate_left
  ·
   simp only [Act.put, List.setIfInBounds_toArray, List.set_cons_zero, List.set_cons_succ, i64_w, i32_w]
   rfl
  refine done_ (done_of HT_.out (by kernel_rfl)) ?_
  try go_wp2
  go_ret
  exact ⟨by first | rfl | (simp [errW_none, errW_some] <;> rfl) | (simp [*, errW_none, errW_some] <;> rfl), low HB⟩
 ·
  replace c3 := Bool.eq_false_iff.mpr c3
  subst c3
  have H1 : (some false) = some r := by rw [if_neg (show ¬ (false = true) by decide)] at H; exact H
  clear H
  have H := H1
  clear H1
  obtain rfl := Option.some.inj H
  go_enter Tryd.func55, Tryd.ntmps55
  try go_wp2_with (first | ((with_reducible refine gate_dst (N := 2) rfl ?_); refine box_event ?hg (N := 2) ?hd (cs := #[.int .i64 a0_0, .int .i64 a0_1, .int .i64 a0_2, .int .i64 a0_3, .int .u8 a0_4, .bool false, .int .i64 a0_6, .int .u8 a0_7]) (t := 24) ?hr ?_; (case hd => rfl); (case hg => rfl); (case hr => first | (go_simp; done) | (go_simp; rfl)); intro gb114 hg w8 hbox hb; have n0_ := Az (below_step (low HB) hb); have n1_ := Az (hbox); have n2_ := Az ((by rw [hg]; exact (below_size (low HB)) : w.heap.size ≤ gb114)); have n3_ := Az ((by rw [hg]; exact (below_size (low HB)) : w.heap.size ≤ gb114)); clear HB; have HB := n0_; have BK114 := n1_; have GW114 := n2_; have GE114 := n3_; clear n0_ n1_ n2_ n3_; clear hb hbox hg))
  have n0_ := Az (blk_drew BK114.out)
  have n1_ := Az (below_drew1 HB.out)
  clear BK114
  clear HB
  have BK114 := n0_
  have HB := n1_
  clear n0_ n1_
  refine start_ (n := 12) (S := fun w' => w'.cell? ⟨gb114, 0, none⟩ = some (.int .i64 a0_0) ∧ w'.cell? ⟨gb114, 1, none⟩ = some (.int .i64 a0_1) ∧ w'.cell? ⟨gb114, 2, none⟩ = some (.int .i64 a0_2) ∧ w'.cell? ⟨gb114, 3, none⟩ = some (.int .i64 a0_3) ∧ w'.cell? ⟨gb114, 4, none⟩ = some (.int .u8 a0_4) ∧ w'.cell? ⟨gb114, 5, none⟩ = some (.bool false) ∧ w'.cell? ⟨gb114, 6, none⟩ = some (.int .i64 a0_6) ∧ w'.cell? ⟨gb114, 7, none⟩ = some (.int .u8 a0_7)) (ds := []) #[false, false, false, false, false, false, false, false, false, false, false, false] (by kernel_rfl) rfl rfl ⟨(blk_cell BK114.out 0).trans rfl, (blk_cell BK114.out 1).trans rfl, (blk_cell BK114.out 2).trans rfl, (blk_cell BK114.out 3).trans rfl, (blk_cell BK114.out 4).trans rfl, (blk_cell BK114.out 5).trans rfl, (blk_cell BK114.out 6).trans rfl, (blk_cell BK114.out 7).trans rfl⟩ (fun hHeld => ?_); refine with_tabW clock_falls.tab1 clock_falls.bits1 (fun HT_ HW_ => ?_)
  generalize w8.drew = w9 at BK114 HB hHeld ⊢
  refine pure_ (i := 0) (N := some 5) (v := ?_) (a' := ?_) #[true, false, false, false, false, false, false, false, false, false, false, false] rfl rfl (any_of HT_.out (by kernel_rfl)) (fun _ _ _ h => h) (Or.inl ⟨by rfl, ?_⟩) ?_ ?_
  rotate_left
  ·
   intro w'
   go_simp
   with_reducible rfl
  rotate_left
  ·
   simp only [Act.put, List.setIfInBounds_toArray, List.set_cons_zero, List.set_cons_succ, i64_w, i32_w]
   rfl
  refine take_ (i := 1) (N := some 6) (v := ?_) (a' := ?_) #[true, true, false, false, false, false, false, false, false, false, false, false] rfl rfl (take_ofW HT_.out HW_.out (by kernel_rfl)) (fun _ _ _ h => h) (Or.inl ⟨by rfl, ?_⟩) hHeld ?_ ?_
  rotate_left
  ·
   rintro w' ⟨s0, s1, s2, s3, s4, s5, s6, s7⟩
   go_simp
   with_reducible rfl
  rotate_left
  ·
   simp only [Act.put, List.setIfInBounds_toArray, List.set_cons_zero, List.set_cons_succ, i64_w, i32_w]
   rfl
  refine pure_ (i := 2) (N := some 7) (v := ?_) (a' := ?_) #[true, true, true, false, false, false, false, false, false, false, false, false] rfl rfl (any_of HT_.out (by kernel_rfl)) (fun _ _ _ h => h) (Or.inl ⟨by rfl, ?_⟩) ?_ ?_
  rotate_left
  ·
   intro w'
   go_simp
   with_reducible rfl
  rotate_left
  ·
   simp only [Act.put, List.setIfInBounds_toArray, List.set_cons_zero, List.set_cons_succ, i64_w, i32_w]
   rfl
  refine pure_ (i := 3) (N := some 8) (v := undef) (a' := ?_) #[true, true, true, true, false, false, false, false, false, false, false, false] rfl rfl (any_of HT_.out (by kernel_rfl)) (fun _ _ _ h => h) (Or.inr ⟨by rfl, rfl⟩) ?_ ?_
  rotate_left
  ·
   simp only [Act.put, List.setIfInBounds_toArray, List.set_cons_zero, List.set_cons_succ, i64_w, i32_w]
   rfl
  refine pure_ (i := 4) (N := some 9) (v := undef) (a' := ?_) #[true, true, true, true, true, false, false, false, false, false, false, false] rfl rfl (any_of HT_.out (by kernel_rfl)) (fun _ _ _ h => h) (Or.inr ⟨by rfl, rfl⟩) ?_ ?_
  rotate_left
  ·
   simp only [Act.put, List.setIfInBounds_toArray, List.set_cons_zero, List.set_cons_succ, i64_w, i32_w]
   rfl
  refine pure_ (i := 5) (N := some 10) (v := undef) (a' := ?_) #[true, true, true, true, true, true, false, false, false, false, false, false] rfl rfl (any_of HT_.out (by kernel_rfl)) (fun _ _ _ h => h) (Or.inr ⟨by rfl, rfl⟩) ?_ ?_
  rotate_left
  ·
   simp only [Act.put, List.setIfInBounds_toArray, List.set_cons_zero, List.set_cons_succ, i64_w, i32_w]
   rfl
  refine pure_ (i := 6) (N := some 11) (v := undef) (a' := ?_) #[true, true, true, true, true, true, true, false, false, false, false, false] rfl rfl (any_of HT_.out (by kernel_rfl)) (fun _ _ _ h => h) (Or.inr ⟨by rfl, rfl⟩) ?_ ?_
  rotate_left
  ·
   simp only [Act.put, List.setIfInBounds_toArray, List.set_cons_zero, List.set_cons_succ, i64_w, i32_w]
   rfl
  refine pure_ (i := 7) (N := some 12) (v := undef) (a' := ?_) #[true, true, true, true, true, true, true, true, false, false, false, false] rfl rfl (any_of HT_.out (by kernel_rfl)) (fun _ _ _ h => h) (Or.inr ⟨by rfl, rfl⟩) ?_ ?_
  rotate_left
  ·
   simp only [Act.put, List.setIfInBounds_toArray, List.set_cons_zero, List.set_cons_succ, i64_w, i32_w]
   rfl
  refine pure_ (i := 8) (N := some 13) (v := undef) (a' := ?_) #[true, true, true, true, true, true, true, true, true, false, false, false] rfl rfl (any_of HT_.out (by kernel_rfl)) (fun _ _ _ h => h) (Or.inr ⟨by rfl, rfl⟩) ?_ ?_
  rotate_left
  ·
   simp only [Act.put, List.setIfInBounds_toArray, List.set_cons_zero, List.set_cons_succ, i64_w, i32_w]
   rfl
  refine pure_ (i := 9) (N := some 14) (v := undef) (a' := ?_) #[true, true, true, true, true, true, true, true, true, true, false, false] rfl rfl (any_of HT_.out (by kernel_rfl)) (fun _ _ _ h => h) (Or.inr ⟨by rfl, rfl⟩) ?_ ?_
  rotate_left
  ·
   simp only [Act.put, List.setIfInBounds_toArray, List.set_cons_zero, List.set_cons_succ, i64_w, i32_w]
   rfl
  refine pure_ (i := 10) (N := some 15) (v := ?_) (a' := ?_) #[true, true, true, true, true, true, true, true, true, true, true, false] rfl rfl (any_of HT_.out (by kernel_rfl)) (fun _ _ _ h => h) (Or.inl ⟨by rfl, ?_⟩) ?_ ?_
  rotate_left
  ·
   intro w'
   go_simp
   with_reducible rfl
  rotate_left
  ·
   simp only [Act.put, List.setIfInBounds_toArray, List.set_cons_zero, List.set_cons_succ, i64_w, i32_w]
   rfl
  refine pure_ (i := 11) (N := some 4) (v := ?_) (a' := ?_) #[true, true, true, true, true, true, true, true, true, true, true, true] rfl rfl (any_of HT_.out (by kernel_rfl)) (fun _ _ _ h => h) (Or.inl ⟨by rfl, ?_⟩) ?_ ?_
  rotate_left
  ·
   intro w'
   go_simp
   with_reducible rfl
  rotate_left
  ·
   simp only [Act.put, List.setIfInBounds_toArray, List.set_cons_zero, List.set_cons_succ, i64_w, i32_w]
   rfl
  refine done_ (done_of HT_.out (by kernel_rfl)) ?_
  try go_wp2
  go_ret
  exact ⟨by first | rfl | (simp [errW_none, errW_some] <;> rfl) | (simp [*, errW_none, errW_some] <;> rfl), low HB⟩
end Go.Proofs.YtcdcpnhlmgmnkaaDoor.Pclk
end
section
namespace Go.Proofs.YtcdcpnhlmgmnkaaDoor.Pclk
open Go.RowKit Go.Proofs.YtcdcpnhlmgmnkaaDoor.Base Go.Proofs.YtcdcpnhlmgmnkaaDoorW.PrintWords Go.Proofs.YtcdcpnhlmgmnkaaDoorW.PrintLast Go.Proofs.YtcdcpnhlmgmnkaaDoorW.PrintMore
attribute [local go_sem] max2_int min2_int max_two min_two max_three min_three max_four min_four   -- for this text's walks alone
set_option linter.unusedVariables false
set_option linter.unusedSimpArgs false
def clock_Look.f (k : Nat) (a0_0 : Int) (a0_1 : Int) (a0_2 : Int) (a0_3 : Int) (a0_4 : Int) (a0_5 : Bool) (a0_6 : Int) (a0_7 : Int) (a1 : Int) : Option (Int × Int × Bool × Int) := (clock_may.f k a0_0 a0_1 a0_2 a0_3 a0_4 a0_5 a0_6 a0_7 a1).bind fun t118 => (if t118 = true then ((clock_falls.f a0_0 a0_1 a0_2 a0_3 a0_4 a0_5 a0_6 a0_7 a1).bind fun t119 => (if a0_5 = true then (if a0_4 = 0 then (some (mx (wrap64 (a0_0 - (wrap64 (a1 - a0_6)))) 0, a0_1, t119, 0)) else (if a0_4 = 1 then (some (a0_0, mx (wrap64 (a0_1 - (wrap64 (a1 - a0_6)))) 0, t119, 0)) else (none))) else (some (a0_0, a0_1, t119, 0)))) else (some (0, 0, false, 2)))
def clock_Look.T5 : Bool × List (List Nat × List Nat) := (true, [([], []), ([0], [0]), ([], []), ([2], [2]), ([], []), ([4, 3], [3, 4]), ([5], [5]), ([], []), ([], []), ([8], [8]), ([7, 9], [7, 9]), ([6, 10], [6, 10]), ([11], [11]), ([], []), ([13, 1, 0, 1, 2, 3, 4, 5, 6, 7, 8, 9, 10, 11, 12], [1, 13]), ([14, 12, 0, 1, 2, 3, 4, 5, 6, 7, 8, 9, 10, 11, 12], [12, 14])])
def clock_Look.B5 : List Nat := [0, 1, 0, 4, 0, 28, 60, 0, 0, 256, 896, 2044, 4092, 0, 16383, 32767]
theorem clock_Look.tab5 : rtab .any (opsOf Tryd.f23 5) = clock_Look.T5 := by kernel_rfl
theorem clock_Look.bits5 : waitsOk clock_Look.T5.2 clock_Look.B5 = true := by kernel_rfl
set_option maxHeartbeats 8000000 in
set_option maxRecDepth 100000 in
theorem clock_Look.calls (k : Nat) (a0_0 : Int) (a0_1 : Int) (a0_2 : Int) (a0_3 : Int) (a0_4 : Int) (a0_5 : Bool) (a0_6 : Int) (a0_7 : Int) (a1 : Int) (r1 : Int) (r2 : Int) (r3 : Bool) (r4 : Int) (w : World) (h : clock_Look.f k a0_0 a0_1 a0_2 a0_3 a0_4 a0_5 a0_6 a0_7 a1 = some (r1, r2, r3, r4)) :
  Calls Tryd.prog 23 #[.agg #[.int .i64 a0_0, .int .i64 a0_1, .int .i64 a0_2, .int .i64 a0_3, .int .u8 a0_4, .bool a0_5, .int .i64 a0_6, .int .u8 a0_7], .int .i64 a1] w fun e w' => e = .returned (.tuple #[.agg #[.int .i64 r1, .int .i64 r2], .bool r3, .int .i64 r4]) ∧ Below w.heap.size w w' := by
 have hu24 := Tryd.underlying24
 have hu22 := Tryd.underlying22
 have HB := Az (Below.refl w.heap.size w)
 have H : ((clock_may.f k a0_0 a0_1 a0_2 a0_3 a0_4 a0_5 a0_6 a0_7 a1).bind fun t118 => (if t118 = true then ((clock_falls.f a0_0 a0_1 a0_2 a0_3 a0_4 a0_5 a0_6 a0_7 a1).bind fun t119 => (if a0_5 = true then (if a0_4 = 0 then (some (mx (wrap64 (a0_0 - (wrap64 (a1 - a0_6)))) 0, a0_1, t119, 0)) else (if a0_4 = 1 then (some (a0_0, mx (wrap64 (a0_1 - (wrap64 (a1 - a0_6)))) 0, t119, 0)) else (none))) else (some (a0_0, a0_1, t119, 0)))) else (some (0, 0, false, 2)))) = some (r1, r2, r3, r4) := h
 clear h
 replace H := Option.bind_eq_some_iff.mp H
 obtain ⟨t118, A30, H⟩ := H
 replace H : (if t118 = true then ((clock_falls.f a0_0 a0_1 a0_2 a0_3 a0_4 a0_5 a0_6 a0_7 a1).bind fun t119 => (if a0_5 = true then (if a0_4 = 0 then (some (mx (wrap64 (a0_0 - (wrap64 (a1 - a0_6)))) 0, a0_1, t119, 0)) else (if a0_4 = 1 then (some (a0_0, mx (wrap64 (a0_1 - (wrap64 (a1 - a0_6)))) 0, t119, 0)) else (none))) else (some (a0_0, a0_1, t119, 0)))) else (some (0, 0, false, 2))) = some (r1, r2, r3, r4) := H
 have A3 := Az A30
 clear A30
 by_cases c4 : t118 = true
 ·
  subst c4
  have H1 : ((clock_falls.f a0_0 a0_1 a0_2 a0_3 a0_4 a0_5 a0_6 a0_7 a1).bind fun t119 => (if a0_5 = true then (if a0_4 = 0 then (some (mx (wrap64 (a0_0 - (wrap64 (a1 - a0_6)))) 0, a0_1, t119, 0)) else (if a0_4 = 1 then (some (a0_0, mx (wrap64 (a0_1 - (wrap64 (a1 - a0_6)))) 0, t119, 0)) else (none))) else (some (a0_0, a0_1, t119, 0)))) = some (r1, r2, r3, r4) := by rw [if_pos rfl] at H; exact H
  clear H
  have H := H1
  clear H1
  replace H := Option.bind_eq_some_iff.mp H
  obtain ⟨t119, A50, H⟩ := H
  replace H : (if a0_5 = true then (if a0_4 = 0 then (some (mx (wrap64 (a0_0 - (wrap64 (a1 - a0_6)))) 0, a0_1, t119, 0)) else (if a0_4 = 1 then (some (a0_0, mx (wrap64 (a0_1 - (wrap64 (a1 - a0_6)))) 0, t119, 0)) else (none))) else (some (a0_0, a0_1, t119, 0))) = some (r1, r2, r3, r4) := H
  have A5 := Az A50
  clear A50
  by_cases c6 : a0_5 = true
  ·
   subst c6
   have H1 : (if a0_4 = 0 then (some (mx (wrap64 (a0_0 - (wrap64 (a1 - a0_6)))) 0, a0_1, t119, 0)) else (if a0_4 = 1 then (some (a0_0, mx (wrap64 (a0_1 - (wrap64 (a1 - a0_6)))) 0, t119, 0)) else (none))) = some (r1, r2, r3, r4) := by rw [if_pos rfl] at H; exact H
   clear H
   have H := H1
   clear H1
   by_cases c7 : a0_4 = 0
   ·
    rw [if_pos c7] at H
    have c7b0 : (a0_4 == 0) = true := beq_iff_eq.mpr c7
    have c7b1 : (a0_4 != 0) = false := bne_eq_false_iff_eq.mpr c7
    clear c7
    have hix8 : ∀ (a_ : Addr) (W_ : World), (Instr.indexAt 22 (.pointer (some a_)) (.int .u8 a0_4)).run Tryd.prog W_ = .ok (.pointer (some (a_.add 0))) W_ := ix_any (c := 0) (by first | omega | exact beq_iff_eq.mp (by assumption) | exact eq_of_beq (by assumption)) (fun _ _ => by kernel_rfl)
    obtain ⟨ji9, hji9⟩ : ∃ j_ : Int, (mx (wrap64 (a0_0 - (wrap64 (a1 - a0_6)))) 0) = j_ := ⟨_, rfl⟩
    replace H : (some (ji9, a0_1, t119, 0)) = some (r1, r2, r3, r4) := by first | (rw [hji9] at H; exact H) | (simp only [hji9] at H ⊢; exact H)
    (try rw [hji9] at A3)
    (try rw [hji9] at A5)
    (try (have hji9l : 0 ≤ ji9 := by (rw [← hji9]; unfold mx; (repeat' split) <;> omega)))
    (try (have hji9m : 0 ≤ ji9 := by omega))
    have hji9_ : (if (wrap64 (a0_0 - (wrap64 (a1 - a0_6)))) < 0 then 0 else (wrap64 (a0_0 - (wrap64 (a1 - a0_6))))) = ji9 := hji9
    have hix10 : ∀ (a_ : Addr) (W_ : World), (Instr.indexAt 22 (.pointer (some a_)) (.int .u8 a0_4)).run Tryd.prog W_ = .ok (.pointer (some (a_.add 0))) W_ := ix_any (c := 0) (by first | omega | exact beq_iff_eq.mp (by assumption) | exact eq_of_beq (by assumption)) (fun _ _ => by kernel_rfl)
    simp only [Option.some.injEq, Prod.mk.injEq] at H
    obtain ⟨rfl, rfl, rfl, rfl⟩ := H
    go_enter Tryd.func23, Tryd.ntmps23
    try go_wp2_with (first | ((with_reducible refine gate_dst (N := 2) rfl ?_); refine box_event ?hg (N := 2) ?hd (cs := #[.int .i64 a0_0, .int .i64 a0_1, .int .i64 a0_2, .int .i64 a0_3, .int .u8 a0_4, .bool true, .int .i64 a0_6, .int .u8 a0_7]) (t := 24) ?hr ?_; (case hd => rfl); (case hg => rfl); (case hr => first | (go_simp; done) | (go_simp; rfl)); intro gb116 hg w11 hbox hb; have n0_ := Az (below_step (low HB) hb); have n1_ := Az (hbox); have n2_ := Az ((by rw [hg]; exact (below_size (low HB)) : w.heap.size ≤ gb116)); have n3_ := Az ((by rw [hg]; exact (below_size (low HB)) : w.heap.size ≤ gb116)); clear HB; have HB := n0_; have BK116 := n1_; have GW116 := n2_; have GE116 := n3_; clear n0_ n1_ n2_ n3_; clear hb hbox hg) | ((with_reducible refine gate_dst (N := 4) rfl ?_); refine box_event ?hg (N := 4) ?hd (cs := #[.int .i64 0, .int .i64 0]) (t := 22) ?hr ?_; (case hd => rfl); (case hg => rfl); (case hr => first | (go_simp; done) | (go_simp; rfl)); intro gb117 hg w12 hbox hb; have n0_ := Az (blk_below (g := gb116) (o := .cells #[.int .i64 a0_0, .int .i64 a0_1, .int .i64 a0_2, .int .i64 a0_3, .int .u8 a0_4, .bool true, .int .i64 a0_6, .int .u8 a0_7] 24 (0, 0)) of_lies hb); have n1_ := Az (below_step (low HB) hb); have n2_ := Az (hbox); have n3_ := Az ((by rw [hg]; exact (below_size (low HB)) : w.heap.size ≤ gb117)); have n4_ := Az ((by rw [hg]; exact (below_size (low HB)) : w.heap.size ≤ gb117)); have n5_ := Az ((by rw [hg]; exact Nat.ne_of_lt (blk_lt (g := gb116) (o := .cells #[.int .i64 a0_0, .int .i64 a0_1, .int .i64 a0_2, .int .i64 a0_3, .int .u8 a0_4, .bool true, .int .i64 a0_6, .int .u8 a0_7] 24 (0, 0)) of_lies) : gb116 ≠ gb117)); have n6_ := Az ((by rw [hg]; exact Nat.ne_of_gt (blk_lt (g := gb116) (o := .cells #[.int .i64 a0_0, .int .i64 a0_1, .int .i64 a0_2, .int .i64 a0_3, .int .u8 a0_4, .bool true, .int .i64 a0_6, .int .u8 a0_7] 24 (0, 0)) of_lies) : gb117 ≠ gb116)); clear BK116; clear HB; have BK116 := n0_; have HB := n1_; have BK117 := n2_; have GW117 := n3_; have GE117 := n4_; have NB116_117 := n5_; have NB117_116 := n6_; clear n0_ n1_ n2_ n3_ n4_ n5_ n6_; clear hb hbox hg; have hnb13 := NB116_117.out; have hnc13 := NB117_116.out; obtain ⟨hcz14_0, hcz14_1, hcz14_2, hcz14_3, hcz14_4, hcz14_5, hcz14_6, hcz14_7, hfz14_0, hfz14_1, hfz14_2, hfz14_3, hfz14_4, hfz14_5, hfz14_6, hfz14_7⟩ := cells8 BK116.out) | ((with_reducible refine gate_callee (f := 53) rfl ?_); refine goesL_ (some 10) rfl rfl Tryd.func53 (by kernel_rfl) rfl #[.agg #[.int .i64 a0_0, .int .i64 a0_1, .int .i64 a0_2, .int .i64 a0_3, .int .u8 a0_4, .bool true, .int .i64 a0_6, .int .u8 a0_7], .int .i64 a1] rfl mapx ?_; (with_reducible refine (clock_may.calls k a0_0 a0_1 a0_2 a0_3 a0_4 true a0_6 a0_7 a1 true _ A3.out).mono ?_); rintro e w15 ⟨rfl, hb⟩; refine ⟨_, rfl, ?_⟩; have n0_ := Az (blk_below (g := gb116) (o := .cells #[.int .i64 a0_0, .int .i64 a0_1, .int .i64 a0_2, .int .i64 a0_3, .int .u8 a0_4, .bool true, .int .i64 a0_6, .int .u8 a0_7] 24 (0, 0)) of_lies hb); have n1_ := Az (blk_below (g := gb117) (o := .cells #[.int .i64 0, .int .i64 0] 22 (0, 0)) of_lies hb); have n2_ := Az (below_step (low HB) hb); clear BK116; clear BK117; clear HB; have BK116 := n0_; have BK117 := n1_; have HB := n2_; clear n0_ n1_ n2_; (try clear hb); (try clear hb2); (try clear hk); (try clear hi); obtain ⟨hcz16_0, hcz16_1, hcz16_2, hcz16_3, hcz16_4, hcz16_5, hcz16_6, hcz16_7, hfz16_0, hfz16_1, hfz16_2, hfz16_3, hfz16_4, hfz16_5, hfz16_6, hfz16_7⟩ := cells8 BK116.out) | ((with_reducible refine gate_callee (f := 55) rfl ?_); refine goesL_ (some 15) rfl rfl Tryd.func55 (by kernel_rfl) rfl #[.agg #[.int .i64 a0_0, .int .i64 a0_1, .int .i64 a0_2, .int .i64 a0_3, .int .u8 a0_4, .bool true, .int .i64 a0_6, .int .u8 a0_7], .int .i64 a1] rfl mapx ?_; (with_reducible refine (clock_falls.calls a0_0 a0_1 a0_2 a0_3 a0_4 true a0_6 a0_7 a1 t119 _ A5.out).mono ?_); rintro e w17 ⟨rfl, hb⟩; refine ⟨_, rfl, ?_⟩; have n0_ := Az (blk_below (g := gb116) (o := .cells #[.int .i64 a0_0, .int .i64 a0_1, .int .i64 a0_2, .int .i64 a0_3, .int .u8 a0_4, .bool true, .int .i64 a0_6, .int .u8 a0_7] 24 (0, 0)) of_lies hb); have n1_ := Az (blk_below (g := gb117) (o := .cells #[.int .i64 0, .int .i64 0] 22 (0, 0)) of_lies hb); have n2_ := Az (below_step (low HB) hb); clear BK116; clear BK117; clear HB; have BK116 := n0_; have BK117 := n1_; have HB := n2_; clear n0_ n1_ n2_; (try clear hb); (try clear hb2); (try clear hk); (try clear hi); obtain ⟨hcz18_0, hcz18_1, hcz18_2, hcz18_3, hcz18_4, hcz18_5, hcz18_6, hcz18_7, hfz18_0, hfz18_1, hfz18_2, hfz18_3, hfz18_4, hfz18_5, hfz18_6, hfz18_7⟩ := cells8 BK116.out))
    have n0_ := Az (blk_drew BK116.out)
    have n1_ := Az (blk_drew BK117.out)
    have n2_ := Az (below_drew1 HB.out)
    clear BK116
    clear BK117
    clear HB
    have BK116 := n0_
    have BK117 := n1_
    have HB := n2_
    clear n0_ n1_ n2_
    refine start_ (n := 16) (S := fun w' => w'.cell? ⟨gb116, 0, none⟩ = some (.int .i64 a0_0) ∧ w'.cell? ⟨gb116, 1, none⟩ = some (.int .i64 a0_1) ∧ w'.cell? ⟨gb116, 2, none⟩ = some (.int .i64 a0_2) ∧ w'.cell? ⟨gb116, 3, none⟩ = some (.int .i64 a0_3) ∧ w'.cell? ⟨gb116, 4, none⟩ = some (.int .u8 a0_4) ∧ w'.cell? ⟨gb116, 5, none⟩ = some (.bool true) ∧ w'.cell? ⟨gb116, 6, none⟩ = some (.int .i64 a0_6) ∧ w'.cell? ⟨gb116, 7, none⟩ = some (.int .u8 a0_7)) (ds := [15]) #[false, false, false, false, false, false, false, false, false, false, false, false, false, false, false, false] (by kernel_rfl) rfl rfl ⟨(blk_cell BK116.out 0).trans rfl, (blk_cell BK116.out 1).trans rfl, (blk_cell BK116.out 2).trans rfl, (blk_cell BK116.out 3).trans rfl, (blk_cell BK116.out 4).trans rfl, (blk_cell BK116.out 5).trans rfl, (blk_cell BK116.out 6).trans rfl, (blk_cell BK116.out 7).trans rfl⟩ (fun hHeld => ?_); refine with_tabW clock_Look.tab5 clock_Look.bits5 (fun HT_ HW_ => ?_)
    generalize w17.drew = w19 at BK116 BK117 HB hHeld ⊢
    refine pure_ (i := 0) (N := some 18) (v := ?_) (a' := ?_) #[true, false, false, false, false, false, false, false, false, false, false, false, false, false, false, false] rfl rfl (any_of HT_.out (by kernel_rfl)) (fun _ _ _ h => h) (Or.inl ⟨by rfl, ?_⟩) ?_ ?_
    rotate_left
    ·
     intro w'
     go_simp
     with_reducible rfl
    rotate_left
    ·
     simp only [Act.put, List.setIfInBounds_toArray, List.set_cons_zero, List.set_cons_succ, i64_w, i32_w]
     rfl
    refine pure_ (i := 2) (N := some 20) (v := ?_) (a' := ?_) #[true, false, true, false, false, false, false, false, false, false, false, false, false, false, false, false] rfl rfl (any_of HT_.out (by kernel_rfl)) (fun _ _ _ h => h) (Or.inl ⟨by rfl, ?_⟩) ?_ ?_
    rotate_left
    ·
     intro w'
     go_simp
     with_reducible rfl
    rotate_left
    ·
     simp only [Act.put, List.setIfInBounds_toArray, List.set_cons_zero, List.set_cons_succ, i64_w, i32_w]
     rfl
    refine pure_ (i := 4) (N := some 22) (v := ?_) (a' := ?_) #[true, false, true, false, true, false, false, false, false, false, false, false, false, false, false, false] rfl rfl (any_of HT_.out (by kernel_rfl)) (fun _ _ _ h => h) (Or.inl ⟨by rfl, ?_⟩) ?_ ?_
    rotate_left
    ·
     intro w'
     go_simp
     with_reducible rfl
    rotate_left
    ·
     simp only [Act.put, List.setIfInBounds_toArray, List.set_cons_zero, List.set_cons_succ, i64_w, i32_w]
     rfl
    refine pure_ (i := 7) (N := some 25) (v := ?_) (a' := ?_) #[true, false, true, false, true, false, false, true, false, false, false, false, false, false, false, false] rfl rfl (any_of HT_.out (by kernel_rfl)) (fun _ _ _ h => h) (Or.inl ⟨by rfl, ?_⟩) ?_ ?_
    rotate_left
    ·
     intro w'
     go_simp
     with_reducible rfl
    rotate_left
    ·
     simp only [Act.put, List.setIfInBounds_toArray, List.set_cons_zero, List.set_cons_succ, i64_w, i32_w]
     rfl
    refine pure_ (i := 8) (N := some 26) (v := ?_) (a' := ?_) #[true, false, true, false, true, false, false, true, true, false, false, false, false, false, false, false] rfl rfl (any_of HT_.out (by kernel_rfl)) (fun _ _ _ h => h) (Or.inl ⟨by rfl, ?_⟩) ?_ ?_
    rotate_left
    ·
     intro w'
     go_simp
     with_reducible rfl
    rotate_left
    ·
     simp only [Act.put, List.setIfInBounds_toArray, List.set_cons_zero, List.set_cons_succ, i64_w, i32_w]
     rfl
    refine pure_ (i := 13) (N := some 31) (v := ?_) (a' := ?_) #[true, false, true, false, true, false, false, true, true, false, false, false, false, true, false, false] rfl rfl (any_of HT_.out (by kernel_rfl)) (fun _ _ _ h => h) (Or.inl ⟨by rfl, ?_⟩) ?_ ?_
    rotate_left
    ·
     intro w'
     go_simp
     with_reducible rfl
    rotate_left
    ·
     simp only [Act.put, List.setIfInBounds_toArray, List.set_cons_zero, List.set_cons_succ, i64_w, i32_w]
     rfl
    refine take_ (i := 1) (N := some 19) (v := ?_) (a' := ?_) #[true, true, true, false, true, false, false, true, true, false, false, false, false, true, false, false] rfl rfl (take_ofW HT_.out HW_.out (by kernel_rfl)) (fun _ _ _ h => h) (Or.inl ⟨by rfl, ?_⟩) hHeld ?_ ?_
    rotate_left
    ·
     rintro w' ⟨s0, s1, s2, s3, s4, s5, s6, s7⟩
     go_simp
     with_reducible rfl
    rotate_left
    ·
     simp only [Act.put, List.setIfInBounds_toArray, List.set_cons_zero, List.set_cons_succ, i64_w, i32_w]
     rfl
    refine take_ (i := 3) (N := some 21) (v := ?_) (a' := ?_) #[true, true, true, true, true, false, false, true, true, false, false, false, false, true, false, false] rfl rfl (take_ofW HT_.out HW_.out (by kernel_rfl)) (fun _ _ _ h => h) (Or.inl ⟨by rfl, ?_⟩) hHeld ?_ ?_
    rotate_left
    ·
     rintro w' ⟨s0, s1, s2, s3, s4, s5, s6, s7⟩
     go_simp
     with_reducible rfl
    rotate_left
    ·
     simp only [Act.put, List.setIfInBounds_toArray, List.set_cons_zero, List.set_cons_succ, i64_w, i32_w]
     rfl
    refine pure_ (i := 5) (N := some 23) (v := ?_) (a' := ?_) #[true, true, true, true, true, true, false, true, true, false, false, false, false, true, false, false] rfl rfl (any_of HT_.out (by kernel_rfl)) (fun _ _ _ h => h) (Or.inl ⟨by rfl, ?_⟩) ?_ ?_
    rotate_left
    ·
     intro w'
     go_simp
     with_reducible rfl
    rotate_left
    ·
     simp only [Act.put, List.setIfInBounds_toArray, List.set_cons_zero, List.set_cons_succ, i64_w, i32_w]
     rfl
    refine take_ (i := 6) (N := some 24) (v := ?_) (a' := ?_) #[true, true, true, true, true, true, true, true, true, false, false, false, false, true, false, false] rfl rfl (take_ofW HT_.out HW_.out (by kernel_rfl)) (fun _ _ _ h => h) (Or.inl ⟨by rfl, ?_⟩) hHeld ?_ ?_
    rotate_left
    ·
     rintro w' ⟨s0, s1, s2, s3, s4, s5, s6, s7⟩
     go_simp
     with_reducible rfl
    rotate_left
    ·
     simp only [Act.put, List.setIfInBounds_toArray, List.set_cons_zero, List.set_cons_succ, i64_w, i32_w]
     rfl
    refine take_ (i := 9) (N := some 27) (v := ?_) (a' := ?_) #[true, true, true, true, true, true, true, true, true, true, false, false, false, true, false, false] rfl rfl (take_ofW HT_.out HW_.out (by kernel_rfl)) (fun _ _ _ h => h) (Or.inl ⟨by rfl, ?_⟩) hHeld ?_ ?_
    rotate_left
    ·
     rintro w' ⟨s0, s1, s2, s3, s4, s5, s6, s7⟩
     go_simp
     with_reducible rfl
    rotate_left
    ·
     simp only [Act.put, List.setIfInBounds_toArray, List.set_cons_zero, List.set_cons_succ, i64_w, i32_w]
     rfl
    refine pure_ (i := 10) (N := some 28) (v := ?_) (a' := ?_) #[true, true, true, true, true, true, true, true, true, true, true, false, false, true, false, false] rfl rfl (any_of HT_.out (by kernel_rfl)) (fun _ _ _ h => h) (Or.inl ⟨by rfl, ?_⟩) ?_ ?_
    rotate_left
    ·
     intro w'
     go_simp
     with_reducible rfl
    rotate_left
    ·
     simp only [Act.put, List.setIfInBounds_toArray, List.set_cons_zero, List.set_cons_succ, i64_w, i32_w]
     rfl
    refine pure_ (i := 11) (N := some 29) (v := ?_) (a' := ?_) #[true, true, true, true, true, true, true, true, true, true, true, true, false, true, false, false] rfl rfl (any_of HT_.out (by kernel_rfl)) (fun _ _ _ h => h) (Or.inl ⟨by rfl, ?_⟩) ?_ ?_
    rotate_left
    ·
     intro w'
     go_simp
     with_reducible rfl
    rotate_left
    ·
     simp only [Act.put, List.setIfInBounds_toArray, List.set_cons_zero, List.set_cons_succ, i64_w, i32_w]
     rfl
    refine pure_ (i := 12) (N := some 30) (v := ?_) (a' := ?_) #[true, true, true, true, true, true, true, true, true, true, true, true, true, true, false, false] rfl rfl (any_of HT_.out (by kernel_rfl)) (fun _ _ _ h => h) (Or.inl ⟨by rfl, ?_⟩) ?_ ?_
    rotate_left
    ·
     intro w'
     go_simp
     with_reducible rfl
    rotate_left
    ·
     simp only [Act.put, List.setIfInBounds_toArray, List.set_cons_zero, List.set_cons_succ, i64_w, i32_w]
     rfl
    refine pure_ (i := 14) (N := some 32) (v := ?_) (a' := ?_) #[true, true, true, true, true, true, true, true, true, true, true, true, true, true, true, false] rfl rfl (any_of HT_.out (by kernel_rfl)) (fun _ _ _ h => h) (Or.inl ⟨by rfl, ?_⟩) ?_ ?_
    rotate_left
    ·
     intro w'
     go_simp
     with_reducible rfl
    rotate_left
    ·
     simp only [Act.put, List.setIfInBounds_toArray, List.set_cons_zero, List.set_cons_succ, i64_w, i32_w]
     rfl
    refine last_ (i := 15) (N := none) #[true, true, true, true, true, true, true, true, true, true, true, true, true, true, true, true] rfl rfl (one_of HT_.out (by kernel_rfl)) (by decide) (fun K hK => ?_)
    have hs20 : w19.cell? ⟨gb116, 0, none⟩ = some (.int .i64 a0_0) := (blk_cell BK116.out 0).trans rfl
    have hfs20 := blk_frozen BK116.out 0
    have hns20_1 := NB117_116.out
    have hms20_1 := NB116_117.out
    refine skip_ (w1 := ?_) (by rfl) rfl ?_ ?_
    rotate_left
    ·
     go_simp
     rfl
    refine hK.out _ _ ?_
    clear hK K
    refine done_ (done_of HT_.out (by kernel_rfl)) ?_
    have hcz21_0 : w19.cell? ⟨gb116, 0, none⟩ = some (.int .i64 a0_0) := (blk_cell BK116.out 0).trans rfl
    have hcz21_1 : w19.cell? ⟨gb116, 1, none⟩ = some (.int .i64 a0_1) := (blk_cell BK116.out 1).trans rfl
    have hcz21_2 : w19.cell? ⟨gb116, 2, none⟩ = some (.int .i64 a0_2) := (blk_cell BK116.out 2).trans rfl
    have hcz21_3 : w19.cell? ⟨gb116, 3, none⟩ = some (.int .i64 a0_3) := (blk_cell BK116.out 3).trans rfl
    have hcz21_4 : w19.cell? ⟨gb116, 4, none⟩ = some (.int .u8 a0_4) := (blk_cell BK116.out 4).trans rfl
    have hcz21_5 : w19.cell? ⟨gb116, 5, none⟩ = some (.bool true) := (blk_cell BK116.out 5).trans rfl
    have hcz21_6 : w19.cell? ⟨gb116, 6, none⟩ = some (.int .i64 a0_6) := (blk_cell BK116.out 6).trans rfl
    have hcz21_7 : w19.cell? ⟨gb116, 7, none⟩ = some (.int .u8 a0_7) := (blk_cell BK116.out 7).trans rfl
    have hfz21_0 := blk_frozen BK116.out 0
    have hfz21_1 := blk_frozen BK116.out 1
    have hfz21_2 := blk_frozen BK116.out 2
    have hfz21_3 := blk_frozen BK116.out 3
    have hfz21_4 := blk_frozen BK116.out 4
    have hfz21_5 := blk_frozen BK116.out 5
    have hfz21_6 := blk_frozen BK116.out 6
    have hfz21_7 := blk_frozen BK116.out 7
    have hcz22_0 : w19.cell? ⟨gb117, 0, none⟩ = some (.int .i64 0) := (blk_cell BK117.out 0).trans rfl
    have hcz22_1 : w19.cell? ⟨gb117, 1, none⟩ = some (.int .i64 0) := (blk_cell BK117.out 1).trans rfl
    have hfz22_0 := blk_frozen BK117.out 0
    have hfz22_1 := blk_frozen BK117.out 1
    try go_wp2
    refine bodyPost_ret (results_ctt rfl _ _ gb117 22 #[.int .i64 ji9, .int .i64 a0_1] (0, 0) _ rfl (by (with_reducible repeat (first | refine bN ?_ _ | refine bD ?_ | refine bA ?_ _)); refine blk_put (cs := #[.int .i64 ji9, .int .i64 0]) ?_ 1 _ rfl; (with_reducible repeat (first | refine bN ?_ _ | refine bD ?_ | refine bA ?_ _)); refine blk_put (cs := #[.int .i64 0, .int .i64 0]) ?_ 0 _ rfl; (with_reducible repeat (first | refine bN ?_ _ | refine bD ?_ | refine bA ?_ _)); refine blk_far ?_ NB117_116.out _; exact of_lies) Tryd.underlying22 rfl (by kernel_rfl)) rfl ?_
    exact ⟨by first | rfl | (simp [errW_none, errW_some] <;> rfl) | (simp only [← hji9]; first | rfl | (simp [errW_none, errW_some] <;> rfl)) | (simp [*, errW_none, errW_some] <;> rfl), low HB⟩
   ·
    rw [if_neg c7] at H
    have c7b0 : (a0_4 == 0) = false := beq_eq_false_iff_ne.mpr c7
    have c7b1 : (a0_4 != 0) = true := bne_iff_ne.mpr c7
    by_cases c23 : a0_4 = 1
    ·
     rw [if_pos c23] at H
     have c23b0 : (a0_4 == 1) = true := beq_iff_eq.mpr c23
     have c23b1 : (a0_4 != 1) = false := bne_eq_false_iff_eq.mpr c23
     clear c23
     have hix24 : ∀ (a_ : Addr) (W_ : World), (Instr.indexAt 22 (.pointer (some a_)) (.int .u8 a0_4)).run Tryd.prog W_ = .ok (.pointer (some (a_.add 1))) W_ := ix_any (c := 1) (by first | omega | exact beq_iff_eq.mp (by assumption) | exact eq_of_beq (by assumption)) (fun _ _ => by kernel_rfl)
     obtain ⟨ji25, hji25⟩ : ∃ j_ : Int, (mx (wrap64 (a0_1 - (wrap64 (a1 - a0_6)))) 0) = j_ := ⟨_, rfl⟩
     replace H : (some (a0_0, ji25, t119, 0)) = some (r1, r2, r3, r4) := by first | (rw [hji25] at H; exact H) | (simp only [hji25] at H ⊢; exact H)
     (try rw [hji25] at A3)
     (try rw [hji25] at A5)
     (try (have hji25l : 0 ≤ ji25 := by (rw [← hji25]; unfold mx; (repeat' split) <;> omega)))
     (try (have hji25m : 0 ≤ ji25 := by omega))
     have hji25_ : (if (wrap64 (a0_1 - (wrap64 (a1 - a0_6)))) < 0 then 0 else (wrap64 (a0_1 - (wrap64 (a1 - a0_6))))) = ji25 := hji25
     have hix26 : ∀ (a_ : Addr) (W_ : World), (Instr.indexAt 22 (.pointer (some a_)) (.int .u8 a0_4)).run Tryd.prog W_ = .ok (.pointer (some (a_.add 1))) W_ := ix_any (c := 1) (by first | omega | exact beq_iff_eq.mp (by assumption) | exact eq_of_beq (by assumption)) (fun _ _ => by kernel_rfl)
     simp only [Option.some.injEq, Prod.mk.injEq] at H
     obtain ⟨rfl, rfl, rfl, rfl⟩ := H
     go_enter Tryd.func23, Tryd.ntmps23
     try go_wp2_with (first | ((with_reducible refine gate_dst (N := 2) rfl ?_); refine box_event ?hg (N := 2) ?hd (cs := #[.int .i64 a0_0, .int .i64 a0_1, .int .i64 a0_2, .int .i64 a0_3, .int .u8 a0_4, .bool true, .int .i64 a0_6, .int .u8 a0_7]) (t := 24) ?hr ?_; (case hd => rfl); (case hg => rfl); (case hr => first | (go_simp; done) | (go_simp; rfl)); intro gb116 hg w27 hbox hb; have n0_ := Az (below_step (low HB) hb); have n1_ := Az (hbox); have n2_ := Az ((by rw [hg]; exact (below_size (low HB)) : w.heap.size ≤ gb116)); have n3_ := Az ((by rw [hg]; exact (below_size (low HB)) : w.heap.size ≤ gb116)); clear HB; have HB := n0_; have BK116 := n1_; have GW116 := n2_; have GE116 := n3_; clear n0_ n1_ n2_ n3_; clear hb hbox hg) | ((with_reducible refine gate_dst (N := 4) rfl ?_); refine box_event ?hg (N := 4) ?hd (cs := #[.int .i64 0, .int .i64 0]) (t := 22) ?hr ?_; (case hd => rfl); (case hg => rfl); (case hr => first | (go_simp; done) | (go_simp; rfl)); intro gb117 hg w28 hbox hb; have n0_ := Az (blk_below (g := gb116) (o := .cells #[.int .i64 a0_0, .int .i64 a0_1, .int .i64 a0_2, .int .i64 a0_3, .int .u8 a0_4, .bool true, .int .i64 a0_6, .int .u8 a0_7] 24 (0, 0)) of_lies hb); have n1_ := Az (below_step (low HB) hb); have n2_ := Az (hbox); have n3_ := Az ((by rw [hg]; exact (below_size (low HB)) : w.heap.size ≤ gb117)); have n4_ := Az ((by rw [hg]; exact (below_size (low HB)) : w.heap.size ≤ gb117)); have n5_ := Az ((by rw [hg]; exact Nat.ne_of_lt (blk_lt (g := gb116) (o := .cells #[.int .i64 a0_0, .int .i64 a0_1, .int .i64 a0_2, .int .i64 a0_3, .int .u8 a0_4, .bool true, .int .i64 a0_6, .int .u8 a0_7] 24 (0, 0)) of_lies) : gb116 ≠ gb117)); have n6_ := Az ((by rw [hg]; exact Nat.ne_of_gt (blk_lt (g := gb116) (o := .cells #[.int .i64 a0_0, .int .i64 a0_1, .int .i64 a0_2, .int .i64 a0_3, .int .u8 a0_4, .bool true, .int .i64 a0_6, .int .u8 a0_7] 24 (0, 0)) of_lies) : gb117 ≠ gb116)); clear BK116; clear HB; have BK116 := n0_; have HB := n1_; have BK117 := n2_; have GW117 := n3_; have GE117 := n4_; have NB116_117 := n5_; have NB117_116 := n6_; clear n0_ n1_ n2_ n3_ n4_ n5_ n6_; clear hb hbox hg; have hnb29 := NB116_117.out; have hnc29 := NB117_116.out; obtain ⟨hcz30_0, hcz30_1, hcz30_2, hcz30_3, hcz30_4, hcz30_5, hcz30_6, hcz30_7, hfz30_0, hfz30_1, hfz30_2, hfz30_3, hfz30_4, hfz30_5, hfz30_6, hfz30_7⟩ := cells8 BK116.out) | ((with_reducible refine gate_callee (f := 53) rfl ?_); refine goesL_ (some 10) rfl rfl Tryd.func53 (by kernel_rfl) rfl #[.agg #[.int .i64 a0_0, .int .i64 a0_1, .int .i64 a0_2, .int .i64 a0_3, .int .u8 a0_4, .bool true, .int .i64 a0_6, .int .u8 a0_7], .int .i64 a1] rfl mapx ?_; (with_reducible refine (clock_may.calls k a0_0 a0_1 a0_2 a0_3 a0_4 true a0_6 a0_7 a1 true _ A3.out).mono ?_); rintro e w31 ⟨rfl, hb⟩; refine ⟨_, rfl, ?_⟩; have n0_ := Az (blk_below (g := gb116) (o := .cells #[.int .i64 a0_0, .int .i64 a0_1, .int .i64 a0_2, .int .i64 a0_3, .int .u8 a0_4, .bool true, .int .i64 a0_6, .int .u8 a0_7] 24 (0, 0)) of_lies hb); have n1_ := Az (blk_below (g := gb117) (o := .cells #[.int .i64 0, .int .i64 0] 22 (0, 0)) of_lies hb); have n2_ := Az (below_step (low HB) hb); clear BK116; clear BK117; clear HB; have BK116 := n0_; have BK117 := n1_; have HB := n2_; clear n0_ n1_ n2_; (try clear hb); (try clear hb2); (try clear hk); (try clear hi); obtain ⟨hcz32_0, hcz32_1, hcz32_2, hcz32_3, hcz32_4, hcz32_5, hcz32_6, hcz32_7, hfz32_0, hfz32_1, hfz32_2, hfz32_3, hfz32_4, hfz32_5, hfz32_6, hfz32_7⟩ := cells8 BK116.out) | ((with_reducible refine gate_callee (f := 55) rfl ?_); refine goesL_ (some 15) rfl rfl Tryd.func55 (by kernel_rfl) rfl #[.agg #[.int .i64 a0_0, .int .i64 a0_1, .int .i64 a0_2, .int .i64 a0_3, .int .u8 a0_4, .bool true, .int .i64 a0_6, .int .u8 a0_7], .int .i64 a1] rfl mapx ?_; (with_reducible refine (clock_falls.calls a0_0 a0_1 a0_2 a0_3 a0_4 true a0_6 a0_7 a1 t119 _ A5.out).mono ?_); rintro e w33 ⟨rfl, hb⟩; refine ⟨_, rfl, ?_⟩; have n0_ := Az (blk_below (g := gb116) (o := .cells #[.int .i64 a0_0, .int .i64 a0_1, .int .i64 a0_2, .int .i64 a0_3, .int .u8 a0_4, .bool true, .int .i64 a0_6, .int .u8 a0_7] 24 (0, 0)) of_lies hb); have n1_ := Az (blk_below (g := gb117) (o := .cells #[.int .i64 0, .int .i64 0] 22 (0, 0)) of_lies hb); have n2_ := Az (below_step (low HB) hb); clear BK116; clear BK117; clear HB; have BK116 := n0_; have BK117 := n1_; have HB := n2_; clear n0_ n1_ n2_; (try clear hb); (try clear hb2); (try clear hk); (try clear hi); obtain ⟨hcz34_0, hcz34_1, hcz34_2, hcz34_3, hcz34_4, hcz34_5, hcz34_6, hcz34_7, hfz34_0, hfz34_1, hfz34_2, hfz34_3, hfz34_4, hfz34_5, hfz34_6, hfz34_7⟩ := cells8 BK116.out))
     have n0_ := Az (blk_drew BK116.out)
     have n1_ := Az (blk_drew BK117.out)
     have n2_ := Az (below_drew1 HB.out)
     clear BK116
     clear BK117
     clear HB
     have BK116 := n0_
     have BK117 := n1_
     have HB := n2_
     clear n0_ n1_ n2_
     refine start_ (n := 16) (S := fun w' => w'.cell? ⟨gb116, 0, none⟩ = some (.int .i64 a0_0) ∧ w'.cell? ⟨gb116, 1, none⟩ = some (.int .i64 a0_1) ∧ w'.cell? ⟨gb116, 2, none⟩ = some (.int .i64 a0_2) ∧ w'.cell? ⟨gb116, 3, none⟩ = some (.int .i64 a0_3) ∧ w'.cell? ⟨gb116, 4, none⟩ = some (.int .u8 a0_4) ∧ w'.cell? ⟨gb116, 5, none⟩ = some (.bool true) ∧ w'.cell? ⟨gb116, 6, none⟩ = some (.int .i64 a0_6) ∧ w'.cell? ⟨gb116, 7, none⟩ = some (.int .u8 a0_7)) (ds := [15]) #[false, false, false, false, false, false, false, false, false, false, false, false, false, false, false, false] (by kernel_rfl) rfl rfl ⟨(blk_cell BK116.out 0).trans rfl, (blk_cell BK116.out 1).trans rfl, (blk_cell BK116.out 2).trans rfl, (blk_cell BK116.out 3).trans rfl, (blk_cell BK116.out 4).trans rfl, (blk_cell BK116.out 5).trans rfl, (blk_cell BK116.out 6).trans rfl, (blk_cell BK116.out 7).trans rfl⟩ (fun hHeld => ?_); refine with_tabW clock_Look.tab5 clock_Look.bits5 (fun HT_ HW_ => ?_)
     generalize w33.drew = w35 at BK116 BK117 HB hHeld ⊢
     refine pure_ (i := 0) (N := some 18) (v := ?_) (a' := ?_) #[true, false, false, false, false, false, false, false, false, false, false, false, false, false, false, false] rfl rfl (any_of HT_.out (by kernel_rfl)) (fun _ _ _ h => h) (Or.inl ⟨by rfl, ?_⟩) ?_ ?_
     rotate_left
     ·
      intro w'
      go_simp
      with_reducible rfl
     rotate_left
     ·
      simp only [Act.put, List.setIfInBounds_toArray, List.set_cons_zero, List.set_cons_succ, i64_w, i32_w]
      rfl
     refine pure_ (i := 2) (N := some 20) (v := ?_) (a' := ?_) #[true, false, true, false, false, false, false, false, false, false, false, false, false, false, false, false] rfl rfl (any_of HT_.out (by kernel_rfl)) (fun _ _ _ h => h) (Or.inl ⟨by rfl, ?_⟩) ?_ ?_
     rotate_left
     ·
      intro w'
      go_simp
      with_reducible rfl
     rotate_left
     ·
      simp only [Act.put, List.setIfInBounds_toArray, List.set_cons_zero, List.set_cons_succ, i64_w, i32_w]
      rfl
     refine pure_ (i := 4) (N := some 22) (v := ?_) (a' := ?_) #[true, false, true, false, true, false, false, false, false, false, false, false, false, false, false, false] rfl rfl (any_of HT_.out (by kernel_rfl)) (fun _ _ _ h => h) (Or.inl ⟨by rfl, ?_⟩) ?_ ?_
     rotate_left
     ·
      intro w'
      go_simp
      with_reducible rfl
     rotate_left
     ·
      simp only [Act.put, List.setIfInBounds_toArray, List.set_cons_zero, List.set_cons_succ, i64_w, i32_w]
      rfl
     refine pure_ (i := 7) (N := some 25) (v := ?_) (a' := ?_) #[true, false, true, false, true, false, false, true, false, false, false, false, false, false, false, false] rfl rfl (any_of HT_.out (by kernel_rfl)) (fun _ _ _ h => h) (Or.inl ⟨by rfl, ?_⟩) ?_ ?_
     rotate_left
     ·
      intro w'
      go_simp
      with_reducible rfl
     rotate_left
     ·
      simp only [Act.put, List.setIfInBounds_toArray, List.set_cons_zero, List.set_cons_succ, i64_w, i32_w]
      rfl
     refine pure_ (i := 8) (N := some 26) (v := ?_) (a' := ?_) #[true, false, true, false, true, false, false, true, true, false, false, false, false, false, false, false] rfl rfl (any_of HT_.out (by kernel_rfl)) (fun _ _ _ h => h) (Or.inl ⟨by rfl, ?_⟩) ?_ ?_
     rotate_left
     ·
      intro w'
      go_simp
      with_reducible rfl
     rotate_left
     ·
      simp only [Act.put, List.setIfInBounds_toArray, List.set_cons_zero, List.set_cons_succ, i64_w, i32_w]
      rfl
     refine pure_ (i := 13) (N := some 31) (v := ?_) (a' := ?_) #[true, false, true, false, true, false, false, true, true, false, false, false, false, true, false, false] rfl rfl (any_of HT_.out (by kernel_rfl)) (fun _ _ _ h => h) (Or.inl ⟨by rfl, ?_⟩) ?_ ?_
     rotate_left
     ·
      intro w'
      go_simp
      with_reducible rfl
     rotate_left
     ·
      simp only [Act.put, List.setIfInBounds_toArray, List.set_cons_zero, List.set_cons_succ, i64_w, i32_w]
      rfl
     refine take_ (i := 1) (N := some 19) (v := ?_) (a' := ?_) #[true, true, true, false, true, false, false, true, true, false, false, false, false, true, false, false] rfl rfl (take_ofW HT_.out HW_.out (by kernel_rfl)) (fun _ _ _ h => h) (Or.inl ⟨by rfl, ?_⟩) hHeld ?_ ?_
     rotate_left
     ·
      rintro w' ⟨s0, s1, s2, s3, s4, s5, s6, s7⟩
      go_simp
      with_reducible rfl
     rotate_left
     ·
      simp only [Act.put, List.setIfInBounds_toArray, List.set_cons_zero, List.set_cons_succ, i64_w, i32_w]
      rfl
     refine take_ (i := 3) (N := some 21) (v := ?_) (a' := ?_) #[true, true, true, true, true, false, false, true, true, false, false, false, false, true, false, false] rfl rfl (take_ofW HT_.out HW_.out (by kernel_rfl)) (fun _ _ _ h => h) (Or.inl ⟨by rfl, ?_⟩) hHeld ?_ ?_
     rotate_left
     ·
      rintro w' ⟨s0, s1, s2, s3, s4, s5, s6, s7⟩
      go_simp
      with_reducible rfl
     rotate_left
     ·
      simp only [Act.put, List.setIfInBounds_toArray, List.set_cons_zero, List.set_cons_succ, i64_w, i32_w]
      rfl
     refine pure_ (i := 5) (N := some 23) (v := ?_) (a' := ?_) #[true, true, true, true, true, true, false, true, true, false, false, false, false, true, false, false] rfl rfl (any_of HT_.out (by kernel_rfl)) (fun _ _ _ h => h) (Or.inl ⟨by rfl, ?_⟩) ?_ ?_
     rotate_left
     ·
      intro w'
      go_simp
      with_reducible rfl
     rotate_left
     ·
      simp only [Act.put, List.setIfInBounds_toArray, List.set_cons_zero, List.set_cons_succ, i64_w, i32_w]
      rfl
     refine take_ (i := 6) (N := some 24) (v := ?_) (a' := ?_) #[true, true, true, true, true, true, true, true, true, false, false, false, false, true, false, false] rfl rfl (take_ofW HT_.out HW_.out (by kernel_rfl)) (fun _ _ _ h => h) (Or.inl ⟨by rfl, ?_⟩) hHeld ?_ ?_
     rotate_left
     ·
      rintro w' ⟨s0, s1, s2, s3, s4, s5, s6, s7⟩
      go_simp
      with_reducible rfl
     rotate_left
     ·
      simp only [Act.put, List.setIfInBounds_toArray, List.set_cons_zero, List.set_cons_succ, i64_w, i32_w]
      rfl
     refine take_ (i := 9) (N := some 27) (v := ?_) (a' := ?_) #[true, true, true, true, true, true, true, true, true, true, false, false, false, true, false, false] rfl rfl (take_ofW HT_.out HW_.out (by kernel_rfl)) (fun _ _ _ h => h) (Or.inl ⟨by rfl, ?_⟩) hHeld ?_ ?_
     rotate_left
     ·
      rintro w' ⟨s0, s1, s2, s3, s4, s5, s6, s7⟩
      go_simp
      with_reducible rfl
     rotate_left
     ·
      simp only [Act.put, List.setIfInBounds_toArray, List.set_cons_zero, List.set_cons_succ, i64_w, i32_w]
      rfl
     refine pure_ (i := 10) (N := some 28) (v := ?_) (a' := ?_) #[true, true, true, true, true, true, true, true, true, true, true, false, false, true, false, false] rfl rfl (any_of HT_.out (by kernel_rfl)) (fun _ _ _ h => h) (Or.inl ⟨by rfl, ?_⟩) ?_ ?_
     rotate_left
     ·
      intro w'
      go_simp
      with_reducible rfl
     rotate_left
     ·
      simp only [Act.put, List.setIfInBounds_toArray, List.set_cons_zero, List.set_cons_succ, i64_w, i32_w]
      rfl
     refine pure_ (i := 11) (N := some 29) (v := ?_) (a' := ?_) #[true, true, true, true, true, true, true, true, true, true, true, true, false, true, false, false] rfl rfl (any_of HT_.out (by kernel_rfl)) (fun _ _ _ h => h) (Or.inl ⟨by rfl, ?_⟩) ?_ ?_
     rotate_left
     ·
      intro w'
      go_simp
      with_reducible rfl
     rotate_left
     ·
      simp only [Act.put, List.setIfInBounds_toArray, List.set_cons_zero, List.set_cons_succ, i64_w, i32_w]
      rfl
     refine pure_ (i := 12) (N := some 30) (v := ?_) (a' := ?_) #[true, true, true, true, true, true, true, true, true, true, true, true, true, true, false, false] rfl rfl (any_of HT_.out (by kernel_rfl)) (fun _ _ _ h => h) (Or.inl ⟨by rfl, ?_⟩) ?_ ?_
     rotate_left
     ·
      intro w'
      go_simp
      with_reducible rfl
     rotate_left
     ·
      simp only [Act.put, List.setIfInBounds_toArray, List.set_cons_zero, List.set_cons_succ, i64_w, i32_w]
      rfl
     refine pure_ (i := 14) (N := some 32) (v := ?_) (a' := ?_) #[true, true, true, true, true, true, true, true, true, true, true, true, true, true, true, false] rfl rfl (any_of HT_.out (by kernel_rfl)) (fun _ _ _ h => h) (Or.inl ⟨by rfl, ?_⟩) ?_ ?_
     rotate_left
     ·
      intro w'
      go_simp
      with_reducible rfl
     rotate_left
     ·
      simp only [Act.put, List.setIfInBounds_toArray, List.set_cons_zero, List.set_cons_succ, i64_w, i32_w]
      rfl
     refine last_ (i := 15) (N := none) #[true, true, true, true, true, true, true, true, true, true, true, true, true, true, true, true] rfl rfl (one_of HT_.out (by kernel_rfl)) (by decide) (fun K hK => ?_)
     have hs36 : w35.cell? ⟨gb116, 1, none⟩ = some (.int .i64 a0_1) := (blk_cell BK116.out 1).trans rfl
     have hfs36 := blk_frozen BK116.out 1
     have hns36_1 := NB117_116.out
     have hms36_1 := NB116_117.out
     refine skip_ (w1 := ?_) (by rfl) rfl ?_ ?_
     rotate_left
     ·
      go_simp
      rfl
     refine hK.out _ _ ?_
     clear hK K
     refine done_ (done_of HT_.out (by kernel_rfl)) ?_
     have hcz37_0 : w35.cell? ⟨gb116, 0, none⟩ = some (.int .i64 a0_0) := (blk_cell BK116.out 0).trans rfl
     have hcz37_1 : w35.cell? ⟨gb116, 1, none⟩ = some (.int .i64 a0_1) := (blk_cell BK116.out 1).trans rfl
     have hcz37_2 : w35.cell? ⟨gb116, 2, none⟩ = some (.int .i64 a0_2) := (blk_cell BK116.out 2).trans rfl
     have hcz37_3 : w35.cell? ⟨gb116, 3, none⟩ = some (.int .i64 a0_3) := (blk_cell BK116.out 3).trans rfl
     have hcz37_4 : w35.cell? ⟨gb116, 4, none⟩ = some (.int .u8 a0_4) := (blk_cell BK116.out 4).trans rfl
     have hcz37_5 : w35.cell? ⟨gb116, 5, none⟩ = some (.bool true) := (blk_cell BK116.out 5).trans rfl
     have hcz37_6 : w35.cell? ⟨gb116, 6, none⟩ = some (.int .i64 a0_6) := (blk_cell BK116.out 6).trans rfl
     have hcz37_7 : w35.cell? ⟨gb116, 7, none⟩ = some (.int .u8 a0_7) := (blk_cell BK116.out 7).trans rfl
     have hfz37_0 := blk_frozen BK116.out 0
     have hfz37_1 := blk_frozen BK116.out 1
     have hfz37_2 := blk_frozen BK116.out 2
     have hfz37_3 := blk_frozen BK116.out 3
     have hfz37_4 := blk_frozen BK116.out 4
     have hfz37_5 := blk_frozen BK116.out 5
     have hfz37_6 := blk_frozen BK116.out 6
     have hfz37_7 := blk_frozen BK116.out 7
     have hcz38_0 : w35.cell? ⟨gb117, 0, none⟩ = some (.int .i64 0) := (blk_cell BK117.out 0).trans rfl
     have hcz38_1 : w35.cell? ⟨gb117, 1, none⟩ = some (.int .i64 0) := (blk_cell BK117.out 1).trans rfl
     have hfz38_0 := blk_frozen BK117.out 0
     have hfz38_1 := blk_frozen BK117.out 1
     try go_wp2
     refine bodyPost_ret (results_ctt rfl _ _ gb117 22 #[.int .i64 a0_0, .int .i64 ji25] (0, 0) _ rfl (by (with_reducible repeat (first | refine bN ?_ _ | refine bD ?_ | refine bA ?_ _)); refine blk_put (cs := #[.int .i64 a0_0, .int .i64 0]) ?_ 1 _ rfl; (with_reducible repeat (first | refine bN ?_ _ | refine bD ?_ | refine bA ?_ _)); refine blk_put (cs := #[.int .i64 0, .int .i64 0]) ?_ 0 _ rfl; (with_reducible repeat (first | refine bN ?_ _ | refine bD ?_ | refine bA ?_ _)); refine blk_far ?_ NB117_116.out _; exact of_lies) Tryd.underlying22 rfl (by kernel_rfl)) rfl ?_
     exact ⟨by first | rfl | (simp [errW_none, errW_some] <;> rfl) | (simp only [← hji25]; first | rfl | (simp [errW_none, errW_some] <;> rfl)) | (simp [*, errW_none, errW_some] <;> rfl), low HB⟩
    ·
     rw [if_neg c23] at H
     exact absurd H (by simp)
  ·
   replace c6 := Bool.eq_false_iff.mpr c6
   subst c6
   have H1 : (some (a0_0, a0_1, t119, 0)) = some (r1, r2, r3, r4) := by rw [if_neg (show ¬ (false = true) by decide)] at H; exact H
   clear H
   have H := H1
   clear H1
   simp only [Option.some.injEq, Prod.mk.injEq] at H
   obtain ⟨rfl, rfl, rfl, rfl⟩ := H
   go_enter Tryd.func23, Tryd.ntmps23
   go_wp2_with (first | ((with_reducible refine gate_dst (N := 2) rfl ?_); refine box_event ?hg (N := 2) ?hd (cs := #[.int .i64 a0_0, .int .i64 a0_1, .int .i64 a0_2, .int .i64 a0_3, .int .u8 a0_4, .bool false, .int .i64 a0_6, .int .u8 a0_7]) (t := 24) ?hr ?_; (case hd => rfl); (case hg => rfl); (case hr => first | (go_simp; done) | (go_simp; rfl)); intro gb116 hg w39 hbox hb; have n0_ := Az (below_step (low HB) hb); have n1_ := Az (hbox); have n2_ := Az ((by rw [hg]; exact (below_size (low HB)) : w.heap.size ≤ gb116)); have n3_ := Az ((by rw [hg]; exact (below_size (low HB)) : w.heap.size ≤ gb116)); clear HB; have HB := n0_; have BK116 := n1_; have GW116 := n2_; have GE116 := n3_; clear n0_ n1_ n2_ n3_; clear hb hbox hg) | ((with_reducible refine gate_dst (N := 4) rfl ?_); refine box_event ?hg (N := 4) ?hd (cs := #[.int .i64 0, .int .i64 0]) (t := 22) ?hr ?_; (case hd => rfl); (case hg => rfl); (case hr => first | (go_simp; done) | (go_simp; rfl)); intro gb117 hg w40 hbox hb; have n0_ := Az (blk_below (g := gb116) (o := .cells #[.int .i64 a0_0, .int .i64 a0_1, .int .i64 a0_2, .int .i64 a0_3, .int .u8 a0_4, .bool false, .int .i64 a0_6, .int .u8 a0_7] 24 (0, 0)) of_lies hb); have n1_ := Az (below_step (low HB) hb); have n2_ := Az (hbox); have n3_ := Az ((by rw [hg]; exact (below_size (low HB)) : w.heap.size ≤ gb117)); have n4_ := Az ((by rw [hg]; exact (below_size (low HB)) : w.heap.size ≤ gb117)); have n5_ := Az ((by rw [hg]; exact Nat.ne_of_lt (blk_lt (g := gb116) (o := .cells #[.int .i64 a0_0, .int .i64 a0_1, .int .i64 a0_2, .int .i64 a0_3, .int .u8 a0_4, .bool false, .int .i64 a0_6, .int .u8 a0_7] 24 (0, 0)) of_lies) : gb116 ≠ gb117)); have n6_ := Az ((by rw [hg]; exact Nat.ne_of_gt (blk_lt (g := gb116) (o := .cells #[.int .i64 a0_0, .int .i64 a0_1, .int .i64 a0_2, .int .i64 a0_3, .int .u8 a0_4, .bool false, .int .i64 a0_6, .int .u8 a0_7] 24 (0, 0)) of_lies) : gb117 ≠ gb116)); clear BK116; clear HB; have BK116 := n0_; have HB := n1_; have BK117 := n2_; have GW117 := n3_; have GE117 := n4_; have NB116_117 := n5_; have NB117_116 := n6_; clear n0_ n1_ n2_ n3_ n4_ n5_ n6_; clear hb hbox hg; have hnb41 := NB116_117.out; have hnc41 := NB117_116.out; obtain ⟨hcz42_0, hcz42_1, hcz42_2, hcz42_3, hcz42_4, hcz42_5, hcz42_6, hcz42_7, hfz42_0, hfz42_1, hfz42_2, hfz42_3, hfz42_4, hfz42_5, hfz42_6, hfz42_7⟩ := cells8 BK116.out) | ((with_reducible refine gate_callee (f := 53) rfl ?_); refine goesL_ (some 10) rfl rfl Tryd.func53 (by kernel_rfl) rfl #[.agg #[.int .i64 a0_0, .int .i64 a0_1, .int .i64 a0_2, .int .i64 a0_3, .int .u8 a0_4, .bool false, .int .i64 a0_6, .int .u8 a0_7], .int .i64 a1] rfl mapx ?_; (with_reducible refine (clock_may.calls k a0_0 a0_1 a0_2 a0_3 a0_4 false a0_6 a0_7 a1 true _ A3.out).mono ?_); rintro e w43 ⟨rfl, hb⟩; refine ⟨_, rfl, ?_⟩; have n0_ := Az (blk_below (g := gb116) (o := .cells #[.int .i64 a0_0, .int .i64 a0_1, .int .i64 a0_2, .int .i64 a0_3, .int .u8 a0_4, .bool false, .int .i64 a0_6, .int .u8 a0_7] 24 (0, 0)) of_lies hb); have n1_ := Az (blk_below (g := gb117) (o := .cells #[.int .i64 0, .int .i64 0] 22 (0, 0)) of_lies hb); have n2_ := Az (below_step (low HB) hb); clear BK116; clear BK117; clear HB; have BK116 := n0_; have BK117 := n1_; have HB := n2_; clear n0_ n1_ n2_; (try clear hb); (try clear hb2); (try clear hk); (try clear hi); obtain ⟨hcz44_0, hcz44_1, hcz44_2, hcz44_3, hcz44_4, hcz44_5, hcz44_6, hcz44_7, hfz44_0, hfz44_1, hfz44_2, hfz44_3, hfz44_4, hfz44_5, hfz44_6, hfz44_7⟩ := cells8 BK116.out) | ((with_reducible refine gate_callee (f := 55) rfl ?_); refine goesL_ (some 15) rfl rfl Tryd.func55 (by kernel_rfl) rfl #[.agg #[.int .i64 a0_0, .int .i64 a0_1, .int .i64 a0_2, .int .i64 a0_3, .int .u8 a0_4, .bool false, .int .i64 a0_6, .int .u8 a0_7], .int .i64 a1] rfl mapx ?_; (with_reducible refine (clock_falls.calls a0_0 a0_1 a0_2 a0_3 a0_4 false a0_6 a0_7 a1 t119 _ A5.out).mono ?_); rintro e w45 ⟨rfl, hb⟩; refine ⟨_, rfl, ?_⟩; have n0_ := Az (blk_below (g := gb116) (o := .cells #[.int .i64 a0_0, .int .i64 a0_1, .int .i64 a0_2, .int .i64 a0_3, .int .u8 a0_4, .bool false, .int .i64 a0_6, .int .u8 a0_7] 24 (0, 0)) of_lies hb); have n1_ := Az (blk_below (g := gb117) (o := .cells #[.int .i64 0, .int .i64 0] 22 (0, 0)) of_lies hb); have n2_ := Az (below_step (low HB) hb); clear BK116; clear BK117; clear HB; have BK116 := n0_; have BK117 := n1_; have HB := n2_; clear n0_ n1_ n2_; (try clear hb); (try clear hb2); (try clear hk); (try clear hi); obtain ⟨hcz46_0, hcz46_1, hcz46_2, hcz46_3, hcz46_4, hcz46_5, hcz46_6, hcz46_7, hfz46_0, hfz46_1, hfz46_2, hfz46_3, hfz46_4, hfz46_5, hfz46_6, hfz46_7⟩ := cells8 BK116.out; obtain ⟨hcz47_0, hcz47_1, hfz47_0, hfz47_1⟩ := cells2 BK117.out))
   refine bodyPost_ret (results_ctt rfl _ _ gb117 22 #[.int .i64 a0_0, .int .i64 a0_1] (0, 0) _ rfl (by (with_reducible repeat (first | refine bN ?_ _ | refine bD ?_ | refine bA ?_ _)); refine blk_put (cs := #[.int .i64 a0_0, .int .i64 0]) ?_ 1 _ rfl; (with_reducible repeat (first | refine bN ?_ _ | refine bD ?_ | refine bA ?_ _)); refine blk_put (cs := #[.int .i64 0, .int .i64 0]) ?_ 0 _ rfl; exact of_lies) Tryd.underlying22 rfl (by kernel_rfl)) rfl ?_
   exact ⟨by first | rfl | (simp [errW_none, errW_some] <;> rfl) | (simp [*, errW_none, errW_some] <;> rfl), low HB⟩
 ·
  replace c4 := Bool.eq_false_iff.mpr c4
  subst c4
  have H1 : (some (0, 0, false, 2)) = some (r1, r2, r3, r4) := by rw [if_neg (show ¬ (false = true) by decide)] at H; exact H
  clear H
  have H := H1
  clear H1
  simp only [Option.some.injEq, Prod.mk.injEq] at H
  obtain ⟨rfl, rfl, rfl, rfl⟩ := H
  go_enter Tryd.func23, Tryd.ntmps23
  go_wp2_with (first | ((with_reducible refine gate_dst (N := 2) rfl ?_); refine box_event ?hg (N := 2) ?hd (cs := #[.int .i64 a0_0, .int .i64 a0_1, .int .i64 a0_2, .int .i64 a0_3, .int .u8 a0_4, .bool a0_5, .int .i64 a0_6, .int .u8 a0_7]) (t := 24) ?hr ?_; (case hd => rfl); (case hg => rfl); (case hr => first | (go_simp; done) | (go_simp; rfl)); intro gb116 hg w48 hbox hb; have n0_ := Az (below_step (low HB) hb); have n1_ := Az (hbox); have n2_ := Az ((by rw [hg]; exact (below_size (low HB)) : w.heap.size ≤ gb116)); have n3_ := Az ((by rw [hg]; exact (below_size (low HB)) : w.heap.size ≤ gb116)); clear HB; have HB := n0_; have BK116 := n1_; have GW116 := n2_; have GE116 := n3_; clear n0_ n1_ n2_ n3_; clear hb hbox hg) | ((with_reducible refine gate_dst (N := 4) rfl ?_); refine box_event ?hg (N := 4) ?hd (cs := #[.int .i64 0, .int .i64 0]) (t := 22) ?hr ?_; (case hd => rfl); (case hg => rfl); (case hr => first | (go_simp; done) | (go_simp; rfl)); intro gb117 hg w49 hbox hb; have n0_ := Az (blk_below (g := gb116) (o := .cells #[.int .i64 a0_0, .int .i64 a0_1, .int .i64 a0_2, .int .i64 a0_3, .int .u8 a0_4, .bool a0_5, .int .i64 a0_6, .int .u8 a0_7] 24 (0, 0)) of_lies hb); have n1_ := Az (below_step (low HB) hb); have n2_ := Az (hbox); have n3_ := Az ((by rw [hg]; exact (below_size (low HB)) : w.heap.size ≤ gb117)); have n4_ := Az ((by rw [hg]; exact (below_size (low HB)) : w.heap.size ≤ gb117)); have n5_ := Az ((by rw [hg]; exact Nat.ne_of_lt (blk_lt (g := gb116) (o := .cells #[.int .i64 a0_0, .int .i64 a0_1, .int .i64 a0_2, .int .i64 a0_3, .int .u8 a0_4, .bool a0_5, .int .i64 a0_6, .int .u8 a0_7] 24 (0, 0)) of_lies) : gb116 ≠ gb117)); have n6_ := Az ((by rw [hg]; exact Nat.ne_of_gt (blk_lt (g := gb116) (o := .cells #[.int .i64 a0_0, .int .i64 a0_1, .int .i64 a0_2, .int .i64 a0_3, .int .u8 a0_4, .bool a0_5, .int .i64 a0_6, .int .u8 a0_7] 24 (0, 0)) of_lies) : gb117 ≠ gb116)); clear BK116; clear HB; have BK116 := n0_; have HB := n1_; have BK117 := n2_; have GW117 := n3_; have GE117 := n4_; have NB116_117 := n5_; have NB117_116 := n6_; clear n0_ n1_ n2_ n3_ n4_ n5_ n6_; clear hb hbox hg; have hnb50 := NB116_117.out; have hnc50 := NB117_116.out; obtain ⟨hcz51_0, hcz51_1, hcz51_2, hcz51_3, hcz51_4, hcz51_5, hcz51_6, hcz51_7, hfz51_0, hfz51_1, hfz51_2, hfz51_3, hfz51_4, hfz51_5, hfz51_6, hfz51_7⟩ := cells8 BK116.out) | ((with_reducible refine gate_callee (f := 53) rfl ?_); refine goesL_ (some 10) rfl rfl Tryd.func53 (by kernel_rfl) rfl #[.agg #[.int .i64 a0_0, .int .i64 a0_1, .int .i64 a0_2, .int .i64 a0_3, .int .u8 a0_4, .bool a0_5, .int .i64 a0_6, .int .u8 a0_7], .int .i64 a1] rfl mapx ?_; (with_reducible refine (clock_may.calls k a0_0 a0_1 a0_2 a0_3 a0_4 a0_5 a0_6 a0_7 a1 false _ A3.out).mono ?_); rintro e w52 ⟨rfl, hb⟩; refine ⟨_, rfl, ?_⟩; have n0_ := Az (blk_below (g := gb116) (o := .cells #[.int .i64 a0_0, .int .i64 a0_1, .int .i64 a0_2, .int .i64 a0_3, .int .u8 a0_4, .bool a0_5, .int .i64 a0_6, .int .u8 a0_7] 24 (0, 0)) of_lies hb); have n1_ := Az (blk_below (g := gb117) (o := .cells #[.int .i64 0, .int .i64 0] 22 (0, 0)) of_lies hb); have n2_ := Az (below_step (low HB) hb); clear BK116; clear BK117; clear HB; have BK116 := n0_; have BK117 := n1_; have HB := n2_; clear n0_ n1_ n2_; (try clear hb); (try clear hb2); (try clear hk); (try clear hi); obtain ⟨hcz53_0, hcz53_1, hfz53_0, hfz53_1⟩ := cells2 BK117.out))
  refine bodyPost_ret (results_ctt rfl _ _ gb117 22 #[.int .i64 0, .int .i64 0] (0, 0) _ rfl (by (with_reducible repeat (first | refine bN ?_ _ | refine bD ?_ | refine bA ?_ _)); refine blk_put (cs := #[.int .i64 0, .int .i64 0]) ?_ 1 _ rfl; (with_reducible repeat (first | refine bN ?_ _ | refine bD ?_ | refine bA ?_ _)); refine blk_put (cs := #[.int .i64 0, .int .i64 0]) ?_ 0 _ rfl; exact of_lies) Tryd.underlying22 rfl (by kernel_rfl)) rfl ?_
  exact ⟨by first | rfl | (simp [errW_none, errW_some] <;> rfl) | (simp [*, errW_none, errW_some] <;> rfl), low HB⟩
def clock_told.f (a0 : Int) : Option (ByteArray) := (strconv_Itoa.f (wrap64 (Int.tdiv a0 60))).bind fun t120 => (if t120.size + 1 ≤ 9223372036854775807 then ((strconv_Itoa.f (wrap64 (100 + (Int.tmod a0 60)))).bind fun t121 => (if 1 ≤ (t121.size : Int) then (if (t120 ++ (⟨#[58]⟩ : ByteArray)).size + (t121.extract 1 t121.size).size ≤ 9223372036854775807 then (some ((t120 ++ (⟨#[58]⟩ : ByteArray)) ++ (t121.extract 1 t121.size))) else (none)) else (none))) else (none))
set_option maxHeartbeats 8000000 in
set_option maxRecDepth 100000 in
theorem clock_told.calls (a0 : Int) (r : ByteArray) (w : World) (hg_ : GoodW w) (h : clock_told.f a0 = some r) :
  Calls Tryd.prog 51 #[.int .i64 a0] w fun e w' => e = .returned (.string r) ∧ Below w.heap.size w w' := by
 have HGW := Az hg_
 clear hg_
 have HB := Az (Below.refl w.heap.size w)
 have H : ((strconv_Itoa.f (wrap64 (Int.tdiv a0 60))).bind fun t120 => (if t120.size + 1 ≤ 9223372036854775807 then ((strconv_Itoa.f (wrap64 (100 + (Int.tmod a0 60)))).bind fun t121 => (if 1 ≤ (t121.size : Int) then (if (t120 ++ (⟨#[58]⟩ : ByteArray)).size + (t121.extract 1 t121.size).size ≤ 9223372036854775807 then (some ((t120 ++ (⟨#[58]⟩ : ByteArray)) ++ (t121.extract 1 t121.size))) else (none)) else (none))) else (none))) = some r := h
 clear h
 replace H := Option.bind_eq_some_iff.mp H
 obtain ⟨t120, A20, H⟩ := H
 replace H : (if t120.size + 1 ≤ 9223372036854775807 then ((strconv_Itoa.f (wrap64 (100 + (Int.tmod a0 60)))).bind fun t121 => (if 1 ≤ (t121.size : Int) then (if (t120 ++ (⟨#[58]⟩ : ByteArray)).size + (t121.extract 1 t121.size).size ≤ 9223372036854775807 then (some ((t120 ++ (⟨#[58]⟩ : ByteArray)) ++ (t121.extract 1 t121.size))) else (none)) else (none))) else (none)) = some r := H
 have A2 := Az A20
 clear A20
 by_cases c3 : t120.size + 1 ≤ 9223372036854775807
 ·
  rw [if_pos c3] at H
  have c3b0 := eq_true c3
  have c3b1 : decide (t120.size + 1 ≤ 9223372036854775807) = true := decide_eq_true c3
  try have c3b2 : (9223372036854775807 < t120.size + 1) = False := eq_false (Nat.not_lt.2 c3)
  replace H := Option.bind_eq_some_iff.mp H
  obtain ⟨t121, A40, H⟩ := H
  replace H : (if 1 ≤ (t121.size : Int) then (if (t120 ++ (⟨#[58]⟩ : ByteArray)).size + (t121.extract 1 t121.size).size ≤ 9223372036854775807 then (some ((t120 ++ (⟨#[58]⟩ : ByteArray)) ++ (t121.extract 1 t121.size))) else (none)) else (none)) = some r := H
  have A4 := Az A40
  clear A40
  by_cases c5 : 1 ≤ (t121.size : Int)
  ·
   rw [if_pos c5] at H
   have c5b0 := eq_true c5
   have c5b1 : decide (1 ≤ (t121.size : Int)) = true := decide_eq_true c5
   clear c5
   by_cases c6 : (t120 ++ (⟨#[58]⟩ : ByteArray)).size + (t121.extract 1 t121.size).size ≤ 9223372036854775807
   ·
    rw [if_pos c6] at H
    have c6b0 := eq_true c6
    have c6b1 : decide ((t120 ++ (⟨#[58]⟩ : ByteArray)).size + (t121.extract 1 t121.size).size ≤ 9223372036854775807) = true := decide_eq_true c6
    (try (have c6z := c6; simp only [ByteArray.size_append] at c6z; have c6b3 := eq_true c6z; have c6b4 := eq_false (Nat.not_lt.2 c6z); clear c6z))
    (try (have c6z := c6; simp only [ByteArray.size_append, ByteArray.size_extract, Nat.min_self, List.size_toArray, List.length_cons, List.length_nil, Nat.reduceAdd] at c6z; have c6b5 := eq_true c6z; have c6b6 := eq_false (Nat.not_lt.2 c6z); clear c6z))
    try have c6b2 : (9223372036854775807 < (t120 ++ (⟨#[58]⟩ : ByteArray)).size + (t121.extract 1 t121.size).size) = False := eq_false (Nat.not_lt.2 c6)
    obtain rfl := Option.some.inj H
    go_enter Tryd.func51, Tryd.ntmps51
    go_wp2_with (first | ((with_reducible refine gate_callee (f := 74) rfl ?_); refine goesL_ (some 5) rfl rfl Tryd.func74 (by kernel_rfl) rfl #[.int .i64 (wrap64 (Int.tdiv a0 60))] rfl mapx ?_; (with_reducible refine (strconv_Itoa.calls (wrap64 (Int.tdiv a0 60)) t120 _ ?side1 A2.out).mono ?_); (case side1 => repeat (first | exact HGW.out | (with_reducible refine GoodW.alloc ?_ _) | (with_reducible refine GoodW.drewN ?_ _) | (with_reducible refine GoodW.drew ?_))); rintro e w7 ⟨rfl, hb⟩; refine ⟨_, rfl, ?_⟩; have n0_ := Az (below_step (low HB) hb); clear HB; have HB := n0_; clear n0_; (try clear hb); (try clear hb2); (try clear hk); (try clear hi)) | ((with_reducible refine gate_callee (f := 74) rfl ?_); refine goesL_ (some 10) rfl rfl Tryd.func74 (by kernel_rfl) rfl #[.int .i64 (wrap64 (100 + (Int.tmod a0 60)))] rfl mapx ?_; (with_reducible refine (strconv_Itoa.calls (wrap64 (100 + (Int.tmod a0 60))) t121 _ ?side1 A4.out).mono ?_); (case side1 => repeat (first | exact (GoodW.below HGW.out HB.out) | (with_reducible refine GoodW.alloc ?_ _) | (with_reducible refine GoodW.drewN ?_ _) | (with_reducible refine GoodW.drew ?_))); rintro e w8 ⟨rfl, hb⟩; refine ⟨_, rfl, ?_⟩; have n0_ := Az (below_step (low HB) hb); clear HB; have HB := n0_; clear n0_; (try clear hb); (try clear hb2); (try clear hk); (try clear hi)))
    go_ret
    exact ⟨by first | rfl | (simp [errW_none, errW_some] <;> rfl) | (simp [*, errW_none, errW_some] <;> rfl), low HB⟩
   ·
    rw [if_neg c6] at H
    exact absurd H (by simp)
  ·
   rw [if_neg c5] at H
   exact absurd H (by simp)
 ·
  rw [if_neg c3] at H
  exact absurd H (by simp)
end Go.Proofs.YtcdcpnhlmgmnkaaDoor.Pclk
end
section
namespace Go.Proofs.YtcdcpnhlmgmnkaaDoor.Pclk
open Go.RowKit Go.Proofs.YtcdcpnhlmgmnkaaDoor.Base Go.Proofs.YtcdcpnhlmgmnkaaDoorW.PrintWords Go.Proofs.YtcdcpnhlmgmnkaaDoorW.PrintLast Go.Proofs.YtcdcpnhlmgmnkaaDoorW.PrintMore
attribute [local go_sem] max2_int min2_int max_two min_two max_three min_three max_four min_four   -- for this text's walks alone
set_option linter.unusedVariables false
set_option linter.unusedSimpArgs false
mutual
def clock_Text.l0 : Nat → ByteArray → Bool → Int → Int → Int → Int → Int → Int → Int → Int → Bool → Int → Int → Option (ByteArray)
 | 0, _, _, _, _, _, _, _, _, _, _, _, _, _ => none
 | k + 1, x4, x6, x21, x618, x619, x123000, x123001, x123002, x123003, x123004, x123005, x123006, x123007 => if x21 < 2 then (if x21 = 0 then (if x21 > 0 then (if x4.size + 1 ≤ 9223372036854775807 then (clock_Text.j1 k (x4 ++ (⟨#[32]⟩ : ByteArray)) x6 x21 x618 x21 x618 x619 x123000 x123001 x123002 x123003 x123004 x123005 x123006 x123007) else (none)) else (clock_Text.j1 k x4 x6 x21 x618 x21 x618 x619 x123000 x123001 x123002 x123003 x123004 x123005 x123006 x123007)) else (if x21 = 1 then (if x21 > 0 then (if x4.size + 1 ≤ 9223372036854775807 then (clock_Text.j4 k (x4 ++ (⟨#[32]⟩ : ByteArray)) x6 x21 x619 x21 x618 x619 x123000 x123001 x123002 x123003 x123004 x123005 x123006 x123007) else (none)) else (clock_Text.j4 k x4 x6 x21 x619 x21 x618 x619 x123000 x123001 x123002 x123003 x123004 x123005 x123006 x123007)) else (none))) else (some x4)
def clock_Text.j1 : Nat → ByteArray → Bool → Int → Int → Int → Int → Int → Int → Int → Int → Int → Int → Bool → Int → Int → Option (ByteArray)
 | 0, _, _, _, _, _, _, _, _, _, _, _, _, _, _, _ => none
 | k + 1, x4, x6, x8, x9, x21, x618, x619, x123000, x123001, x123002, x123003, x123004, x123005, x123006, x123007 => (clock_told.f x9).bind fun t128 => (if x4.size + t128.size ≤ 9223372036854775807 then (if x123005 = true then (clock_Text.j2 k (x4 ++ t128) x6 x8 ((wrap64 (x123004)) == x8) x21 x618 x619 x123000 x123001 x123002 x123003 x123004 x123005 x123006 x123007) else (clock_Text.j2 k (x4 ++ t128) x6 x8 false x21 x618 x619 x123000 x123001 x123002 x123003 x123004 x123005 x123006 x123007)) else (none))
def clock_Text.j2 : Nat → ByteArray → Bool → Int → Bool → Int → Int → Int → Int → Int → Int → Int → Int → Bool → Int → Int → Option (ByteArray)
 | 0, _, _, _, _, _, _, _, _, _, _, _, _, _, _, _ => none
 | k + 1, x4, x6, x8, x10, x21, x618, x619, x123000, x123001, x123002, x123003, x123004, x123005, x123006, x123007 => if (wrap64 (x123007)) = x8 then (clock_Text.j3 k x4 x6 x10 x21 ((wrap64 (x123007)) == x8) x618 x619 x123000 x123001 x123002 x123003 x123004 x123005 x123006 x123007) else (if x10 = true then (clock_Text.j3 k x4 x6 x10 x21 x6 x618 x619 x123000 x123001 x123002 x123003 x123004 x123005 x123006 x123007) else (clock_Text.j3 k x4 x6 x10 x21 false x618 x619 x123000 x123001 x123002 x123003 x123004 x123005 x123006 x123007))
def clock_Text.j3 : Nat → ByteArray → Bool → Bool → Int → Bool → Int → Int → Int → Int → Int → Int → Int → Bool → Int → Int → Option (ByteArray)
 | 0, _, _, _, _, _, _, _, _, _, _, _, _, _, _, _ => none
 | k + 1, x4, x6, x10, x21, x42, x618, x619, x123000, x123001, x123002, x123003, x123004, x123005, x123006, x123007 => if x42 = true then (if x4.size + 5 ≤ 9223372036854775807 then (clock_Text.l0 k (x4 ++ (⟨#[32, 102, 101, 108, 108]⟩ : ByteArray)) x6 (wrap64 (x21 + 1)) x618 x619 x123000 x123001 x123002 x123003 x123004 x123005 x123006 x123007) else (none)) else (if x10 = true then (if x4.size + 1 ≤ 9223372036854775807 then (clock_Text.l0 k (x4 ++ (⟨#[42]⟩ : ByteArray)) x6 (wrap64 (x21 + 1)) x618 x619 x123000 x123001 x123002 x123003 x123004 x123005 x123006 x123007) else (none)) else (clock_Text.l0 k x4 x6 (wrap64 (x21 + 1)) x618 x619 x123000 x123001 x123002 x123003 x123004 x123005 x123006 x123007))
def clock_Text.j4 : Nat → ByteArray → Bool → Int → Int → Int → Int → Int → Int → Int → Int → Int → Int → Bool → Int → Int → Option (ByteArray)
 | 0, _, _, _, _, _, _, _, _, _, _, _, _, _, _, _ => none
 | k + 1, x4, x6, x8, x9, x21, x618, x619, x123000, x123001, x123002, x123003, x123004, x123005, x123006, x123007 => (clock_told.f x9).bind fun t129 => (if x4.size + t129.size ≤ 9223372036854775807 then (if x123005 = true then (clock_Text.j5 k (x4 ++ t129) x6 x8 ((wrap64 (x123004)) == x8) x21 x618 x619 x123000 x123001 x123002 x123003 x123004 x123005 x123006 x123007) else (clock_Text.j5 k (x4 ++ t129) x6 x8 false x21 x618 x619 x123000 x123001 x123002 x123003 x123004 x123005 x123006 x123007)) else (none))
def clock_Text.j5 : Nat → ByteArray → Bool → Int → Bool → Int → Int → Int → Int → Int → Int → Int → Int → Bool → Int → Int → Option (ByteArray)
 | 0, _, _, _, _, _, _, _, _, _, _, _, _, _, _, _ => none
 | k + 1, x4, x6, x8, x10, x21, x618, x619, x123000, x123001, x123002, x123003, x123004, x123005, x123006, x123007 => if (wrap64 (x123007)) = x8 then (clock_Text.j6 k x4 x6 x10 x21 ((wrap64 (x123007)) == x8) x618 x619 x123000 x123001 x123002 x123003 x123004 x123005 x123006 x123007) else (if x10 = true then (clock_Text.j6 k x4 x6 x10 x21 x6 x618 x619 x123000 x123001 x123002 x123003 x123004 x123005 x123006 x123007) else (clock_Text.j6 k x4 x6 x10 x21 false x618 x619 x123000 x123001 x123002 x123003 x123004 x123005 x123006 x123007))
def clock_Text.j6 : Nat → ByteArray → Bool → Bool → Int → Bool → Int → Int → Int → Int → Int → Int → Int → Bool → Int → Int → Option (ByteArray)
 | 0, _, _, _, _, _, _, _, _, _, _, _, _, _, _, _ => none
 | k + 1, x4, x6, x10, x21, x42, x618, x619, x123000, x123001, x123002, x123003, x123004, x123005, x123006, x123007 => if x42 = true then (if x4.size + 5 ≤ 9223372036854775807 then (clock_Text.l0 k (x4 ++ (⟨#[32, 102, 101, 108, 108]⟩ : ByteArray)) x6 (wrap64 (x21 + 1)) x618 x619 x123000 x123001 x123002 x123003 x123004 x123005 x123006 x123007) else (none)) else (if x10 = true then (if x4.size + 1 ≤ 9223372036854775807 then (clock_Text.l0 k (x4 ++ (⟨#[42]⟩ : ByteArray)) x6 (wrap64 (x21 + 1)) x618 x619 x123000 x123001 x123002 x123003 x123004 x123005 x123006 x123007) else (none)) else (clock_Text.l0 k x4 x6 (wrap64 (x21 + 1)) x618 x619 x123000 x123001 x123002 x123003 x123004 x123005 x123006 x123007))
end
def clock_Text.f (k : Nat) (a0_0 : Int) (a0_1 : Int) (a0_2 : Int) (a0_3 : Int) (a0_4 : Int) (a0_5 : Bool) (a0_6 : Int) (a0_7 : Int) (a1 : Int) : Option (ByteArray) := (clock_Look.f k a0_0 a0_1 a0_2 a0_3 a0_4 a0_5 a0_6 a0_7 a1).bind fun bt123 => (if bt123.2.2.2 = 0 then (clock_Text.l0 k (⟨#[]⟩ : ByteArray) bt123.2.2.1 0 bt123.1 bt123.2.1 a0_0 a0_1 a0_2 a0_3 a0_4 a0_5 a0_6 a0_7) else (some (⟨#[]⟩ : ByteArray)))
set_option maxHeartbeats 8000000 in
set_option maxRecDepth 100000 in
theorem clock_Text.calls (k : Nat) (a0_0 : Int) (a0_1 : Int) (a0_2 : Int) (a0_3 : Int) (a0_4 : Int) (a0_5 : Bool) (a0_6 : Int) (a0_7 : Int) (a1 : Int) (r : ByteArray) (w : World) (hg_ : GoodW w) (h : clock_Text.f k a0_0 a0_1 a0_2 a0_3 a0_4 a0_5 a0_6 a0_7 a1 = some r) :
  Calls Tryd.prog 17 #[.agg #[.int .i64 a0_0, .int .i64 a0_1, .int .i64 a0_2, .int .i64 a0_3, .int .u8 a0_4, .bool a0_5, .int .i64 a0_6, .int .u8 a0_7], .int .i64 a1] w fun e w' => e = .returned (.string r) ∧ Below w.heap.size w w' := by
 have hu24 := Tryd.underlying24
 have hu22 := Tryd.underlying22
 have HGW := Az hg_
 clear hg_
 have HB := Az (Below.refl w.heap.size w)
 have H : ((clock_Look.f k a0_0 a0_1 a0_2 a0_3 a0_4 a0_5 a0_6 a0_7 a1).bind fun bt123 => (if bt123.2.2.2 = 0 then (clock_Text.l0 k (⟨#[]⟩ : ByteArray) bt123.2.2.1 0 bt123.1 bt123.2.1 a0_0 a0_1 a0_2 a0_3 a0_4 a0_5 a0_6 a0_7) else (some (⟨#[]⟩ : ByteArray)))) = some r := h
 clear h
 replace H := Option.bind_eq_some_iff.mp H
 obtain ⟨⟨t123, t124, t125, t126⟩, A30, H⟩ := H
 replace H : (if t126 = 0 then (clock_Text.l0 k (⟨#[]⟩ : ByteArray) t125 0 t123 t124 a0_0 a0_1 a0_2 a0_3 a0_4 a0_5 a0_6 a0_7) else (some (⟨#[]⟩ : ByteArray))) = some r := H
 have A3 := Az A30
 clear A30
 by_cases c4 : t126 = 0
 ·
  rw [if_pos c4] at H
  have c4b0 : (t126 == 0) = true := beq_iff_eq.mpr c4
  have c4b1 : (t126 != 0) = false := bne_eq_false_iff_eq.mpr c4
  clear c4
  have H' := Az H
  clear H
  go_enter Tryd.func17, Tryd.ntmps17
  go_wp2_with (first | ((with_reducible refine gate_dst (N := 2) rfl ?_); refine box_event ?hg (N := 2) ?hd (cs := #[.int .i64 a0_0, .int .i64 a0_1, .int .i64 a0_2, .int .i64 a0_3, .int .u8 a0_4, .bool a0_5, .int .i64 a0_6, .int .u8 a0_7]) (t := 24) ?hr ?_; (case hd => rfl); (case hg => rfl); (case hr => first | (go_simp; done) | (go_simp; rfl)); intro gb122 hg w5 hbox hb; have n0_ := Az (below_step (low HB) hb); have n1_ := Az (hbox); have n2_ := Az ((by rw [hg]; exact (below_size (low HB)) : w.heap.size ≤ gb122)); have n3_ := Az ((by rw [hg]; exact (below_size (low HB)) : w.heap.size ≤ gb122)); clear HB; have HB := n0_; have BK122 := n1_; have GW122 := n2_; have GE122 := n3_; clear n0_ n1_ n2_ n3_; clear hb hbox hg; obtain ⟨hcz6_0, hcz6_1, hcz6_2, hcz6_3, hcz6_4, hcz6_5, hcz6_6, hcz6_7, hfz6_0, hfz6_1, hfz6_2, hfz6_3, hfz6_4, hfz6_5, hfz6_6, hfz6_7⟩ := cells8 BK122.out) | ((with_reducible refine gate_callee (f := 23) rfl ?_); refine goesL_ (some 14) rfl rfl Tryd.func23 (by kernel_rfl) rfl #[.agg #[.int .i64 a0_0, .int .i64 a0_1, .int .i64 a0_2, .int .i64 a0_3, .int .u8 a0_4, .bool a0_5, .int .i64 a0_6, .int .u8 a0_7], .int .i64 a1] rfl mapx ?_; (with_reducible refine (clock_Look.calls k a0_0 a0_1 a0_2 a0_3 a0_4 a0_5 a0_6 a0_7 a1 t123 t124 t125 t126 _ A3.out).mono ?_); rintro e w7 ⟨rfl, hb⟩; refine ⟨_, rfl, ?_⟩; have n0_ := Az (blk_below (g := gb122) (o := .cells #[.int .i64 a0_0, .int .i64 a0_1, .int .i64 a0_2, .int .i64 a0_3, .int .u8 a0_4, .bool a0_5, .int .i64 a0_6, .int .u8 a0_7] 24 (0, 0)) of_lies hb); have n1_ := Az (below_step (low HB) hb); clear BK122; clear HB; have BK122 := n0_; have HB := n1_; clear n0_ n1_; (try clear hb); (try clear hb2); (try clear hk); (try clear hi)) | ((with_reducible refine gate_dst (N := 5) rfl ?_); refine box_event ?hg (N := 5) ?hd (cs := #[.int .i64 0, .int .i64 0]) (t := 22) ?hr ?_; (case hd => rfl); (case hg => rfl); (case hr => first | (go_simp; done) | (go_simp; rfl)); intro gb127 hg w8 hbox hb; have n0_ := Az (blk_below (g := gb122) (o := .cells #[.int .i64 a0_0, .int .i64 a0_1, .int .i64 a0_2, .int .i64 a0_3, .int .u8 a0_4, .bool a0_5, .int .i64 a0_6, .int .u8 a0_7] 24 (0, 0)) of_lies hb); have n1_ := Az (below_step (low HB) hb); have n2_ := Az (hbox); have n3_ := Az ((by rw [hg]; exact (below_size (low HB)) : w.heap.size ≤ gb127)); have n4_ := Az ((by rw [hg]; exact (below_size (low HB)) : w.heap.size ≤ gb127)); have n5_ := Az ((by rw [hg]; exact Nat.ne_of_lt (blk_lt (g := gb122) (o := .cells #[.int .i64 a0_0, .int .i64 a0_1, .int .i64 a0_2, .int .i64 a0_3, .int .u8 a0_4, .bool a0_5, .int .i64 a0_6, .int .u8 a0_7] 24 (0, 0)) of_lies) : gb122 ≠ gb127)); have n6_ := Az ((by rw [hg]; exact Nat.ne_of_gt (blk_lt (g := gb122) (o := .cells #[.int .i64 a0_0, .int .i64 a0_1, .int .i64 a0_2, .int .i64 a0_3, .int .u8 a0_4, .bool a0_5, .int .i64 a0_6, .int .u8 a0_7] 24 (0, 0)) of_lies) : gb127 ≠ gb122)); clear BK122; clear HB; have BK122 := n0_; have HB := n1_; have BK127 := n2_; have GW127 := n3_; have GE127 := n4_; have NB122_127 := n5_; have NB127_122 := n6_; clear n0_ n1_ n2_ n3_ n4_ n5_ n6_; clear hb hbox hg; have hnb9 := NB127_122.out; have hnc9 := NB122_127.out; obtain ⟨hcz10_0, hcz10_1, hfz10_0, hfz10_1⟩ := cells2 BK127.out))
  go_loopg [4, 21] k (fun kq v4 v21 w' => ∃ (x4_1 : ByteArray) (x21_1 : Int), v4 = .string x4_1 ∧ v21 = .int .i64 x21_1 ∧ Aside0 (clock_Text.l0 kq x4_1 t125 x21_1 t123 t124 a0_0 a0_1 a0_2 a0_3 a0_4 a0_5 a0_6 a0_7 = some r) ∧ Aside0 (kq ≤ k) ∧ Aside0 (w'.heap[gb122]? = some (.cells #[.int .i64 a0_0, .int .i64 a0_1, .int .i64 a0_2, .int .i64 a0_3, .int .u8 a0_4, .bool a0_5, .int .i64 a0_6, .int .u8 a0_7] 24 (0, 0))) ∧ Aside0 (w'.heap[gb127]? = some (.cells #[.int .i64 t123, .int .i64 t124] 22 (0, 0))) ∧ Aside0 (Below w.heap.size w w'))
  case atStart => exact ⟨((⟨#[]⟩ : ByteArray)), (0), eqx, eqx, H', ⟨Nat.le_refl _⟩, ⟨by (with_reducible repeat (first | refine bN ?_ _ | refine bD ?_ | refine bA ?_ _)); refine blk_far ?_ NB122_127.out _; (with_reducible repeat (first | refine bN ?_ _ | refine bD ?_ | refine bA ?_ _)); refine blk_far ?_ NB122_127.out _; exact of_lies⟩, ⟨by (with_reducible repeat (first | refine bN ?_ _ | refine bD ?_ | refine bA ?_ _)); refine blk_put (cs := #[.int .i64 t123, .int .i64 0]) ?_ 1 _ rfl; (with_reducible repeat (first | refine bN ?_ _ | refine bD ?_ | refine bA ?_ _)); refine blk_put (cs := #[.int .i64 0, .int .i64 0]) ?_ 0 _ rfl; exact of_lies⟩, ⟨low HB⟩⟩
  case round =>
   clear H'
   try clear c1
   try clear c2
   try clear p2
   try clear c4
   try clear c4b0
   try clear c4b1
   try clear c9
   try clear hcz10_0
   try clear hcz10_1
   try clear hcz6_0
   try clear hcz6_1
   try clear hcz6_2
   try clear hcz6_3
   try clear hcz6_4
   try clear hcz6_5
   try clear hcz6_6
   try clear hcz6_7
   try clear hfz10_0
   try clear hfz10_1
   try clear hfz6_0
   try clear hfz6_1
   try clear hfz6_2
   try clear hfz6_3
   try clear hfz6_4
   try clear hfz6_5
   try clear hfz6_6
   try clear hfz6_7
   obtain ⟨x4_1, x21_1, rfl, rfl, HA, HK1, BK122, BK127, HB⟩ := hrel
   cases gk with
   | zero => exact absurd HA.out (by simp [clock_Text.l0])
   | succ k1 =>
    have H := HA.out
    clear HA
    simp only [clock_Text.l0] at H
    by_cases c11 : x21_1 < 2
    ·
     rw [if_pos c11] at H
     have c11b0 : decide (x21_1 < 2) = true := decide_eq_true c11
     clear c11
     by_cases c12 : x21_1 = 0
     ·
      rw [if_pos c12] at H
      have c12b0 : (x21_1 == 0) = true := beq_iff_eq.mpr c12
      have c12b1 : (x21_1 != 0) = false := bne_eq_false_iff_eq.mpr c12
      clear c12
      have hix13 : ∀ (W_ : World), (Instr.index 22 (.agg #[.int .i64 t123, .int .i64 t124]) (.int .i64 x21_1)).run Tryd.prog W_ = .ok (.int .i64 t123) W_ := ix_val (c := 0) (by first | omega | exact beq_iff_eq.mp (by assumption) | exact eq_of_beq (by assumption)) (fun _ => by kernel_rfl)
      have HC14 := Az H
      clear H
      go_upto_if 26 with (fail)
      go_cut [4] (fun v4 wc => ∃ (kq : Nat) (x4_13 : ByteArray), v4 = .string x4_13 ∧ Aside0 (clock_Text.j1 kq x4_13 t125 x21_1 t123 x21_1 t123 t124 a0_0 a0_1 a0_2 a0_3 a0_4 a0_5 a0_6 a0_7 = some r) ∧ Aside0 (kq ≤ k1) ∧ Aside0 (wc.heap[gb122]? = some (.cells #[.int .i64 a0_0, .int .i64 a0_1, .int .i64 a0_2, .int .i64 a0_3, .int .u8 a0_4, .bool a0_5, .int .i64 a0_6, .int .u8 a0_7] 24 (0, 0))) ∧ Aside0 (wc.heap[gb127]? = some (.cells #[.int .i64 t123, .int .i64 t124] 22 (0, 0))) ∧ Aside0 (Below w.heap.size w wc))
      case first =>
       have H := HC14.out
       clear HC14
       by_cases c15 : x21_1 > 0
       ·
        rw [if_pos c15] at H
        have c15b0 : decide (0 < x21_1) = true := decide_eq_true c15
        clear c15
        (first | rw [c15b0] | (simp only [i64_w, i32_w]; rw [c15b0]) | skip)
        by_cases c16 : x4_1.size + 1 ≤ 9223372036854775807
        ·
         rw [if_pos c16] at H
         have c16b0 := eq_true c16
         have c16b1 : decide (x4_1.size + 1 ≤ 9223372036854775807) = true := decide_eq_true c16
         try have c16b2 : (9223372036854775807 < x4_1.size + 1) = False := eq_false (Nat.not_lt.2 c16)
         have H' := Az H
         clear H
         go_wp2
         go_meet
         case rel => exact ⟨_, (x4_1 ++ (⟨#[32]⟩ : ByteArray)), eqx, H', ⟨by have := HK1.out; first | omega | exact Nat.le_refl _⟩, ⟨of_lies⟩, ⟨of_lies⟩, ⟨low HB⟩⟩
        ·
         rw [if_neg c16] at H
         exact absurd H (by simp)
       ·
        rw [if_neg c15] at H
        have c15b0 : decide (0 < x21_1) = false := decide_eq_false c15
        clear c15
        (first | rw [c15b0] | (simp only [i64_w, i32_w]; rw [c15b0]) | skip)
        have H' := Az H
        clear H
        go_wp2
        go_meet
        case rel => exact ⟨_, (x4_1), eqx, H', ⟨by have := HK1.out; first | omega | exact Nat.le_refl _⟩, ⟨of_lies⟩, ⟨of_lies⟩, ⟨low HB⟩⟩
      case rest =>
       clear HC14
       try clear c1
       try clear c2
       try clear p2
       try clear c4
       try clear c4b0
       try clear c4b1
       try clear c9
       try clear c11
       try clear c11b0
       try clear c12
       try clear c12b0
       try clear c12b1
       try clear c15
       try clear c15b0
       try clear c16
       try clear c16b0
       try clear c16b1
       try clear c16b2
       try clear hcz10_0
       try clear hcz10_1
       try clear hcz6_0
       try clear hcz6_1
       try clear hcz6_2
       try clear hcz6_3
       try clear hcz6_4
       try clear hcz6_5
       try clear hcz6_6
       try clear hcz6_7
       try clear hfz10_0
       try clear hfz10_1
       try clear hfz6_0
       try clear hfz6_1
       try clear hfz6_2
       try clear hfz6_3
       try clear hfz6_4
       try clear hfz6_5
       try clear hfz6_6
       try clear hfz6_7
       try clear p2
       obtain ⟨kq, x4_13, rfl, HA, HJ13, BK122, BK127, HB⟩ := hcut
       cases kq with
       | zero => exact absurd HA.out (by simp [clock_Text.j1])
       | succ kj13 =>
        have H := HA.out
        clear HA
        simp only [clock_Text.j1] at H
        replace H := Option.bind_eq_some_iff.mp H
        obtain ⟨t128, A170, H⟩ := H
        replace H : (if x4_13.size + t128.size ≤ 9223372036854775807 then (if a0_5 = true then (clock_Text.j2 kj13 (x4_13 ++ t128) t125 x21_1 ((wrap64 (a0_4)) == x21_1) x21_1 t123 t124 a0_0 a0_1 a0_2 a0_3 a0_4 a0_5 a0_6 a0_7) else (clock_Text.j2 kj13 (x4_13 ++ t128) t125 x21_1 false x21_1 t123 t124 a0_0 a0_1 a0_2 a0_3 a0_4 a0_5 a0_6 a0_7)) else (none)) = some r := H
        have A17 := Az A170
        clear A170
        by_cases c18 : x4_13.size + t128.size ≤ 9223372036854775807
        ·
         rw [if_pos c18] at H
         have c18b0 := eq_true c18
         have c18b1 : decide (x4_13.size + t128.size ≤ 9223372036854775807) = true := decide_eq_true c18
         try have c18b2 : (9223372036854775807 < x4_13.size + t128.size) = False := eq_false (Nat.not_lt.2 c18)
         have HC19 := Az H
         clear H
         go_upto_region 10 with (first | ((with_reducible refine gate_callee (f := 51) rfl ?_); refine goesL_ (some 31) rfl rfl Tryd.func51 (by kernel_rfl) rfl #[.int .i64 t123] rfl mapx ?_; (with_reducible refine (clock_told.calls t123 t128 _ ?side1 A17.out).mono ?_); (case side1 => repeat (first | exact (GoodW.below HGW.out HB.out) | (with_reducible refine GoodW.alloc ?_ _) | (with_reducible refine GoodW.drewN ?_ _) | (with_reducible refine GoodW.drew ?_))); rintro e w20 ⟨rfl, hb⟩; refine ⟨_, rfl, ?_⟩; have n0_ := Az (blk_below (g := gb122) (o := .cells #[.int .i64 a0_0, .int .i64 a0_1, .int .i64 a0_2, .int .i64 a0_3, .int .u8 a0_4, .bool a0_5, .int .i64 a0_6, .int .u8 a0_7] 24 (0, 0)) of_lies hb); have n1_ := Az (blk_below (g := gb127) (o := .cells #[.int .i64 t123, .int .i64 t124] 22 (0, 0)) of_lies hb); have n2_ := Az (below_step (low HB) hb); clear BK122; clear BK127; clear HB; have BK122 := n0_; have BK127 := n1_; have HB := n2_; clear n0_ n1_ n2_; (try clear hb); (try clear hb2); (try clear hk); (try clear hi)))
         (try simp only [Act.put, List.setIfInBounds_toArray, List.set_cons_zero, List.set_cons_succ])
         go_cut [10] (fun v10 wc => ∃ (kq : Nat) (x10_18 : Bool), v10 = .bool x10_18 ∧ Aside0 (clock_Text.j2 kq (x4_13 ++ t128) t125 x21_1 x10_18 x21_1 t123 t124 a0_0 a0_1 a0_2 a0_3 a0_4 a0_5 a0_6 a0_7 = some r) ∧ Aside0 (kq ≤ kj13) ∧ Aside0 (wc.heap[gb122]? = some (.cells #[.int .i64 a0_0, .int .i64 a0_1, .int .i64 a0_2, .int .i64 a0_3, .int .u8 a0_4, .bool a0_5, .int .i64 a0_6, .int .u8 a0_7] 24 (0, 0))) ∧ Aside0 (wc.heap[gb127]? = some (.cells #[.int .i64 t123, .int .i64 t124] 22 (0, 0))) ∧ Aside0 (Below w.heap.size w wc))
         case first =>
          have H := HC19.out
          clear HC19
          by_cases c21 : a0_5 = true
          ·
           subst c21
           have H1 : (clock_Text.j2 kj13 (x4_13 ++ t128) t125 x21_1 ((wrap64 (a0_4)) == x21_1) x21_1 t123 t124 a0_0 a0_1 a0_2 a0_3 a0_4 true a0_6 a0_7) = some r := by rw [if_pos rfl] at H; exact H
           clear H
           have H := H1
           clear H1
           have H' := Az H
           clear H
           have hnb22 := NB122_127.out
           have hnc22 := NB127_122.out
           have hcz23_0 : w20.cell? ⟨gb122, 0, none⟩ = some (.int .i64 a0_0) := (blk_cell BK122.out 0).trans rfl
           have hcz23_1 : w20.cell? ⟨gb122, 1, none⟩ = some (.int .i64 a0_1) := (blk_cell BK122.out 1).trans rfl
           have hcz23_2 : w20.cell? ⟨gb122, 2, none⟩ = some (.int .i64 a0_2) := (blk_cell BK122.out 2).trans rfl
           have hcz23_3 : w20.cell? ⟨gb122, 3, none⟩ = some (.int .i64 a0_3) := (blk_cell BK122.out 3).trans rfl
           have hcz23_4 : w20.cell? ⟨gb122, 4, none⟩ = some (.int .u8 a0_4) := (blk_cell BK122.out 4).trans rfl
           have hcz23_5 : w20.cell? ⟨gb122, 5, none⟩ = some (.bool true) := (blk_cell BK122.out 5).trans rfl
           have hcz23_6 : w20.cell? ⟨gb122, 6, none⟩ = some (.int .i64 a0_6) := (blk_cell BK122.out 6).trans rfl
           have hcz23_7 : w20.cell? ⟨gb122, 7, none⟩ = some (.int .u8 a0_7) := (blk_cell BK122.out 7).trans rfl
           have hfz23_0 := blk_frozen BK122.out 0
           have hfz23_1 := blk_frozen BK122.out 1
           have hfz23_2 := blk_frozen BK122.out 2
           have hfz23_3 := blk_frozen BK122.out 3
           have hfz23_4 := blk_frozen BK122.out 4
           have hfz23_5 := blk_frozen BK122.out 5
           have hfz23_6 := blk_frozen BK122.out 6
           have hfz23_7 := blk_frozen BK122.out 7
           go_wp2
           go_meet
           case rel => exact ⟨_, (((wrap64 (a0_4)) == x21_1)), eqx, H', ⟨by have := HK1.out; have := HJ13.out; first | omega | exact Nat.le_refl _⟩, ⟨of_lies⟩, ⟨of_lies⟩, ⟨low HB⟩⟩
          ·
           replace c21 := Bool.eq_false_iff.mpr c21
           subst c21
           have H1 : (clock_Text.j2 kj13 (x4_13 ++ t128) t125 x21_1 false x21_1 t123 t124 a0_0 a0_1 a0_2 a0_3 a0_4 false a0_6 a0_7) = some r := by rw [if_neg (show ¬ (false = true) by decide)] at H; exact H
           clear H
           have H := H1
           clear H1
           have H' := Az H
           clear H
           have hnb24 := NB122_127.out
           have hnc24 := NB127_122.out
           have hcz25_0 : w20.cell? ⟨gb122, 0, none⟩ = some (.int .i64 a0_0) := (blk_cell BK122.out 0).trans rfl
           have hcz25_1 : w20.cell? ⟨gb122, 1, none⟩ = some (.int .i64 a0_1) := (blk_cell BK122.out 1).trans rfl
           have hcz25_2 : w20.cell? ⟨gb122, 2, none⟩ = some (.int .i64 a0_2) := (blk_cell BK122.out 2).trans rfl
           have hcz25_3 : w20.cell? ⟨gb122, 3, none⟩ = some (.int .i64 a0_3) := (blk_cell BK122.out 3).trans rfl
           have hcz25_4 : w20.cell? ⟨gb122, 4, none⟩ = some (.int .u8 a0_4) := (blk_cell BK122.out 4).trans rfl
           have hcz25_5 : w20.cell? ⟨gb122, 5, none⟩ = some (.bool false) := (blk_cell BK122.out 5).trans rfl
           have hcz25_6 : w20.cell? ⟨gb122, 6, none⟩ = some (.int .i64 a0_6) := (blk_cell BK122.out 6).trans rfl
           have hcz25_7 : w20.cell? ⟨gb122, 7, none⟩ = some (.int .u8 a0_7) := (blk_cell BK122.out 7).trans rfl
           have hfz25_0 := blk_frozen BK122.out 0
           have hfz25_1 := blk_frozen BK122.out 1
           have hfz25_2 := blk_frozen BK122.out 2
           have hfz25_3 := blk_frozen BK122.out 3
           have hfz25_4 := blk_frozen BK122.out 4
           have hfz25_5 := blk_frozen BK122.out 5
           have hfz25_6 := blk_frozen BK122.out 6
           have hfz25_7 := blk_frozen BK122.out 7
           go_wp2
           go_meet
           case rel => exact ⟨_, (false), eqx, H', ⟨by have := HK1.out; have := HJ13.out; first | omega | exact Nat.le_refl _⟩, ⟨of_lies⟩, ⟨of_lies⟩, ⟨low HB⟩⟩
         case rest =>
          clear HC19
          try clear c1
          try clear c2
          try clear p2
          try clear c4
          try clear c4b0
          try clear c4b1
          try clear c5
          try clear p6
          try clear c9
          try clear c11
          try clear c11b0
          try clear c12
          try clear c12b0
          try clear c12b1
          try clear c15
          try clear c15b0
          try clear c16
          try clear c16b0
          try clear c16b1
          try clear c16b2
          try clear c17
          try clear c18
          try clear c18b0
          try clear c18b1
          try clear c18b2
          try clear c21
          try clear c22
          try clear c23
          try clear c24
          try clear hcz10_0
          try clear hcz10_1
          try clear hcz23_0
          try clear hcz23_1
          try clear hcz23_2
          try clear hcz23_3
          try clear hcz23_4
          try clear hcz23_5
          try clear hcz23_6
          try clear hcz23_7
          try clear hcz25_0
          try clear hcz25_1
          try clear hcz25_2
          try clear hcz25_3
          try clear hcz25_4
          try clear hcz25_5
          try clear hcz25_6
          try clear hcz25_7
          try clear hcz6_0
          try clear hcz6_1
          try clear hcz6_2
          try clear hcz6_3
          try clear hcz6_4
          try clear hcz6_5
          try clear hcz6_6
          try clear hcz6_7
          try clear hfz10_0
          try clear hfz10_1
          try clear hfz23_0
          try clear hfz23_1
          try clear hfz23_2
          try clear hfz23_3
          try clear hfz23_4
          try clear hfz23_5
          try clear hfz23_6
          try clear hfz23_7
          try clear hfz25_0
          try clear hfz25_1
          try clear hfz25_2
          try clear hfz25_3
          try clear hfz25_4
          try clear hfz25_5
          try clear hfz25_6
          try clear hfz25_7
          try clear hfz6_0
          try clear hfz6_1
          try clear hfz6_2
          try clear hfz6_3
          try clear hfz6_4
          try clear hfz6_5
          try clear hfz6_6
          try clear hfz6_7
          try clear p2
          obtain ⟨kq, x10_18, rfl, HA, HJ18, BK122, BK127, HB⟩ := hcut
          cases kq with
          | zero => exact absurd HA.out (by simp [clock_Text.j2])
          | succ kj18 =>
           have H := HA.out
           clear HA
           simp only [clock_Text.j2] at H
           have HC26 := Az H
           clear H
           have hnb27 := NB122_127.out
           have hnc27 := NB127_122.out
           have hcz28_0 : wc.cell? ⟨gb122, 0, none⟩ = some (.int .i64 a0_0) := (blk_cell BK122.out 0).trans rfl
           have hcz28_1 : wc.cell? ⟨gb122, 1, none⟩ = some (.int .i64 a0_1) := (blk_cell BK122.out 1).trans rfl
           have hcz28_2 : wc.cell? ⟨gb122, 2, none⟩ = some (.int .i64 a0_2) := (blk_cell BK122.out 2).trans rfl
           have hcz28_3 : wc.cell? ⟨gb122, 3, none⟩ = some (.int .i64 a0_3) := (blk_cell BK122.out 3).trans rfl
           have hcz28_4 : wc.cell? ⟨gb122, 4, none⟩ = some (.int .u8 a0_4) := (blk_cell BK122.out 4).trans rfl
           have hcz28_5 : wc.cell? ⟨gb122, 5, none⟩ = some (.bool a0_5) := (blk_cell BK122.out 5).trans rfl
           have hcz28_6 : wc.cell? ⟨gb122, 6, none⟩ = some (.int .i64 a0_6) := (blk_cell BK122.out 6).trans rfl
           have hcz28_7 : wc.cell? ⟨gb122, 7, none⟩ = some (.int .u8 a0_7) := (blk_cell BK122.out 7).trans rfl
           have hfz28_0 := blk_frozen BK122.out 0
           have hfz28_1 := blk_frozen BK122.out 1
           have hfz28_2 := blk_frozen BK122.out 2
           have hfz28_3 := blk_frozen BK122.out 3
           have hfz28_4 := blk_frozen BK122.out 4
           have hfz28_5 := blk_frozen BK122.out 5
           have hfz28_6 := blk_frozen BK122.out 6
           have hfz28_7 := blk_frozen BK122.out 7
           go_upto_if 42 with (fail)
           go_cut [42] (fun v42 wc => ∃ (kq : Nat) (x42_25 : Bool), v42 = .bool x42_25 ∧ Aside0 (clock_Text.j3 kq (x4_13 ++ t128) t125 x10_18 x21_1 x42_25 t123 t124 a0_0 a0_1 a0_2 a0_3 a0_4 a0_5 a0_6 a0_7 = some r) ∧ Aside0 (kq ≤ kj18) ∧ Aside0 (wc.heap[gb122]? = some (.cells #[.int .i64 a0_0, .int .i64 a0_1, .int .i64 a0_2, .int .i64 a0_3, .int .u8 a0_4, .bool a0_5, .int .i64 a0_6, .int .u8 a0_7] 24 (0, 0))) ∧ Aside0 (wc.heap[gb127]? = some (.cells #[.int .i64 t123, .int .i64 t124] 22 (0, 0))) ∧ Aside0 (Below w.heap.size w wc))
           case first =>
            have H := HC26.out
            clear HC26
            by_cases c29 : (wrap64 (a0_7)) = x21_1
            ·
             rw [if_pos c29] at H
             have c29b0 : ((wrap64 (a0_7)) == x21_1) = true := beq_iff_eq.mpr c29
             have c29b1 : ((wrap64 (a0_7)) != x21_1) = false := bne_eq_false_iff_eq.mpr c29
             clear c29
             (first | rw [c29b0] | (simp only [i64_w, i32_w]; rw [c29b0]) | skip)
             have H' := Az H
             clear H
             go_wp2
             go_meet
             case rel => exact ⟨_, (((wrap64 (a0_7)) == x21_1)), eqx, H', ⟨by have := HK1.out; have := HJ13.out; have := HJ18.out; first | omega | exact Nat.le_refl _⟩, ⟨of_lies⟩, ⟨of_lies⟩, ⟨low HB⟩⟩
            ·
             rw [if_neg c29] at H
             have c29b0 : ((wrap64 (a0_7)) == x21_1) = false := beq_eq_false_iff_ne.mpr c29
             have c29b1 : ((wrap64 (a0_7)) != x21_1) = true := bne_iff_ne.mpr c29
             (first | rw [c29b0] | (simp only [i64_w, i32_w]; rw [c29b0]) | skip)
             by_cases c30 : x10_18 = true
             ·
              subst c30
              have H1 : (clock_Text.j3 kj18 (x4_13 ++ t128) t125 true x21_1 t125 t123 t124 a0_0 a0_1 a0_2 a0_3 a0_4 a0_5 a0_6 a0_7) = some r := by rw [if_pos rfl] at H; exact H
              clear H
              have H := H1
              clear H1
              have H' := Az H
              clear H
              go_wp2
              go_meet
              case rel => exact ⟨_, (t125), eqx, H', ⟨by have := HK1.out; have := HJ13.out; have := HJ18.out; first | omega | exact Nat.le_refl _⟩, ⟨of_lies⟩, ⟨of_lies⟩, ⟨low HB⟩⟩
             ·
              replace c30 := Bool.eq_false_iff.mpr c30
              subst c30
              have H1 : (clock_Text.j3 kj18 (x4_13 ++ t128) t125 false x21_1 false t123 t124 a0_0 a0_1 a0_2 a0_3 a0_4 a0_5 a0_6 a0_7) = some r := by rw [if_neg (show ¬ (false = true) by decide)] at H; exact H
              clear H
              have H := H1
              clear H1
              have H' := Az H
              clear H
              go_wp2
              go_meet
              case rel => exact ⟨_, (false), eqx, H', ⟨by have := HK1.out; have := HJ13.out; have := HJ18.out; first | omega | exact Nat.le_refl _⟩, ⟨of_lies⟩, ⟨of_lies⟩, ⟨low HB⟩⟩
           case rest =>
            clear HC26
            try clear c1
            try clear c2
            try clear p2
            try clear c3
            try clear c4
            try clear c4b0
            try clear c4b1
            try clear c5
            try clear p6
            try clear c9
            try clear c11
            try clear c11b0
            try clear c12
            try clear c12b0
            try clear c12b1
            try clear c15
            try clear c15b0
            try clear c16
            try clear c16b0
            try clear c16b1
            try clear c16b2
            try clear c17
            try clear c18
            try clear c18b0
            try clear c18b1
            try clear c18b2
            try clear c21
            try clear c22
            try clear c23
            try clear c24
            try clear c27
            try clear c29
            try clear c29b0
            try clear c29b1
            try clear c30
            try clear hcz10_0
            try clear hcz10_1
            try clear hcz23_0
            try clear hcz23_1
            try clear hcz23_2
            try clear hcz23_3
            try clear hcz23_4
            try clear hcz23_5
            try clear hcz23_6
            try clear hcz23_7
            try clear hcz25_0
            try clear hcz25_1
            try clear hcz25_2
            try clear hcz25_3
            try clear hcz25_4
            try clear hcz25_5
            try clear hcz25_6
            try clear hcz25_7
            try clear hcz28_0
            try clear hcz28_1
            try clear hcz28_2
            try clear hcz28_3
            try clear hcz28_4
            try clear hcz28_5
            try clear hcz28_6
            try clear hcz28_7
            try clear hcz6_0
            try clear hcz6_1
            try clear hcz6_2
            try clear hcz6_3
            try clear hcz6_4
            try clear hcz6_5
            try clear hcz6_6
            try clear hcz6_7
            try clear hfz10_0
            try clear hfz10_1
            try clear hfz23_0
            try clear hfz23_1
            try clear hfz23_2
            try clear hfz23_3
            try clear hfz23_4
            try clear hfz23_5
            try clear hfz23_6
            try clear hfz23_7
            try clear hfz25_0
            try clear hfz25_1
            try clear hfz25_2
            try clear hfz25_3
            try clear hfz25_4
            try clear hfz25_5
            try clear hfz25_6
            try clear hfz25_7
            try clear hfz28_0
            try clear hfz28_1
            try clear hfz28_2
            try clear hfz28_3
            try clear hfz28_4
            try clear hfz28_5
            try clear hfz28_6
            try clear hfz28_7
            try clear hfz6_0
            try clear hfz6_1
            try clear hfz6_2
            try clear hfz6_3
            try clear hfz6_4
            try clear hfz6_5
            try clear hfz6_6
            try clear hfz6_7
            try clear p2
            try clear p6
            obtain ⟨kq, x42_25, rfl, HA, HJ25, BK122, BK127, HB⟩ := hcut
            cases kq with
            | zero => exact absurd HA.out (by simp [clock_Text.j3])
            | succ kj25 =>
             have H := HA.out
             clear HA
             simp only [clock_Text.j3] at H
             by_cases c31 : x42_25 = true
             ·
              subst c31
              have H1 : (if (x4_13 ++ t128).size + 5 ≤ 9223372036854775807 then (clock_Text.l0 kj25 ((x4_13 ++ t128) ++ (⟨#[32, 102, 101, 108, 108]⟩ : ByteArray)) t125 (wrap64 (x21_1 + 1)) t123 t124 a0_0 a0_1 a0_2 a0_3 a0_4 a0_5 a0_6 a0_7) else (none)) = some r := by rw [if_pos rfl] at H; exact H
              clear H
              have H := H1
              clear H1
              by_cases c32 : (x4_13 ++ t128).size + 5 ≤ 9223372036854775807
              ·
               rw [if_pos c32] at H
               have c32b0 := eq_true c32
               have c32b1 : decide ((x4_13 ++ t128).size + 5 ≤ 9223372036854775807) = true := decide_eq_true c32
               (try (have c32z := c32; simp only [ByteArray.size_append] at c32z; have c32b3 := eq_true c32z; have c32b4 := eq_false (Nat.not_lt.2 c32z); clear c32z))
               (try (have c32z := c32; simp only [ByteArray.size_append, ByteArray.size_extract, Nat.min_self, List.size_toArray, List.length_cons, List.length_nil, Nat.reduceAdd] at c32z; have c32b5 := eq_true c32z; have c32b6 := eq_false (Nat.not_lt.2 c32z); clear c32z))
               try have c32b2 : (9223372036854775807 < (x4_13 ++ t128).size + 5) = False := eq_false (Nat.not_lt.2 c32)
               have H' := Az H
               clear H
               go_wp2
               go_roundg kj25
               case measure => have := HK1.out; have := HJ13.out; have := HJ18.out; have := HJ25.out; omega
               case rel => exact ⟨((x4_13 ++ t128) ++ (⟨#[32, 102, 101, 108, 108]⟩ : ByteArray)), (wrap64 (x21_1 + 1)), eqx, eqx, H', ⟨by have := HK1.out; have := HJ13.out; have := HJ18.out; have := HJ25.out; omega⟩, ⟨of_lies⟩, ⟨of_lies⟩, ⟨low HB⟩⟩
              ·
               rw [if_neg c32] at H
               exact absurd H (by simp)
             ·
              replace c31 := Bool.eq_false_iff.mpr c31
              subst c31
              have H1 : (if x10_18 = true then (if (x4_13 ++ t128).size + 1 ≤ 9223372036854775807 then (clock_Text.l0 kj25 ((x4_13 ++ t128) ++ (⟨#[42]⟩ : ByteArray)) t125 (wrap64 (x21_1 + 1)) t123 t124 a0_0 a0_1 a0_2 a0_3 a0_4 a0_5 a0_6 a0_7) else (none)) else (clock_Text.l0 kj25 (x4_13 ++ t128) t125 (wrap64 (x21_1 + 1)) t123 t124 a0_0 a0_1 a0_2 a0_3 a0_4 a0_5 a0_6 a0_7)) = some r := by rw [if_neg (show ¬ (false = true) by decide)] at H; exact H
              clear H
              have H := H1
              clear H1
              by_cases c33 : x10_18 = true
              ·
               subst c33
               have H1 : (if (x4_13 ++ t128).size + 1 ≤ 9223372036854775807 then (clock_Text.l0 kj25 ((x4_13 ++ t128) ++ (⟨#[42]⟩ : ByteArray)) t125 (wrap64 (x21_1 + 1)) t123 t124 a0_0 a0_1 a0_2 a0_3 a0_4 a0_5 a0_6 a0_7) else (none)) = some r := by rw [if_pos rfl] at H; exact H
               clear H
               have H := H1
               clear H1
               by_cases c34 : (x4_13 ++ t128).size + 1 ≤ 9223372036854775807
               ·
                rw [if_pos c34] at H
                have c34b0 := eq_true c34
                have c34b1 : decide ((x4_13 ++ t128).size + 1 ≤ 9223372036854775807) = true := decide_eq_true c34
                (try (have c34z := c34; simp only [ByteArray.size_append] at c34z; have c34b3 := eq_true c34z; have c34b4 := eq_false (Nat.not_lt.2 c34z); clear c34z))
                (try (have c34z := c34; simp only [ByteArray.size_append, ByteArray.size_extract, Nat.min_self, List.size_toArray, List.length_cons, List.length_nil, Nat.reduceAdd] at c34z; have c34b5 := eq_true c34z; have c34b6 := eq_false (Nat.not_lt.2 c34z); clear c34z))
                try have c34b2 : (9223372036854775807 < (x4_13 ++ t128).size + 1) = False := eq_false (Nat.not_lt.2 c34)
                have H' := Az H
                clear H
                go_wp2
                go_roundg kj25
                case measure => have := HK1.out; have := HJ13.out; have := HJ18.out; have := HJ25.out; omega
                case rel => exact ⟨((x4_13 ++ t128) ++ (⟨#[42]⟩ : ByteArray)), (wrap64 (x21_1 + 1)), eqx, eqx, H', ⟨by have := HK1.out; have := HJ13.out; have := HJ18.out; have := HJ25.out; omega⟩, ⟨of_lies⟩, ⟨of_lies⟩, ⟨low HB⟩⟩
               ·
                rw [if_neg c34] at H
                exact absurd H (by simp)
              ·
               replace c33 := Bool.eq_false_iff.mpr c33
               subst c33
               have H1 : (clock_Text.l0 kj25 (x4_13 ++ t128) t125 (wrap64 (x21_1 + 1)) t123 t124 a0_0 a0_1 a0_2 a0_3 a0_4 a0_5 a0_6 a0_7) = some r := by rw [if_neg (show ¬ (false = true) by decide)] at H; exact H
               clear H
               have H := H1
               clear H1
               have H' := Az H
               clear H
               go_wp2
               go_roundg kj25
               case measure => have := HK1.out; have := HJ13.out; have := HJ18.out; have := HJ25.out; omega
               case rel => exact ⟨((x4_13 ++ t128)), (wrap64 (x21_1 + 1)), eqx, eqx, H', ⟨by have := HK1.out; have := HJ13.out; have := HJ18.out; have := HJ25.out; omega⟩, ⟨of_lies⟩, ⟨of_lies⟩, ⟨low HB⟩⟩
        ·
         rw [if_neg c18] at H
         exact absurd H (by simp)
     ·
      rw [if_neg c12] at H
      have c12b0 : (x21_1 == 0) = false := beq_eq_false_iff_ne.mpr c12
      have c12b1 : (x21_1 != 0) = true := bne_iff_ne.mpr c12
      by_cases c35 : x21_1 = 1
      ·
       rw [if_pos c35] at H
       have c35b0 : (x21_1 == 1) = true := beq_iff_eq.mpr c35
       have c35b1 : (x21_1 != 1) = false := bne_eq_false_iff_eq.mpr c35
       clear c35
       have hix36 : ∀ (W_ : World), (Instr.index 22 (.agg #[.int .i64 t123, .int .i64 t124]) (.int .i64 x21_1)).run Tryd.prog W_ = .ok (.int .i64 t124) W_ := ix_val (c := 1) (by first | omega | exact beq_iff_eq.mp (by assumption) | exact eq_of_beq (by assumption)) (fun _ => by kernel_rfl)
       have HC37 := Az H
       clear H
       go_upto_if 26 with (fail)
       go_cut [4] (fun v4 wc => ∃ (kq : Nat) (x4_36 : ByteArray), v4 = .string x4_36 ∧ Aside0 (clock_Text.j4 kq x4_36 t125 x21_1 t124 x21_1 t123 t124 a0_0 a0_1 a0_2 a0_3 a0_4 a0_5 a0_6 a0_7 = some r) ∧ Aside0 (kq ≤ k1) ∧ Aside0 (wc.heap[gb122]? = some (.cells #[.int .i64 a0_0, .int .i64 a0_1, .int .i64 a0_2, .int .i64 a0_3, .int .u8 a0_4, .bool a0_5, .int .i64 a0_6, .int .u8 a0_7] 24 (0, 0))) ∧ Aside0 (wc.heap[gb127]? = some (.cells #[.int .i64 t123, .int .i64 t124] 22 (0, 0))) ∧ Aside0 (Below w.heap.size w wc))
       case first =>
        have H := HC37.out
        clear HC37
        by_cases c38 : x21_1 > 0
        ·
         rw [if_pos c38] at H
         have c38b0 : decide (0 < x21_1) = true := decide_eq_true c38
         clear c38
         (first | rw [c38b0] | (simp only [i64_w, i32_w]; rw [c38b0]) | skip)
         by_cases c39 : x4_1.size + 1 ≤ 9223372036854775807
         ·
          rw [if_pos c39] at H
          have c39b0 := eq_true c39
          have c39b1 : decide (x4_1.size + 1 ≤ 9223372036854775807) = true := decide_eq_true c39
          try have c39b2 : (9223372036854775807 < x4_1.size + 1) = False := eq_false (Nat.not_lt.2 c39)
          have H' := Az H
          clear H
          go_wp2
          go_meet
          case rel => exact ⟨_, (x4_1 ++ (⟨#[32]⟩ : ByteArray)), eqx, H', ⟨by have := HK1.out; first | omega | exact Nat.le_refl _⟩, ⟨of_lies⟩, ⟨of_lies⟩, ⟨low HB⟩⟩
         ·
          rw [if_neg c39] at H
          exact absurd H (by simp)
        ·
         rw [if_neg c38] at H
         have c38b0 : decide (0 < x21_1) = false := decide_eq_false c38
         clear c38
         (first | rw [c38b0] | (simp only [i64_w, i32_w]; rw [c38b0]) | skip)
         have H' := Az H
         clear H
         go_wp2
         go_meet
         case rel => exact ⟨_, (x4_1), eqx, H', ⟨by have := HK1.out; first | omega | exact Nat.le_refl _⟩, ⟨of_lies⟩, ⟨of_lies⟩, ⟨low HB⟩⟩
       case rest =>
        clear HC37
        try clear c1
        try clear c2
        try clear p2
        try clear c3
        try clear c4
        try clear c4b0
        try clear c4b1
        try clear c5
        try clear p6
        try clear c9
        try clear c11
        try clear c11b0
        try clear c12
        try clear c12b0
        try clear c12b1
        try clear c15
        try clear c15b0
        try clear c16
        try clear c16b0
        try clear c16b1
        try clear c16b2
        try clear c17
        try clear c18
        try clear c18b0
        try clear c18b1
        try clear c18b2
        try clear c21
        try clear c22
        try clear c23
        try clear c24
        try clear c27
        try clear c29
        try clear c29b0
        try clear c29b1
        try clear c30
        try clear c31
        try clear c32
        try clear c32b0
        try clear c32b1
        try clear c32b2
        try clear c33
        try clear c34
        try clear c34b0
        try clear c34b1
        try clear c34b2
        try clear c35
        try clear c35b0
        try clear c35b1
        try clear c38
        try clear c38b0
        try clear c39
        try clear c39b0
        try clear c39b1
        try clear c39b2
        try clear hcz10_0
        try clear hcz10_1
        try clear hcz23_0
        try clear hcz23_1
        try clear hcz23_2
        try clear hcz23_3
        try clear hcz23_4
        try clear hcz23_5
        try clear hcz23_6
        try clear hcz23_7
        try clear hcz25_0
        try clear hcz25_1
        try clear hcz25_2
        try clear hcz25_3
        try clear hcz25_4
        try clear hcz25_5
        try clear hcz25_6
        try clear hcz25_7
        try clear hcz28_0
        try clear hcz28_1
        try clear hcz28_2
        try clear hcz28_3
        try clear hcz28_4
        try clear hcz28_5
        try clear hcz28_6
        try clear hcz28_7
        try clear hcz6_0
        try clear hcz6_1
        try clear hcz6_2
        try clear hcz6_3
        try clear hcz6_4
        try clear hcz6_5
        try clear hcz6_6
        try clear hcz6_7
        try clear hfz10_0
        try clear hfz10_1
        try clear hfz23_0
        try clear hfz23_1
        try clear hfz23_2
        try clear hfz23_3
        try clear hfz23_4
        try clear hfz23_5
        try clear hfz23_6
        try clear hfz23_7
        try clear hfz25_0
        try clear hfz25_1
        try clear hfz25_2
        try clear hfz25_3
        try clear hfz25_4
        try clear hfz25_5
        try clear hfz25_6
        try clear hfz25_7
        try clear hfz28_0
        try clear hfz28_1
        try clear hfz28_2
        try clear hfz28_3
        try clear hfz28_4
        try clear hfz28_5
        try clear hfz28_6
        try clear hfz28_7
        try clear hfz6_0
        try clear hfz6_1
        try clear hfz6_2
        try clear hfz6_3
        try clear hfz6_4
        try clear hfz6_5
        try clear hfz6_6
        try clear hfz6_7
        try clear p2
        try clear p6
        obtain ⟨kq, x4_36, rfl, HA, HJ36, BK122, BK127, HB⟩ := hcut
        cases kq with
        | zero => exact absurd HA.out (by simp [clock_Text.j4])
        | succ kj36 =>
         have H := HA.out
         clear HA
         simp only [clock_Text.j4] at H
         replace H := Option.bind_eq_some_iff.mp H
         obtain ⟨t129, A400, H⟩ := H
         replace H : (if x4_36.size + t129.size ≤ 9223372036854775807 then (if a0_5 = true then (clock_Text.j5 kj36 (x4_36 ++ t129) t125 x21_1 ((wrap64 (a0_4)) == x21_1) x21_1 t123 t124 a0_0 a0_1 a0_2 a0_3 a0_4 a0_5 a0_6 a0_7) else (clock_Text.j5 kj36 (x4_36 ++ t129) t125 x21_1 false x21_1 t123 t124 a0_0 a0_1 a0_2 a0_3 a0_4 a0_5 a0_6 a0_7)) else (none)) = some r := H
         have A40 := Az A400
         clear A400
         by_cases c41 : x4_36.size + t129.size ≤ 9223372036854775807
         ·
          rw [if_pos c41] at H
          have c41b0 := eq_true c41
          have c41b1 : decide (x4_36.size + t129.size ≤ 9223372036854775807) = true := decide_eq_true c41
          try have c41b2 : (9223372036854775807 < x4_36.size + t129.size) = False := eq_false (Nat.not_lt.2 c41)
          have HC42 := Az H
          clear H
          go_upto_region 10 with (first | ((with_reducible refine gate_callee (f := 51) rfl ?_); refine goesL_ (some 31) rfl rfl Tryd.func51 (by kernel_rfl) rfl #[.int .i64 t124] rfl mapx ?_; (with_reducible refine (clock_told.calls t124 t129 _ ?side1 A40.out).mono ?_); (case side1 => repeat (first | exact (GoodW.below HGW.out HB.out) | (with_reducible refine GoodW.alloc ?_ _) | (with_reducible refine GoodW.drewN ?_ _) | (with_reducible refine GoodW.drew ?_))); rintro e w43 ⟨rfl, hb⟩; refine ⟨_, rfl, ?_⟩; have n0_ := Az (blk_below (g := gb122) (o := .cells #[.int .i64 a0_0, .int .i64 a0_1, .int .i64 a0_2, .int .i64 a0_3, .int .u8 a0_4, .bool a0_5, .int .i64 a0_6, .int .u8 a0_7] 24 (0, 0)) of_lies hb); have n1_ := Az (blk_below (g := gb127) (o := .cells #[.int .i64 t123, .int .i64 t124] 22 (0, 0)) of_lies hb); have n2_ := Az (below_step (low HB) hb); clear BK122; clear BK127; clear HB; have BK122 := n0_; have BK127 := n1_; have HB := n2_; clear n0_ n1_ n2_; (try clear hb); (try clear hb2); (try clear hk); (try clear hi)))
          (try simp only [Act.put, List.setIfInBounds_toArray, List.set_cons_zero, List.set_cons_succ])
          go_cut [10] (fun v10 wc => ∃ (kq : Nat) (x10_41 : Bool), v10 = .bool x10_41 ∧ Aside0 (clock_Text.j5 kq (x4_36 ++ t129) t125 x21_1 x10_41 x21_1 t123 t124 a0_0 a0_1 a0_2 a0_3 a0_4 a0_5 a0_6 a0_7 = some r) ∧ Aside0 (kq ≤ kj36) ∧ Aside0 (wc.heap[gb122]? = some (.cells #[.int .i64 a0_0, .int .i64 a0_1, .int .i64 a0_2, .int .i64 a0_3, .int .u8 a0_4, .bool a0_5, .int .i64 a0_6, .int .u8 a0_7] 24 (0, 0))) ∧ Aside0 (wc.heap[gb127]? = some (.cells #[.int .i64 t123, .int .i64 t124] 22 (0, 0))) ∧ Aside0 (Below w.heap.size w wc))
          case first =>
           have H := HC42.out
           clear HC42
           by_cases c44 : a0_5 = true
           ·
            subst c44
            have H1 : (clock_Text.j5 kj36 (x4_36 ++ t129) t125 x21_1 ((wrap64 (a0_4)) == x21_1) x21_1 t123 t124 a0_0 a0_1 a0_2 a0_3 a0_4 true a0_6 a0_7) = some r := by rw [if_pos rfl] at H; exact H
            clear H
            have H := H1
            clear H1
            have H' := Az H
            clear H
            have hnb45 := NB122_127.out
            have hnc45 := NB127_122.out
            have hcz46_0 : w43.cell? ⟨gb122, 0, none⟩ = some (.int .i64 a0_0) := (blk_cell BK122.out 0).trans rfl
            have hcz46_1 : w43.cell? ⟨gb122, 1, none⟩ = some (.int .i64 a0_1) := (blk_cell BK122.out 1).trans rfl
            have hcz46_2 : w43.cell? ⟨gb122, 2, none⟩ = some (.int .i64 a0_2) := (blk_cell BK122.out 2).trans rfl
            have hcz46_3 : w43.cell? ⟨gb122, 3, none⟩ = some (.int .i64 a0_3) := (blk_cell BK122.out 3).trans rfl
            have hcz46_4 : w43.cell? ⟨gb122, 4, none⟩ = some (.int .u8 a0_4) := (blk_cell BK122.out 4).trans rfl
            have hcz46_5 : w43.cell? ⟨gb122, 5, none⟩ = some (.bool true) := (blk_cell BK122.out 5).trans rfl
            have hcz46_6 : w43.cell? ⟨gb122, 6, none⟩ = some (.int .i64 a0_6) := (blk_cell BK122.out 6).trans rfl
            have hcz46_7 : w43.cell? ⟨gb122, 7, none⟩ = some (.int .u8 a0_7) := (blk_cell BK122.out 7).trans rfl
            have hfz46_0 := blk_frozen BK122.out 0
            have hfz46_1 := blk_frozen BK122.out 1
            have hfz46_2 := blk_frozen BK122.out 2
            have hfz46_3 := blk_frozen BK122.out 3
            have hfz46_4 := blk_frozen BK122.out 4
            have hfz46_5 := blk_frozen BK122.out 5
            have hfz46_6 := blk_frozen BK122.out 6
            have hfz46_7 := blk_frozen BK122.out 7
            go_wp2
            go_meet
            case rel => exact ⟨_, (((wrap64 (a0_4)) == x21_1)), eqx, H', ⟨by have := HK1.out; have := HJ36.out; first | omega | exact Nat.le_refl _⟩, ⟨of_lies⟩, ⟨of_lies⟩, ⟨low HB⟩⟩
           ·
            replace c44 := Bool.eq_false_iff.mpr c44
            subst c44
            have H1 : (clock_Text.j5 kj36 (x4_36 ++ t129) t125 x21_1 false x21_1 t123 t124 a0_0 a0_1 a0_2 a0_3 a0_4 false a0_6 a0_7) = some r := by rw [if_neg (show ¬ (false = true) by decide)] at H; exact H
            clear H
            have H := H1
            clear H1
            have H' := Az H
            clear H
            have hnb47 := NB122_127.out
            have hnc47 := NB127_122.out
            have hcz48_0 : w43.cell? ⟨gb122, 0, none⟩ = some (.int .i64 a0_0) := (blk_cell BK122.out 0).trans rfl
            have hcz48_1 : w43.cell? ⟨gb122, 1, none⟩ = some (.int .i64 a0_1) := (blk_cell BK122.out 1).trans rfl
            have hcz48_2 : w43.cell? ⟨gb122, 2, none⟩ = some (.int .i64 a0_2) := (blk_cell BK122.out 2).trans rfl
            have hcz48_3 : w43.cell? ⟨gb122, 3, none⟩ = some (.int .i64 a0_3) := (blk_cell BK122.out 3).trans rfl
            have hcz48_4 : w43.cell? ⟨gb122, 4, none⟩ = some (.int .u8 a0_4) := (blk_cell BK122.out 4).trans rfl
            have hcz48_5 : w43.cell? ⟨gb122, 5, none⟩ = some (.bool false) := (blk_cell BK122.out 5).trans rfl
            have hcz48_6 : w43.cell? ⟨gb122, 6, none⟩ = some (.int .i64 a0_6) := (blk_cell BK122.out 6).trans rfl
            have hcz48_7 : w43.cell? ⟨gb122, 7, none⟩ = some (.int .u8 a0_7) := (blk_cell BK122.out 7).trans rfl
            have hfz48_0 := blk_frozen BK122.out 0
            have hfz48_1 := blk_frozen BK122.out 1
            have hfz48_2 := blk_frozen BK122.out 2
            have hfz48_3 := blk_frozen BK122.out 3
            have hfz48_4 := blk_frozen BK122.out 4
            have hfz48_5 := blk_frozen BK122.out 5
            have hfz48_6 := blk_frozen BK122.out 6
            have hfz48_7 := blk_frozen BK122.out 7
            go_wp2
            go_meet
            case rel => exact ⟨_, (false), eqx, H', ⟨by have := HK1.out; have := HJ36.out; first | omega | exact Nat.le_refl _⟩, ⟨of_lies⟩, ⟨of_lies⟩, ⟨low HB⟩⟩
          case rest =>
           clear HC42
           try clear c1
           try clear c2
           try clear p2
           try clear c3
           try clear c4
           try clear c4b0
           try clear c4b1
           try clear c5
           try clear p6
           try clear c9
           try clear c11
           try clear c11b0
           try clear c12
           try clear c12b0
           try clear c12b1
           try clear c15
           try clear c15b0
           try clear c16
           try clear c16b0
           try clear c16b1
           try clear c16b2
           try clear c17
           try clear c18
           try clear c18b0
           try clear c18b1
           try clear c18b2
           try clear c21
           try clear c22
           try clear c23
           try clear c24
           try clear c27
           try clear c29
           try clear c29b0
           try clear c29b1
           try clear c30
           try clear c31
           try clear c32
           try clear c32b0
           try clear c32b1
           try clear c32b2
           try clear c33
           try clear c34
           try clear c34b0
           try clear c34b1
           try clear c34b2
           try clear c35
           try clear c35b0
           try clear c35b1
           try clear c38
           try clear c38b0
           try clear c39
           try clear c39b0
           try clear c39b1
           try clear c39b2
           try clear c41
           try clear c41b0
           try clear c41b1
           try clear c41b2
           try clear c44
           try clear c45
           try clear c47
           try clear hcz10_0
           try clear hcz10_1
           try clear hcz23_0
           try clear hcz23_1
           try clear hcz23_2
           try clear hcz23_3
           try clear hcz23_4
           try clear hcz23_5
           try clear hcz23_6
           try clear hcz23_7
           try clear hcz25_0
           try clear hcz25_1
           try clear hcz25_2
           try clear hcz25_3
           try clear hcz25_4
           try clear hcz25_5
           try clear hcz25_6
           try clear hcz25_7
           try clear hcz28_0
           try clear hcz28_1
           try clear hcz28_2
           try clear hcz28_3
           try clear hcz28_4
           try clear hcz28_5
           try clear hcz28_6
           try clear hcz28_7
           try clear hcz46_0
           try clear hcz46_1
           try clear hcz46_2
           try clear hcz46_3
           try clear hcz46_4
           try clear hcz46_5
           try clear hcz46_6
           try clear hcz46_7
           try clear hcz48_0
           try clear hcz48_1
           try clear hcz48_2
           try clear hcz48_3
           try clear hcz48_4
           try clear hcz48_5
           try clear hcz48_6
           try clear hcz48_7
           try clear hcz6_0
           try clear hcz6_1
           try clear hcz6_2
           try clear hcz6_3
           try clear hcz6_4
           try clear hcz6_5
           try clear hcz6_6
           try clear hcz6_7
           try clear hfz10_0
           try clear hfz10_1
           try clear hfz23_0
           try clear hfz23_1
           try clear hfz23_2
           try clear hfz23_3
           try clear hfz23_4
           try clear hfz23_5
           try clear hfz23_6
           try clear hfz23_7
           try clear hfz25_0
           try clear hfz25_1
           try clear hfz25_2
           try clear hfz25_3
           try clear hfz25_4
           try clear hfz25_5
           try clear hfz25_6
           try clear hfz25_7
           try clear hfz28_0
           try clear hfz28_1
           try clear hfz28_2
           try clear hfz28_3
           try clear hfz28_4
           try clear hfz28_5
           try clear hfz28_6
           try clear hfz28_7
           try clear hfz46_0
           try clear hfz46_1
           try clear hfz46_2
           try clear hfz46_3
           try clear hfz46_4
           try clear hfz46_5
           try clear hfz46_6
           try clear hfz46_7
           try clear hfz48_0
           try clear hfz48_1
           try clear hfz48_2
           try clear hfz48_3
           try clear hfz48_4
           try clear hfz48_5
           try clear hfz48_6
           try clear hfz48_7
           try clear hfz6_0
           try clear hfz6_1
           try clear hfz6_2
           try clear hfz6_3
           try clear hfz6_4
           try clear hfz6_5
           try clear hfz6_6
           try clear hfz6_7
           try clear p2
           try clear p6
           obtain ⟨kq, x10_41, rfl, HA, HJ41, BK122, BK127, HB⟩ := hcut
           cases kq with
           | zero => exact absurd HA.out (by simp [clock_Text.j5])
           | succ kj41 =>
            have H := HA.out
            clear HA
            simp only [clock_Text.j5] at H
            have HC49 := Az H
            clear H
            have hnb50 := NB122_127.out
            have hnc50 := NB127_122.out
            have hcz51_0 : wc.cell? ⟨gb122, 0, none⟩ = some (.int .i64 a0_0) := (blk_cell BK122.out 0).trans rfl
            have hcz51_1 : wc.cell? ⟨gb122, 1, none⟩ = some (.int .i64 a0_1) := (blk_cell BK122.out 1).trans rfl
            have hcz51_2 : wc.cell? ⟨gb122, 2, none⟩ = some (.int .i64 a0_2) := (blk_cell BK122.out 2).trans rfl
            have hcz51_3 : wc.cell? ⟨gb122, 3, none⟩ = some (.int .i64 a0_3) := (blk_cell BK122.out 3).trans rfl
            have hcz51_4 : wc.cell? ⟨gb122, 4, none⟩ = some (.int .u8 a0_4) := (blk_cell BK122.out 4).trans rfl
            have hcz51_5 : wc.cell? ⟨gb122, 5, none⟩ = some (.bool a0_5) := (blk_cell BK122.out 5).trans rfl
            have hcz51_6 : wc.cell? ⟨gb122, 6, none⟩ = some (.int .i64 a0_6) := (blk_cell BK122.out 6).trans rfl
            have hcz51_7 : wc.cell? ⟨gb122, 7, none⟩ = some (.int .u8 a0_7) := (blk_cell BK122.out 7).trans rfl
            have hfz51_0 := blk_frozen BK122.out 0
            have hfz51_1 := blk_frozen BK122.out 1
            have hfz51_2 := blk_frozen BK122.out 2
            have hfz51_3 := blk_frozen BK122.out 3
            have hfz51_4 := blk_frozen BK122.out 4
            have hfz51_5 := blk_frozen BK122.out 5
            have hfz51_6 := blk_frozen BK122.out 6
            have hfz51_7 := blk_frozen BK122.out 7
            go_upto_if 42 with (fail)
            go_cut [42] (fun v42 wc => ∃ (kq : Nat) (x42_48 : Bool), v42 = .bool x42_48 ∧ Aside0 (clock_Text.j6 kq (x4_36 ++ t129) t125 x10_41 x21_1 x42_48 t123 t124 a0_0 a0_1 a0_2 a0_3 a0_4 a0_5 a0_6 a0_7 = some r) ∧ Aside0 (kq ≤ kj41) ∧ Aside0 (wc.heap[gb122]? = some (.cells #[.int .i64 a0_0, .int .i64 a0_1, .int .i64 a0_2, .int .i64 a0_3, .int .u8 a0_4, .bool a0_5, .int .i64 a0_6, .int .u8 a0_7] 24 (0, 0))) ∧ Aside0 (wc.heap[gb127]? = some (.cells #[.int .i64 t123, .int .i64 t124] 22 (0, 0))) ∧ Aside0 (Below w.heap.size w wc))
            case first =>
             have H := HC49.out
             clear HC49
             by_cases c52 : (wrap64 (a0_7)) = x21_1
             ·
              rw [if_pos c52] at H
              have c52b0 : ((wrap64 (a0_7)) == x21_1) = true := beq_iff_eq.mpr c52
              have c52b1 : ((wrap64 (a0_7)) != x21_1) = false := bne_eq_false_iff_eq.mpr c52
              clear c52
              (first | rw [c52b0] | (simp only [i64_w, i32_w]; rw [c52b0]) | skip)
              have H' := Az H
              clear H
              go_wp2
              go_meet
              case rel => exact ⟨_, (((wrap64 (a0_7)) == x21_1)), eqx, H', ⟨by have := HK1.out; have := HJ36.out; have := HJ41.out; first | omega | exact Nat.le_refl _⟩, ⟨of_lies⟩, ⟨of_lies⟩, ⟨low HB⟩⟩
             ·
              rw [if_neg c52] at H
              have c52b0 : ((wrap64 (a0_7)) == x21_1) = false := beq_eq_false_iff_ne.mpr c52
              have c52b1 : ((wrap64 (a0_7)) != x21_1) = true := bne_iff_ne.mpr c52
              (first | rw [c52b0] | (simp only [i64_w, i32_w]; rw [c52b0]) | skip)
              by_cases c53 : x10_41 = true
              ·
               subst c53
               have H1 : (clock_Text.j6 kj41 (x4_36 ++ t129) t125 true x21_1 t125 t123 t124 a0_0 a0_1 a0_2 a0_3 a0_4 a0_5 a0_6 a0_7) = some r := by rw [if_pos rfl] at H; exact H
               clear H
               have H := H1
               clear H1
               have H' := Az H
               clear H
               go_wp2
               go_meet
               case rel => exact ⟨_, (t125), eqx, H', ⟨by have := HK1.out; have := HJ36.out; have := HJ41.out; first | omega | exact Nat.le_refl _⟩, ⟨of_lies⟩, ⟨of_lies⟩, ⟨low HB⟩⟩
              ·
               replace c53 := Bool.eq_false_iff.mpr c53
               subst c53
               have H1 : (clock_Text.j6 kj41 (x4_36 ++ t129) t125 false x21_1 false t123 t124 a0_0 a0_1 a0_2 a0_3 a0_4 a0_5 a0_6 a0_7) = some r := by rw [if_neg (show ¬ (false = true) by decide)] at H; exact H
               clear H
               have H := H1
               clear H1
               have H' := Az H
               clear H
               go_wp2
               go_meet
               case rel => exact ⟨_, (false), eqx, H', ⟨by have := HK1.out; have := HJ36.out; have := HJ41.out; first | omega | exact Nat.le_refl _⟩, ⟨of_lies⟩, ⟨of_lies⟩, ⟨low HB⟩⟩
            case rest =>
             clear HC49
             try clear c1
             try clear c2
             try clear p2
             try clear c3
             try clear c4
             try clear c4b0
             try clear c4b1
             try clear c5
             try clear p6
             try clear c9
             try clear c11
             try clear c11b0
             try clear c12
             try clear c12b0
             try clear c12b1
             try clear c15
             try clear c15b0
             try clear c16
             try clear c16b0
             try clear c16b1
             try clear c16b2
             try clear c17
             try clear c18
             try clear c18b0
             try clear c18b1
             try clear c18b2
             try clear c21
             try clear c22
             try clear c23
             try clear c24
             try clear c27
             try clear c29
             try clear c29b0
             try clear c29b1
             try clear c30
             try clear c31
             try clear c32
             try clear c32b0
             try clear c32b1
             try clear c32b2
             try clear c33
             try clear c34
             try clear c34b0
             try clear c34b1
             try clear c34b2
             try clear c35
             try clear c35b0
             try clear c35b1
             try clear c38
             try clear c38b0
             try clear c39
             try clear c39b0
             try clear c39b1
             try clear c39b2
             try clear c41
             try clear c41b0
             try clear c41b1
             try clear c41b2
             try clear c44
             try clear c45
             try clear c47
             try clear c50
             try clear c51
             try clear c52
             try clear c52b0
             try clear c52b1
             try clear c53
             try clear hcz10_0
             try clear hcz10_1
             try clear hcz23_0
             try clear hcz23_1
             try clear hcz23_2
             try clear hcz23_3
             try clear hcz23_4
             try clear hcz23_5
             try clear hcz23_6
             try clear hcz23_7
             try clear hcz25_0
             try clear hcz25_1
             try clear hcz25_2
             try clear hcz25_3
             try clear hcz25_4
             try clear hcz25_5
             try clear hcz25_6
             try clear hcz25_7
             try clear hcz28_0
             try clear hcz28_1
             try clear hcz28_2
             try clear hcz28_3
             try clear hcz28_4
             try clear hcz28_5
             try clear hcz28_6
             try clear hcz28_7
             try clear hcz46_0
             try clear hcz46_1
             try clear hcz46_2
             try clear hcz46_3
             try clear hcz46_4
             try clear hcz46_5
             try clear hcz46_6
             try clear hcz46_7
             try clear hcz48_0
             try clear hcz48_1
             try clear hcz48_2
             try clear hcz48_3
             try clear hcz48_4
             try clear hcz48_5
             try clear hcz48_6
             try clear hcz48_7
             try clear hcz51_0
             try clear hcz51_1
             try clear hcz51_2
             try clear hcz51_3
             try clear hcz51_4
             try clear hcz51_5
             try clear hcz51_6
             try clear hcz51_7
             try clear hcz6_0
             try clear hcz6_1
             try clear hcz6_2
             try clear hcz6_3
             try clear hcz6_4
             try clear hcz6_5
             try clear hcz6_6
             try clear hcz6_7
             try clear hfz10_0
             try clear hfz10_1
             try clear hfz23_0
             try clear hfz23_1
             try clear hfz23_2
             try clear hfz23_3
             try clear hfz23_4
             try clear hfz23_5
             try clear hfz23_6
             try clear hfz23_7
             try clear hfz25_0
             try clear hfz25_1
             try clear hfz25_2
             try clear hfz25_3
             try clear hfz25_4
             try clear hfz25_5
             try clear hfz25_6
             try clear hfz25_7
             try clear hfz28_0
             try clear hfz28_1
             try clear hfz28_2
             try clear hfz28_3
             try clear hfz28_4
             try clear hfz28_5
             try clear hfz28_6
             try clear hfz28_7
             try clear hfz46_0
             try clear hfz46_1
             try clear hfz46_2
             try clear hfz46_3
             try clear hfz46_4
             try clear hfz46_5
             try clear hfz46_6
             try clear hfz46_7
             try clear hfz48_0
             try clear hfz48_1
             try clear hfz48_2
             try clear hfz48_3
             try clear hfz48_4
             try clear hfz48_5
             try clear hfz48_6
             try clear hfz48_7
             try clear hfz51_0
             try clear hfz51_1
             try clear hfz51_2
             try clear hfz51_3
             try clear hfz51_4
             try clear hfz51_5
             try clear hfz51_6
             try clear hfz51_7
             try clear hfz6_0
             try clear hfz6_1
             try clear hfz6_2
             try clear hfz6_3
             try clear hfz6_4
             try clear hfz6_5
             try clear hfz6_6
             try clear hfz6_7
             try clear p2
             try clear p6
             obtain ⟨kq, x42_48, rfl, HA, HJ48, BK122, BK127, HB⟩ := hcut
             cases kq with
             | zero => exact absurd HA.out (by simp [clock_Text.j6])
             | succ kj48 =>
              have H := HA.out
              clear HA
              simp only [clock_Text.j6] at H
              by_cases c54 : x42_48 = true
              ·
               subst c54
               have H1 : (if (x4_36 ++ t129).size + 5 ≤ 9223372036854775807 then (clock_Text.l0 kj48 ((x4_36 ++ t129) ++ (⟨#[32, 102, 101, 108, 108]⟩ : ByteArray)) t125 (wrap64 (x21_1 + 1)) t123 t124 a0_0 a0_1 a0_2 a0_3 a0_4 a0_5 a0_6 a0_7) else (none)) = some r := by rw [if_pos rfl] at H; exact H
               clear H
               have H := H1
               clear H1
               by_cases c55 : (x4_36 ++ t129).size + 5 ≤ 9223372036854775807
               ·
                rw [if_pos c55] at H
                have c55b0 := eq_true c55
                have c55b1 : decide ((x4_36 ++ t129).size + 5 ≤ 9223372036854775807) = true := decide_eq_true c55
                (try (have c55z := c55; simp only [ByteArray.size_append] at c55z; have c55b3 := eq_true c55z; have c55b4 := eq_false (Nat.not_lt.2 c55z); clear c55z))
                (try (have c55z := c55; simp only [ByteArray.size_append, ByteArray.size_extract, Nat.min_self, List.size_toArray, List.length_cons, List.length_nil, Nat.reduceAdd] at c55z; have c55b5 := eq_true c55z; have c55b6 := eq_false (Nat.not_lt.2 c55z); clear c55z))
                try have c55b2 : (9223372036854775807 < (x4_36 ++ t129).size + 5) = False := eq_false (Nat.not_lt.2 c55)
                have H' := Az H
                clear H
                go_wp2
                go_roundg kj48
                case measure => have := HK1.out; have := HJ36.out; have := HJ41.out; have := HJ48.out; omega
                case rel => exact ⟨((x4_36 ++ t129) ++ (⟨#[32, 102, 101, 108, 108]⟩ : ByteArray)), (wrap64 (x21_1 + 1)), eqx, eqx, H', ⟨by have := HK1.out; have := HJ36.out; have := HJ41.out; have := HJ48.out; omega⟩, ⟨of_lies⟩, ⟨of_lies⟩, ⟨low HB⟩⟩
               ·
                rw [if_neg c55] at H
                exact absurd H (by simp)
              ·
               replace c54 := Bool.eq_false_iff.mpr c54
               subst c54
               have H1 : (if x10_41 = true then (if (x4_36 ++ t129).size + 1 ≤ 9223372036854775807 then (clock_Text.l0 kj48 ((x4_36 ++ t129) ++ (⟨#[42]⟩ : ByteArray)) t125 (wrap64 (x21_1 + 1)) t123 t124 a0_0 a0_1 a0_2 a0_3 a0_4 a0_5 a0_6 a0_7) else (none)) else (clock_Text.l0 kj48 (x4_36 ++ t129) t125 (wrap64 (x21_1 + 1)) t123 t124 a0_0 a0_1 a0_2 a0_3 a0_4 a0_5 a0_6 a0_7)) = some r := by rw [if_neg (show ¬ (false = true) by decide)] at H; exact H
               clear H
               have H := H1
               clear H1
               by_cases c56 : x10_41 = true
               ·
                subst c56
                have H1 : (if (x4_36 ++ t129).size + 1 ≤ 9223372036854775807 then (clock_Text.l0 kj48 ((x4_36 ++ t129) ++ (⟨#[42]⟩ : ByteArray)) t125 (wrap64 (x21_1 + 1)) t123 t124 a0_0 a0_1 a0_2 a0_3 a0_4 a0_5 a0_6 a0_7) else (none)) = some r := by rw [if_pos rfl] at H; exact H
                clear H
                have H := H1
                clear H1
                by_cases c57 : (x4_36 ++ t129).size + 1 ≤ 9223372036854775807
                ·
                 rw [if_pos c57] at H
                 have c57b0 := eq_true c57
                 have c57b1 : decide ((x4_36 ++ t129).size + 1 ≤ 9223372036854775807) = true := decide_eq_true c57
                 (try (have c57z := c57; simp only [ByteArray.size_append] at c57z; have c57b3 := eq_true c57z; have c57b4 := eq_false (Nat.not_lt.2 c57z); clear c57z))
                 (try (have c57z := c57; simp only [ByteArray.size_append, ByteArray.size_extract, Nat.min_self, List.size_toArray, List.length_cons, List.length_nil, Nat.reduceAdd] at c57z; have c57b5 := eq_true c57z; have c57b6 := eq_false (Nat.not_lt.2 c57z); clear c57z))
                 try have c57b2 : (9223372036854775807 < (x4_36 ++ t129).size + 1) = False := eq_false (Nat.not_lt.2 c57)
                 have H' := Az H
                 clear H
                 go_wp2
                 go_roundg kj48
                 case measure => have := HK1.out; have := HJ36.out; have := HJ41.out; have := HJ48.out; omega
                 case rel => exact ⟨((x4_36 ++ t129) ++ (⟨#[42]⟩ : ByteArray)), (wrap64 (x21_1 + 1)), eqx, eqx, H', ⟨by have := HK1.out; have := HJ36.out; have := HJ41.out; have := HJ48.out; omega⟩, ⟨of_lies⟩, ⟨of_lies⟩, ⟨low HB⟩⟩
                ·
                 rw [if_neg c57] at H
                 exact absurd H (by simp)
               ·
                replace c56 := Bool.eq_false_iff.mpr c56
                subst c56
                have H1 : (clock_Text.l0 kj48 (x4_36 ++ t129) t125 (wrap64 (x21_1 + 1)) t123 t124 a0_0 a0_1 a0_2 a0_3 a0_4 a0_5 a0_6 a0_7) = some r := by rw [if_neg (show ¬ (false = true) by decide)] at H; exact H
                clear H
                have H := H1
                clear H1
                have H' := Az H
                clear H
                go_wp2
                go_roundg kj48
                case measure => have := HK1.out; have := HJ36.out; have := HJ41.out; have := HJ48.out; omega
                case rel => exact ⟨((x4_36 ++ t129)), (wrap64 (x21_1 + 1)), eqx, eqx, H', ⟨by have := HK1.out; have := HJ36.out; have := HJ41.out; have := HJ48.out; omega⟩, ⟨of_lies⟩, ⟨of_lies⟩, ⟨low HB⟩⟩
         ·
          rw [if_neg c41] at H
          exact absurd H (by simp)
      ·
       rw [if_neg c35] at H
       exact absurd H (by simp)
    ·
     rw [if_neg c11] at H
     have c11b0 : decide (x21_1 < 2) = false := decide_eq_false c11
     clear c11
     obtain rfl := Option.some.inj H
     go_wp2
     go_ret
     exact ⟨by first | rfl | (simp [errW_none, errW_some] <;> rfl) | (simp [*, errW_none, errW_some] <;> rfl), low HB⟩
 ·
  rw [if_neg c4] at H
  have c4b0 : (t126 == 0) = false := beq_eq_false_iff_ne.mpr c4
  have c4b1 : (t126 != 0) = true := bne_iff_ne.mpr c4
  obtain rfl := Option.some.inj H
  go_enter Tryd.func17, Tryd.ntmps17
  go_wp2_with (first | ((with_reducible refine gate_dst (N := 2) rfl ?_); refine box_event ?hg (N := 2) ?hd (cs := #[.int .i64 a0_0, .int .i64 a0_1, .int .i64 a0_2, .int .i64 a0_3, .int .u8 a0_4, .bool a0_5, .int .i64 a0_6, .int .u8 a0_7]) (t := 24) ?hr ?_; (case hd => rfl); (case hg => rfl); (case hr => first | (go_simp; done) | (go_simp; rfl)); intro gb122 hg w58 hbox hb; have n0_ := Az (below_step (low HB) hb); have n1_ := Az (hbox); have n2_ := Az ((by rw [hg]; exact (below_size (low HB)) : w.heap.size ≤ gb122)); have n3_ := Az ((by rw [hg]; exact (below_size (low HB)) : w.heap.size ≤ gb122)); clear HB; have HB := n0_; have BK122 := n1_; have GW122 := n2_; have GE122 := n3_; clear n0_ n1_ n2_ n3_; clear hb hbox hg; obtain ⟨hcz59_0, hcz59_1, hcz59_2, hcz59_3, hcz59_4, hcz59_5, hcz59_6, hcz59_7, hfz59_0, hfz59_1, hfz59_2, hfz59_3, hfz59_4, hfz59_5, hfz59_6, hfz59_7⟩ := cells8 BK122.out) | ((with_reducible refine gate_callee (f := 23) rfl ?_); refine goesL_ (some 14) rfl rfl Tryd.func23 (by kernel_rfl) rfl #[.agg #[.int .i64 a0_0, .int .i64 a0_1, .int .i64 a0_2, .int .i64 a0_3, .int .u8 a0_4, .bool a0_5, .int .i64 a0_6, .int .u8 a0_7], .int .i64 a1] rfl mapx ?_; (with_reducible refine (clock_Look.calls k a0_0 a0_1 a0_2 a0_3 a0_4 a0_5 a0_6 a0_7 a1 t123 t124 t125 t126 _ A3.out).mono ?_); rintro e w60 ⟨rfl, hb⟩; refine ⟨_, rfl, ?_⟩; have n0_ := Az (blk_below (g := gb122) (o := .cells #[.int .i64 a0_0, .int .i64 a0_1, .int .i64 a0_2, .int .i64 a0_3, .int .u8 a0_4, .bool a0_5, .int .i64 a0_6, .int .u8 a0_7] 24 (0, 0)) of_lies hb); have n1_ := Az (below_step (low HB) hb); clear BK122; clear HB; have BK122 := n0_; have HB := n1_; clear n0_ n1_; (try clear hb); (try clear hb2); (try clear hk); (try clear hi)) | ((with_reducible refine gate_dst (N := 5) rfl ?_); refine box_event ?hg (N := 5) ?hd (cs := #[.int .i64 0, .int .i64 0]) (t := 22) ?hr ?_; (case hd => rfl); (case hg => rfl); (case hr => first | (go_simp; done) | (go_simp; rfl)); intro gb127 hg w61 hbox hb; have n0_ := Az (blk_below (g := gb122) (o := .cells #[.int .i64 a0_0, .int .i64 a0_1, .int .i64 a0_2, .int .i64 a0_3, .int .u8 a0_4, .bool a0_5, .int .i64 a0_6, .int .u8 a0_7] 24 (0, 0)) of_lies hb); have n1_ := Az (below_step (low HB) hb); have n2_ := Az (hbox); have n3_ := Az ((by rw [hg]; exact (below_size (low HB)) : w.heap.size ≤ gb127)); have n4_ := Az ((by rw [hg]; exact (below_size (low HB)) : w.heap.size ≤ gb127)); have n5_ := Az ((by rw [hg]; exact Nat.ne_of_lt (blk_lt (g := gb122) (o := .cells #[.int .i64 a0_0, .int .i64 a0_1, .int .i64 a0_2, .int .i64 a0_3, .int .u8 a0_4, .bool a0_5, .int .i64 a0_6, .int .u8 a0_7] 24 (0, 0)) of_lies) : gb122 ≠ gb127)); have n6_ := Az ((by rw [hg]; exact Nat.ne_of_gt (blk_lt (g := gb122) (o := .cells #[.int .i64 a0_0, .int .i64 a0_1, .int .i64 a0_2, .int .i64 a0_3, .int .u8 a0_4, .bool a0_5, .int .i64 a0_6, .int .u8 a0_7] 24 (0, 0)) of_lies) : gb127 ≠ gb122)); clear BK122; clear HB; have BK122 := n0_; have HB := n1_; have BK127 := n2_; have GW127 := n3_; have GE127 := n4_; have NB122_127 := n5_; have NB127_122 := n6_; clear n0_ n1_ n2_ n3_ n4_ n5_ n6_; clear hb hbox hg; have hnb62 := NB127_122.out; have hnc62 := NB122_127.out; obtain ⟨hcz63_0, hcz63_1, hfz63_0, hfz63_1⟩ := cells2 BK127.out))
  go_ret
  exact ⟨by first | rfl | (simp [errW_none, errW_some] <;> rfl) | (simp [*, errW_none, errW_some] <;> rfl), low HB⟩
end Go.Proofs.YtcdcpnhlmgmnkaaDoor.Pclk
end
section
namespace Go.Proofs.YtcdcpnhlmgmnkaaDoor.Pclk
open Go.RowKit Go.Proofs.YtcdcpnhlmgmnkaaDoor.Base Go.Proofs.YtcdcpnhlmgmnkaaDoorW.PrintWords Go.Proofs.YtcdcpnhlmgmnkaaDoorW.PrintLast Go.Proofs.YtcdcpnhlmgmnkaaDoorW.PrintMore
attribute [local go_sem] max2_int min2_int max_two min_two max_three min_three max_four min_four   -- for this text's walks alone
set_option linter.unusedVariables false
set_option linter.unusedSimpArgs false
def clock_Start.j0 : Nat → Int → Int → Bool → Int → Int → Int → Int → Int → Bool → Int → Int → Option (Int × Int × Int × Int × Int × Bool × Int × Int × Int)
 | 0, _, _, _, _, _, _, _, _, _, _, _ => none
 | k + 1, x1, x2, x8, x131000, x131001, x131002, x131003, x131004, x131005, x131006, x131007 => if x8 = true then (some (0, 0, 0, 0, 0, false, 0, 0, 2)) else (if x131005 = true then (some (0, 0, 0, 0, 0, false, 0, 0, 11)) else (if x131007 = 2 then (some (x131000, x131001, x131002, x131003, x1, true, x2, x131007, 0)) else (some (0, 0, 0, 0, 0, false, 0, 0, 11))))
def clock_Start.f (k : Nat) (a0_0 : Int) (a0_1 : Int) (a0_2 : Int) (a0_3 : Int) (a0_4 : Int) (a0_5 : Bool) (a0_6 : Int) (a0_7 : Int) (a1 : Int) (a2 : Int) : Option (Int × Int × Int × Int × Int × Bool × Int × Int × Int) := (clock_may.f k a0_0 a0_1 a0_2 a0_3 a0_4 a0_5 a0_6 a0_7 a2).bind fun t132 => (if t132 = true then (clock_Start.j0 k a1 a2 (decide (a1 ≥ 2)) a0_0 a0_1 a0_2 a0_3 a0_4 a0_5 a0_6 a0_7) else (clock_Start.j0 k a1 a2 (!t132) a0_0 a0_1 a0_2 a0_3 a0_4 a0_5 a0_6 a0_7))
set_option maxHeartbeats 8000000 in
set_option maxRecDepth 100000 in
theorem clock_Start.calls (k : Nat) (a0_0 : Int) (a0_1 : Int) (a0_2 : Int) (a0_3 : Int) (a0_4 : Int) (a0_5 : Bool) (a0_6 : Int) (a0_7 : Int) (a1 : Int) (a2 : Int) (r1 : Int) (r2 : Int) (r3 : Int) (r4 : Int) (r5 : Int) (r6 : Bool) (r7 : Int) (r8 : Int) (r9 : Int) (w : World) (h : clock_Start.f k a0_0 a0_1 a0_2 a0_3 a0_4 a0_5 a0_6 a0_7 a1 a2 = some (r1, r2, r3, r4, r5, r6, r7, r8, r9)) :
  Calls Tryd.prog 19 #[.agg #[.int .i64 a0_0, .int .i64 a0_1, .int .i64 a0_2, .int .i64 a0_3, .int .u8 a0_4, .bool a0_5, .int .i64 a0_6, .int .u8 a0_7], .int .u8 a1, .int .i64 a2] w fun e w' => e = .returned (.tuple #[.agg #[.int .i64 r1, .int .i64 r2, .int .i64 r3, .int .i64 r4, .int .u8 r5, .bool r6, .int .i64 r7, .int .u8 r8], .int .i64 r9]) ∧ Below w.heap.size w w' := by
 have hu24 := Tryd.underlying24
 have HB := Az (Below.refl w.heap.size w)
 have H : ((clock_may.f k a0_0 a0_1 a0_2 a0_3 a0_4 a0_5 a0_6 a0_7 a2).bind fun t132 => (if t132 = true then (clock_Start.j0 k a1 a2 (decide (a1 ≥ 2)) a0_0 a0_1 a0_2 a0_3 a0_4 a0_5 a0_6 a0_7) else (clock_Start.j0 k a1 a2 (!t132) a0_0 a0_1 a0_2 a0_3 a0_4 a0_5 a0_6 a0_7))) = some (r1, r2, r3, r4, r5, r6, r7, r8, r9) := h
 clear h
 replace H := Option.bind_eq_some_iff.mp H
 obtain ⟨t132, A40, H⟩ := H
 replace H : (if t132 = true then (clock_Start.j0 k a1 a2 (decide (a1 ≥ 2)) a0_0 a0_1 a0_2 a0_3 a0_4 a0_5 a0_6 a0_7) else (clock_Start.j0 k a1 a2 (!t132) a0_0 a0_1 a0_2 a0_3 a0_4 a0_5 a0_6 a0_7)) = some (r1, r2, r3, r4, r5, r6, r7, r8, r9) := H
 have A4 := Az A40
 clear A40
 have HC5 := Az H
 clear H
 go_enter Tryd.func19, Tryd.ntmps19
 go_upto_if 8 with (first | ((with_reducible refine gate_dst (N := 3) rfl ?_); refine box_event ?hg (N := 3) ?hd (cs := #[.int .i64 a0_0, .int .i64 a0_1, .int .i64 a0_2, .int .i64 a0_3, .int .u8 a0_4, .bool a0_5, .int .i64 a0_6, .int .u8 a0_7]) (t := 24) ?hr ?_; (case hd => rfl); (case hg => rfl); (case hr => first | (go_simp; done) | (go_simp; rfl)); intro gb130 hg w6 hbox hb; have n0_ := Az (below_step (low HB) hb); have n1_ := Az (hbox); have n2_ := Az ((by rw [hg]; exact (below_size (low HB)) : w.heap.size ≤ gb130)); have n3_ := Az ((by rw [hg]; exact (below_size (low HB)) : w.heap.size ≤ gb130)); clear HB; have HB := n0_; have BK130 := n1_; have GW130 := n2_; have GE130 := n3_; clear n0_ n1_ n2_ n3_; clear hb hbox hg) | ((with_reducible refine gate_dst (N := 6) rfl ?_); refine box_event ?hg (N := 6) ?hd (cs := #[.int .i64 0, .int .i64 0, .int .i64 0, .int .i64 0, .int .u8 0, .bool false, .int .i64 0, .int .u8 0]) (t := 24) ?hr ?_; (case hd => rfl); (case hg => rfl); (case hr => first | (go_simp; done) | (go_simp; rfl)); intro gb131 hg w7 hbox hb; have n0_ := Az (blk_below (g := gb130) (o := .cells #[.int .i64 a0_0, .int .i64 a0_1, .int .i64 a0_2, .int .i64 a0_3, .int .u8 a0_4, .bool a0_5, .int .i64 a0_6, .int .u8 a0_7] 24 (0, 0)) of_lies hb); have n1_ := Az (below_step (low HB) hb); have n2_ := Az (hbox); have n3_ := Az ((by rw [hg]; exact (below_size (low HB)) : w.heap.size ≤ gb131)); have n4_ := Az ((by rw [hg]; exact (below_size (low HB)) : w.heap.size ≤ gb131)); have n5_ := Az ((by rw [hg]; exact Nat.ne_of_lt (blk_lt (g := gb130) (o := .cells #[.int .i64 a0_0, .int .i64 a0_1, .int .i64 a0_2, .int .i64 a0_3, .int .u8 a0_4, .bool a0_5, .int .i64 a0_6, .int .u8 a0_7] 24 (0, 0)) of_lies) : gb130 ≠ gb131)); have n6_ := Az ((by rw [hg]; exact Nat.ne_of_gt (blk_lt (g := gb130) (o := .cells #[.int .i64 a0_0, .int .i64 a0_1, .int .i64 a0_2, .int .i64 a0_3, .int .u8 a0_4, .bool a0_5, .int .i64 a0_6, .int .u8 a0_7] 24 (0, 0)) of_lies) : gb131 ≠ gb130)); clear BK130; clear HB; have BK130 := n0_; have HB := n1_; have BK131 := n2_; have GW131 := n3_; have GE131 := n4_; have NB130_131 := n5_; have NB131_130 := n6_; clear n0_ n1_ n2_ n3_ n4_ n5_ n6_; clear hb hbox hg; have hnb8 := NB130_131.out; have hnc8 := NB131_130.out; obtain ⟨hcz9_0, hcz9_1, hcz9_2, hcz9_3, hcz9_4, hcz9_5, hcz9_6, hcz9_7, hfz9_0, hfz9_1, hfz9_2, hfz9_3, hfz9_4, hfz9_5, hfz9_6, hfz9_7⟩ := cells8 BK130.out) | ((with_reducible refine gate_callee (f := 53) rfl ?_); refine goesL_ (some 11) rfl rfl Tryd.func53 (by kernel_rfl) rfl #[.agg #[.int .i64 a0_0, .int .i64 a0_1, .int .i64 a0_2, .int .i64 a0_3, .int .u8 a0_4, .bool a0_5, .int .i64 a0_6, .int .u8 a0_7], .int .i64 a2] rfl mapx ?_; (with_reducible refine (clock_may.calls k a0_0 a0_1 a0_2 a0_3 a0_4 a0_5 a0_6 a0_7 a2 t132 _ A4.out).mono ?_); rintro e w10 ⟨rfl, hb⟩; refine ⟨_, rfl, ?_⟩; have n0_ := Az (blk_below (g := gb130) (o := .cells #[.int .i64 a0_0, .int .i64 a0_1, .int .i64 a0_2, .int .i64 a0_3, .int .u8 a0_4, .bool a0_5, .int .i64 a0_6, .int .u8 a0_7] 24 (0, 0)) of_lies hb); have n1_ := Az (blk_below (g := gb131) (o := .cells #[.int .i64 0, .int .i64 0, .int .i64 0, .int .i64 0, .int .u8 0, .bool false, .int .i64 0, .int .u8 0] 24 (0, 0)) of_lies hb); have n2_ := Az (below_step (low HB) hb); clear BK130; clear BK131; clear HB; have BK130 := n0_; have BK131 := n1_; have HB := n2_; clear n0_ n1_ n2_; (try clear hb); (try clear hb2); (try clear hk); (try clear hi)))
 (try simp only [Act.put, List.setIfInBounds_toArray, List.set_cons_zero, List.set_cons_succ])
 go_cut [8] (fun v8 wc => ∃ (kq : Nat) (x8_4 : Bool), v8 = .bool x8_4 ∧ Aside0 (clock_Start.j0 kq a1 a2 x8_4 a0_0 a0_1 a0_2 a0_3 a0_4 a0_5 a0_6 a0_7 = some (r1, r2, r3, r4, r5, r6, r7, r8, r9)) ∧ Aside0 (kq ≤ k) ∧ Aside0 (wc.heap[gb130]? = some (.cells #[.int .i64 a0_0, .int .i64 a0_1, .int .i64 a0_2, .int .i64 a0_3, .int .u8 a0_4, .bool a0_5, .int .i64 a0_6, .int .u8 a0_7] 24 (0, 0))) ∧ Aside0 (wc.heap[gb131]? = some (.cells #[.int .i64 0, .int .i64 0, .int .i64 0, .int .i64 0, .int .u8 0, .bool false, .int .i64 0, .int .u8 0] 24 (0, 0))) ∧ Aside0 (Below w.heap.size w wc))
 case first =>
  have H := HC5.out
  clear HC5
  by_cases c11 : t132 = true
  ·
   subst c11
   have H1 : (clock_Start.j0 k a1 a2 (decide (a1 ≥ 2)) a0_0 a0_1 a0_2 a0_3 a0_4 a0_5 a0_6 a0_7) = some (r1, r2, r3, r4, r5, r6, r7, r8, r9) := by rw [if_pos rfl] at H; exact H
   clear H
   have H := H1
   clear H1
   have H' := Az H
   clear H
   go_wp2
   go_meet
   case rel => exact ⟨_, (decide (a1 ≥ 2)), eqx, H', ⟨by first | omega | exact Nat.le_refl _⟩, ⟨of_lies⟩, ⟨of_lies⟩, ⟨low HB⟩⟩
  ·
   replace c11 := Bool.eq_false_iff.mpr c11
   subst c11
   have H1 : (clock_Start.j0 k a1 a2 (!false) a0_0 a0_1 a0_2 a0_3 a0_4 a0_5 a0_6 a0_7) = some (r1, r2, r3, r4, r5, r6, r7, r8, r9) := by rw [if_neg (show ¬ (false = true) by decide)] at H; exact H
   clear H
   have H := H1
   clear H1
   have H' := Az H
   clear H
   go_wp2
   go_meet
   case rel => exact ⟨_, (!false), eqx, H', ⟨by first | omega | exact Nat.le_refl _⟩, ⟨of_lies⟩, ⟨of_lies⟩, ⟨low HB⟩⟩
 case rest =>
  clear HC5
  try clear c1
  try clear p2
  try clear c5
  try clear c8
  try clear c11
  try clear hcz9_0
  try clear hcz9_1
  try clear hcz9_2
  try clear hcz9_3
  try clear hcz9_4
  try clear hcz9_5
  try clear hcz9_6
  try clear hcz9_7
  try clear hfz9_0
  try clear hfz9_1
  try clear hfz9_2
  try clear hfz9_3
  try clear hfz9_4
  try clear hfz9_5
  try clear hfz9_6
  try clear hfz9_7
  obtain ⟨kq, x8_4, rfl, HA, HJ4, BK130, BK131, HB⟩ := hcut
  cases kq with
  | zero => exact absurd HA.out (by simp [clock_Start.j0])
  | succ kj4 =>
   have H := HA.out
   clear HA
   simp only [clock_Start.j0] at H
   by_cases c12 : x8_4 = true
   ·
    subst c12
    have H1 : (some (0, 0, 0, 0, 0, false, 0, 0, 2)) = some (r1, r2, r3, r4, r5, r6, r7, r8, r9) := by rw [if_pos rfl] at H; exact H
    clear H
    have H := H1
    clear H1
    simp only [Option.some.injEq, Prod.mk.injEq] at H
    obtain ⟨rfl, rfl, rfl, rfl, rfl, rfl, rfl, rfl, rfl⟩ := H
    have hnb13 := NB131_130.out
    have hnc13 := NB130_131.out
    have hcz14_0 : wc.cell? ⟨gb131, 0, none⟩ = some (.int .i64 0) := (blk_cell BK131.out 0).trans rfl
    have hcz14_1 : wc.cell? ⟨gb131, 1, none⟩ = some (.int .i64 0) := (blk_cell BK131.out 1).trans rfl
    have hcz14_2 : wc.cell? ⟨gb131, 2, none⟩ = some (.int .i64 0) := (blk_cell BK131.out 2).trans rfl
    have hcz14_3 : wc.cell? ⟨gb131, 3, none⟩ = some (.int .i64 0) := (blk_cell BK131.out 3).trans rfl
    have hcz14_4 : wc.cell? ⟨gb131, 4, none⟩ = some (.int .u8 0) := (blk_cell BK131.out 4).trans rfl
    have hcz14_5 : wc.cell? ⟨gb131, 5, none⟩ = some (.bool false) := (blk_cell BK131.out 5).trans rfl
    have hcz14_6 : wc.cell? ⟨gb131, 6, none⟩ = some (.int .i64 0) := (blk_cell BK131.out 6).trans rfl
    have hcz14_7 : wc.cell? ⟨gb131, 7, none⟩ = some (.int .u8 0) := (blk_cell BK131.out 7).trans rfl
    have hfz14_0 := blk_frozen BK131.out 0
    have hfz14_1 := blk_frozen BK131.out 1
    have hfz14_2 := blk_frozen BK131.out 2
    have hfz14_3 := blk_frozen BK131.out 3
    have hfz14_4 := blk_frozen BK131.out 4
    have hfz14_5 := blk_frozen BK131.out 5
    have hfz14_6 := blk_frozen BK131.out 6
    have hfz14_7 := blk_frozen BK131.out 7
    go_wp2
    refine bodyPost_ret (results_ct rfl _ _ gb131 24 #[.int .i64 0, .int .i64 0, .int .i64 0, .int .i64 0, .int .u8 0, .bool false, .int .i64 0, .int .u8 0] (0, 0) _ rfl (by (with_reducible repeat (first | refine bN ?_ _ | refine bD ?_ | refine bA ?_ _)); refine blk_put (cs := #[.int .i64 0, .int .i64 0, .int .i64 0, .int .i64 0, .int .u8 0, .bool false, .int .i64 0, .int .u8 0]) ?_ 7 _ rfl; (with_reducible repeat (first | refine bN ?_ _ | refine bD ?_ | refine bA ?_ _)); refine blk_put (cs := #[.int .i64 0, .int .i64 0, .int .i64 0, .int .i64 0, .int .u8 0, .bool false, .int .i64 0, .int .u8 0]) ?_ 6 _ rfl; (with_reducible repeat (first | refine bN ?_ _ | refine bD ?_ | refine bA ?_ _)); refine blk_put (cs := #[.int .i64 0, .int .i64 0, .int .i64 0, .int .i64 0, .int .u8 0, .bool false, .int .i64 0, .int .u8 0]) ?_ 5 _ rfl; (with_reducible repeat (first | refine bN ?_ _ | refine bD ?_ | refine bA ?_ _)); refine blk_put (cs := #[.int .i64 0, .int .i64 0, .int .i64 0, .int .i64 0, .int .u8 0, .bool false, .int .i64 0, .int .u8 0]) ?_ 4 _ rfl; (with_reducible repeat (first | refine bN ?_ _ | refine bD ?_ | refine bA ?_ _)); refine blk_put (cs := #[.int .i64 0, .int .i64 0, .int .i64 0, .int .i64 0, .int .u8 0, .bool false, .int .i64 0, .int .u8 0]) ?_ 3 _ rfl; (with_reducible repeat (first | refine bN ?_ _ | refine bD ?_ | refine bA ?_ _)); refine blk_put (cs := #[.int .i64 0, .int .i64 0, .int .i64 0, .int .i64 0, .int .u8 0, .bool false, .int .i64 0, .int .u8 0]) ?_ 2 _ rfl; (with_reducible repeat (first | refine bN ?_ _ | refine bD ?_ | refine bA ?_ _)); refine blk_put (cs := #[.int .i64 0, .int .i64 0, .int .i64 0, .int .i64 0, .int .u8 0, .bool false, .int .i64 0, .int .u8 0]) ?_ 1 _ rfl; (with_reducible repeat (first | refine bN ?_ _ | refine bD ?_ | refine bA ?_ _)); refine blk_put (cs := #[.int .i64 0, .int .i64 0, .int .i64 0, .int .i64 0, .int .u8 0, .bool false, .int .i64 0, .int .u8 0]) ?_ 0 _ rfl; exact of_lies) Tryd.underlying24 rfl (by kernel_rfl)) rfl ?_
    exact ⟨by first | rfl | (simp [errW_none, errW_some] <;> rfl) | (simp [*, errW_none, errW_some] <;> rfl), low HB⟩
   ·
    replace c12 := Bool.eq_false_iff.mpr c12
    subst c12
    have H1 : (if a0_5 = true then (some (0, 0, 0, 0, 0, false, 0, 0, 11)) else (if a0_7 = 2 then (some (a0_0, a0_1, a0_2, a0_3, a1, true, a2, a0_7, 0)) else (some (0, 0, 0, 0, 0, false, 0, 0, 11)))) = some (r1, r2, r3, r4, r5, r6, r7, r8, r9) := by rw [if_neg (show ¬ (false = true) by decide)] at H; exact H
    clear H
    have H := H1
    clear H1
    by_cases c15 : a0_5 = true
    ·
     subst c15
     have H1 : (some (0, 0, 0, 0, 0, false, 0, 0, 11)) = some (r1, r2, r3, r4, r5, r6, r7, r8, r9) := by rw [if_pos rfl] at H; exact H
     clear H
     have H := H1
     clear H1
     simp only [Option.some.injEq, Prod.mk.injEq] at H
     obtain ⟨rfl, rfl, rfl, rfl, rfl, rfl, rfl, rfl, rfl⟩ := H
     have hnb16 := NB130_131.out
     have hnc16 := NB131_130.out
     have hcz17_0 : wc.cell? ⟨gb130, 0, none⟩ = some (.int .i64 a0_0) := (blk_cell BK130.out 0).trans rfl
     have hcz17_1 : wc.cell? ⟨gb130, 1, none⟩ = some (.int .i64 a0_1) := (blk_cell BK130.out 1).trans rfl
     have hcz17_2 : wc.cell? ⟨gb130, 2, none⟩ = some (.int .i64 a0_2) := (blk_cell BK130.out 2).trans rfl
     have hcz17_3 : wc.cell? ⟨gb130, 3, none⟩ = some (.int .i64 a0_3) := (blk_cell BK130.out 3).trans rfl
     have hcz17_4 : wc.cell? ⟨gb130, 4, none⟩ = some (.int .u8 a0_4) := (blk_cell BK130.out 4).trans rfl
     have hcz17_5 : wc.cell? ⟨gb130, 5, none⟩ = some (.bool true) := (blk_cell BK130.out 5).trans rfl
     have hcz17_6 : wc.cell? ⟨gb130, 6, none⟩ = some (.int .i64 a0_6) := (blk_cell BK130.out 6).trans rfl
     have hcz17_7 : wc.cell? ⟨gb130, 7, none⟩ = some (.int .u8 a0_7) := (blk_cell BK130.out 7).trans rfl
     have hfz17_0 := blk_frozen BK130.out 0
     have hfz17_1 := blk_frozen BK130.out 1
     have hfz17_2 := blk_frozen BK130.out 2
     have hfz17_3 := blk_frozen BK130.out 3
     have hfz17_4 := blk_frozen BK130.out 4
     have hfz17_5 := blk_frozen BK130.out 5
     have hfz17_6 := blk_frozen BK130.out 6
     have hfz17_7 := blk_frozen BK130.out 7
     have hcz18_0 : wc.cell? ⟨gb131, 0, none⟩ = some (.int .i64 0) := (blk_cell BK131.out 0).trans rfl
     have hcz18_1 : wc.cell? ⟨gb131, 1, none⟩ = some (.int .i64 0) := (blk_cell BK131.out 1).trans rfl
     have hcz18_2 : wc.cell? ⟨gb131, 2, none⟩ = some (.int .i64 0) := (blk_cell BK131.out 2).trans rfl
     have hcz18_3 : wc.cell? ⟨gb131, 3, none⟩ = some (.int .i64 0) := (blk_cell BK131.out 3).trans rfl
     have hcz18_4 : wc.cell? ⟨gb131, 4, none⟩ = some (.int .u8 0) := (blk_cell BK131.out 4).trans rfl
     have hcz18_5 : wc.cell? ⟨gb131, 5, none⟩ = some (.bool false) := (blk_cell BK131.out 5).trans rfl
     have hcz18_6 : wc.cell? ⟨gb131, 6, none⟩ = some (.int .i64 0) := (blk_cell BK131.out 6).trans rfl
     have hcz18_7 : wc.cell? ⟨gb131, 7, none⟩ = some (.int .u8 0) := (blk_cell BK131.out 7).trans rfl
     have hfz18_0 := blk_frozen BK131.out 0
     have hfz18_1 := blk_frozen BK131.out 1
     have hfz18_2 := blk_frozen BK131.out 2
     have hfz18_3 := blk_frozen BK131.out 3
     have hfz18_4 := blk_frozen BK131.out 4
     have hfz18_5 := blk_frozen BK131.out 5
     have hfz18_6 := blk_frozen BK131.out 6
     have hfz18_7 := blk_frozen BK131.out 7
     go_wp2
     refine bodyPost_ret (results_ct rfl _ _ gb131 24 #[.int .i64 0, .int .i64 0, .int .i64 0, .int .i64 0, .int .u8 0, .bool false, .int .i64 0, .int .u8 0] (0, 0) _ rfl (by (with_reducible repeat (first | refine bN ?_ _ | refine bD ?_ | refine bA ?_ _)); refine blk_put (cs := #[.int .i64 0, .int .i64 0, .int .i64 0, .int .i64 0, .int .u8 0, .bool false, .int .i64 0, .int .u8 0]) ?_ 7 _ rfl; (with_reducible repeat (first | refine bN ?_ _ | refine bD ?_ | refine bA ?_ _)); refine blk_put (cs := #[.int .i64 0, .int .i64 0, .int .i64 0, .int .i64 0, .int .u8 0, .bool false, .int .i64 0, .int .u8 0]) ?_ 6 _ rfl; (with_reducible repeat (first | refine bN ?_ _ | refine bD ?_ | refine bA ?_ _)); refine blk_put (cs := #[.int .i64 0, .int .i64 0, .int .i64 0, .int .i64 0, .int .u8 0, .bool false, .int .i64 0, .int .u8 0]) ?_ 5 _ rfl; (with_reducible repeat (first | refine bN ?_ _ | refine bD ?_ | refine bA ?_ _)); refine blk_put (cs := #[.int .i64 0, .int .i64 0, .int .i64 0, .int .i64 0, .int .u8 0, .bool false, .int .i64 0, .int .u8 0]) ?_ 4 _ rfl; (with_reducible repeat (first | refine bN ?_ _ | refine bD ?_ | refine bA ?_ _)); refine blk_put (cs := #[.int .i64 0, .int .i64 0, .int .i64 0, .int .i64 0, .int .u8 0, .bool false, .int .i64 0, .int .u8 0]) ?_ 3 _ rfl; (with_reducible repeat (first | refine bN ?_ _ | refine bD ?_ | refine bA ?_ _)); refine blk_put (cs := #[.int .i64 0, .int .i64 0, .int .i64 0, .int .i64 0, .int .u8 0, .bool false, .int .i64 0, .int .u8 0]) ?_ 2 _ rfl; (with_reducible repeat (first | refine bN ?_ _ | refine bD ?_ | refine bA ?_ _)); refine blk_put (cs := #[.int .i64 0, .int .i64 0, .int .i64 0, .int .i64 0, .int .u8 0, .bool false, .int .i64 0, .int .u8 0]) ?_ 1 _ rfl; (with_reducible repeat (first | refine bN ?_ _ | refine bD ?_ | refine bA ?_ _)); refine blk_put (cs := #[.int .i64 0, .int .i64 0, .int .i64 0, .int .i64 0, .int .u8 0, .bool false, .int .i64 0, .int .u8 0]) ?_ 0 _ rfl; exact of_lies) Tryd.underlying24 rfl (by kernel_rfl)) rfl ?_
     exact ⟨by first | rfl | (simp [errW_none, errW_some] <;> rfl) | (simp [*, errW_none, errW_some] <;> rfl), low HB⟩
    ·
     replace c15 := Bool.eq_false_iff.mpr c15
     subst c15
     have H1 : (if a0_7 = 2 then (some (a0_0, a0_1, a0_2, a0_3, a1, true, a2, a0_7, 0)) else (some (0, 0, 0, 0, 0, false, 0, 0, 11))) = some (r1, r2, r3, r4, r5, r6, r7, r8, r9) := by rw [if_neg (show ¬ (false = true) by decide)] at H; exact H
     clear H
     have H := H1
     clear H1
     by_cases c19 : a0_7 = 2
     ·
      rw [if_pos c19] at H
      have c19b0 : (a0_7 == 2) = true := beq_iff_eq.mpr c19
      have c19b1 : (a0_7 != 2) = false := bne_eq_false_iff_eq.mpr c19
      clear c19
      simp only [Option.some.injEq, Prod.mk.injEq] at H
      obtain ⟨rfl, rfl, rfl, rfl, rfl, rfl, rfl, rfl, rfl⟩ := H
      have hnb20 := NB130_131.out
      have hnc20 := NB131_130.out
      have hcz21_0 : wc.cell? ⟨gb130, 0, none⟩ = some (.int .i64 a0_0) := (blk_cell BK130.out 0).trans rfl
      have hcz21_1 : wc.cell? ⟨gb130, 1, none⟩ = some (.int .i64 a0_1) := (blk_cell BK130.out 1).trans rfl
      have hcz21_2 : wc.cell? ⟨gb130, 2, none⟩ = some (.int .i64 a0_2) := (blk_cell BK130.out 2).trans rfl
      have hcz21_3 : wc.cell? ⟨gb130, 3, none⟩ = some (.int .i64 a0_3) := (blk_cell BK130.out 3).trans rfl
      have hcz21_4 : wc.cell? ⟨gb130, 4, none⟩ = some (.int .u8 a0_4) := (blk_cell BK130.out 4).trans rfl
      have hcz21_5 : wc.cell? ⟨gb130, 5, none⟩ = some (.bool false) := (blk_cell BK130.out 5).trans rfl
      have hcz21_6 : wc.cell? ⟨gb130, 6, none⟩ = some (.int .i64 a0_6) := (blk_cell BK130.out 6).trans rfl
      have hcz21_7 : wc.cell? ⟨gb130, 7, none⟩ = some (.int .u8 a0_7) := (blk_cell BK130.out 7).trans rfl
      have hfz21_0 := blk_frozen BK130.out 0
      have hfz21_1 := blk_frozen BK130.out 1
      have hfz21_2 := blk_frozen BK130.out 2
      have hfz21_3 := blk_frozen BK130.out 3
      have hfz21_4 := blk_frozen BK130.out 4
      have hfz21_5 := blk_frozen BK130.out 5
      have hfz21_6 := blk_frozen BK130.out 6
      have hfz21_7 := blk_frozen BK130.out 7
      have hcz22_0 : wc.cell? ⟨gb131, 0, none⟩ = some (.int .i64 0) := (blk_cell BK131.out 0).trans rfl
      have hcz22_1 : wc.cell? ⟨gb131, 1, none⟩ = some (.int .i64 0) := (blk_cell BK131.out 1).trans rfl
      have hcz22_2 : wc.cell? ⟨gb131, 2, none⟩ = some (.int .i64 0) := (blk_cell BK131.out 2).trans rfl
      have hcz22_3 : wc.cell? ⟨gb131, 3, none⟩ = some (.int .i64 0) := (blk_cell BK131.out 3).trans rfl
      have hcz22_4 : wc.cell? ⟨gb131, 4, none⟩ = some (.int .u8 0) := (blk_cell BK131.out 4).trans rfl
      have hcz22_5 : wc.cell? ⟨gb131, 5, none⟩ = some (.bool false) := (blk_cell BK131.out 5).trans rfl
      have hcz22_6 : wc.cell? ⟨gb131, 6, none⟩ = some (.int .i64 0) := (blk_cell BK131.out 6).trans rfl
      have hcz22_7 : wc.cell? ⟨gb131, 7, none⟩ = some (.int .u8 0) := (blk_cell BK131.out 7).trans rfl
      have hfz22_0 := blk_frozen BK131.out 0
      have hfz22_1 := blk_frozen BK131.out 1
      have hfz22_2 := blk_frozen BK131.out 2
      have hfz22_3 := blk_frozen BK131.out 3
      have hfz22_4 := blk_frozen BK131.out 4
      have hfz22_5 := blk_frozen BK131.out 5
      have hfz22_6 := blk_frozen BK131.out 6
      have hfz22_7 := blk_frozen BK131.out 7
      go_wp2
      refine bodyPost_ret (results_ct rfl _ _ gb131 24 #[.int .i64 a0_0, .int .i64 a0_1, .int .i64 a0_2, .int .i64 a0_3, .int .u8 a1, .bool true, .int .i64 a2, .int .u8 a0_7] (0, 0) _ rfl (by (with_reducible repeat (first | refine bN ?_ _ | refine bD ?_ | refine bA ?_ _)); refine blk_put (cs := #[.int .i64 a0_0, .int .i64 a0_1, .int .i64 a0_2, .int .i64 a0_3, .int .u8 a1, .bool true, .int .i64 a2, .int .u8 0]) ?_ 7 _ rfl; (with_reducible repeat (first | refine bN ?_ _ | refine bD ?_ | refine bA ?_ _)); refine blk_put (cs := #[.int .i64 a0_0, .int .i64 a0_1, .int .i64 a0_2, .int .i64 a0_3, .int .u8 a1, .bool true, .int .i64 0, .int .u8 0]) ?_ 6 _ rfl; (with_reducible repeat (first | refine bN ?_ _ | refine bD ?_ | refine bA ?_ _)); refine blk_put (cs := #[.int .i64 a0_0, .int .i64 a0_1, .int .i64 a0_2, .int .i64 a0_3, .int .u8 a1, .bool false, .int .i64 0, .int .u8 0]) ?_ 5 _ rfl; (with_reducible repeat (first | refine bN ?_ _ | refine bD ?_ | refine bA ?_ _)); refine blk_put (cs := #[.int .i64 a0_0, .int .i64 a0_1, .int .i64 a0_2, .int .i64 a0_3, .int .u8 0, .bool false, .int .i64 0, .int .u8 0]) ?_ 4 _ rfl; (with_reducible repeat (first | refine bN ?_ _ | refine bD ?_ | refine bA ?_ _)); refine blk_put (cs := #[.int .i64 a0_0, .int .i64 a0_1, .int .i64 a0_2, .int .i64 0, .int .u8 0, .bool false, .int .i64 0, .int .u8 0]) ?_ 3 _ rfl; (with_reducible repeat (first | refine bN ?_ _ | refine bD ?_ | refine bA ?_ _)); refine blk_put (cs := #[.int .i64 a0_0, .int .i64 a0_1, .int .i64 0, .int .i64 0, .int .u8 0, .bool false, .int .i64 0, .int .u8 0]) ?_ 2 _ rfl; (with_reducible repeat (first | refine bN ?_ _ | refine bD ?_ | refine bA ?_ _)); refine blk_put (cs := #[.int .i64 a0_0, .int .i64 0, .int .i64 0, .int .i64 0, .int .u8 0, .bool false, .int .i64 0, .int .u8 0]) ?_ 1 _ rfl; (with_reducible repeat (first | refine bN ?_ _ | refine bD ?_ | refine bA ?_ _)); refine blk_put (cs := #[.int .i64 0, .int .i64 0, .int .i64 0, .int .i64 0, .int .u8 0, .bool false, .int .i64 0, .int .u8 0]) ?_ 0 _ rfl; (with_reducible repeat (first | refine bN ?_ _ | refine bD ?_ | refine bA ?_ _)); refine blk_far ?_ NB131_130.out _; (with_reducible repeat (first | refine bN ?_ _ | refine bD ?_ | refine bA ?_ _)); refine blk_far ?_ NB131_130.out _; (with_reducible repeat (first | refine bN ?_ _ | refine bD ?_ | refine bA ?_ _)); refine blk_far ?_ NB131_130.out _; exact of_lies) Tryd.underlying24 rfl (by kernel_rfl)) rfl ?_
      exact ⟨by first | rfl | (simp [errW_none, errW_some] <;> rfl) | (simp [*, errW_none, errW_some] <;> rfl), low HB⟩
     ·
      rw [if_neg c19] at H
      have c19b0 : (a0_7 == 2) = false := beq_eq_false_iff_ne.mpr c19
      have c19b1 : (a0_7 != 2) = true := bne_iff_ne.mpr c19
      simp only [Option.some.injEq, Prod.mk.injEq] at H
      obtain ⟨rfl, rfl, rfl, rfl, rfl, rfl, rfl, rfl, rfl⟩ := H
      have hnb23 := NB130_131.out
      have hnc23 := NB131_130.out
      have hcz24_0 : wc.cell? ⟨gb130, 0, none⟩ = some (.int .i64 a0_0) := (blk_cell BK130.out 0).trans rfl
      have hcz24_1 : wc.cell? ⟨gb130, 1, none⟩ = some (.int .i64 a0_1) := (blk_cell BK130.out 1).trans rfl
      have hcz24_2 : wc.cell? ⟨gb130, 2, none⟩ = some (.int .i64 a0_2) := (blk_cell BK130.out 2).trans rfl
      have hcz24_3 : wc.cell? ⟨gb130, 3, none⟩ = some (.int .i64 a0_3) := (blk_cell BK130.out 3).trans rfl
      have hcz24_4 : wc.cell? ⟨gb130, 4, none⟩ = some (.int .u8 a0_4) := (blk_cell BK130.out 4).trans rfl
      have hcz24_5 : wc.cell? ⟨gb130, 5, none⟩ = some (.bool false) := (blk_cell BK130.out 5).trans rfl
      have hcz24_6 : wc.cell? ⟨gb130, 6, none⟩ = some (.int .i64 a0_6) := (blk_cell BK130.out 6).trans rfl
      have hcz24_7 : wc.cell? ⟨gb130, 7, none⟩ = some (.int .u8 a0_7) := (blk_cell BK130.out 7).trans rfl
      have hfz24_0 := blk_frozen BK130.out 0
      have hfz24_1 := blk_frozen BK130.out 1
      have hfz24_2 := blk_frozen BK130.out 2
      have hfz24_3 := blk_frozen BK130.out 3
      have hfz24_4 := blk_frozen BK130.out 4
      have hfz24_5 := blk_frozen BK130.out 5
      have hfz24_6 := blk_frozen BK130.out 6
      have hfz24_7 := blk_frozen BK130.out 7
      have hcz25_0 : wc.cell? ⟨gb131, 0, none⟩ = some (.int .i64 0) := (blk_cell BK131.out 0).trans rfl
      have hcz25_1 : wc.cell? ⟨gb131, 1, none⟩ = some (.int .i64 0) := (blk_cell BK131.out 1).trans rfl
      have hcz25_2 : wc.cell? ⟨gb131, 2, none⟩ = some (.int .i64 0) := (blk_cell BK131.out 2).trans rfl
      have hcz25_3 : wc.cell? ⟨gb131, 3, none⟩ = some (.int .i64 0) := (blk_cell BK131.out 3).trans rfl
      have hcz25_4 : wc.cell? ⟨gb131, 4, none⟩ = some (.int .u8 0) := (blk_cell BK131.out 4).trans rfl
      have hcz25_5 : wc.cell? ⟨gb131, 5, none⟩ = some (.bool false) := (blk_cell BK131.out 5).trans rfl
      have hcz25_6 : wc.cell? ⟨gb131, 6, none⟩ = some (.int .i64 0) := (blk_cell BK131.out 6).trans rfl
      have hcz25_7 : wc.cell? ⟨gb131, 7, none⟩ = some (.int .u8 0) := (blk_cell BK131.out 7).trans rfl
      have hfz25_0 := blk_frozen BK131.out 0
      have hfz25_1 := blk_frozen BK131.out 1
      have hfz25_2 := blk_frozen BK131.out 2
      have hfz25_3 := blk_frozen BK131.out 3
      have hfz25_4 := blk_frozen BK131.out 4
      have hfz25_5 := blk_frozen BK131.out 5
      have hfz25_6 := blk_frozen BK131.out 6
      have hfz25_7 := blk_frozen BK131.out 7
      go_wp2
      refine bodyPost_ret (results_ct rfl _ _ gb131 24 #[.int .i64 0, .int .i64 0, .int .i64 0, .int .i64 0, .int .u8 0, .bool false, .int .i64 0, .int .u8 0] (0, 0) _ rfl (by (with_reducible repeat (first | refine bN ?_ _ | refine bD ?_ | refine bA ?_ _)); refine blk_put (cs := #[.int .i64 0, .int .i64 0, .int .i64 0, .int .i64 0, .int .u8 0, .bool false, .int .i64 0, .int .u8 0]) ?_ 7 _ rfl; (with_reducible repeat (first | refine bN ?_ _ | refine bD ?_ | refine bA ?_ _)); refine blk_put (cs := #[.int .i64 0, .int .i64 0, .int .i64 0, .int .i64 0, .int .u8 0, .bool false, .int .i64 0, .int .u8 0]) ?_ 6 _ rfl; (with_reducible repeat (first | refine bN ?_ _ | refine bD ?_ | refine bA ?_ _)); refine blk_put (cs := #[.int .i64 0, .int .i64 0, .int .i64 0, .int .i64 0, .int .u8 0, .bool false, .int .i64 0, .int .u8 0]) ?_ 5 _ rfl; (with_reducible repeat (first | refine bN ?_ _ | refine bD ?_ | refine bA ?_ _)); refine blk_put (cs := #[.int .i64 0, .int .i64 0, .int .i64 0, .int .i64 0, .int .u8 0, .bool false, .int .i64 0, .int .u8 0]) ?_ 4 _ rfl; (with_reducible repeat (first | refine bN ?_ _ | refine bD ?_ | refine bA ?_ _)); refine blk_put (cs := #[.int .i64 0, .int .i64 0, .int .i64 0, .int .i64 0, .int .u8 0, .bool false, .int .i64 0, .int .u8 0]) ?_ 3 _ rfl; (with_reducible repeat (first | refine bN ?_ _ | refine bD ?_ | refine bA ?_ _)); refine blk_put (cs := #[.int .i64 0, .int .i64 0, .int .i64 0, .int .i64 0, .int .u8 0, .bool false, .int .i64 0, .int .u8 0]) ?_ 2 _ rfl; (with_reducible repeat (first | refine bN ?_ _ | refine bD ?_ | refine bA ?_ _)); refine blk_put (cs := #[.int .i64 0, .int .i64 0, .int .i64 0, .int .i64 0, .int .u8 0, .bool false, .int .i64 0, .int .u8 0]) ?_ 1 _ rfl; (with_reducible repeat (first | refine bN ?_ _ | refine bD ?_ | refine bA ?_ _)); refine blk_put (cs := #[.int .i64 0, .int .i64 0, .int .i64 0, .int .i64 0, .int .u8 0, .bool false, .int .i64 0, .int .u8 0]) ?_ 0 _ rfl; exact of_lies) Tryd.underlying24 rfl (by kernel_rfl)) rfl ?_
      exact ⟨by first | rfl | (simp [errW_none, errW_some] <;> rfl) | (simp [*, errW_none, errW_some] <;> rfl), low HB⟩
end Go.Proofs.YtcdcpnhlmgmnkaaDoor.Pclk
end
section
namespace Go.Proofs.YtcdcpnhlmgmnkaaDoor.Pclk
open Go.RowKit Go.Proofs.YtcdcpnhlmgmnkaaDoor.Base Go.Proofs.YtcdcpnhlmgmnkaaDoorW.PrintWords Go.Proofs.YtcdcpnhlmgmnkaaDoorW.PrintLast Go.Proofs.YtcdcpnhlmgmnkaaDoorW.PrintMore
attribute [local go_sem] max2_int min2_int max_two min_two max_three min_three max_four min_four   -- for this text's walks alone
set_option linter.unusedVariables false
set_option linter.unusedSimpArgs false
def clock_When.j0 : Nat → Bool → Int → Int → Int → Int → Int → Bool → Int → Int → Option (Int × Bool)
 | 0, _, _, _, _, _, _, _, _, _ => none
 | k + 1, x12, x138000, x138001, x138002, x138003, x138004, x138005, x138006, x138007 => if x12 = true then (some (0, false)) else ((clock_room.f x138000 x138001 x138002 x138003 x138004 x138005 x138006 x138007).bind fun t139 => ((clock_within.f (wrap64 ((wrap64 (x138006 + t139)) + 1))).bind fun t140 => (if t140 = true then (some (wrap64 ((wrap64 (x138006 + t139)) + 1), true)) else (some (0, false)))))
def clock_When.f (k : Nat) (a0_0 : Int) (a0_1 : Int) (a0_2 : Int) (a0_3 : Int) (a0_4 : Int) (a0_5 : Bool) (a0_6 : Int) (a0_7 : Int) : Option (Int × Bool) := (clock_May.f k a0_0 a0_1 a0_2 a0_3 a0_4 a0_5 a0_6 a0_7).bind fun t138 => (if t138 = true then (clock_When.j0 k (!a0_5) a0_0 a0_1 a0_2 a0_3 a0_4 a0_5 a0_6 a0_7) else (clock_When.j0 k true a0_0 a0_1 a0_2 a0_3 a0_4 a0_5 a0_6 a0_7))
set_option maxHeartbeats 8000000 in
set_option maxRecDepth 100000 in
theorem clock_When.calls (k : Nat) (a0_0 : Int) (a0_1 : Int) (a0_2 : Int) (a0_3 : Int) (a0_4 : Int) (a0_5 : Bool) (a0_6 : Int) (a0_7 : Int) (r1 : Int) (r2 : Bool) (w : World) (h : clock_When.f k a0_0 a0_1 a0_2 a0_3 a0_4 a0_5 a0_6 a0_7 = some (r1, r2)) :
  Calls Tryd.prog 25 #[.agg #[.int .i64 a0_0, .int .i64 a0_1, .int .i64 a0_2, .int .i64 a0_3, .int .u8 a0_4, .bool a0_5, .int .i64 a0_6, .int .u8 a0_7]] w fun e w' => e = .returned (.tuple #[.int .i64 r1, .bool r2]) ∧ Below w.heap.size w w' := by
 have hu24 := Tryd.underlying24
 have HB := Az (Below.refl w.heap.size w)
 have H : ((clock_May.f k a0_0 a0_1 a0_2 a0_3 a0_4 a0_5 a0_6 a0_7).bind fun t138 => (if t138 = true then (clock_When.j0 k (!a0_5) a0_0 a0_1 a0_2 a0_3 a0_4 a0_5 a0_6 a0_7) else (clock_When.j0 k true a0_0 a0_1 a0_2 a0_3 a0_4 a0_5 a0_6 a0_7))) = some (r1, r2) := h
 clear h
 have HC2 := Az H
 clear H
 go_enter Tryd.func25, Tryd.ntmps25
 go_upto_region 1 with (first | ((with_reducible refine gate_dst (N := 1) rfl ?_); refine box_event ?hg (N := 1) ?hd (cs := #[.int .i64 a0_0, .int .i64 a0_1, .int .i64 a0_2, .int .i64 a0_3, .int .u8 a0_4, .bool a0_5, .int .i64 a0_6, .int .u8 a0_7]) (t := 24) ?hr ?_; (case hd => rfl); (case hg => rfl); (case hr => first | (go_simp; done) | (go_simp; rfl)); intro gb137 hg w3 hbox hb; have n0_ := Az (below_step (low HB) hb); have n1_ := Az (hbox); have n2_ := Az ((by rw [hg]; exact (below_size (low HB)) : w.heap.size ≤ gb137)); have n3_ := Az ((by rw [hg]; exact (below_size (low HB)) : w.heap.size ≤ gb137)); clear HB; have HB := n0_; have BK137 := n1_; have GW137 := n2_; have GE137 := n3_; clear n0_ n1_ n2_ n3_; clear hb hbox hg))
 (try simp only [Act.put, List.setIfInBounds_toArray, List.set_cons_zero, List.set_cons_succ])
 go_cut [12] (fun v12 wc => ∃ (kq : Nat) (x12_1 : Bool), v12 = .bool x12_1 ∧ Aside0 (clock_When.j0 kq x12_1 a0_0 a0_1 a0_2 a0_3 a0_4 a0_5 a0_6 a0_7 = some (r1, r2)) ∧ Aside0 (kq ≤ k) ∧ Aside0 (wc.heap[gb137]? = some (.cells #[.int .i64 a0_0, .int .i64 a0_1, .int .i64 a0_2, .int .i64 a0_3, .int .u8 a0_4, .bool a0_5, .int .i64 a0_6, .int .u8 a0_7] 24 (0, 0))) ∧ Aside0 (Below w.heap.size w wc))
 case first =>
  have H := HC2.out
  clear HC2
  replace H := Option.bind_eq_some_iff.mp H
  obtain ⟨t138, A40, H⟩ := H
  replace H : (if t138 = true then (clock_When.j0 k (!a0_5) a0_0 a0_1 a0_2 a0_3 a0_4 a0_5 a0_6 a0_7) else (clock_When.j0 k true a0_0 a0_1 a0_2 a0_3 a0_4 a0_5 a0_6 a0_7)) = some (r1, r2) := H
  have A4 := Az A40
  clear A40
  by_cases c5 : t138 = true
  ·
   subst c5
   have H1 : (clock_When.j0 k (!a0_5) a0_0 a0_1 a0_2 a0_3 a0_4 a0_5 a0_6 a0_7) = some (r1, r2) := by rw [if_pos rfl] at H; exact H
   clear H
   have H := H1
   clear H1
   have H' := Az H
   clear H
   have hcz6_0 : w3.cell? ⟨gb137, 0, none⟩ = some (.int .i64 a0_0) := (blk_cell BK137.out 0).trans rfl
   have hcz6_1 : w3.cell? ⟨gb137, 1, none⟩ = some (.int .i64 a0_1) := (blk_cell BK137.out 1).trans rfl
   have hcz6_2 : w3.cell? ⟨gb137, 2, none⟩ = some (.int .i64 a0_2) := (blk_cell BK137.out 2).trans rfl
   have hcz6_3 : w3.cell? ⟨gb137, 3, none⟩ = some (.int .i64 a0_3) := (blk_cell BK137.out 3).trans rfl
   have hcz6_4 : w3.cell? ⟨gb137, 4, none⟩ = some (.int .u8 a0_4) := (blk_cell BK137.out 4).trans rfl
   have hcz6_5 : w3.cell? ⟨gb137, 5, none⟩ = some (.bool a0_5) := (blk_cell BK137.out 5).trans rfl
   have hcz6_6 : w3.cell? ⟨gb137, 6, none⟩ = some (.int .i64 a0_6) := (blk_cell BK137.out 6).trans rfl
   have hcz6_7 : w3.cell? ⟨gb137, 7, none⟩ = some (.int .u8 a0_7) := (blk_cell BK137.out 7).trans rfl
   have hfz6_0 := blk_frozen BK137.out 0
   have hfz6_1 := blk_frozen BK137.out 1
   have hfz6_2 := blk_frozen BK137.out 2
   have hfz6_3 := blk_frozen BK137.out 3
   have hfz6_4 := blk_frozen BK137.out 4
   have hfz6_5 := blk_frozen BK137.out 5
   have hfz6_6 := blk_frozen BK137.out 6
   have hfz6_7 := blk_frozen BK137.out 7
   go_wp2_with (first | ((with_reducible refine gate_callee (f := 15) rfl ?_); refine goesL_ (some 6) rfl rfl Tryd.func15 (by kernel_rfl) rfl #[.agg #[.int .i64 a0_0, .int .i64 a0_1, .int .i64 a0_2, .int .i64 a0_3, .int .u8 a0_4, .bool a0_5, .int .i64 a0_6, .int .u8 a0_7]] rfl mapx ?_; (with_reducible refine (clock_May.calls k a0_0 a0_1 a0_2 a0_3 a0_4 a0_5 a0_6 a0_7 true _ A4.out).mono ?_); rintro e w7 ⟨rfl, hb⟩; refine ⟨_, rfl, ?_⟩; have n0_ := Az (blk_below (g := gb137) (o := .cells #[.int .i64 a0_0, .int .i64 a0_1, .int .i64 a0_2, .int .i64 a0_3, .int .u8 a0_4, .bool a0_5, .int .i64 a0_6, .int .u8 a0_7] 24 (0, 0)) of_lies hb); have n1_ := Az (below_step (low HB) hb); clear BK137; clear HB; have BK137 := n0_; have HB := n1_; clear n0_ n1_; (try clear hb); (try clear hb2); (try clear hk); (try clear hi); obtain ⟨hcz8_0, hcz8_1, hcz8_2, hcz8_3, hcz8_4, hcz8_5, hcz8_6, hcz8_7, hfz8_0, hfz8_1, hfz8_2, hfz8_3, hfz8_4, hfz8_5, hfz8_6, hfz8_7⟩ := cells8 BK137.out))
   go_meet
   case rel => exact ⟨_, (!a0_5), eqx, H', ⟨by first | omega | exact Nat.le_refl _⟩, ⟨of_lies⟩, ⟨low HB⟩⟩
  ·
   replace c5 := Bool.eq_false_iff.mpr c5
   subst c5
   have H1 : (clock_When.j0 k true a0_0 a0_1 a0_2 a0_3 a0_4 a0_5 a0_6 a0_7) = some (r1, r2) := by rw [if_neg (show ¬ (false = true) by decide)] at H; exact H
   clear H
   have H := H1
   clear H1
   have H' := Az H
   clear H
   have hcz9_0 : w3.cell? ⟨gb137, 0, none⟩ = some (.int .i64 a0_0) := (blk_cell BK137.out 0).trans rfl
   have hcz9_1 : w3.cell? ⟨gb137, 1, none⟩ = some (.int .i64 a0_1) := (blk_cell BK137.out 1).trans rfl
   have hcz9_2 : w3.cell? ⟨gb137, 2, none⟩ = some (.int .i64 a0_2) := (blk_cell BK137.out 2).trans rfl
   have hcz9_3 : w3.cell? ⟨gb137, 3, none⟩ = some (.int .i64 a0_3) := (blk_cell BK137.out 3).trans rfl
   have hcz9_4 : w3.cell? ⟨gb137, 4, none⟩ = some (.int .u8 a0_4) := (blk_cell BK137.out 4).trans rfl
   have hcz9_5 : w3.cell? ⟨gb137, 5, none⟩ = some (.bool a0_5) := (blk_cell BK137.out 5).trans rfl
   have hcz9_6 : w3.cell? ⟨gb137, 6, none⟩ = some (.int .i64 a0_6) := (blk_cell BK137.out 6).trans rfl
   have hcz9_7 : w3.cell? ⟨gb137, 7, none⟩ = some (.int .u8 a0_7) := (blk_cell BK137.out 7).trans rfl
   have hfz9_0 := blk_frozen BK137.out 0
   have hfz9_1 := blk_frozen BK137.out 1
   have hfz9_2 := blk_frozen BK137.out 2
   have hfz9_3 := blk_frozen BK137.out 3
   have hfz9_4 := blk_frozen BK137.out 4
   have hfz9_5 := blk_frozen BK137.out 5
   have hfz9_6 := blk_frozen BK137.out 6
   have hfz9_7 := blk_frozen BK137.out 7
   go_wp2_with (first | ((with_reducible refine gate_callee (f := 15) rfl ?_); refine goesL_ (some 6) rfl rfl Tryd.func15 (by kernel_rfl) rfl #[.agg #[.int .i64 a0_0, .int .i64 a0_1, .int .i64 a0_2, .int .i64 a0_3, .int .u8 a0_4, .bool a0_5, .int .i64 a0_6, .int .u8 a0_7]] rfl mapx ?_; (with_reducible refine (clock_May.calls k a0_0 a0_1 a0_2 a0_3 a0_4 a0_5 a0_6 a0_7 false _ A4.out).mono ?_); rintro e w10 ⟨rfl, hb⟩; refine ⟨_, rfl, ?_⟩; have n0_ := Az (blk_below (g := gb137) (o := .cells #[.int .i64 a0_0, .int .i64 a0_1, .int .i64 a0_2, .int .i64 a0_3, .int .u8 a0_4, .bool a0_5, .int .i64 a0_6, .int .u8 a0_7] 24 (0, 0)) of_lies hb); have n1_ := Az (below_step (low HB) hb); clear BK137; clear HB; have BK137 := n0_; have HB := n1_; clear n0_ n1_; (try clear hb); (try clear hb2); (try clear hk); (try clear hi)))
   go_meet
   case rel => exact ⟨_, (true), eqx, H', ⟨by first | omega | exact Nat.le_refl _⟩, ⟨of_lies⟩, ⟨low HB⟩⟩
 case rest =>
  clear HC2
  try clear c1
  try clear c2
  try clear p2
  try clear c5
  try clear hcz6_0
  try clear hcz6_1
  try clear hcz6_2
  try clear hcz6_3
  try clear hcz6_4
  try clear hcz6_5
  try clear hcz6_6
  try clear hcz6_7
  try clear hcz8_0
  try clear hcz8_1
  try clear hcz8_2
  try clear hcz8_3
  try clear hcz8_4
  try clear hcz8_5
  try clear hcz8_6
  try clear hcz8_7
  try clear hcz9_0
  try clear hcz9_1
  try clear hcz9_2
  try clear hcz9_3
  try clear hcz9_4
  try clear hcz9_5
  try clear hcz9_6
  try clear hcz9_7
  try clear hfz6_0
  try clear hfz6_1
  try clear hfz6_2
  try clear hfz6_3
  try clear hfz6_4
  try clear hfz6_5
  try clear hfz6_6
  try clear hfz6_7
  try clear hfz8_0
  try clear hfz8_1
  try clear hfz8_2
  try clear hfz8_3
  try clear hfz8_4
  try clear hfz8_5
  try clear hfz8_6
  try clear hfz8_7
  try clear hfz9_0
  try clear hfz9_1
  try clear hfz9_2
  try clear hfz9_3
  try clear hfz9_4
  try clear hfz9_5
  try clear hfz9_6
  try clear hfz9_7
  obtain ⟨kq, x12_1, rfl, HA, HJ1, BK137, HB⟩ := hcut
  cases kq with
  | zero => exact absurd HA.out (by simp [clock_When.j0])
  | succ kj1 =>
   have H := HA.out
   clear HA
   simp only [clock_When.j0] at H
   by_cases c11 : x12_1 = true
   ·
    subst c11
    have H1 : (some (0, false)) = some (r1, r2) := by rw [if_pos rfl] at H; exact H
    clear H
    have H := H1
    clear H1
    simp only [Option.some.injEq, Prod.mk.injEq] at H
    obtain ⟨rfl, rfl⟩ := H
    go_wp2
    go_ret2
    exact ⟨by first | rfl | (simp [errW_none, errW_some] <;> rfl) | (simp [*, errW_none, errW_some] <;> rfl), low HB⟩
   ·
    replace c11 := Bool.eq_false_iff.mpr c11
    subst c11
    have H1 : ((clock_room.f a0_0 a0_1 a0_2 a0_3 a0_4 a0_5 a0_6 a0_7).bind fun t139 => ((clock_within.f (wrap64 ((wrap64 (a0_6 + t139)) + 1))).bind fun t140 => (if t140 = true then (some (wrap64 ((wrap64 (a0_6 + t139)) + 1), true)) else (some (0, false))))) = some (r1, r2) := by rw [if_neg (show ¬ (false = true) by decide)] at H; exact H
    clear H
    have H := H1
    clear H1
    replace H := Option.bind_eq_some_iff.mp H
    obtain ⟨t139, A120, H⟩ := H
    replace H : ((clock_within.f (wrap64 ((wrap64 (a0_6 + t139)) + 1))).bind fun t140 => (if t140 = true then (some (wrap64 ((wrap64 (a0_6 + t139)) + 1), true)) else (some (0, false)))) = some (r1, r2) := H
    have A12 := Az A120
    clear A120
    replace H := Option.bind_eq_some_iff.mp H
    obtain ⟨t140, A130, H⟩ := H
    replace H : (if t140 = true then (some (wrap64 ((wrap64 (a0_6 + t139)) + 1), true)) else (some (0, false))) = some (r1, r2) := H
    have A13 := Az A130
    clear A130
    by_cases c14 : t140 = true
    ·
     subst c14
     have H1 : (some (wrap64 ((wrap64 (a0_6 + t139)) + 1), true)) = some (r1, r2) := by rw [if_pos rfl] at H; exact H
     clear H
     have H := H1
     clear H1
     simp only [Option.some.injEq, Prod.mk.injEq] at H
     obtain ⟨rfl, rfl⟩ := H
     try go_wp2
     have n0_ := Az (blk_drew BK137.out)
     have n1_ := Az (below_drew1 HB.out)
     clear BK137
     clear HB
     have BK137 := n0_
     have HB := n1_
     clear n0_ n1_
     refine start_ (n := 7) (S := fun w' => w'.cell? ⟨gb137, 0, none⟩ = some (.int .i64 a0_0) ∧ w'.cell? ⟨gb137, 1, none⟩ = some (.int .i64 a0_1) ∧ w'.cell? ⟨gb137, 2, none⟩ = some (.int .i64 a0_2) ∧ w'.cell? ⟨gb137, 3, none⟩ = some (.int .i64 a0_3) ∧ w'.cell? ⟨gb137, 4, none⟩ = some (.int .u8 a0_4) ∧ w'.cell? ⟨gb137, 5, none⟩ = some (.bool a0_5) ∧ w'.cell? ⟨gb137, 6, none⟩ = some (.int .i64 a0_6) ∧ w'.cell? ⟨gb137, 7, none⟩ = some (.int .u8 a0_7)) (ds := []) #[false, false, false, false, false, false, false] (by kernel_rfl) rfl rfl ⟨(blk_cell BK137.out 0).trans rfl, (blk_cell BK137.out 1).trans rfl, (blk_cell BK137.out 2).trans rfl, (blk_cell BK137.out 3).trans rfl, (blk_cell BK137.out 4).trans rfl, (blk_cell BK137.out 5).trans rfl, (blk_cell BK137.out 6).trans rfl, (blk_cell BK137.out 7).trans rfl⟩ (fun hHeld => ?_)
     generalize wc.drew = w15 at BK137 HB hHeld ⊢
     refine pure_ (i := 0) (N := some 13) (v := ?_) (a' := ?_) #[true, false, false, false, false, false, false] rfl rfl (by kernel_rfl) (fun _ _ _ h => h) (Or.inl ⟨by rfl, ?_⟩) ?_ ?_
     rotate_left
     ·
      intro w'
      go_simp
      with_reducible rfl
     rotate_left
     ·
      simp only [Act.put, List.setIfInBounds_toArray, List.set_cons_zero, List.set_cons_succ, i64_w, i32_w]
      rfl
     refine take_ (i := 1) (N := some 14) (v := ?_) (a' := ?_) #[true, true, false, false, false, false, false] rfl rfl (by kernel_rfl) (fun _ _ _ h => h) (Or.inl ⟨by rfl, ?_⟩) hHeld ?_ ?_
     rotate_left
     ·
      rintro w' ⟨s0, s1, s2, s3, s4, s5, s6, s7⟩
      go_simp
      with_reducible rfl
     rotate_left
     ·
      simp only [Act.put, List.setIfInBounds_toArray, List.set_cons_zero, List.set_cons_succ, i64_w, i32_w]
      rfl
     refine take_ (i := 2) (N := some 15) (v := ?_) (a' := ?_) #[true, true, true, false, false, false, false] rfl rfl (by kernel_rfl) (fun _ _ _ h => h) (Or.inl ⟨by rfl, ?_⟩) hHeld ?_ ?_
     rotate_left
     ·
      rintro w' ⟨s0, s1, s2, s3, s4, s5, s6, s7⟩
      go_simp
      with_reducible rfl
     rotate_left
     ·
      simp only [Act.put, List.setIfInBounds_toArray, List.set_cons_zero, List.set_cons_succ, i64_w, i32_w]
      rfl
     refine one_ (i := 3) (N := some 16) #[true, true, true, true, false, false, false] rfl rfl (by kernel_rfl) (by decide) (fun K hK => ?_)
     refine goes_ Tryd.func57 (by kernel_rfl) rfl #[.agg #[.int .i64 a0_0, .int .i64 a0_1, .int .i64 a0_2, .int .i64 a0_3, .int .u8 a0_4, .bool a0_5, .int .i64 a0_6, .int .u8 a0_7]] (by rfl) rfl rfl mapx ?_
     with_reducible refine (clock_room.calls a0_0 a0_1 a0_2 a0_3 a0_4 a0_5 a0_6 a0_7 t139 _ A12.out).mono ?_
     rintro e w16 ⟨rfl, hb⟩
     refine ⟨_, rfl, ?_⟩
     have n0_ := Az (blk_below (g := gb137) (o := .cells #[.int .i64 a0_0, .int .i64 a0_1, .int .i64 a0_2, .int .i64 a0_3, .int .u8 a0_4, .bool a0_5, .int .i64 a0_6, .int .u8 a0_7] 24 (0, 0)) of_lies hb)
     have n1_ := Az (below_step (low HB) hb)
     clear BK137
     clear HB
     have BK137 := n0_
     have HB := n1_
     clear n0_ n1_
     (try clear hb)
     (try clear hb2)
     (try clear hk)
     (try clear hi)
     refine hK.out _ _ ⟨(blk_cell BK137.out 0).trans rfl, (blk_cell BK137.out 1).trans rfl, (blk_cell BK137.out 2).trans rfl, (blk_cell BK137.out 3).trans rfl, (blk_cell BK137.out 4).trans rfl, (blk_cell BK137.out 5).trans rfl, (blk_cell BK137.out 6).trans rfl, (blk_cell BK137.out 7).trans rfl⟩ (fun hHeld => ?_)
     clear hK K
     refine norm_ (a' := ?_) ?_ ?_
     rotate_left
     ·
      show Act.put _ (some 16) _ = _
      simp only [Act.put, List.setIfInBounds_toArray, List.set_cons_zero, List.set_cons_succ, i64_w, i32_w]
      rfl
     refine pure_ (i := 4) (N := some 17) (v := ?_) (a' := ?_) #[true, true, true, true, true, false, false] rfl rfl (by kernel_rfl) (fun _ _ _ h => h) (Or.inl ⟨by rfl, ?_⟩) ?_ ?_
     rotate_left
     ·
      intro w'
      go_simp
      with_reducible rfl
     rotate_left
     ·
      simp only [Act.put, List.setIfInBounds_toArray, List.set_cons_zero, List.set_cons_succ, i64_w, i32_w]
      rfl
     refine pure_ (i := 5) (N := some 18) (v := ?_) (a' := ?_) #[true, true, true, true, true, true, false] rfl rfl (by kernel_rfl) (fun _ _ _ h => h) (Or.inl ⟨by rfl, ?_⟩) ?_ ?_
     rotate_left
     ·
      intro w'
      go_simp
      with_reducible rfl
     rotate_left
     ·
      simp only [Act.put, List.setIfInBounds_toArray, List.set_cons_zero, List.set_cons_succ, i64_w, i32_w]
      rfl
     refine pure_ (i := 6) (N := some 4) (v := ?_) (a' := ?_) #[true, true, true, true, true, true, true] rfl rfl (by kernel_rfl) (fun _ _ _ h => h) (Or.inl ⟨by rfl, ?_⟩) ?_ ?_
     rotate_left
     ·
      intro w'
      go_simp
      with_reducible rfl
     rotate_left
     ·
      simp only [Act.put, List.setIfInBounds_toArray, List.set_cons_zero, List.set_cons_succ, i64_w, i32_w]
      rfl
     refine done_ (by kernel_rfl) ?_
     try go_wp2_with (first | ((with_reducible refine gate_callee (f := 50) rfl ?_); refine goesL_ (some 20) rfl rfl Tryd.func50 (by kernel_rfl) rfl #[.int .i64 (wrap64 ((wrap64 (a0_6 + t139)) + 1))] rfl mapx ?_; (with_reducible refine (clock_within.calls (wrap64 ((wrap64 (a0_6 + t139)) + 1)) true _ A13.out).mono ?_); rintro e w' ⟨rfl, ⟨nd, rfl⟩⟩; refine ⟨_, rfl, ?_⟩))
     go_ret2
     exact ⟨by first | rfl | (simp [errW_none, errW_some] <;> rfl) | (simp [*, errW_none, errW_some] <;> rfl), low HB⟩
    ·
     replace c14 := Bool.eq_false_iff.mpr c14
     subst c14
     have H1 : (some (0, false)) = some (r1, r2) := by rw [if_neg (show ¬ (false = true) by decide)] at H; exact H
     clear H
     have H := H1
     clear H1
     simp only [Option.some.injEq, Prod.mk.injEq] at H
     obtain ⟨rfl, rfl⟩ := H
     try go_wp2
     have n0_ := Az (blk_drew BK137.out)
     have n1_ := Az (below_drew1 HB.out)
     clear BK137
     clear HB
     have BK137 := n0_
     have HB := n1_
     clear n0_ n1_
     refine start_ (n := 7) (S := fun w' => w'.cell? ⟨gb137, 0, none⟩ = some (.int .i64 a0_0) ∧ w'.cell? ⟨gb137, 1, none⟩ = some (.int .i64 a0_1) ∧ w'.cell? ⟨gb137, 2, none⟩ = some (.int .i64 a0_2) ∧ w'.cell? ⟨gb137, 3, none⟩ = some (.int .i64 a0_3) ∧ w'.cell? ⟨gb137, 4, none⟩ = some (.int .u8 a0_4) ∧ w'.cell? ⟨gb137, 5, none⟩ = some (.bool a0_5) ∧ w'.cell? ⟨gb137, 6, none⟩ = some (.int .i64 a0_6) ∧ w'.cell? ⟨gb137, 7, none⟩ = some (.int .u8 a0_7)) (ds := []) #[false, false, false, false, false, false, false] (by kernel_rfl) rfl rfl ⟨(blk_cell BK137.out 0).trans rfl, (blk_cell BK137.out 1).trans rfl, (blk_cell BK137.out 2).trans rfl, (blk_cell BK137.out 3).trans rfl, (blk_cell BK137.out 4).trans rfl, (blk_cell BK137.out 5).trans rfl, (blk_cell BK137.out 6).trans rfl, (blk_cell BK137.out 7).trans rfl⟩ (fun hHeld => ?_)
     generalize wc.drew = w17 at BK137 HB hHeld ⊢
     refine pure_ (i := 0) (N := some 13) (v := ?_) (a' := ?_) #[true, false, false, false, false, false, false] rfl rfl (by kernel_rfl) (fun _ _ _ h => h) (Or.inl ⟨by rfl, ?_⟩) ?_ ?_
     rotate_left
     ·
      intro w'
      go_simp
      with_reducible rfl
     rotate_left
     ·
      simp only [Act.put, List.setIfInBounds_toArray, List.set_cons_zero, List.set_cons_succ, i64_w, i32_w]
      rfl
     refine take_ (i := 1) (N := some 14) (v := ?_) (a' := ?_) #[true, true, false, false, false, false, false] rfl rfl (by kernel_rfl) (fun _ _ _ h => h) (Or.inl ⟨by rfl, ?_⟩) hHeld ?_ ?_
     rotate_left
     ·
      rintro w' ⟨s0, s1, s2, s3, s4, s5, s6, s7⟩
      go_simp
      with_reducible rfl
     rotate_left
     ·
      simp only [Act.put, List.setIfInBounds_toArray, List.set_cons_zero, List.set_cons_succ, i64_w, i32_w]
      rfl
     refine take_ (i := 2) (N := some 15) (v := ?_) (a' := ?_) #[true, true, true, false, false, false, false] rfl rfl (by kernel_rfl) (fun _ _ _ h => h) (Or.inl ⟨by rfl, ?_⟩) hHeld ?_ ?_
     rotate_left
     ·
      rintro w' ⟨s0, s1, s2, s3, s4, s5, s6, s7⟩
      go_simp
      with_reducible rfl
     rotate_left
     ·
      simp only [Act.put, List.setIfInBounds_toArray, List.set_cons_zero, List.set_cons_succ, i64_w, i32_w]
      rfl
     refine one_ (i := 3) (N := some 16) #[true, true, true, true, false, false, false] rfl rfl (by kernel_rfl) (by decide) (fun K hK => ?_)
     refine goes_ Tryd.func57 (by kernel_rfl) rfl #[.agg #[.int .i64 a0_0, .int .i64 a0_1, .int .i64 a0_2, .int .i64 a0_3, .int .u8 a0_4, .bool a0_5, .int .i64 a0_6, .int .u8 a0_7]] (by rfl) rfl rfl mapx ?_
     with_reducible refine (clock_room.calls a0_0 a0_1 a0_2 a0_3 a0_4 a0_5 a0_6 a0_7 t139 _ A12.out).mono ?_
     rintro e w18 ⟨rfl, hb⟩
     refine ⟨_, rfl, ?_⟩
     have n0_ := Az (blk_below (g := gb137) (o := .cells #[.int .i64 a0_0, .int .i64 a0_1, .int .i64 a0_2, .int .i64 a0_3, .int .u8 a0_4, .bool a0_5, .int .i64 a0_6, .int .u8 a0_7] 24 (0, 0)) of_lies hb)
     have n1_ := Az (below_step (low HB) hb)
     clear BK137
     clear HB
     have BK137 := n0_
     have HB := n1_
     clear n0_ n1_
     (try clear hb)
     (try clear hb2)
     (try clear hk)
     (try clear hi)
     refine hK.out _ _ ⟨(blk_cell BK137.out 0).trans rfl, (blk_cell BK137.out 1).trans rfl, (blk_cell BK137.out 2).trans rfl, (blk_cell BK137.out 3).trans rfl, (blk_cell BK137.out 4).trans rfl, (blk_cell BK137.out 5).trans rfl, (blk_cell BK137.out 6).trans rfl, (blk_cell BK137.out 7).trans rfl⟩ (fun hHeld => ?_)
     clear hK K
     refine norm_ (a' := ?_) ?_ ?_
     rotate_left
     ·
      show Act.put _ (some 16) _ = _
      simp only [Act.put, List.setIfInBounds_toArray, List.set_cons_zero, List.set_cons_succ, i64_w, i32_w]
      rfl
     refine pure_ (i := 4) (N := some 17) (v := ?_) (a' := ?_) #[true, true, true, true, true, false, false] rfl rfl (by kernel_rfl) (fun _ _ _ h => h) (Or.inl ⟨by rfl, ?_⟩) ?_ ?_
     rotate_left
     ·
      intro w'
      go_simp
      with_reducible rfl
     rotate_left
     ·
      simp only [Act.put, List.setIfInBounds_toArray, List.set_cons_zero, List.set_cons_succ, i64_w, i32_w]
      rfl
     refine pure_ (i := 5) (N := some 18) (v := ?_) (a' := ?_) #[true, true, true, true, true, true, false] rfl rfl (by kernel_rfl) (fun _ _ _ h => h) (Or.inl ⟨by rfl, ?_⟩) ?_ ?_
     rotate_left
     ·
      intro w'
      go_simp
      with_reducible rfl
     rotate_left
     ·
      simp only [Act.put, List.setIfInBounds_toArray, List.set_cons_zero, List.set_cons_succ, i64_w, i32_w]
      rfl
     refine pure_ (i := 6) (N := some 4) (v := ?_) (a' := ?_) #[true, true, true, true, true, true, true] rfl rfl (by kernel_rfl) (fun _ _ _ h => h) (Or.inl ⟨by rfl, ?_⟩) ?_ ?_
     rotate_left
     ·
      intro w'
      go_simp
      with_reducible rfl
     rotate_left
     ·
      simp only [Act.put, List.setIfInBounds_toArray, List.set_cons_zero, List.set_cons_succ, i64_w, i32_w]
      rfl
     refine done_ (by kernel_rfl) ?_
     try go_wp2_with (first | ((with_reducible refine gate_callee (f := 50) rfl ?_); refine goesL_ (some 20) rfl rfl Tryd.func50 (by kernel_rfl) rfl #[.int .i64 (wrap64 ((wrap64 (a0_6 + t139)) + 1))] rfl mapx ?_; (with_reducible refine (clock_within.calls (wrap64 ((wrap64 (a0_6 + t139)) + 1)) false _ A13.out).mono ?_); rintro e w' ⟨rfl, ⟨nd, rfl⟩⟩; refine ⟨_, rfl, ?_⟩))
     go_ret2
     exact ⟨by first | rfl | (simp [errW_none, errW_some] <;> rfl) | (simp [*, errW_none, errW_some] <;> rfl), low HB⟩
end Go.Proofs.YtcdcpnhlmgmnkaaDoor.Pclk
end
