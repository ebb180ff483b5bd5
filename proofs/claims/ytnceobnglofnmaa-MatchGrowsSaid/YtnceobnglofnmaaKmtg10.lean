/- Joined by a program of this session (pack.py) out of: Matg WalkMatchGrows -/
import Derived.Deep.DeepCutAuto
import Derived.Deep.RegionHeld3
import Derived.Test.YtnceobnglofnmaaKmtg6
import Derived.Test.YtnceobnglofnmaaKmtg9
section
/- MatchGrows: what the statement's own text does, walked. -/
namespace Go.Proofs.Ytnceobnglofnmaa.Mat
open Go Go.RowKit Go.Proofs.Ytnceobnglofnmaa.Base Go.Proofs.YtnceobnglofnmaaW.PrintWords Go.Proofs.YtnceobnglofnmaaW.PrintLast Go.Proofs.YtnceobnglofnmaaW.PrintMore Go.Proofs.Ytnceobnglofnmaa.Pmtb Go.Proofs.Ytnceobnglofnmaa.Mtt Go.Proofs.Ytnceobnglofnmaa.Pmts Go.Proofs.Ytnceobnglofnmaa.Pure
theorem off_is (v0 v1 v2 v3 v4 v5 v7 v8 v9 y3 y4 y5 y6 y7 y8 y9 y10 y11 : Value) (who id mode ev side mo : Int) (A0 : Option Addr) (c : Nat) (l : List S38) (r : Bool) (w : World) (h0 : 0 ≤ who) (h1 : 0 ≤ side) (h2 : side ≤ 255)
    (hr : Kd.C k38 w A0 l.length l) (h : offB who id ev side mo mode l = r) :
    Calls Try.prog 16 #[.agg #[v0, v1, v2, v3, v4, v5, .int .i64 (mo), v7, v8, v9], .int .u8 who, .int .i64 id, .agg #[.int .u8 mode, .int .u8 ev, .int .u8 side, y3, y4, y5, y6, y7, y8, y9, y10, y11], .slice A0 l.length c] w fun e w' => e = .returned (.bool r) ∧ Below w.heap.size w w' := by
  refine moff v0 v1 v2 v3 v4 v5 v7 v8 v9 y3 y4 y5 y6 y7 y8 y9 y10 y11 who id mode ev side mo A0 c l r w hr ?_
  unfold offB at h
  split
  · rename_i hm
    rw [if_pos hm] at h
    rw [← h]
    exact anyO_of l fun x _ => by unfold offM hitB; rw [fits_m _ _ _ _ _ _ _ _ h0 h1 h2]; rfl
  · rename_i hm
    rw [if_neg hm] at h
    exact h.symm
theorem cell_drewZ {W : World} {a : Addr} {v : Value} (h : W.cell? a = some v) : W.drew.cell? a = some v := h
theorem lives_is (w : World) : Calls Try.prog 15 #[] w fun e w' => e = .returned (.bool true) ∧ Below w.heap.size w w' := joustlaw11_lives.calls true w (by kernel_rfl)
theorem boxed2 (w : World) (P E : Array Value) : ∃ W2, W2 = (w.alloc (.cells P 28)).alloc (.cells E 34) ∧ Blk W2 w.heap.size 28 P ∧ Blk W2 (w.heap.size + 1) 34 E ∧ Below w.heap.size w W2 ∧ W2.heap.size = w.heap.size + 1 + 1 := by
  have b0 := (Blk.new w 28 P).alloc (.cells E 34)
  have b1 := Blk.new (w.alloc (.cells P 28)) 34 E
  simp only [World.size_alloc] at b1
  exact ⟨_, rfl, b0, b1, balloc (balloc (Below.refl _ _) _) _, by simp only [World.size_alloc]⟩
theorem grows_step (L : Nat → Int) (kk : Nat) (m x1 V : Int) (hx : L kk = x1) (hJ : ∀ j : Nat, j < kk → L j ≤ 1152921504606846976 → L j < m) (h1 : m ≤ V) (h2 : x1 ≤ 1152921504606846976 → x1 < V) : ∀ j : Nat, j < kk + 1 → L j ≤ 1152921504606846976 → L j < V := by
  intro j hj hle
  by_cases hjk : j < kk
  · exact Int.lt_of_lt_of_le (hJ j hjk hle) h1
  · have e : j = kk := by omega
    subst e
    rw [hx] at hle ⊢
    exact h2 hle
set_option linter.unusedSimpArgs false
attribute [local go_sem] max2_int min2_int max_two min_two
set_option maxRecDepth 100000
set_option maxHeartbeats 8000000
theorem grows_skip (v0 v1 v2 v3 v4 v5 v7 v8 v9 y3 y4 y5 y6 y7 y8 y9 y10 y11 : Value) (who id mode ev side mo : Int) (A4 : Option Addr) (c4 : Nat) (l4 : List S38) (A5 : Option Addr) (c5 : Nat) (l5 : List S38) (w : World) (h : 1000 < l4.length ∨ 1000 < l5.length) :
    Calls Try.prog 3 #[.agg #[v0, v1, v2, v3, v4, v5, .int .i64 (mo), v7, v8, v9], .int .u8 who, .int .i64 id, .agg #[.int .u8 mode, .int .u8 ev, .int .u8 side, y3, y4, y5, y6, y7, y8, y9, y10, y11], .slice A4 l4.length c4, .slice A5 l5.length c5] w fun e w' => e = .returned (.bool true) ∧ Below w.heap.size w w' := by
  obtain ⟨n, hn⟩ : ∃ n, l4.length = n := ⟨_, rfl⟩
  obtain ⟨m, hm⟩ : ∃ m, l5.length = m := ⟨_, rfl⟩
  rw [hn, hm] at h ⊢
  clear hn hm
  have hu28 := Try.underlying28
  have hu34 := Try.underlying34
  by_cases hn : 1000 < n
  · have e1 : decide (1000 < (n : Int)) = true := decide_eq_true (by omega)
    clear h
    go_enter Try.func3, Try.ntmps3
    go_wp2_with (go_at_call 15; refine (lives_is _).mono ?_; rintro e w1 ⟨rfl, hb⟩)
    go_ret
    exact ⟨rfl, bstep (balloc (balloc (Below.refl _ _) _) _) hb⟩
  · have e1 : decide (1000 < (n : Int)) = false := decide_eq_false (by omega)
    have e2 : decide (1000 < (m : Int)) = true := decide_eq_true (by omega)
    clear h hn
    go_enter Try.func3, Try.ntmps3
    go_wp2_with (go_at_call 15; refine (lives_is _).mono ?_; rintro e w1 ⟨rfl, hb⟩)
    go_ret
    exact ⟨rfl, bstep (balloc (balloc (Below.refl _ _) _) _) hb⟩

theorem grows_main (Av0 : Option Addr) (nv0 cv0 : Nat) (Av1 : Option Addr) (nv1 cv1 : Nat) (v2 : Int) (v3 : Int) (v4 : Int) (v5 : Int) (Av7 : Option Addr) (nv7 cv7 : Nat) (v8 : Bool) (v9 : Bool) (Ay3 : Option Addr) (ny3 cy3 : Nat) (y4 : Int) (y5 : Int) (y6 : Bool) (y7 : Int) (y8 : Int) (y9 : Int) (y10 : Int) (Ay11 : Option Addr) (ny11 cy11 : Nat) (who id mode ev side mo : Int) (A4 : Option Addr) (c4 : Nat) (l4 : List S38) (A5 : Option Addr) (c5 : Nat) (l5 : List S38) (w : World) (hl4 : l4.length ≤ 1000) (hl5 : l5.length ≤ 1000)
    (h0 : 0 ≤ who) (h1 : 0 ≤ side) (h2 : side ≤ 255) (hr4 : Kd.C k38 w A4 l4.length l4) (hr5 : Kd.C k38 w A5 l5.length l5) (hw4 : ∀ x ∈ l4, -9223372036854775808 ≤ x.f1 ∧ x.f1 ≤ 9223372036854775807) :
    Calls Try.prog 3 #[.agg #[(.slice Av0 nv0 cv0), (.slice Av1 nv1 cv1), (.int .i64 v2), (.int .i64 v3), (.int .i64 v4), (.int .u8 v5), .int .i64 (mo), (.slice Av7 nv7 cv7), (.bool v8), (.bool v9)], .int .u8 who, .int .i64 id, .agg #[.int .u8 mode, .int .u8 ev, .int .u8 side, (.slice Ay3 ny3 cy3), (.int .i64 y4), (.int .i64 y5), (.bool y6), (.int .i64 y7), (.int .u8 y8), (.int .u8 y9), (.int .u8 y10), (.slice Ay11 ny11 cy11)], .slice A4 l4.length c4, .slice A5 l5.length c5] w fun e w' => e = .returned (.bool true) ∧ Below w.heap.size w w' := by
  have e1 : decide (1000 < (l4.length : Int)) = false := decide_eq_false (by omega)
  have e2 : decide (1000 < (l5.length : Int)) = false := decide_eq_false (by omega)
  have HR4 := Lib.hid hr4
  have HR5 := Lib.hid hr5
  have HL4 := Lib.hid hl4
  have HL5 := Lib.hid hl5
  have HW4 := Lib.hid hw4
  have H0 := Lib.hid h0
  have H1 := Lib.hid h1
  have H2 := Lib.hid h2
  clear hr4 hr5 hl4 hl5 hw4 h0 h1 h2
  have hu28 := Try.underlying28
  have hu34 := Try.underlying34
  go_enter Try.func3, Try.ntmps3
  obtain ⟨W2, q, b0, b1, hB, hZ⟩ := boxed2 w #[(.slice Av0 nv0 cv0), (.slice Av1 nv1 cv1), (.int .i64 v2), (.int .i64 v3), (.int .i64 v4), (.int .u8 v5), .int .i64 (mo), (.slice Av7 nv7 cv7), (.bool v8), (.bool v9)] #[.int .u8 mode, .int .u8 ev, .int .u8 side, (.slice Ay3 ny3 cy3), (.int .i64 y4), (.int .i64 y5), (.bool y6), (.int .i64 y7), (.int .u8 y8), (.int .u8 y9), (.int .u8 y10), (.slice Ay11 ny11 cy11)]
  have B0 := Lib.hid b0
  have B1 := Lib.hid b1
  have HB0 := Lib.hid hB
  have HZ := Lib.hid hZ
  subst q
  clear b0 b1 hB hZ
  go_upto_region 5 with (first | ((with_reducible refine gate_builtin (b := .append) (xs := #[.tmp 28, .tmp 29]) rfl ?_); (try (refine gate_guard (by rfl) ?_; dsimp only)); at_builtin; refine Kd.R_append_rows k38 (w0 := w) w.heap.size rfl (.tmp 28) (.tmp 29) 25 38 (.agg #[(.int .u8 0), (.int .i64 0), (.int .i64 0), (.int .u8 0)]) 32 rfl Try.underlying25 Go.Proofs.Ytnceobnglofnmaa.Mtt.info38 rfl (by decide) (by omega) (.slice none 0 0) ([] : List (S38)) l4 _ _ _ (fun _ => True) (fun _ => False) rfl rfl ?aOw17 ?aRw17 (fun _ _ h => h) (fun _ h => h.elim) ?aFw17 ?aBw17 ?aSw17 ?aLw17 ?_; (case aRw17 => exact Kd.C_below HR4.out HB0.out); (case aBw17 => exact HB0.out); (case aFw17 => exact (fun _ _ => trivial)); (case aOw17 => exact (Kd.R_nil _ _ _ _ (fun _ => True))); (case aSw17 => exact HB0.out.size); (case aLw17 => have := HL4.out; simp only [List.length_nil]; omega); intro v130 w17 ho hb hg hat; (try rw [List.nil_append] at ho); have BX1 := Lib.hid (show Blk w17 w.heap.size 28 #[(.slice Av0 nv0 cv0), (.slice Av1 nv1 cv1), (.int .i64 v2), (.int .i64 v3), (.int .i64 v4), (.int .u8 v5), .int .i64 mo, (.slice Av7 nv7 cv7), (.bool v8), (.bool v9)] from blk_grown B0.out hg (by simp [Value.ownBlock])); have BY1 := Lib.hid (show Blk w17 (w.heap.size + 1) 34 #[.int .u8 mode, .int .u8 ev, .int .u8 side, (.slice Ay3 ny3 cy3), (.int .i64 y4), (.int .i64 y5), (.bool y6), (.int .i64 y7), (.int .u8 y8), (.int .u8 y9), (.int .u8 y10), (.slice Ay11 ny11 cy11)] from blk_grown B1.out hg (by simp [Value.ownBlock])); have HB1 := Lib.hid hb; have HO1 := Lib.hid ho; clear ho hb hg hat) | ((with_reducible refine gate_builtin (b := .append) (xs := #[.tmp 30, .tmp 31]) rfl ?_); (try (refine gate_guard (by rfl) ?_; dsimp only)); at_builtin; refine Kd.R_append_rows k38 (w0 := w) w.heap.size rfl (.tmp 30) (.tmp 31) 25 38 (.agg #[(.int .u8 0), (.int .i64 0), (.int .i64 0), (.int .u8 0)]) 32 rfl Try.underlying25 Go.Proofs.Ytnceobnglofnmaa.Mtt.info38 rfl (by decide) (by omega) v130 l4 l5 _ _ _ (fun _ => True) (fun _ => False) rfl rfl ?aOw18 ?aRw18 (fun _ _ h => h) (fun _ h => h.elim) ?aFw18 ?aBw18 ?aSw18 ?aLw18 ?_; (case aRw18 => exact Kd.C_below HR5.out HB1.out); (case aBw18 => exact HB1.out); (case aFw18 => exact (fun _ _ => trivial)); (case aOw18 => exact HO1.out); (case aSw18 => exact HB1.out.size); (case aLw18 => have := HL4.out; have := HL5.out; omega); intro v131 w18 ho hb hg hat; (try rw [List.nil_append] at ho); have BX2 := Lib.hid (show Blk w18 w.heap.size 28 #[(.slice Av0 nv0 cv0), (.slice Av1 nv1 cv1), (.int .i64 v2), (.int .i64 v3), (.int .i64 v4), (.int .u8 v5), .int .i64 mo, (.slice Av7 nv7 cv7), (.bool v8), (.bool v9)] from blk_grown BX1.out hg (Kd.R_ne HO1.out BX1.out (by decide))); have BY2 := Lib.hid (show Blk w18 (w.heap.size + 1) 34 #[.int .u8 mode, .int .u8 ev, .int .u8 side, (.slice Ay3 ny3 cy3), (.int .i64 y4), (.int .i64 y5), (.bool y6), (.int .i64 y7), (.int .u8 y8), (.int .u8 y9), (.int .u8 y10), (.slice Ay11 ny11 cy11)] from blk_grown BY1.out hg (Kd.R_ne HO1.out BY1.out (by decide))); have HB2 := Lib.hid hb; have HO2 := Lib.hid ho; clear ho hb hg hat))
  obtain ⟨A9, c9, e9, _, hr9⟩ := Kd.R_reads HO2.out
  subst e9
  obtain ⟨l9, h9⟩ : ∃ l9, l4 ++ l5 = l9 := ⟨_, rfl⟩
  rw [h9] at hr9 ⊢
  have HN9 := Lib.hid h9
  have HR9 := Lib.hid hr9
  clear hr9 h9 HO2
  (try simp only [Act.put, List.setIfInBounds_toArray, List.set_cons_zero, List.set_cons_succ])
  go_cut [47] (fun v47 wc => v47 = .bool false ∧ Aside0 (Blk wc w.heap.size 28 #[(.slice Av0 nv0 cv0), (.slice Av1 nv1 cv1), (.int .i64 v2), (.int .i64 v3), (.int .i64 v4), (.int .u8 v5), .int .i64 mo, (.slice Av7 nv7 cv7), (.bool v8), (.bool v9)]) ∧ Aside0 (Blk wc (w.heap.size + 1) 34 #[.int .u8 mode, .int .u8 ev, .int .u8 side, (.slice Ay3 ny3 cy3), (.int .i64 y4), (.int .i64 y5), (.bool y6), (.int .i64 y7), (.int .u8 y8), (.int .u8 y9), (.int .u8 y10), (.slice Ay11 ny11 cy11)]) ∧ Aside0 (Below w.heap.size w wc))
  case first =>
    have p0 : w18.cell? ⟨w.heap.size, 0, none⟩ = some ((.slice Av0 nv0 cv0)) := (BX2.out.cell 0).trans rfl
    have p1 : w18.cell? ⟨w.heap.size, 1, none⟩ = some ((.slice Av1 nv1 cv1)) := (BX2.out.cell 1).trans rfl
    have p2 : w18.cell? ⟨w.heap.size, 2, none⟩ = some ((.int .i64 v2)) := (BX2.out.cell 2).trans rfl
    have p3 : w18.cell? ⟨w.heap.size, 3, none⟩ = some ((.int .i64 v3)) := (BX2.out.cell 3).trans rfl
    have p4 : w18.cell? ⟨w.heap.size, 4, none⟩ = some ((.int .i64 v4)) := (BX2.out.cell 4).trans rfl
    have p5 : w18.cell? ⟨w.heap.size, 5, none⟩ = some ((.int .u8 v5)) := (BX2.out.cell 5).trans rfl
    have p6 : w18.cell? ⟨w.heap.size, 6, none⟩ = some (.int .i64 mo) := (BX2.out.cell 6).trans rfl
    have p7 : w18.cell? ⟨w.heap.size, 7, none⟩ = some ((.slice Av7 nv7 cv7)) := (BX2.out.cell 7).trans rfl
    have p8 : w18.cell? ⟨w.heap.size, 8, none⟩ = some ((.bool v8)) := (BX2.out.cell 8).trans rfl
    have p9 : w18.cell? ⟨w.heap.size, 9, none⟩ = some ((.bool v9)) := (BX2.out.cell 9).trans rfl
    have q0 : w18.cell? ⟨w.heap.size + 1, 0, none⟩ = some (.int .u8 mode) := (BY2.out.cell 0).trans rfl
    have q1 : w18.cell? ⟨w.heap.size + 1, 1, none⟩ = some (.int .u8 ev) := (BY2.out.cell 1).trans rfl
    have q2 : w18.cell? ⟨w.heap.size + 1, 2, none⟩ = some (.int .u8 side) := (BY2.out.cell 2).trans rfl
    have q3 : w18.cell? ⟨w.heap.size + 1, 3, none⟩ = some ((.slice Ay3 ny3 cy3)) := (BY2.out.cell 3).trans rfl
    have q4 : w18.cell? ⟨w.heap.size + 1, 4, none⟩ = some ((.int .i64 y4)) := (BY2.out.cell 4).trans rfl
    have q5 : w18.cell? ⟨w.heap.size + 1, 5, none⟩ = some ((.int .i64 y5)) := (BY2.out.cell 5).trans rfl
    have q6 : w18.cell? ⟨w.heap.size + 1, 6, none⟩ = some ((.bool y6)) := (BY2.out.cell 6).trans rfl
    have q7 : w18.cell? ⟨w.heap.size + 1, 7, none⟩ = some ((.int .i64 y7)) := (BY2.out.cell 7).trans rfl
    have q8 : w18.cell? ⟨w.heap.size + 1, 8, none⟩ = some ((.int .u8 y8)) := (BY2.out.cell 8).trans rfl
    have q9 : w18.cell? ⟨w.heap.size + 1, 9, none⟩ = some ((.int .u8 y9)) := (BY2.out.cell 9).trans rfl
    have q10 : w18.cell? ⟨w.heap.size + 1, 10, none⟩ = some ((.int .u8 y10)) := (BY2.out.cell 10).trans rfl
    have q11 : w18.cell? ⟨w.heap.size + 1, 11, none⟩ = some ((.slice Ay11 ny11 cy11)) := (BY2.out.cell 11).trans rfl
    cases hA : offB who id ev side mo mode l4 with
    | true =>
      have HA := Lib.hid hA
      have hAB := off_more who id ev side mo mode l4 l5 hA
      rw [HN9.out] at hAB
      have HAB := Lib.hid hAB
      clear hAB
      clear hA
      go_wp2_with fail
      refine (off_is (.slice Av0 nv0 cv0) (.slice Av1 nv1 cv1) (.int .i64 v2) (.int .i64 v3) (.int .i64 v4) (.int .u8 v5) (.slice Av7 nv7 cv7) (.bool v8) (.bool v9) (.slice Ay3 ny3 cy3) (.int .i64 y4) (.int .i64 y5) (.bool y6) (.int .i64 y7) (.int .u8 y8) (.int .u8 y9) (.int .u8 y10) (.slice Ay11 ny11 cy11) who id mode ev side mo _ _ l4 true _ H0.out H1.out H2.out (Kd.C_below HR4.out HB2.out) HA.out).mono ?_
      rintro e w2 ⟨rfl, hb⟩
      clear p0 p1 p2 p3 p4 p5 p6 p7 p8 p9
      clear q0 q1 q2 q3 q4 q5 q6 q7 q8 q9 q10 q11
      have BX3 := Lib.hid (Blk.after BX2.out hb)
      have BY3 := Lib.hid (Blk.after BY2.out hb)
      have HB3 := Lib.hid (bstep HB2.out hb)
      have HR8 := Lib.hid (Kd.C_below HR9.out hb)
      clear hb
      have p0 : w2.cell? ⟨w.heap.size, 0, none⟩ = some ((.slice Av0 nv0 cv0)) := (BX3.out.cell 0).trans rfl
      have p1 : w2.cell? ⟨w.heap.size, 1, none⟩ = some ((.slice Av1 nv1 cv1)) := (BX3.out.cell 1).trans rfl
      have p2 : w2.cell? ⟨w.heap.size, 2, none⟩ = some ((.int .i64 v2)) := (BX3.out.cell 2).trans rfl
      have p3 : w2.cell? ⟨w.heap.size, 3, none⟩ = some ((.int .i64 v3)) := (BX3.out.cell 3).trans rfl
      have p4 : w2.cell? ⟨w.heap.size, 4, none⟩ = some ((.int .i64 v4)) := (BX3.out.cell 4).trans rfl
      have p5 : w2.cell? ⟨w.heap.size, 5, none⟩ = some ((.int .u8 v5)) := (BX3.out.cell 5).trans rfl
      have p6 : w2.cell? ⟨w.heap.size, 6, none⟩ = some (.int .i64 mo) := (BX3.out.cell 6).trans rfl
      have p7 : w2.cell? ⟨w.heap.size, 7, none⟩ = some ((.slice Av7 nv7 cv7)) := (BX3.out.cell 7).trans rfl
      have p8 : w2.cell? ⟨w.heap.size, 8, none⟩ = some ((.bool v8)) := (BX3.out.cell 8).trans rfl
      have p9 : w2.cell? ⟨w.heap.size, 9, none⟩ = some ((.bool v9)) := (BX3.out.cell 9).trans rfl
      have q0 : w2.cell? ⟨w.heap.size + 1, 0, none⟩ = some (.int .u8 mode) := (BY3.out.cell 0).trans rfl
      have q1 : w2.cell? ⟨w.heap.size + 1, 1, none⟩ = some (.int .u8 ev) := (BY3.out.cell 1).trans rfl
      have q2 : w2.cell? ⟨w.heap.size + 1, 2, none⟩ = some (.int .u8 side) := (BY3.out.cell 2).trans rfl
      have q3 : w2.cell? ⟨w.heap.size + 1, 3, none⟩ = some ((.slice Ay3 ny3 cy3)) := (BY3.out.cell 3).trans rfl
      have q4 : w2.cell? ⟨w.heap.size + 1, 4, none⟩ = some ((.int .i64 y4)) := (BY3.out.cell 4).trans rfl
      have q5 : w2.cell? ⟨w.heap.size + 1, 5, none⟩ = some ((.int .i64 y5)) := (BY3.out.cell 5).trans rfl
      have q6 : w2.cell? ⟨w.heap.size + 1, 6, none⟩ = some ((.bool y6)) := (BY3.out.cell 6).trans rfl
      have q7 : w2.cell? ⟨w.heap.size + 1, 7, none⟩ = some ((.int .i64 y7)) := (BY3.out.cell 7).trans rfl
      have q8 : w2.cell? ⟨w.heap.size + 1, 8, none⟩ = some ((.int .u8 y8)) := (BY3.out.cell 8).trans rfl
      have q9 : w2.cell? ⟨w.heap.size + 1, 9, none⟩ = some ((.int .u8 y9)) := (BY3.out.cell 9).trans rfl
      have q10 : w2.cell? ⟨w.heap.size + 1, 10, none⟩ = some ((.int .u8 y10)) := (BY3.out.cell 10).trans rfl
      have q11 : w2.cell? ⟨w.heap.size + 1, 11, none⟩ = some ((.slice Ay11 ny11 cy11)) := (BY3.out.cell 11).trans rfl
      go_wp2_with fail
      refine (off_is (.slice Av0 nv0 cv0) (.slice Av1 nv1 cv1) (.int .i64 v2) (.int .i64 v3) (.int .i64 v4) (.int .u8 v5) (.slice Av7 nv7 cv7) (.bool v8) (.bool v9) (.slice Ay3 ny3 cy3) (.int .i64 y4) (.int .i64 y5) (.bool y6) (.int .i64 y7) (.int .u8 y8) (.int .u8 y9) (.int .u8 y10) (.slice Ay11 ny11 cy11) who id mode ev side mo _ _ l9 true _ H0.out H1.out H2.out (HR8.out) HAB.out).mono ?_
      rintro e w3 ⟨rfl, hb⟩
      clear p0 p1 p2 p3 p4 p5 p6 p7 p8 p9
      clear q0 q1 q2 q3 q4 q5 q6 q7 q8 q9 q10 q11
      have BX4 := Lib.hid (Blk.after BX3.out hb)
      have BY4 := Lib.hid (Blk.after BY3.out hb)
      have HB4 := Lib.hid (bstep HB3.out hb)
      clear hb
      go_wp2_with fail
      go_meet
      case rel => exact ⟨rfl, ⟨BX4.out⟩, ⟨BY4.out⟩, ⟨HB4.out⟩⟩
    | false =>
      have HA := Lib.hid hA
      clear hA
      go_wp2_with fail
      refine (off_is (.slice Av0 nv0 cv0) (.slice Av1 nv1 cv1) (.int .i64 v2) (.int .i64 v3) (.int .i64 v4) (.int .u8 v5) (.slice Av7 nv7 cv7) (.bool v8) (.bool v9) (.slice Ay3 ny3 cy3) (.int .i64 y4) (.int .i64 y5) (.bool y6) (.int .i64 y7) (.int .u8 y8) (.int .u8 y9) (.int .u8 y10) (.slice Ay11 ny11 cy11) who id mode ev side mo _ _ l4 false _ H0.out H1.out H2.out (Kd.C_below HR4.out HB2.out) HA.out).mono ?_
      rintro e w2 ⟨rfl, hb⟩
      clear p0 p1 p2 p3 p4 p5 p6 p7 p8 p9
      clear q0 q1 q2 q3 q4 q5 q6 q7 q8 q9 q10 q11
      have BX3 := Lib.hid (Blk.after BX2.out hb)
      have BY3 := Lib.hid (Blk.after BY2.out hb)
      have HB3 := Lib.hid (bstep HB2.out hb)
      clear hb
      go_wp2_with fail
      go_meet
      case rel => exact ⟨rfl, ⟨BX3.out⟩, ⟨BY3.out⟩, ⟨HB3.out⟩⟩
  case rest =>
    obtain ⟨rfl, BX, BY, HB⟩ := hcut
    go_upto_region 7 with (fail)
    (try simp only [Act.put, List.setIfInBounds_toArray, List.set_cons_zero, List.set_cons_succ])
    go_cut [14, 15] (fun v14 v15 wc => ∃ x y : Nat, v14 = .pointer (some ⟨x, 0, none⟩) ∧ v15 = .pointer (some ⟨y, 0, none⟩) ∧ Aside0 (x ≠ y) ∧ Aside0 (Blk wc w.heap.size 28 #[(.slice Av0 nv0 cv0), (.slice Av1 nv1 cv1), (.int .i64 v2), (.int .i64 v3), (.int .i64 v4), (.int .u8 v5), .int .i64 mo, (.slice Av7 nv7 cv7), (.bool v8), (.bool v9)]) ∧ Aside0 (Blk wc (w.heap.size + 1) 34 #[.int .u8 mode, .int .u8 ev, .int .u8 side, (.slice Ay3 ny3 cy3), (.int .i64 y4), (.int .i64 y5), (.bool y6), (.int .i64 y7), (.int .u8 y8), (.int .u8 y9), (.int .u8 y10), (.slice Ay11 ny11 cy11)]) ∧ Aside0 (Blk wc x 34 #[.int .u8 mode, .int .u8 ev, .int .u8 side, (.slice Ay3 ny3 cy3), (.int .i64 y4), (.int .i64 y5), (.bool y6), (.int .i64 y7), (.int .u8 y8), (.int .u8 y9), (.int .u8 y10), (.slice Ay11 ny11 cy11)]) ∧ Aside0 (Blk wc y 34 #[.int .u8 mode, .int .u8 ev, .int .u8 side, (.slice Ay3 ny3 cy3), (.int .i64 y4), (.int .i64 y5), (.bool y6), (.int .i64 y7), (.int .u8 y8), (.int .u8 y9), (.int .u8 y10), (.slice Ay11 ny11 cy11)]) ∧ Aside0 (Below w.heap.size w wc) ∧ Aside0 (w.heap.size + 2 ≤ x) ∧ Aside0 (w.heap.size + 2 ≤ y))
    case first =>
      have q0 : wc.cell? ⟨w.heap.size + 1, 0, none⟩ = some (.int .u8 mode) := (BY.out.cell 0).trans rfl
      have q1 : wc.cell? ⟨w.heap.size + 1, 1, none⟩ = some (.int .u8 ev) := (BY.out.cell 1).trans rfl
      have q2 : wc.cell? ⟨w.heap.size + 1, 2, none⟩ = some (.int .u8 side) := (BY.out.cell 2).trans rfl
      have q3 : wc.cell? ⟨w.heap.size + 1, 3, none⟩ = some ((.slice Ay3 ny3 cy3)) := (BY.out.cell 3).trans rfl
      have q4 : wc.cell? ⟨w.heap.size + 1, 4, none⟩ = some ((.int .i64 y4)) := (BY.out.cell 4).trans rfl
      have q5 : wc.cell? ⟨w.heap.size + 1, 5, none⟩ = some ((.int .i64 y5)) := (BY.out.cell 5).trans rfl
      have q6 : wc.cell? ⟨w.heap.size + 1, 6, none⟩ = some ((.bool y6)) := (BY.out.cell 6).trans rfl
      have q7 : wc.cell? ⟨w.heap.size + 1, 7, none⟩ = some ((.int .i64 y7)) := (BY.out.cell 7).trans rfl
      have q8 : wc.cell? ⟨w.heap.size + 1, 8, none⟩ = some ((.int .u8 y8)) := (BY.out.cell 8).trans rfl
      have q9 : wc.cell? ⟨w.heap.size + 1, 9, none⟩ = some ((.int .u8 y9)) := (BY.out.cell 9).trans rfl
      have q10 : wc.cell? ⟨w.heap.size + 1, 10, none⟩ = some ((.int .u8 y10)) := (BY.out.cell 10).trans rfl
      have q11 : wc.cell? ⟨w.heap.size + 1, 11, none⟩ = some ((.slice Ay11 ny11 cy11)) := (BY.out.cell 11).trans rfl
      refine start_ (n := 6) (S := (fun w' => w'.cell? ⟨w.heap.size + 1, 0, none⟩ = some (.int .u8 mode) ∧ w'.cell? ⟨w.heap.size + 1, 1, none⟩ = some (.int .u8 ev) ∧ w'.cell? ⟨w.heap.size + 1, 2, none⟩ = some (.int .u8 side) ∧ w'.cell? ⟨w.heap.size + 1, 3, none⟩ = some ((.slice Ay3 ny3 cy3)) ∧ w'.cell? ⟨w.heap.size + 1, 4, none⟩ = some ((.int .i64 y4)) ∧ w'.cell? ⟨w.heap.size + 1, 5, none⟩ = some ((.int .i64 y5)) ∧ w'.cell? ⟨w.heap.size + 1, 6, none⟩ = some ((.bool y6)) ∧ w'.cell? ⟨w.heap.size + 1, 7, none⟩ = some ((.int .i64 y7)) ∧ w'.cell? ⟨w.heap.size + 1, 8, none⟩ = some ((.int .u8 y8)) ∧ w'.cell? ⟨w.heap.size + 1, 9, none⟩ = some ((.int .u8 y9)) ∧ w'.cell? ⟨w.heap.size + 1, 10, none⟩ = some ((.int .u8 y10)) ∧ w'.cell? ⟨w.heap.size + 1, 11, none⟩ = some ((.slice Ay11 ny11 cy11)))) (ds := []) #[false, false, false, false, false, false] (by kernel_rfl) rfl (by kernel_rfl) ⟨q0, q1, q2, q3, q4, q5, q6, q7, q8, q9, q10, q11⟩ (fun hHeld => ?_)
      refine take_ (i := 0) (N := some 48) (v := ?_) (a' := ?_) #[true, false, false, false, false, false] rfl rfl (by kernel_rfl) (fun _ _ _ h => h) (Or.inl ⟨by rfl, ?_⟩) hHeld ?_ ?_
      rotate_left
      · rintro w' ⟨s0, s1, s2, s3, s4, s5, s6, s7, s8, s9, s10, s11⟩
        go_simp
        with_reducible rfl
      rotate_left
      · simp only [Act.put, List.setIfInBounds_toArray, List.set_cons_zero, List.set_cons_succ]
        rfl
      refine take_ (i := 1) (N := some 49) (v := ?_) (a' := ?_) #[true, true, false, false, false, false] rfl rfl (by kernel_rfl) (fun _ _ _ h => h) (Or.inl ⟨by rfl, ?_⟩) hHeld ?_ ?_
      rotate_left
      · rintro w' ⟨s0, s1, s2, s3, s4, s5, s6, s7, s8, s9, s10, s11⟩
        go_simp
        with_reducible rfl
      rotate_left
      · simp only [Act.put, List.setIfInBounds_toArray, List.set_cons_zero, List.set_cons_succ]
        rfl
      refine two_ (i := 2) (j := 3) (Ni := some 14) (Nj := some 15) #[true, true, true, false, false, false] #[true, true, false, true, false, false] rfl rfl rfl rfl (by kernel_rfl) (by simp) (by simp) (fun K hK => ?_) (fun K hK => ?_)
      · rw [if_pos (by rfl)]
        go_simp
        refine hK.out _ _ ⟨(by repeat (with_reducible first | assumption | refine Lib.cell?_alloc_some _ ?_ | refine cell_drewZ ?_)), (by repeat (with_reducible first | assumption | refine Lib.cell?_alloc_some _ ?_ | refine cell_drewZ ?_)), (by repeat (with_reducible first | assumption | refine Lib.cell?_alloc_some _ ?_ | refine cell_drewZ ?_)), (by repeat (with_reducible first | assumption | refine Lib.cell?_alloc_some _ ?_ | refine cell_drewZ ?_)), (by repeat (with_reducible first | assumption | refine Lib.cell?_alloc_some _ ?_ | refine cell_drewZ ?_)), (by repeat (with_reducible first | assumption | refine Lib.cell?_alloc_some _ ?_ | refine cell_drewZ ?_)), (by repeat (with_reducible first | assumption | refine Lib.cell?_alloc_some _ ?_ | refine cell_drewZ ?_)), (by repeat (with_reducible first | assumption | refine Lib.cell?_alloc_some _ ?_ | refine cell_drewZ ?_)), (by repeat (with_reducible first | assumption | refine Lib.cell?_alloc_some _ ?_ | refine cell_drewZ ?_)), (by repeat (with_reducible first | assumption | refine Lib.cell?_alloc_some _ ?_ | refine cell_drewZ ?_)), (by repeat (with_reducible first | assumption | refine Lib.cell?_alloc_some _ ?_ | refine cell_drewZ ?_)), (by repeat (with_reducible first | assumption | refine Lib.cell?_alloc_some _ ?_ | refine cell_drewZ ?_))⟩ (fun hHeld => ?_)
        clear hK K
        refine one_ (i := 3) (N := some 15) #[true, true, true, true, false, false] rfl rfl (by kernel_rfl) (by simp) (fun K hK => ?_)
        rw [if_pos (by rfl)]
        go_simp
        refine hK.out _ _ ⟨(by repeat (with_reducible first | assumption | refine Lib.cell?_alloc_some _ ?_ | refine cell_drewZ ?_)), (by repeat (with_reducible first | assumption | refine Lib.cell?_alloc_some _ ?_ | refine cell_drewZ ?_)), (by repeat (with_reducible first | assumption | refine Lib.cell?_alloc_some _ ?_ | refine cell_drewZ ?_)), (by repeat (with_reducible first | assumption | refine Lib.cell?_alloc_some _ ?_ | refine cell_drewZ ?_)), (by repeat (with_reducible first | assumption | refine Lib.cell?_alloc_some _ ?_ | refine cell_drewZ ?_)), (by repeat (with_reducible first | assumption | refine Lib.cell?_alloc_some _ ?_ | refine cell_drewZ ?_)), (by repeat (with_reducible first | assumption | refine Lib.cell?_alloc_some _ ?_ | refine cell_drewZ ?_)), (by repeat (with_reducible first | assumption | refine Lib.cell?_alloc_some _ ?_ | refine cell_drewZ ?_)), (by repeat (with_reducible first | assumption | refine Lib.cell?_alloc_some _ ?_ | refine cell_drewZ ?_)), (by repeat (with_reducible first | assumption | refine Lib.cell?_alloc_some _ ?_ | refine cell_drewZ ?_)), (by repeat (with_reducible first | assumption | refine Lib.cell?_alloc_some _ ?_ | refine cell_drewZ ?_)), (by repeat (with_reducible first | assumption | refine Lib.cell?_alloc_some _ ?_ | refine cell_drewZ ?_))⟩ (fun hHeld => ?_)
        clear hK K
        refine one_ (i := 4) (N := none) #[true, true, true, true, true, false] rfl rfl (by kernel_rfl) (by simp) (fun K hK => ?_)
        rw [if_pos (by rfl)]
        go_simp
        refine hK.out _ _ ⟨(by repeat (with_reducible first | assumption | refine Lib.cell?_alloc_some _ ?_ | refine cell_drewZ ?_)), (by repeat (with_reducible first | assumption | refine Lib.cell?_alloc_some _ ?_ | refine cell_drewZ ?_)), (by repeat (with_reducible first | assumption | refine Lib.cell?_alloc_some _ ?_ | refine cell_drewZ ?_)), (by repeat (with_reducible first | assumption | refine Lib.cell?_alloc_some _ ?_ | refine cell_drewZ ?_)), (by repeat (with_reducible first | assumption | refine Lib.cell?_alloc_some _ ?_ | refine cell_drewZ ?_)), (by repeat (with_reducible first | assumption | refine Lib.cell?_alloc_some _ ?_ | refine cell_drewZ ?_)), (by repeat (with_reducible first | assumption | refine Lib.cell?_alloc_some _ ?_ | refine cell_drewZ ?_)), (by repeat (with_reducible first | assumption | refine Lib.cell?_alloc_some _ ?_ | refine cell_drewZ ?_)), (by repeat (with_reducible first | assumption | refine Lib.cell?_alloc_some _ ?_ | refine cell_drewZ ?_)), (by repeat (with_reducible first | assumption | refine Lib.cell?_alloc_some _ ?_ | refine cell_drewZ ?_)), (by repeat (with_reducible first | assumption | refine Lib.cell?_alloc_some _ ?_ | refine cell_drewZ ?_)), (by repeat (with_reducible first | assumption | refine Lib.cell?_alloc_some _ ?_ | refine cell_drewZ ?_))⟩ (fun hHeld => ?_)
        clear hK K
        refine one_ (i := 5) (N := none) #[true, true, true, true, true, true] rfl rfl (by kernel_rfl) (by simp) (fun K hK => ?_)
        rw [if_pos (by rfl)]
        go_simp
        refine hK.out _ _ ⟨(by repeat (with_reducible first | assumption | refine Lib.cell?_alloc_some _ ?_ | refine cell_drewZ ?_)), (by repeat (with_reducible first | assumption | refine Lib.cell?_alloc_some _ ?_ | refine cell_drewZ ?_)), (by repeat (with_reducible first | assumption | refine Lib.cell?_alloc_some _ ?_ | refine cell_drewZ ?_)), (by repeat (with_reducible first | assumption | refine Lib.cell?_alloc_some _ ?_ | refine cell_drewZ ?_)), (by repeat (with_reducible first | assumption | refine Lib.cell?_alloc_some _ ?_ | refine cell_drewZ ?_)), (by repeat (with_reducible first | assumption | refine Lib.cell?_alloc_some _ ?_ | refine cell_drewZ ?_)), (by repeat (with_reducible first | assumption | refine Lib.cell?_alloc_some _ ?_ | refine cell_drewZ ?_)), (by repeat (with_reducible first | assumption | refine Lib.cell?_alloc_some _ ?_ | refine cell_drewZ ?_)), (by repeat (with_reducible first | assumption | refine Lib.cell?_alloc_some _ ?_ | refine cell_drewZ ?_)), (by repeat (with_reducible first | assumption | refine Lib.cell?_alloc_some _ ?_ | refine cell_drewZ ?_)), (by repeat (with_reducible first | assumption | refine Lib.cell?_alloc_some _ ?_ | refine cell_drewZ ?_)), (by repeat (with_reducible first | assumption | refine Lib.cell?_alloc_some _ ?_ | refine cell_drewZ ?_))⟩ (fun hHeld => ?_)
        clear hK K
        refine done_ (by kernel_rfl) ?_
        go_wp2_with fail
        go_meet
        have F1 := (Blk.new wc 34 #[.int .u8 mode, .int .u8 ev, .int .u8 side, (.slice Ay3 ny3 cy3), (.int .i64 y4), (.int .i64 y5), (.bool y6), (.int .i64 y7), (.int .u8 y8), (.int .u8 y9), (.int .u8 y10), (.slice Ay11 ny11 cy11)]).alloc (.cells #[.int .u8 mode, .int .u8 ev, .int .u8 side, (.slice Ay3 ny3 cy3), (.int .i64 y4), (.int .i64 y5), (.bool y6), (.int .i64 y7), (.int .u8 y8), (.int .u8 y9), (.int .u8 y10), (.slice Ay11 ny11 cy11)] 34)
        have F2 := Blk.new (wc.alloc (.cells #[.int .u8 mode, .int .u8 ev, .int .u8 side, (.slice Ay3 ny3 cy3), (.int .i64 y4), (.int .i64 y5), (.bool y6), (.int .i64 y7), (.int .u8 y8), (.int .u8 y9), (.int .u8 y10), (.slice Ay11 ny11 cy11)] 34)) 34 #[.int .u8 mode, .int .u8 ev, .int .u8 side, (.slice Ay3 ny3 cy3), (.int .i64 y4), (.int .i64 y5), (.bool y6), (.int .i64 y7), (.int .u8 y8), (.int .u8 y9), (.int .u8 y10), (.slice Ay11 ny11 cy11)]
        rw [World.size_alloc] at F2
        have hlt := BY.out.lt
        case rel => exact ⟨wc.heap.size, wc.heap.size + 1, rfl, rfl, ⟨by omega⟩, ⟨Blk.drew ((BX.out.alloc _).alloc _)⟩, ⟨Blk.drew ((BY.out.alloc _).alloc _)⟩, ⟨Blk.drew F1⟩, ⟨Blk.drew F2⟩, ⟨bdrewM (balloc (balloc HB.out _) _)⟩, ⟨by omega⟩, ⟨by omega⟩⟩
      · rw [if_pos (by rfl)]
        go_simp
        refine hK.out _ _ ⟨(by repeat (with_reducible first | assumption | refine Lib.cell?_alloc_some _ ?_ | refine cell_drewZ ?_)), (by repeat (with_reducible first | assumption | refine Lib.cell?_alloc_some _ ?_ | refine cell_drewZ ?_)), (by repeat (with_reducible first | assumption | refine Lib.cell?_alloc_some _ ?_ | refine cell_drewZ ?_)), (by repeat (with_reducible first | assumption | refine Lib.cell?_alloc_some _ ?_ | refine cell_drewZ ?_)), (by repeat (with_reducible first | assumption | refine Lib.cell?_alloc_some _ ?_ | refine cell_drewZ ?_)), (by repeat (with_reducible first | assumption | refine Lib.cell?_alloc_some _ ?_ | refine cell_drewZ ?_)), (by repeat (with_reducible first | assumption | refine Lib.cell?_alloc_some _ ?_ | refine cell_drewZ ?_)), (by repeat (with_reducible first | assumption | refine Lib.cell?_alloc_some _ ?_ | refine cell_drewZ ?_)), (by repeat (with_reducible first | assumption | refine Lib.cell?_alloc_some _ ?_ | refine cell_drewZ ?_)), (by repeat (with_reducible first | assumption | refine Lib.cell?_alloc_some _ ?_ | refine cell_drewZ ?_)), (by repeat (with_reducible first | assumption | refine Lib.cell?_alloc_some _ ?_ | refine cell_drewZ ?_)), (by repeat (with_reducible first | assumption | refine Lib.cell?_alloc_some _ ?_ | refine cell_drewZ ?_))⟩ (fun hHeld => ?_)
        clear hK K
        refine one_ (i := 2) (N := some 14) #[true, true, true, true, false, false] rfl rfl (by kernel_rfl) (by simp) (fun K hK => ?_)
        rw [if_pos (by rfl)]
        go_simp
        refine hK.out _ _ ⟨(by repeat (with_reducible first | assumption | refine Lib.cell?_alloc_some _ ?_ | refine cell_drewZ ?_)), (by repeat (with_reducible first | assumption | refine Lib.cell?_alloc_some _ ?_ | refine cell_drewZ ?_)), (by repeat (with_reducible first | assumption | refine Lib.cell?_alloc_some _ ?_ | refine cell_drewZ ?_)), (by repeat (with_reducible first | assumption | refine Lib.cell?_alloc_some _ ?_ | refine cell_drewZ ?_)), (by repeat (with_reducible first | assumption | refine Lib.cell?_alloc_some _ ?_ | refine cell_drewZ ?_)), (by repeat (with_reducible first | assumption | refine Lib.cell?_alloc_some _ ?_ | refine cell_drewZ ?_)), (by repeat (with_reducible first | assumption | refine Lib.cell?_alloc_some _ ?_ | refine cell_drewZ ?_)), (by repeat (with_reducible first | assumption | refine Lib.cell?_alloc_some _ ?_ | refine cell_drewZ ?_)), (by repeat (with_reducible first | assumption | refine Lib.cell?_alloc_some _ ?_ | refine cell_drewZ ?_)), (by repeat (with_reducible first | assumption | refine Lib.cell?_alloc_some _ ?_ | refine cell_drewZ ?_)), (by repeat (with_reducible first | assumption | refine Lib.cell?_alloc_some _ ?_ | refine cell_drewZ ?_)), (by repeat (with_reducible first | assumption | refine Lib.cell?_alloc_some _ ?_ | refine cell_drewZ ?_))⟩ (fun hHeld => ?_)
        clear hK K
        refine one_ (i := 4) (N := none) #[true, true, true, true, true, false] rfl rfl (by kernel_rfl) (by simp) (fun K hK => ?_)
        rw [if_pos (by rfl)]
        go_simp
        refine hK.out _ _ ⟨(by repeat (with_reducible first | assumption | refine Lib.cell?_alloc_some _ ?_ | refine cell_drewZ ?_)), (by repeat (with_reducible first | assumption | refine Lib.cell?_alloc_some _ ?_ | refine cell_drewZ ?_)), (by repeat (with_reducible first | assumption | refine Lib.cell?_alloc_some _ ?_ | refine cell_drewZ ?_)), (by repeat (with_reducible first | assumption | refine Lib.cell?_alloc_some _ ?_ | refine cell_drewZ ?_)), (by repeat (with_reducible first | assumption | refine Lib.cell?_alloc_some _ ?_ | refine cell_drewZ ?_)), (by repeat (with_reducible first | assumption | refine Lib.cell?_alloc_some _ ?_ | refine cell_drewZ ?_)), (by repeat (with_reducible first | assumption | refine Lib.cell?_alloc_some _ ?_ | refine cell_drewZ ?_)), (by repeat (with_reducible first | assumption | refine Lib.cell?_alloc_some _ ?_ | refine cell_drewZ ?_)), (by repeat (with_reducible first | assumption | refine Lib.cell?_alloc_some _ ?_ | refine cell_drewZ ?_)), (by repeat (with_reducible first | assumption | refine Lib.cell?_alloc_some _ ?_ | refine cell_drewZ ?_)), (by repeat (with_reducible first | assumption | refine Lib.cell?_alloc_some _ ?_ | refine cell_drewZ ?_)), (by repeat (with_reducible first | assumption | refine Lib.cell?_alloc_some _ ?_ | refine cell_drewZ ?_))⟩ (fun hHeld => ?_)
        clear hK K
        refine one_ (i := 5) (N := none) #[true, true, true, true, true, true] rfl rfl (by kernel_rfl) (by simp) (fun K hK => ?_)
        rw [if_pos (by rfl)]
        go_simp
        refine hK.out _ _ ⟨(by repeat (with_reducible first | assumption | refine Lib.cell?_alloc_some _ ?_ | refine cell_drewZ ?_)), (by repeat (with_reducible first | assumption | refine Lib.cell?_alloc_some _ ?_ | refine cell_drewZ ?_)), (by repeat (with_reducible first | assumption | refine Lib.cell?_alloc_some _ ?_ | refine cell_drewZ ?_)), (by repeat (with_reducible first | assumption | refine Lib.cell?_alloc_some _ ?_ | refine cell_drewZ ?_)), (by repeat (with_reducible first | assumption | refine Lib.cell?_alloc_some _ ?_ | refine cell_drewZ ?_)), (by repeat (with_reducible first | assumption | refine Lib.cell?_alloc_some _ ?_ | refine cell_drewZ ?_)), (by repeat (with_reducible first | assumption | refine Lib.cell?_alloc_some _ ?_ | refine cell_drewZ ?_)), (by repeat (with_reducible first | assumption | refine Lib.cell?_alloc_some _ ?_ | refine cell_drewZ ?_)), (by repeat (with_reducible first | assumption | refine Lib.cell?_alloc_some _ ?_ | refine cell_drewZ ?_)), (by repeat (with_reducible first | assumption | refine Lib.cell?_alloc_some _ ?_ | refine cell_drewZ ?_)), (by repeat (with_reducible first | assumption | refine Lib.cell?_alloc_some _ ?_ | refine cell_drewZ ?_)), (by repeat (with_reducible first | assumption | refine Lib.cell?_alloc_some _ ?_ | refine cell_drewZ ?_))⟩ (fun hHeld => ?_)
        clear hK K
        refine done_ (by kernel_rfl) ?_
        go_wp2_with fail
        go_meet
        have F1 := (Blk.new wc 34 #[.int .u8 mode, .int .u8 ev, .int .u8 side, (.slice Ay3 ny3 cy3), (.int .i64 y4), (.int .i64 y5), (.bool y6), (.int .i64 y7), (.int .u8 y8), (.int .u8 y9), (.int .u8 y10), (.slice Ay11 ny11 cy11)]).alloc (.cells #[.int .u8 mode, .int .u8 ev, .int .u8 side, (.slice Ay3 ny3 cy3), (.int .i64 y4), (.int .i64 y5), (.bool y6), (.int .i64 y7), (.int .u8 y8), (.int .u8 y9), (.int .u8 y10), (.slice Ay11 ny11 cy11)] 34)
        have F2 := Blk.new (wc.alloc (.cells #[.int .u8 mode, .int .u8 ev, .int .u8 side, (.slice Ay3 ny3 cy3), (.int .i64 y4), (.int .i64 y5), (.bool y6), (.int .i64 y7), (.int .u8 y8), (.int .u8 y9), (.int .u8 y10), (.slice Ay11 ny11 cy11)] 34)) 34 #[.int .u8 mode, .int .u8 ev, .int .u8 side, (.slice Ay3 ny3 cy3), (.int .i64 y4), (.int .i64 y5), (.bool y6), (.int .i64 y7), (.int .u8 y8), (.int .u8 y9), (.int .u8 y10), (.slice Ay11 ny11 cy11)]
        rw [World.size_alloc] at F2
        have hlt := BY.out.lt
        case rel => exact ⟨wc.heap.size + 1, wc.heap.size, rfl, rfl, ⟨by omega⟩, ⟨Blk.drew ((BX.out.alloc _).alloc _)⟩, ⟨Blk.drew ((BY.out.alloc _).alloc _)⟩, ⟨Blk.drew F2⟩, ⟨Blk.drew F1⟩, ⟨bdrewM (balloc (balloc HB.out _) _)⟩, ⟨by omega⟩, ⟨by omega⟩⟩
    case rest =>
      obtain ⟨x, y, rfl, rfl, HXY, BX, BY, B14, B15, HB, HX, HY⟩ := hcut
      have hxy : x ≠ y := HXY.out
      have hyx : y ≠ x := fun e => hxy e.symm
      have a0 := B14.out.cell 0
      have a1 := B14.out.frozen 0
      have a2 := B15.out.cell 0
      have a3 := B15.out.frozen 0
      simp only [List.getElem?_toArray, List.getElem?_cons_zero] at a0 a2
      go_upto_region 9 with (fail)
      have cx := (BX.out.far (p := ⟨x, 0, none⟩) (show w.heap.size ≠ x by have := HX.out; omega) (.int .u8 3)).far (p := ⟨y, 0, none⟩) (show w.heap.size ≠ y by have := HY.out; omega) (.int .u8 4)
      have cy := (BY.out.far (p := ⟨x, 0, none⟩) (show w.heap.size + 1 ≠ x by have := HX.out; omega) (.int .u8 3)).far (p := ⟨y, 0, none⟩) (show w.heap.size + 1 ≠ y by have := HY.out; omega) (.int .u8 4)
      have c14 : Blk ((wc.setCell ⟨x, 0, none⟩ (.int .u8 3)).setCell ⟨y, 0, none⟩ (.int .u8 4)) x 34 #[.int .u8 3, .int .u8 ev, .int .u8 side, (.slice Ay3 ny3 cy3), (.int .i64 y4), (.int .i64 y5), (.bool y6), (.int .i64 y7), (.int .u8 y8), (.int .u8 y9), (.int .u8 y10), (.slice Ay11 ny11 cy11)] := ((B14.out.set_ 0 (.int .u8 3)).far (p := ⟨y, 0, none⟩) hxy (.int .u8 4)).to rfl
      have c15 : Blk ((wc.setCell ⟨x, 0, none⟩ (.int .u8 3)).setCell ⟨y, 0, none⟩ (.int .u8 4)) y 34 #[.int .u8 4, .int .u8 ev, .int .u8 side, (.slice Ay3 ny3 cy3), (.int .i64 y4), (.int .i64 y5), (.bool y6), (.int .i64 y7), (.int .u8 y8), (.int .u8 y9), (.int .u8 y10), (.slice Ay11 ny11 cy11)] := ((B15.out.far (p := ⟨x, 0, none⟩) hyx (.int .u8 3)).set_ 0 (.int .u8 4)).to rfl
      have cb := bset (bset HB.out (show w.heap.size ≤ x by have := HX.out; omega) (j := 0) (v := .int .u8 3)) (show w.heap.size ≤ y by have := HY.out; omega) (j := 0) (v := .int .u8 4)
      clear BX BY B14 B15 HB a0 a1 a2 a3
      generalize (wc.setCell ⟨x, 0, none⟩ (.int .u8 3)).setCell ⟨y, 0, none⟩ (.int .u8 4) = W9 at cx cy c14 c15 cb ⊢
      have HN : Aside0 (x ≠ y) := HXY
      clear hxy hyx
      have BX0 := Lib.hid cx
      clear cx
      have BY0 := Lib.hid cy
      clear cy
      have B140 := Lib.hid c14
      clear c14
      have B150 := Lib.hid c15
      clear c15
      have HB0 := Lib.hid cb
      clear cb
      (try simp only [Act.put, List.setIfInBounds_toArray, List.set_cons_zero, List.set_cons_succ])
      go_cut [73] (fun v73 wc => v73 = .bool false ∧ Aside0 (Blk wc w.heap.size 28 #[(.slice Av0 nv0 cv0), (.slice Av1 nv1 cv1), (.int .i64 v2), (.int .i64 v3), (.int .i64 v4), (.int .u8 v5), .int .i64 mo, (.slice Av7 nv7 cv7), (.bool v8), (.bool v9)]) ∧ Aside0 (Blk wc (w.heap.size + 1) 34 #[.int .u8 mode, .int .u8 ev, .int .u8 side, (.slice Ay3 ny3 cy3), (.int .i64 y4), (.int .i64 y5), (.bool y6), (.int .i64 y7), (.int .u8 y8), (.int .u8 y9), (.int .u8 y10), (.slice Ay11 ny11 cy11)]) ∧ Aside0 (Blk wc x 34 #[.int .u8 3, .int .u8 ev, .int .u8 side, (.slice Ay3 ny3 cy3), (.int .i64 y4), (.int .i64 y5), (.bool y6), (.int .i64 y7), (.int .u8 y8), (.int .u8 y9), (.int .u8 y10), (.slice Ay11 ny11 cy11)]) ∧ Aside0 (Blk wc y 34 #[.int .u8 4, .int .u8 ev, .int .u8 side, (.slice Ay3 ny3 cy3), (.int .i64 y4), (.int .i64 y5), (.bool y6), (.int .i64 y7), (.int .u8 y8), (.int .u8 y9), (.int .u8 y10), (.slice Ay11 ny11 cy11)]) ∧ Aside0 (Below w.heap.size w wc))
      case first =>
        have p0 : W9.cell? ⟨w.heap.size, 0, none⟩ = some ((.slice Av0 nv0 cv0)) := (BX0.out.cell 0).trans rfl
        have p1 : W9.cell? ⟨w.heap.size, 1, none⟩ = some ((.slice Av1 nv1 cv1)) := (BX0.out.cell 1).trans rfl
        have p2 : W9.cell? ⟨w.heap.size, 2, none⟩ = some ((.int .i64 v2)) := (BX0.out.cell 2).trans rfl
        have p3 : W9.cell? ⟨w.heap.size, 3, none⟩ = some ((.int .i64 v3)) := (BX0.out.cell 3).trans rfl
        have p4 : W9.cell? ⟨w.heap.size, 4, none⟩ = some ((.int .i64 v4)) := (BX0.out.cell 4).trans rfl
        have p5 : W9.cell? ⟨w.heap.size, 5, none⟩ = some ((.int .u8 v5)) := (BX0.out.cell 5).trans rfl
        have p6 : W9.cell? ⟨w.heap.size, 6, none⟩ = some (.int .i64 mo) := (BX0.out.cell 6).trans rfl
        have p7 : W9.cell? ⟨w.heap.size, 7, none⟩ = some ((.slice Av7 nv7 cv7)) := (BX0.out.cell 7).trans rfl
        have p8 : W9.cell? ⟨w.heap.size, 8, none⟩ = some ((.bool v8)) := (BX0.out.cell 8).trans rfl
        have p9 : W9.cell? ⟨w.heap.size, 9, none⟩ = some ((.bool v9)) := (BX0.out.cell 9).trans rfl
        have q0 : W9.cell? ⟨w.heap.size + 1, 0, none⟩ = some (.int .u8 mode) := (BY0.out.cell 0).trans rfl
        have q1 : W9.cell? ⟨w.heap.size + 1, 1, none⟩ = some (.int .u8 ev) := (BY0.out.cell 1).trans rfl
        have q2 : W9.cell? ⟨w.heap.size + 1, 2, none⟩ = some (.int .u8 side) := (BY0.out.cell 2).trans rfl
        have q3 : W9.cell? ⟨w.heap.size + 1, 3, none⟩ = some ((.slice Ay3 ny3 cy3)) := (BY0.out.cell 3).trans rfl
        have q4 : W9.cell? ⟨w.heap.size + 1, 4, none⟩ = some ((.int .i64 y4)) := (BY0.out.cell 4).trans rfl
        have q5 : W9.cell? ⟨w.heap.size + 1, 5, none⟩ = some ((.int .i64 y5)) := (BY0.out.cell 5).trans rfl
        have q6 : W9.cell? ⟨w.heap.size + 1, 6, none⟩ = some ((.bool y6)) := (BY0.out.cell 6).trans rfl
        have q7 : W9.cell? ⟨w.heap.size + 1, 7, none⟩ = some ((.int .i64 y7)) := (BY0.out.cell 7).trans rfl
        have q8 : W9.cell? ⟨w.heap.size + 1, 8, none⟩ = some ((.int .u8 y8)) := (BY0.out.cell 8).trans rfl
        have q9 : W9.cell? ⟨w.heap.size + 1, 9, none⟩ = some ((.int .u8 y9)) := (BY0.out.cell 9).trans rfl
        have q10 : W9.cell? ⟨w.heap.size + 1, 10, none⟩ = some ((.int .u8 y10)) := (BY0.out.cell 10).trans rfl
        have q11 : W9.cell? ⟨w.heap.size + 1, 11, none⟩ = some ((.slice Ay11 ny11 cy11)) := (BY0.out.cell 11).trans rfl
        have r0 : W9.cell? ⟨x, 0, none⟩ = some (.int .u8 3) := (B140.out.cell 0).trans rfl
        have r1 : W9.cell? ⟨x, 1, none⟩ = some (.int .u8 ev) := (B140.out.cell 1).trans rfl
        have r2 : W9.cell? ⟨x, 2, none⟩ = some (.int .u8 side) := (B140.out.cell 2).trans rfl
        have r3 : W9.cell? ⟨x, 3, none⟩ = some ((.slice Ay3 ny3 cy3)) := (B140.out.cell 3).trans rfl
        have r4 : W9.cell? ⟨x, 4, none⟩ = some ((.int .i64 y4)) := (B140.out.cell 4).trans rfl
        have r5 : W9.cell? ⟨x, 5, none⟩ = some ((.int .i64 y5)) := (B140.out.cell 5).trans rfl
        have r6 : W9.cell? ⟨x, 6, none⟩ = some ((.bool y6)) := (B140.out.cell 6).trans rfl
        have r7 : W9.cell? ⟨x, 7, none⟩ = some ((.int .i64 y7)) := (B140.out.cell 7).trans rfl
        have r8 : W9.cell? ⟨x, 8, none⟩ = some ((.int .u8 y8)) := (B140.out.cell 8).trans rfl
        have r9 : W9.cell? ⟨x, 9, none⟩ = some ((.int .u8 y9)) := (B140.out.cell 9).trans rfl
        have r10 : W9.cell? ⟨x, 10, none⟩ = some ((.int .u8 y10)) := (B140.out.cell 10).trans rfl
        have r11 : W9.cell? ⟨x, 11, none⟩ = some ((.slice Ay11 ny11 cy11)) := (B140.out.cell 11).trans rfl
        have s0 : W9.cell? ⟨y, 0, none⟩ = some (.int .u8 4) := (B150.out.cell 0).trans rfl
        have s1 : W9.cell? ⟨y, 1, none⟩ = some (.int .u8 ev) := (B150.out.cell 1).trans rfl
        have s2 : W9.cell? ⟨y, 2, none⟩ = some (.int .u8 side) := (B150.out.cell 2).trans rfl
        have s3 : W9.cell? ⟨y, 3, none⟩ = some ((.slice Ay3 ny3 cy3)) := (B150.out.cell 3).trans rfl
        have s4 : W9.cell? ⟨y, 4, none⟩ = some ((.int .i64 y4)) := (B150.out.cell 4).trans rfl
        have s5 : W9.cell? ⟨y, 5, none⟩ = some ((.int .i64 y5)) := (B150.out.cell 5).trans rfl
        have s6 : W9.cell? ⟨y, 6, none⟩ = some ((.bool y6)) := (B150.out.cell 6).trans rfl
        have s7 : W9.cell? ⟨y, 7, none⟩ = some ((.int .i64 y7)) := (B150.out.cell 7).trans rfl
        have s8 : W9.cell? ⟨y, 8, none⟩ = some ((.int .u8 y8)) := (B150.out.cell 8).trans rfl
        have s9 : W9.cell? ⟨y, 9, none⟩ = some ((.int .u8 y9)) := (B150.out.cell 9).trans rfl
        have s10 : W9.cell? ⟨y, 10, none⟩ = some ((.int .u8 y10)) := (B150.out.cell 10).trans rfl
        have s11 : W9.cell? ⟨y, 11, none⟩ = some ((.slice Ay11 ny11 cy11)) := (B150.out.cell 11).trans rfl
        cases hC : offB who id ev side mo 3 l4 with
        | true =>
          have HC := Lib.hid hC
          have HD := Lib.hid (off_when who id ev side mo l4 hC)
          clear hC
          go_wp2_with fail
          refine (off_is (.slice Av0 nv0 cv0) (.slice Av1 nv1 cv1) (.int .i64 v2) (.int .i64 v3) (.int .i64 v4) (.int .u8 v5) (.slice Av7 nv7 cv7) (.bool v8) (.bool v9) (.slice Ay3 ny3 cy3) (.int .i64 y4) (.int .i64 y5) (.bool y6) (.int .i64 y7) (.int .u8 y8) (.int .u8 y9) (.int .u8 y10) (.slice Ay11 ny11 cy11) who id 3 ev side mo _ _ l4 true _ H0.out H1.out H2.out (Kd.C_below HR4.out HB0.out) HC.out).mono ?_
          rintro e w2 ⟨rfl, hb⟩
          clear p0 p1 p2 p3 p4 p5 p6 p7 p8 p9
          clear q0 q1 q2 q3 q4 q5 q6 q7 q8 q9 q10 q11
          clear r0 r1 r2 r3 r4 r5 r6 r7 r8 r9 r10 r11
          clear s0 s1 s2 s3 s4 s5 s6 s7 s8 s9 s10 s11
          have BX1 := Lib.hid (Blk.after BX0.out hb)
          have BY1 := Lib.hid (Blk.after BY0.out hb)
          have B141 := Lib.hid (Blk.after B140.out hb)
          have B151 := Lib.hid (Blk.after B150.out hb)
          have HB1 := Lib.hid (bstep HB0.out hb)
          clear hb
          have p0 : w2.cell? ⟨w.heap.size, 0, none⟩ = some ((.slice Av0 nv0 cv0)) := (BX1.out.cell 0).trans rfl
          have p1 : w2.cell? ⟨w.heap.size, 1, none⟩ = some ((.slice Av1 nv1 cv1)) := (BX1.out.cell 1).trans rfl
          have p2 : w2.cell? ⟨w.heap.size, 2, none⟩ = some ((.int .i64 v2)) := (BX1.out.cell 2).trans rfl
          have p3 : w2.cell? ⟨w.heap.size, 3, none⟩ = some ((.int .i64 v3)) := (BX1.out.cell 3).trans rfl
          have p4 : w2.cell? ⟨w.heap.size, 4, none⟩ = some ((.int .i64 v4)) := (BX1.out.cell 4).trans rfl
          have p5 : w2.cell? ⟨w.heap.size, 5, none⟩ = some ((.int .u8 v5)) := (BX1.out.cell 5).trans rfl
          have p6 : w2.cell? ⟨w.heap.size, 6, none⟩ = some (.int .i64 mo) := (BX1.out.cell 6).trans rfl
          have p7 : w2.cell? ⟨w.heap.size, 7, none⟩ = some ((.slice Av7 nv7 cv7)) := (BX1.out.cell 7).trans rfl
          have p8 : w2.cell? ⟨w.heap.size, 8, none⟩ = some ((.bool v8)) := (BX1.out.cell 8).trans rfl
          have p9 : w2.cell? ⟨w.heap.size, 9, none⟩ = some ((.bool v9)) := (BX1.out.cell 9).trans rfl
          have q0 : w2.cell? ⟨w.heap.size + 1, 0, none⟩ = some (.int .u8 mode) := (BY1.out.cell 0).trans rfl
          have q1 : w2.cell? ⟨w.heap.size + 1, 1, none⟩ = some (.int .u8 ev) := (BY1.out.cell 1).trans rfl
          have q2 : w2.cell? ⟨w.heap.size + 1, 2, none⟩ = some (.int .u8 side) := (BY1.out.cell 2).trans rfl
          have q3 : w2.cell? ⟨w.heap.size + 1, 3, none⟩ = some ((.slice Ay3 ny3 cy3)) := (BY1.out.cell 3).trans rfl
          have q4 : w2.cell? ⟨w.heap.size + 1, 4, none⟩ = some ((.int .i64 y4)) := (BY1.out.cell 4).trans rfl
          have q5 : w2.cell? ⟨w.heap.size + 1, 5, none⟩ = some ((.int .i64 y5)) := (BY1.out.cell 5).trans rfl
          have q6 : w2.cell? ⟨w.heap.size + 1, 6, none⟩ = some ((.bool y6)) := (BY1.out.cell 6).trans rfl
          have q7 : w2.cell? ⟨w.heap.size + 1, 7, none⟩ = some ((.int .i64 y7)) := (BY1.out.cell 7).trans rfl
          have q8 : w2.cell? ⟨w.heap.size + 1, 8, none⟩ = some ((.int .u8 y8)) := (BY1.out.cell 8).trans rfl
          have q9 : w2.cell? ⟨w.heap.size + 1, 9, none⟩ = some ((.int .u8 y9)) := (BY1.out.cell 9).trans rfl
          have q10 : w2.cell? ⟨w.heap.size + 1, 10, none⟩ = some ((.int .u8 y10)) := (BY1.out.cell 10).trans rfl
          have q11 : w2.cell? ⟨w.heap.size + 1, 11, none⟩ = some ((.slice Ay11 ny11 cy11)) := (BY1.out.cell 11).trans rfl
          have r0 : w2.cell? ⟨x, 0, none⟩ = some (.int .u8 3) := (B141.out.cell 0).trans rfl
          have r1 : w2.cell? ⟨x, 1, none⟩ = some (.int .u8 ev) := (B141.out.cell 1).trans rfl
          have r2 : w2.cell? ⟨x, 2, none⟩ = some (.int .u8 side) := (B141.out.cell 2).trans rfl
          have r3 : w2.cell? ⟨x, 3, none⟩ = some ((.slice Ay3 ny3 cy3)) := (B141.out.cell 3).trans rfl
          have r4 : w2.cell? ⟨x, 4, none⟩ = some ((.int .i64 y4)) := (B141.out.cell 4).trans rfl
          have r5 : w2.cell? ⟨x, 5, none⟩ = some ((.int .i64 y5)) := (B141.out.cell 5).trans rfl
          have r6 : w2.cell? ⟨x, 6, none⟩ = some ((.bool y6)) := (B141.out.cell 6).trans rfl
          have r7 : w2.cell? ⟨x, 7, none⟩ = some ((.int .i64 y7)) := (B141.out.cell 7).trans rfl
          have r8 : w2.cell? ⟨x, 8, none⟩ = some ((.int .u8 y8)) := (B141.out.cell 8).trans rfl
          have r9 : w2.cell? ⟨x, 9, none⟩ = some ((.int .u8 y9)) := (B141.out.cell 9).trans rfl
          have r10 : w2.cell? ⟨x, 10, none⟩ = some ((.int .u8 y10)) := (B141.out.cell 10).trans rfl
          have r11 : w2.cell? ⟨x, 11, none⟩ = some ((.slice Ay11 ny11 cy11)) := (B141.out.cell 11).trans rfl
          have s0 : w2.cell? ⟨y, 0, none⟩ = some (.int .u8 4) := (B151.out.cell 0).trans rfl
          have s1 : w2.cell? ⟨y, 1, none⟩ = some (.int .u8 ev) := (B151.out.cell 1).trans rfl
          have s2 : w2.cell? ⟨y, 2, none⟩ = some (.int .u8 side) := (B151.out.cell 2).trans rfl
          have s3 : w2.cell? ⟨y, 3, none⟩ = some ((.slice Ay3 ny3 cy3)) := (B151.out.cell 3).trans rfl
          have s4 : w2.cell? ⟨y, 4, none⟩ = some ((.int .i64 y4)) := (B151.out.cell 4).trans rfl
          have s5 : w2.cell? ⟨y, 5, none⟩ = some ((.int .i64 y5)) := (B151.out.cell 5).trans rfl
          have s6 : w2.cell? ⟨y, 6, none⟩ = some ((.bool y6)) := (B151.out.cell 6).trans rfl
          have s7 : w2.cell? ⟨y, 7, none⟩ = some ((.int .i64 y7)) := (B151.out.cell 7).trans rfl
          have s8 : w2.cell? ⟨y, 8, none⟩ = some ((.int .u8 y8)) := (B151.out.cell 8).trans rfl
          have s9 : w2.cell? ⟨y, 9, none⟩ = some ((.int .u8 y9)) := (B151.out.cell 9).trans rfl
          have s10 : w2.cell? ⟨y, 10, none⟩ = some ((.int .u8 y10)) := (B151.out.cell 10).trans rfl
          have s11 : w2.cell? ⟨y, 11, none⟩ = some ((.slice Ay11 ny11 cy11)) := (B151.out.cell 11).trans rfl
          go_wp2_with fail
          refine (off_is (.slice Av0 nv0 cv0) (.slice Av1 nv1 cv1) (.int .i64 v2) (.int .i64 v3) (.int .i64 v4) (.int .u8 v5) (.slice Av7 nv7 cv7) (.bool v8) (.bool v9) (.slice Ay3 ny3 cy3) (.int .i64 y4) (.int .i64 y5) (.bool y6) (.int .i64 y7) (.int .u8 y8) (.int .u8 y9) (.int .u8 y10) (.slice Ay11 ny11 cy11) who id 4 ev side mo _ _ l4 true _ H0.out H1.out H2.out (Kd.C_below HR4.out HB1.out) HD.out).mono ?_
          rintro e w3 ⟨rfl, hb⟩
          clear p0 p1 p2 p3 p4 p5 p6 p7 p8 p9
          clear q0 q1 q2 q3 q4 q5 q6 q7 q8 q9 q10 q11
          clear r0 r1 r2 r3 r4 r5 r6 r7 r8 r9 r10 r11
          clear s0 s1 s2 s3 s4 s5 s6 s7 s8 s9 s10 s11
          have BX2 := Lib.hid (Blk.after BX1.out hb)
          have BY2 := Lib.hid (Blk.after BY1.out hb)
          have B142 := Lib.hid (Blk.after B141.out hb)
          have B152 := Lib.hid (Blk.after B151.out hb)
          have HB2 := Lib.hid (bstep HB1.out hb)
          clear hb
          have p0 : w3.cell? ⟨w.heap.size, 0, none⟩ = some ((.slice Av0 nv0 cv0)) := (BX2.out.cell 0).trans rfl
          have p1 : w3.cell? ⟨w.heap.size, 1, none⟩ = some ((.slice Av1 nv1 cv1)) := (BX2.out.cell 1).trans rfl
          have p2 : w3.cell? ⟨w.heap.size, 2, none⟩ = some ((.int .i64 v2)) := (BX2.out.cell 2).trans rfl
          have p3 : w3.cell? ⟨w.heap.size, 3, none⟩ = some ((.int .i64 v3)) := (BX2.out.cell 3).trans rfl
          have p4 : w3.cell? ⟨w.heap.size, 4, none⟩ = some ((.int .i64 v4)) := (BX2.out.cell 4).trans rfl
          have p5 : w3.cell? ⟨w.heap.size, 5, none⟩ = some ((.int .u8 v5)) := (BX2.out.cell 5).trans rfl
          have p6 : w3.cell? ⟨w.heap.size, 6, none⟩ = some (.int .i64 mo) := (BX2.out.cell 6).trans rfl
          have p7 : w3.cell? ⟨w.heap.size, 7, none⟩ = some ((.slice Av7 nv7 cv7)) := (BX2.out.cell 7).trans rfl
          have p8 : w3.cell? ⟨w.heap.size, 8, none⟩ = some ((.bool v8)) := (BX2.out.cell 8).trans rfl
          have p9 : w3.cell? ⟨w.heap.size, 9, none⟩ = some ((.bool v9)) := (BX2.out.cell 9).trans rfl
          have q0 : w3.cell? ⟨w.heap.size + 1, 0, none⟩ = some (.int .u8 mode) := (BY2.out.cell 0).trans rfl
          have q1 : w3.cell? ⟨w.heap.size + 1, 1, none⟩ = some (.int .u8 ev) := (BY2.out.cell 1).trans rfl
          have q2 : w3.cell? ⟨w.heap.size + 1, 2, none⟩ = some (.int .u8 side) := (BY2.out.cell 2).trans rfl
          have q3 : w3.cell? ⟨w.heap.size + 1, 3, none⟩ = some ((.slice Ay3 ny3 cy3)) := (BY2.out.cell 3).trans rfl
          have q4 : w3.cell? ⟨w.heap.size + 1, 4, none⟩ = some ((.int .i64 y4)) := (BY2.out.cell 4).trans rfl
          have q5 : w3.cell? ⟨w.heap.size + 1, 5, none⟩ = some ((.int .i64 y5)) := (BY2.out.cell 5).trans rfl
          have q6 : w3.cell? ⟨w.heap.size + 1, 6, none⟩ = some ((.bool y6)) := (BY2.out.cell 6).trans rfl
          have q7 : w3.cell? ⟨w.heap.size + 1, 7, none⟩ = some ((.int .i64 y7)) := (BY2.out.cell 7).trans rfl
          have q8 : w3.cell? ⟨w.heap.size + 1, 8, none⟩ = some ((.int .u8 y8)) := (BY2.out.cell 8).trans rfl
          have q9 : w3.cell? ⟨w.heap.size + 1, 9, none⟩ = some ((.int .u8 y9)) := (BY2.out.cell 9).trans rfl
          have q10 : w3.cell? ⟨w.heap.size + 1, 10, none⟩ = some ((.int .u8 y10)) := (BY2.out.cell 10).trans rfl
          have q11 : w3.cell? ⟨w.heap.size + 1, 11, none⟩ = some ((.slice Ay11 ny11 cy11)) := (BY2.out.cell 11).trans rfl
          have r0 : w3.cell? ⟨x, 0, none⟩ = some (.int .u8 3) := (B142.out.cell 0).trans rfl
          have r1 : w3.cell? ⟨x, 1, none⟩ = some (.int .u8 ev) := (B142.out.cell 1).trans rfl
          have r2 : w3.cell? ⟨x, 2, none⟩ = some (.int .u8 side) := (B142.out.cell 2).trans rfl
          have r3 : w3.cell? ⟨x, 3, none⟩ = some ((.slice Ay3 ny3 cy3)) := (B142.out.cell 3).trans rfl
          have r4 : w3.cell? ⟨x, 4, none⟩ = some ((.int .i64 y4)) := (B142.out.cell 4).trans rfl
          have r5 : w3.cell? ⟨x, 5, none⟩ = some ((.int .i64 y5)) := (B142.out.cell 5).trans rfl
          have r6 : w3.cell? ⟨x, 6, none⟩ = some ((.bool y6)) := (B142.out.cell 6).trans rfl
          have r7 : w3.cell? ⟨x, 7, none⟩ = some ((.int .i64 y7)) := (B142.out.cell 7).trans rfl
          have r8 : w3.cell? ⟨x, 8, none⟩ = some ((.int .u8 y8)) := (B142.out.cell 8).trans rfl
          have r9 : w3.cell? ⟨x, 9, none⟩ = some ((.int .u8 y9)) := (B142.out.cell 9).trans rfl
          have r10 : w3.cell? ⟨x, 10, none⟩ = some ((.int .u8 y10)) := (B142.out.cell 10).trans rfl
          have r11 : w3.cell? ⟨x, 11, none⟩ = some ((.slice Ay11 ny11 cy11)) := (B142.out.cell 11).trans rfl
          have s0 : w3.cell? ⟨y, 0, none⟩ = some (.int .u8 4) := (B152.out.cell 0).trans rfl
          have s1 : w3.cell? ⟨y, 1, none⟩ = some (.int .u8 ev) := (B152.out.cell 1).trans rfl
          have s2 : w3.cell? ⟨y, 2, none⟩ = some (.int .u8 side) := (B152.out.cell 2).trans rfl
          have s3 : w3.cell? ⟨y, 3, none⟩ = some ((.slice Ay3 ny3 cy3)) := (B152.out.cell 3).trans rfl
          have s4 : w3.cell? ⟨y, 4, none⟩ = some ((.int .i64 y4)) := (B152.out.cell 4).trans rfl
          have s5 : w3.cell? ⟨y, 5, none⟩ = some ((.int .i64 y5)) := (B152.out.cell 5).trans rfl
          have s6 : w3.cell? ⟨y, 6, none⟩ = some ((.bool y6)) := (B152.out.cell 6).trans rfl
          have s7 : w3.cell? ⟨y, 7, none⟩ = some ((.int .i64 y7)) := (B152.out.cell 7).trans rfl
          have s8 : w3.cell? ⟨y, 8, none⟩ = some ((.int .u8 y8)) := (B152.out.cell 8).trans rfl
          have s9 : w3.cell? ⟨y, 9, none⟩ = some ((.int .u8 y9)) := (B152.out.cell 9).trans rfl
          have s10 : w3.cell? ⟨y, 10, none⟩ = some ((.int .u8 y10)) := (B152.out.cell 10).trans rfl
          have s11 : w3.cell? ⟨y, 11, none⟩ = some ((.slice Ay11 ny11 cy11)) := (B152.out.cell 11).trans rfl
          go_wp2_with fail
          refine (off_is (.slice Av0 nv0 cv0) (.slice Av1 nv1 cv1) (.int .i64 v2) (.int .i64 v3) (.int .i64 v4) (.int .u8 v5) (.slice Av7 nv7 cv7) (.bool v8) (.bool v9) (.slice Ay3 ny3 cy3) (.int .i64 y4) (.int .i64 y5) (.bool y6) (.int .i64 y7) (.int .u8 y8) (.int .u8 y9) (.int .u8 y10) (.slice Ay11 ny11 cy11) who id mode ev side mo none 0 [] false _ H0.out H1.out H2.out ((Kd.R_reads' (Kd.R_nil k38 38 _ 0 (fun _ => True))).2.2) (off_nil who id ev side mo mode)).mono ?_
          rintro e w4 ⟨rfl, hb⟩
          clear p0 p1 p2 p3 p4 p5 p6 p7 p8 p9
          clear q0 q1 q2 q3 q4 q5 q6 q7 q8 q9 q10 q11
          clear r0 r1 r2 r3 r4 r5 r6 r7 r8 r9 r10 r11
          clear s0 s1 s2 s3 s4 s5 s6 s7 s8 s9 s10 s11
          have BX3 := Lib.hid (Blk.after BX2.out hb)
          have BY3 := Lib.hid (Blk.after BY2.out hb)
          have B143 := Lib.hid (Blk.after B142.out hb)
          have B153 := Lib.hid (Blk.after B152.out hb)
          have HB3 := Lib.hid (bstep HB2.out hb)
          clear hb
          go_wp2_with fail
          go_meet
          case rel => exact ⟨rfl, ⟨BX3.out⟩, ⟨BY3.out⟩, ⟨B143.out⟩, ⟨B153.out⟩, ⟨HB3.out⟩⟩
        | false =>
          have HC := Lib.hid hC
          clear hC
          go_wp2_with fail
          refine (off_is (.slice Av0 nv0 cv0) (.slice Av1 nv1 cv1) (.int .i64 v2) (.int .i64 v3) (.int .i64 v4) (.int .u8 v5) (.slice Av7 nv7 cv7) (.bool v8) (.bool v9) (.slice Ay3 ny3 cy3) (.int .i64 y4) (.int .i64 y5) (.bool y6) (.int .i64 y7) (.int .u8 y8) (.int .u8 y9) (.int .u8 y10) (.slice Ay11 ny11 cy11) who id 3 ev side mo _ _ l4 false _ H0.out H1.out H2.out (Kd.C_below HR4.out HB0.out) HC.out).mono ?_
          rintro e w2 ⟨rfl, hb⟩
          clear p0 p1 p2 p3 p4 p5 p6 p7 p8 p9
          clear q0 q1 q2 q3 q4 q5 q6 q7 q8 q9 q10 q11
          clear r0 r1 r2 r3 r4 r5 r6 r7 r8 r9 r10 r11
          clear s0 s1 s2 s3 s4 s5 s6 s7 s8 s9 s10 s11
          have BX1 := Lib.hid (Blk.after BX0.out hb)
          have BY1 := Lib.hid (Blk.after BY0.out hb)
          have B141 := Lib.hid (Blk.after B140.out hb)
          have B151 := Lib.hid (Blk.after B150.out hb)
          have HB1 := Lib.hid (bstep HB0.out hb)
          clear hb
          have p0 : w2.cell? ⟨w.heap.size, 0, none⟩ = some ((.slice Av0 nv0 cv0)) := (BX1.out.cell 0).trans rfl
          have p1 : w2.cell? ⟨w.heap.size, 1, none⟩ = some ((.slice Av1 nv1 cv1)) := (BX1.out.cell 1).trans rfl
          have p2 : w2.cell? ⟨w.heap.size, 2, none⟩ = some ((.int .i64 v2)) := (BX1.out.cell 2).trans rfl
          have p3 : w2.cell? ⟨w.heap.size, 3, none⟩ = some ((.int .i64 v3)) := (BX1.out.cell 3).trans rfl
          have p4 : w2.cell? ⟨w.heap.size, 4, none⟩ = some ((.int .i64 v4)) := (BX1.out.cell 4).trans rfl
          have p5 : w2.cell? ⟨w.heap.size, 5, none⟩ = some ((.int .u8 v5)) := (BX1.out.cell 5).trans rfl
          have p6 : w2.cell? ⟨w.heap.size, 6, none⟩ = some (.int .i64 mo) := (BX1.out.cell 6).trans rfl
          have p7 : w2.cell? ⟨w.heap.size, 7, none⟩ = some ((.slice Av7 nv7 cv7)) := (BX1.out.cell 7).trans rfl
          have p8 : w2.cell? ⟨w.heap.size, 8, none⟩ = some ((.bool v8)) := (BX1.out.cell 8).trans rfl
          have p9 : w2.cell? ⟨w.heap.size, 9, none⟩ = some ((.bool v9)) := (BX1.out.cell 9).trans rfl
          have q0 : w2.cell? ⟨w.heap.size + 1, 0, none⟩ = some (.int .u8 mode) := (BY1.out.cell 0).trans rfl
          have q1 : w2.cell? ⟨w.heap.size + 1, 1, none⟩ = some (.int .u8 ev) := (BY1.out.cell 1).trans rfl
          have q2 : w2.cell? ⟨w.heap.size + 1, 2, none⟩ = some (.int .u8 side) := (BY1.out.cell 2).trans rfl
          have q3 : w2.cell? ⟨w.heap.size + 1, 3, none⟩ = some ((.slice Ay3 ny3 cy3)) := (BY1.out.cell 3).trans rfl
          have q4 : w2.cell? ⟨w.heap.size + 1, 4, none⟩ = some ((.int .i64 y4)) := (BY1.out.cell 4).trans rfl
          have q5 : w2.cell? ⟨w.heap.size + 1, 5, none⟩ = some ((.int .i64 y5)) := (BY1.out.cell 5).trans rfl
          have q6 : w2.cell? ⟨w.heap.size + 1, 6, none⟩ = some ((.bool y6)) := (BY1.out.cell 6).trans rfl
          have q7 : w2.cell? ⟨w.heap.size + 1, 7, none⟩ = some ((.int .i64 y7)) := (BY1.out.cell 7).trans rfl
          have q8 : w2.cell? ⟨w.heap.size + 1, 8, none⟩ = some ((.int .u8 y8)) := (BY1.out.cell 8).trans rfl
          have q9 : w2.cell? ⟨w.heap.size + 1, 9, none⟩ = some ((.int .u8 y9)) := (BY1.out.cell 9).trans rfl
          have q10 : w2.cell? ⟨w.heap.size + 1, 10, none⟩ = some ((.int .u8 y10)) := (BY1.out.cell 10).trans rfl
          have q11 : w2.cell? ⟨w.heap.size + 1, 11, none⟩ = some ((.slice Ay11 ny11 cy11)) := (BY1.out.cell 11).trans rfl
          have r0 : w2.cell? ⟨x, 0, none⟩ = some (.int .u8 3) := (B141.out.cell 0).trans rfl
          have r1 : w2.cell? ⟨x, 1, none⟩ = some (.int .u8 ev) := (B141.out.cell 1).trans rfl
          have r2 : w2.cell? ⟨x, 2, none⟩ = some (.int .u8 side) := (B141.out.cell 2).trans rfl
          have r3 : w2.cell? ⟨x, 3, none⟩ = some ((.slice Ay3 ny3 cy3)) := (B141.out.cell 3).trans rfl
          have r4 : w2.cell? ⟨x, 4, none⟩ = some ((.int .i64 y4)) := (B141.out.cell 4).trans rfl
          have r5 : w2.cell? ⟨x, 5, none⟩ = some ((.int .i64 y5)) := (B141.out.cell 5).trans rfl
          have r6 : w2.cell? ⟨x, 6, none⟩ = some ((.bool y6)) := (B141.out.cell 6).trans rfl
          have r7 : w2.cell? ⟨x, 7, none⟩ = some ((.int .i64 y7)) := (B141.out.cell 7).trans rfl
          have r8 : w2.cell? ⟨x, 8, none⟩ = some ((.int .u8 y8)) := (B141.out.cell 8).trans rfl
          have r9 : w2.cell? ⟨x, 9, none⟩ = some ((.int .u8 y9)) := (B141.out.cell 9).trans rfl
          have r10 : w2.cell? ⟨x, 10, none⟩ = some ((.int .u8 y10)) := (B141.out.cell 10).trans rfl
          have r11 : w2.cell? ⟨x, 11, none⟩ = some ((.slice Ay11 ny11 cy11)) := (B141.out.cell 11).trans rfl
          have s0 : w2.cell? ⟨y, 0, none⟩ = some (.int .u8 4) := (B151.out.cell 0).trans rfl
          have s1 : w2.cell? ⟨y, 1, none⟩ = some (.int .u8 ev) := (B151.out.cell 1).trans rfl
          have s2 : w2.cell? ⟨y, 2, none⟩ = some (.int .u8 side) := (B151.out.cell 2).trans rfl
          have s3 : w2.cell? ⟨y, 3, none⟩ = some ((.slice Ay3 ny3 cy3)) := (B151.out.cell 3).trans rfl
          have s4 : w2.cell? ⟨y, 4, none⟩ = some ((.int .i64 y4)) := (B151.out.cell 4).trans rfl
          have s5 : w2.cell? ⟨y, 5, none⟩ = some ((.int .i64 y5)) := (B151.out.cell 5).trans rfl
          have s6 : w2.cell? ⟨y, 6, none⟩ = some ((.bool y6)) := (B151.out.cell 6).trans rfl
          have s7 : w2.cell? ⟨y, 7, none⟩ = some ((.int .i64 y7)) := (B151.out.cell 7).trans rfl
          have s8 : w2.cell? ⟨y, 8, none⟩ = some ((.int .u8 y8)) := (B151.out.cell 8).trans rfl
          have s9 : w2.cell? ⟨y, 9, none⟩ = some ((.int .u8 y9)) := (B151.out.cell 9).trans rfl
          have s10 : w2.cell? ⟨y, 10, none⟩ = some ((.int .u8 y10)) := (B151.out.cell 10).trans rfl
          have s11 : w2.cell? ⟨y, 11, none⟩ = some ((.slice Ay11 ny11 cy11)) := (B151.out.cell 11).trans rfl
          go_wp2_with fail
          refine (off_is (.slice Av0 nv0 cv0) (.slice Av1 nv1 cv1) (.int .i64 v2) (.int .i64 v3) (.int .i64 v4) (.int .u8 v5) (.slice Av7 nv7 cv7) (.bool v8) (.bool v9) (.slice Ay3 ny3 cy3) (.int .i64 y4) (.int .i64 y5) (.bool y6) (.int .i64 y7) (.int .u8 y8) (.int .u8 y9) (.int .u8 y10) (.slice Ay11 ny11 cy11) who id mode ev side mo none 0 [] false _ H0.out H1.out H2.out ((Kd.R_reads' (Kd.R_nil k38 38 _ 0 (fun _ => True))).2.2) (off_nil who id ev side mo mode)).mono ?_
          rintro e w3 ⟨rfl, hb⟩
          clear p0 p1 p2 p3 p4 p5 p6 p7 p8 p9
          clear q0 q1 q2 q3 q4 q5 q6 q7 q8 q9 q10 q11
          clear r0 r1 r2 r3 r4 r5 r6 r7 r8 r9 r10 r11
          clear s0 s1 s2 s3 s4 s5 s6 s7 s8 s9 s10 s11
          have BX2 := Lib.hid (Blk.after BX1.out hb)
          have BY2 := Lib.hid (Blk.after BY1.out hb)
          have B142 := Lib.hid (Blk.after B141.out hb)
          have B152 := Lib.hid (Blk.after B151.out hb)
          have HB2 := Lib.hid (bstep HB1.out hb)
          clear hb
          go_wp2_with fail
          go_meet
          case rel => exact ⟨rfl, ⟨BX2.out⟩, ⟨BY2.out⟩, ⟨B142.out⟩, ⟨B152.out⟩, ⟨HB2.out⟩⟩
      case rest =>
        obtain ⟨rfl, BX, BY, B14, B15, HB⟩ := hcut
        clear BX0 BY0 B140 B150 HB0 BY B15
        have p0 : wc.cell? ⟨w.heap.size, 0, none⟩ = some ((.slice Av0 nv0 cv0)) := (BX.out.cell 0).trans rfl
        have p1 : wc.cell? ⟨w.heap.size, 1, none⟩ = some ((.slice Av1 nv1 cv1)) := (BX.out.cell 1).trans rfl
        have p2 : wc.cell? ⟨w.heap.size, 2, none⟩ = some ((.int .i64 v2)) := (BX.out.cell 2).trans rfl
        have p3 : wc.cell? ⟨w.heap.size, 3, none⟩ = some ((.int .i64 v3)) := (BX.out.cell 3).trans rfl
        have p4 : wc.cell? ⟨w.heap.size, 4, none⟩ = some ((.int .i64 v4)) := (BX.out.cell 4).trans rfl
        have p5 : wc.cell? ⟨w.heap.size, 5, none⟩ = some ((.int .u8 v5)) := (BX.out.cell 5).trans rfl
        have p6 : wc.cell? ⟨w.heap.size, 6, none⟩ = some (.int .i64 mo) := (BX.out.cell 6).trans rfl
        have p7 : wc.cell? ⟨w.heap.size, 7, none⟩ = some ((.slice Av7 nv7 cv7)) := (BX.out.cell 7).trans rfl
        have p8 : wc.cell? ⟨w.heap.size, 8, none⟩ = some ((.bool v8)) := (BX.out.cell 8).trans rfl
        have p9 : wc.cell? ⟨w.heap.size, 9, none⟩ = some ((.bool v9)) := (BX.out.cell 9).trans rfl
        have hz := Blk.new wc 28 #[(.slice Av0 nv0 cv0), (.slice Av1 nv1 cv1), (.int .i64 v2), (.int .i64 v3), (.int .i64 v4), (.int .u8 v5), .int .i64 (0), (.slice Av7 nv7 cv7), (.bool v8), (.bool v9)]
        have kx := B14.out.alloc (.cells #[(.slice Av0 nv0 cv0), (.slice Av1 nv1 cv1), (.int .i64 v2), (.int .i64 v3), (.int .i64 v4), (.int .u8 v5), .int .i64 (0), (.slice Av7 nv7 cv7), (.bool v8), (.bool v9)] 28)
        have kb := balloc HB.out (.cells #[(.slice Av0 nv0 cv0), (.slice Av1 nv1 cv1), (.int .i64 v2), (.int .i64 v3), (.int .i64 v4), (.int .u8 v5), .int .i64 (0), (.slice Av7 nv7 cv7), (.bool v8), (.bool v9)] 28)
        obtain ⟨z, ez⟩ : ∃ z, wc.heap.size = z := ⟨_, rfl⟩
        have hwz : w.heap.size ≤ z := ez ▸ HB.out.size
        have hxz : x < z := ez ▸ B14.out.lt
        have HWZ := Lib.hid hwz
        have HXZ := Lib.hid hxz
        clear hwz hxz
        go_wp2_with fail
        rw [ez] at hz
        have HZ1 := Lib.hid hz
        have HX1 := Lib.hid kx
        have HB1 := Lib.hid kb
        have EZ := Lib.hid ez
        clear hz kx kb ez p0 p1 p2 p3 p4 p5 p6 p7 p8 p9
        go_loopg [78] l4.length (fun gg s78 wr => ∃ (kk : Nat) (m : Int), kk ≤ l4.length ∧ l4.length - kk ≤ gg ∧ s78 = .int .i64 kk ∧ Aside0 (Blk wr z 28 #[(.slice Av0 nv0 cv0), (.slice Av1 nv1 cv1), (.int .i64 v2), (.int .i64 v3), (.int .i64 v4), (.int .u8 v5), .int .i64 (m), (.slice Av7 nv7 cv7), (.bool v8), (.bool v9)]) ∧ Aside0 (Blk wr x 34 #[.int .u8 3, .int .u8 ev, .int .u8 side, (.slice Ay3 ny3 cy3), (.int .i64 y4), (.int .i64 y5), (.bool y6), (.int .i64 y7), (.int .u8 y8), (.int .u8 y9), (.int .u8 y10), (.slice Ay11 ny11 cy11)]) ∧ Aside0 (Below w.heap.size w wr) ∧ Aside0 (-9223372036854775808 ≤ m) ∧ Aside0 (∀ j : Nat, j < kk → (rd_T38 l4 (j : Int)).f1 ≤ 1152921504606846976 → (rd_T38 l4 (j : Int)).f1 < m))
        case atStart => exact ⟨0, 0, Nat.zero_le _, by omega, rfl, ⟨HZ1.out⟩, ⟨HX1.out⟩, ⟨HB1.out⟩, ⟨by omega⟩, ⟨fun j hj => absurd hj (Nat.not_lt_zero _)⟩⟩
        case round =>
          obtain ⟨kk, m, hkk, hg, rfl, BZ, B14, HB, HM, HJ⟩ := hrel
          by_cases hlt : kk < l4.length
          · have hltz : (kk : Int) < (l4.length : Int) := by omega
            have hk0 : (0 : Int) ≤ (kk : Int) := Int.natCast_nonneg _
            obtain ⟨ad, rfl, d0, d1, d2, d3⟩ := at_T38 (Kd.C_below HR4.out HB.out) (kk : Int) hk0 hltz
            simp only [Int.toNat_natCast] at d0 d1 d2 d3
            clear d0 d2 d3
            obtain ⟨x1, hx1⟩ : ∃ x1, (rd_T38 l4 (kk : Int)).f1 = x1 := ⟨_, rfl⟩
            rw [hx1] at d1
            have HX1' := Lib.hid hx1
            clear hx1
            have c6 := BZ.out.cell 6
            have f6 := BZ.out.frozen 6
            simp only [List.getElem?_toArray, List.getElem?_cons_zero, List.getElem?_cons_succ] at c6
            go_wp2_with fail
            refine start_ (n := 12) (S := (fun w' => w'.cell? ⟨z, 6, none⟩ = some (.int .i64 m) ∧ w'.cell? ⟨(ad.add (kk * 4)).block, (ad.add (kk * 4)).off + 1, none⟩ = some (.int .i64 x1))) (ds := [11]) #[false, false, false, false, false, false, false, false, false, false, false, false] (by kernel_rfl) rfl (by kernel_rfl) ⟨c6, d1⟩ (fun hHeld => ?_)
            refine pure_ (i := 0) (N := some 81) (v := ?_) (a' := ?_) #[true, false, false, false, false, false, false, false, false, false, false, false] rfl rfl (by kernel_rfl) (fun _ _ _ h => h) (Or.inl ⟨by rfl, ?_⟩) ?_ ?_
            rotate_left
            · intro w'
              go_simp
              with_reducible rfl
            rotate_left
            · simp only [Act.put, List.setIfInBounds_toArray, List.set_cons_zero, List.set_cons_succ, i64_w]
              rfl
            refine pure_ (i := 2) (N := some 83) (v := ?_) (a' := ?_) #[true, false, true, false, false, false, false, false, false, false, false, false] rfl rfl (by kernel_rfl) (fun _ _ _ h => h) (Or.inl ⟨by rfl, ?_⟩) ?_ ?_
            rotate_left
            · intro w'
              go_simp
              with_reducible rfl
            rotate_left
            · simp only [Act.put, List.setIfInBounds_toArray, List.set_cons_zero, List.set_cons_succ, i64_w]
              rfl
            refine pure_ (i := 3) (N := some 84) (v := ?_) (a' := ?_) #[true, false, true, true, false, false, false, false, false, false, false, false] rfl rfl (by kernel_rfl) (fun _ _ _ h => h) (Or.inl ⟨by rfl, ?_⟩) ?_ ?_
            rotate_left
            · intro w'
              go_simp
              with_reducible rfl
            rotate_left
            · simp only [Act.put, List.setIfInBounds_toArray, List.set_cons_zero, List.set_cons_succ, i64_w]
              rfl
            refine pure_ (i := 4) (N := some 85) (v := ?_) (a' := ?_) #[true, false, true, true, true, false, false, false, false, false, false, false] rfl rfl (by kernel_rfl) (fun _ _ _ h => h) (Or.inl ⟨by rfl, ?_⟩) ?_ ?_
            rotate_left
            · intro w'
              go_simp
              with_reducible rfl
            rotate_left
            · simp only [Act.put, List.setIfInBounds_toArray, List.set_cons_zero, List.set_cons_succ, i64_w]
              rfl
            refine pure_ (i := 5) (N := some 86) (v := ?_) (a' := ?_) #[true, false, true, true, true, true, false, false, false, false, false, false] rfl rfl (by kernel_rfl) (fun _ _ _ h => h) (Or.inl ⟨by rfl, ?_⟩) ?_ ?_
            rotate_left
            · intro w'
              go_simp
              with_reducible rfl
            rotate_left
            · simp only [Act.put, List.setIfInBounds_toArray, List.set_cons_zero, List.set_cons_succ, i64_w]
              rfl
            refine take_ (i := 1) (N := some 82) (v := ?_) (a' := ?_) #[true, true, true, true, true, true, false, false, false, false, false, false] rfl rfl (by kernel_rfl) (fun _ _ _ h => h) (Or.inl ⟨by rfl, ?_⟩) hHeld ?_ ?_
            rotate_left
            · rintro w' ⟨s0, s1⟩
              go_simp
              with_reducible rfl
            rotate_left
            · simp only [Act.put, List.setIfInBounds_toArray, List.set_cons_zero, List.set_cons_succ, i64_w]
              rfl
            refine take_ (i := 6) (N := some 87) (v := ?_) (a' := ?_) #[true, true, true, true, true, true, true, false, false, false, false, false] rfl rfl (by kernel_rfl) (fun _ _ _ h => h) (Or.inl ⟨by rfl, ?_⟩) hHeld ?_ ?_
            rotate_left
            · rintro w' ⟨s0, s1⟩
              go_simp
              with_reducible rfl
            rotate_left
            · simp only [Act.put, List.setIfInBounds_toArray, List.set_cons_zero, List.set_cons_succ, i64_w]
              rfl
            refine pure_ (i := 7) (N := some 88) (v := ?_) (a' := ?_) #[true, true, true, true, true, true, true, true, false, false, false, false] rfl rfl (by kernel_rfl) (fun _ _ _ h => h) (Or.inl ⟨by rfl, ?_⟩) ?_ ?_
            rotate_left
            · intro w'
              go_simp
              with_reducible rfl
            rotate_left
            · simp only [Act.put, List.setIfInBounds_toArray, List.set_cons_zero, List.set_cons_succ, i64_w]
              rfl
            refine pure_ (i := 8) (N := some 89) (v := ?_) (a' := ?_) #[true, true, true, true, true, true, true, true, true, false, false, false] rfl rfl (by kernel_rfl) (fun _ _ _ h => h) (Or.inl ⟨by rfl, ?_⟩) ?_ ?_
            rotate_left
            · intro w'
              go_simp
              with_reducible rfl
            rotate_left
            · simp only [Act.put, List.setIfInBounds_toArray, List.set_cons_zero, List.set_cons_succ, i64_w]
              rfl
            refine pure_ (i := 9) (N := some 90) (v := ?_) (a' := ?_) #[true, true, true, true, true, true, true, true, true, true, false, false] rfl rfl (by kernel_rfl) (fun _ _ _ h => h) (Or.inl ⟨by rfl, ?_⟩) ?_ ?_
            rotate_left
            · intro w'
              go_simp
              with_reducible rfl
            rotate_left
            · simp only [Act.put, List.setIfInBounds_toArray, List.set_cons_zero, List.set_cons_succ, i64_w]
              rfl
            refine pure_ (i := 10) (N := some 91) (v := ?_) (a' := ?_) #[true, true, true, true, true, true, true, true, true, true, true, false] rfl rfl (by kernel_rfl) (fun _ _ _ h => h) (Or.inl ⟨by rfl, ?_⟩) ?_ ?_
            rotate_left
            · intro w'
              go_simp
              with_reducible rfl
            rotate_left
            · simp only [Act.put, List.setIfInBounds_toArray, List.set_cons_zero, List.set_cons_succ, i64_w]
              rfl
            refine last_ (i := 11) (N := none) #[true, true, true, true, true, true, true, true, true, true, true, true] rfl rfl (by kernel_rfl) (by simp) (fun K hK => ?_)
            rw [if_pos (by rfl)]
            go_simp
            refine hK.out _ _ ?_
            clear hK K
            refine done_ (by kernel_rfl) ?_
            go_wp2_with fail
            · go_roundg (l4.length - (kk + 1))
              case measure => omega
              case rel =>
                have hl4b := HL4.out
                have eN : wrap64 ((kk : Int) + 1) = ((kk + 1 : Nat) : Int) := by unfold wrap64; omega
                have HXr := HW4.out _ (rd_mem l4 kk hlt).1
                rw [HX1'.out] at HXr
                have hm0 := HM.out
                have hwz := HWZ.out
                have hxz := HXZ.out
                have eC : wrap64 1152921504606846977 = 1152921504606846977 := by unfold wrap64; omega
                exact ⟨kk + 1, wrap64 1152921504606846977, by omega, by omega, congrArg (Value.int .i64) eN, ⟨Blk.drew ((BZ.out.set_ 6 (.int .i64 (wrap64 1152921504606846977))).to rfl)⟩, ⟨Blk.drew (B14.out.far (p := ⟨z, 6, none⟩) (show x ≠ z by omega) (.int .i64 (wrap64 1152921504606846977)))⟩, ⟨bdrewM (bset HB.out (show w.heap.size ≤ z by omega) (j := 6) (v := .int .i64 (wrap64 1152921504606846977)))⟩, ⟨by omega⟩, ⟨grows_step (fun j => (rd_T38 l4 (j : Int)).f1) kk m x1 _ HX1'.out HJ.out (by omega) (fun hle => by omega)⟩⟩
            · go_roundg (l4.length - (kk + 1))
              case measure => omega
              case rel =>
                have hl4b := HL4.out
                have eN : wrap64 ((kk : Int) + 1) = ((kk + 1 : Nat) : Int) := by unfold wrap64; omega
                have HXr := HW4.out _ (rd_mem l4 kk hlt).1
                rw [HX1'.out] at HXr
                have hm0 := HM.out
                have hwz := HWZ.out
                have hxz := HXZ.out
                have eC : wrap64 1152921504606846977 = 1152921504606846977 := by unfold wrap64; omega
                exact ⟨kk + 1, m, by omega, by omega, congrArg (Value.int .i64) eN, ⟨Blk.drew ((BZ.out.set_ 6 (.int .i64 (m))).to rfl)⟩, ⟨Blk.drew (B14.out.far (p := ⟨z, 6, none⟩) (show x ≠ z by omega) (.int .i64 (m)))⟩, ⟨bdrewM (bset HB.out (show w.heap.size ≤ z by omega) (j := 6) (v := .int .i64 (m)))⟩, ⟨by omega⟩, ⟨grows_step (fun j => (rd_T38 l4 (j : Int)).f1) kk m x1 _ HX1'.out HJ.out (by omega) (fun hle => by omega)⟩⟩
            · go_roundg (l4.length - (kk + 1))
              case measure => omega
              case rel =>
                have hl4b := HL4.out
                have eN : wrap64 ((kk : Int) + 1) = ((kk + 1 : Nat) : Int) := by unfold wrap64; omega
                have HXr := HW4.out _ (rd_mem l4 kk hlt).1
                rw [HX1'.out] at HXr
                have hm0 := HM.out
                have hwz := HWZ.out
                have hxz := HXZ.out
                have eW : wrap64 (x1 + 1) = x1 + 1 := by unfold wrap64; omega
                exact ⟨kk + 1, wrap64 (x1 + 1), by omega, by omega, congrArg (Value.int .i64) eN, ⟨Blk.drew ((BZ.out.set_ 6 (.int .i64 (wrap64 (x1 + 1)))).to rfl)⟩, ⟨Blk.drew (B14.out.far (p := ⟨z, 6, none⟩) (show x ≠ z by omega) (.int .i64 (wrap64 (x1 + 1))))⟩, ⟨bdrewM (bset HB.out (show w.heap.size ≤ z by omega) (j := 6) (v := .int .i64 (wrap64 (x1 + 1))))⟩, ⟨by omega⟩, ⟨grows_step (fun j => (rd_T38 l4 (j : Int)).f1) kk m x1 _ HX1'.out HJ.out (by omega) (fun hle => by omega)⟩⟩
            · go_roundg (l4.length - (kk + 1))
              case measure => omega
              case rel =>
                have hl4b := HL4.out
                have eN : wrap64 ((kk : Int) + 1) = ((kk + 1 : Nat) : Int) := by unfold wrap64; omega
                have HXr := HW4.out _ (rd_mem l4 kk hlt).1
                rw [HX1'.out] at HXr
                have hm0 := HM.out
                have hwz := HWZ.out
                have hxz := HXZ.out
                have eW : wrap64 (x1 + 1) = x1 + 1 := by unfold wrap64; omega
                exact ⟨kk + 1, m, by omega, by omega, congrArg (Value.int .i64) eN, ⟨Blk.drew ((BZ.out.set_ 6 (.int .i64 (m))).to rfl)⟩, ⟨Blk.drew (B14.out.far (p := ⟨z, 6, none⟩) (show x ≠ z by omega) (.int .i64 (m)))⟩, ⟨bdrewM (bset HB.out (show w.heap.size ≤ z by omega) (j := 6) (v := .int .i64 (m)))⟩, ⟨by omega⟩, ⟨grows_step (fun j => (rd_T38 l4 (j : Int)).f1) kk m x1 _ HX1'.out HJ.out (by omega) (fun hle => by omega)⟩⟩
          · have hltz : ¬ (kk : Int) < (l4.length : Int) := by omega
            have hkn : kk = l4.length := by omega
            subst hkn
            go_wp2_with fail
            go_loopg [95] l4.length (fun gg s95 wq => ∃ k2 : Nat, k2 ≤ l4.length ∧ l4.length - k2 ≤ gg ∧ s95 = .int .i64 k2 ∧ Aside0 (Blk wq z 28 #[(.slice Av0 nv0 cv0), (.slice Av1 nv1 cv1), (.int .i64 v2), (.int .i64 v3), (.int .i64 v4), (.int .u8 v5), .int .i64 (m), (.slice Av7 nv7 cv7), (.bool v8), (.bool v9)]) ∧ Aside0 (Blk wq x 34 #[.int .u8 3, .int .u8 ev, .int .u8 side, (.slice Ay3 ny3 cy3), (.int .i64 y4), (.int .i64 y5), (.bool y6), (.int .i64 y7), (.int .u8 y8), (.int .u8 y9), (.int .u8 y10), (.slice Ay11 ny11 cy11)]) ∧ Aside0 (Below w.heap.size w wq) ∧ Aside0 (∀ j : Nat, j < k2 → (rd_T38 l4 (j : Int)).f1 ≤ 1152921504606846976))
            case atStart => exact ⟨0, Nat.zero_le _, by omega, rfl, ⟨BZ.out⟩, ⟨B14.out⟩, ⟨HB.out⟩, ⟨fun j hj => absurd hj (Nat.not_lt_zero _)⟩⟩
            case round =>
              obtain ⟨k2, hk2, hg2, rfl, BZ2, B142, HB2, HL⟩ := hrel
              by_cases hlt2 : k2 < l4.length
              · have hltz2 : (k2 : Int) < (l4.length : Int) := by omega
                have hk0 : (0 : Int) ≤ (k2 : Int) := Int.natCast_nonneg _
                obtain ⟨ad, rfl, d0, d1, d2, d3⟩ := at_T38 (Kd.C_below HR4.out HB2.out) (k2 : Int) hk0 hltz2
                simp only [Int.toNat_natCast] at d0 d1 d2 d3
                clear d0 d2 d3
                obtain ⟨x1, hx1⟩ : ∃ x1, (rd_T38 l4 (k2 : Int)).f1 = x1 := ⟨_, rfl⟩
                rw [hx1] at d1
                have HX1' := Lib.hid hx1
                clear hx1
                by_cases hx60 : 1152921504606846976 < x1
                · go_wp2_with (go_at_call 15; refine (lives_is _).mono ?_; rintro e w1 ⟨rfl, hb⟩)
                  go_ret
                  exact ⟨rfl, bstep HB2.out hb⟩
                · go_wp2_with fail
                  go_roundg (l4.length - (k2 + 1))
                  case measure => omega
                  have hl4b := HL4.out
                  have eN : wrap64 ((k2 : Int) + 1) = ((k2 + 1 : Nat) : Int) := by unfold wrap64; omega
                  case rel => exact ⟨k2 + 1, by omega, by omega, congrArg (Value.int .i64) eN, ⟨BZ2.out⟩, ⟨B142.out⟩, ⟨HB2.out⟩, ⟨fun j hj => by
                    by_cases hjk : j < k2
                    · exact HL.out j hjk
                    · have hjk2 : j = k2 := by omega
                      subst hjk2; rw [HX1'.out]; omega⟩⟩
              · have hltz2 : ¬ (k2 : Int) < (l4.length : Int) := by omega
                have hkn : k2 = l4.length := by omega
                subst hkn
                have p0 : wr.cell? ⟨z, 0, none⟩ = some ((.slice Av0 nv0 cv0)) := (BZ2.out.cell 0).trans rfl
                have p1 : wr.cell? ⟨z, 1, none⟩ = some ((.slice Av1 nv1 cv1)) := (BZ2.out.cell 1).trans rfl
                have p2 : wr.cell? ⟨z, 2, none⟩ = some ((.int .i64 v2)) := (BZ2.out.cell 2).trans rfl
                have p3 : wr.cell? ⟨z, 3, none⟩ = some ((.int .i64 v3)) := (BZ2.out.cell 3).trans rfl
                have p4 : wr.cell? ⟨z, 4, none⟩ = some ((.int .i64 v4)) := (BZ2.out.cell 4).trans rfl
                have p5 : wr.cell? ⟨z, 5, none⟩ = some ((.int .u8 v5)) := (BZ2.out.cell 5).trans rfl
                have p6 : wr.cell? ⟨z, 6, none⟩ = some (.int .i64 (m)) := (BZ2.out.cell 6).trans rfl
                have p7 : wr.cell? ⟨z, 7, none⟩ = some ((.slice Av7 nv7 cv7)) := (BZ2.out.cell 7).trans rfl
                have p8 : wr.cell? ⟨z, 8, none⟩ = some ((.bool v8)) := (BZ2.out.cell 8).trans rfl
                have p9 : wr.cell? ⟨z, 9, none⟩ = some ((.bool v9)) := (BZ2.out.cell 9).trans rfl
                have q0 : wr.cell? ⟨x, 0, none⟩ = some (.int .u8 3) := (B142.out.cell 0).trans rfl
                have q1 : wr.cell? ⟨x, 1, none⟩ = some (.int .u8 ev) := (B142.out.cell 1).trans rfl
                have q2 : wr.cell? ⟨x, 2, none⟩ = some (.int .u8 side) := (B142.out.cell 2).trans rfl
                have q3 : wr.cell? ⟨x, 3, none⟩ = some ((.slice Ay3 ny3 cy3)) := (B142.out.cell 3).trans rfl
                have q4 : wr.cell? ⟨x, 4, none⟩ = some ((.int .i64 y4)) := (B142.out.cell 4).trans rfl
                have q5 : wr.cell? ⟨x, 5, none⟩ = some ((.int .i64 y5)) := (B142.out.cell 5).trans rfl
                have q6 : wr.cell? ⟨x, 6, none⟩ = some ((.bool y6)) := (B142.out.cell 6).trans rfl
                have q7 : wr.cell? ⟨x, 7, none⟩ = some ((.int .i64 y7)) := (B142.out.cell 7).trans rfl
                have q8 : wr.cell? ⟨x, 8, none⟩ = some ((.int .u8 y8)) := (B142.out.cell 8).trans rfl
                have q9 : wr.cell? ⟨x, 9, none⟩ = some ((.int .u8 y9)) := (B142.out.cell 9).trans rfl
                have q10 : wr.cell? ⟨x, 10, none⟩ = some ((.int .u8 y10)) := (B142.out.cell 10).trans rfl
                have q11 : wr.cell? ⟨x, 11, none⟩ = some ((.slice Ay11 ny11 cy11)) := (B142.out.cell 11).trans rfl
                have HOF := Lib.hid (off_late who id ev side m l4 (fun y hy => by
                  obtain ⟨j, hj, rfl⟩ := List.getElem_of_mem hy
                  rw [← (rd_mem l4 j hj).2]
                  exact HJ.out j hj (HL.out j hj)))
                go_wp2_with fail
                refine (off_is (.slice Av0 nv0 cv0) (.slice Av1 nv1 cv1) (.int .i64 v2) (.int .i64 v3) (.int .i64 v4) (.int .u8 v5) (.slice Av7 nv7 cv7) (.bool v8) (.bool v9) (.slice Ay3 ny3 cy3) (.int .i64 y4) (.int .i64 y5) (.bool y6) (.int .i64 y7) (.int .u8 y8) (.int .u8 y9) (.int .u8 y10) (.slice Ay11 ny11 cy11) who id 3 ev side m _ _ l4 false _ H0.out H1.out H2.out (Kd.C_below HR4.out HB2.out) HOF.out).mono ?_
                rintro e w2 ⟨rfl, hb⟩
                clear p0 p1 p2 p3 p4 p5 p6 p7 p8 p9
                clear q0 q1 q2 q3 q4 q5 q6 q7 q8 q9 q10 q11
                go_wp2_with (go_at_call 15; refine (lives_is _).mono ?_; rintro e w3 ⟨rfl, hb3⟩)
                go_ret
                exact ⟨rfl, bstep (bstep HB2.out hb) hb3⟩
end Go.Proofs.Ytnceobnglofnmaa.Mat
end
section
/- MatchGrows: the walk, its two ways joined. -/
namespace Go.Proofs.Ytnceobnglofnmaa.Pure
open Go.RowKit Go.Proofs.Ytnceobnglofnmaa.Base Go.Proofs.YtnceobnglofnmaaW.PrintWords Go.Proofs.YtnceobnglofnmaaW.PrintLast Go.Proofs.Ytnceobnglofnmaa.Pmtb Go.Proofs.Ytnceobnglofnmaa.Mtt Go.Proofs.Ytnceobnglofnmaa.Pmts
set_option linter.unusedVariables false
theorem MatchGrows_walk (A0_0 : Option Addr) (c0_0 : Nat) (l0_0 : List (S95)) (A0_1 : Option Addr) (c0_1 : Nat) (l0_1 : List (S47)) (a0_2_0 : Int) (a0_2_1 : Int) (a0_3 : Int) (a0_4 : Int) (a0_5 : Int) (A0_6 : Option Addr) (c0_6 : Nat) (l0_6 : List (S38)) (a0_7_0 : Bool) (a0_7_1 : Bool) (a1 : Int) (a2 : Int) (a3_0 : Int) (a3_1 : Int) (a3_2 : Int) (A3_3 : Option Addr) (c3_3 : Nat) (l3_3 : List (S105)) (a3_4 : Int) (a3_5 : Int) (a3_6 : Bool) (a3_7 : Int) (a3_8_0 : Int) (a3_8_1 : Int) (a3_8_2 : Int) (A3_9 : Option Addr) (c3_9 : Nat) (l3_9 : List (S107)) (A4 : Option Addr) (c4 : Nat) (l4 : List (S38)) (A5 : Option Addr) (c5 : Nat) (l5 : List (S38)) (w : World)
    (hc0_0 : l0_0.length ≤ c0_0) (hr0_0 : Kd.C (k95) w A0_0 l0_0.length l0_0) (hw0_0 : (l0_0.length * Try.prog.bytesOf 95 ≤ reachBytes ∧ l0_0.length ≤ maxLen ∧ ∀ y ∈ l0_0, Opens.ok95 y)) (hc0_1 : l0_1.length ≤ c0_1) (hr0_1 : Kd.C (k47) w A0_1 l0_1.length l0_1) (hw0_1 : (l0_1.length * Try.prog.bytesOf 47 ≤ reachBytes ∧ l0_1.length ≤ maxLen ∧ ∀ y ∈ l0_1, Opens.ok47 y)) (hw0_2_0 : (Lit.int .i64 a0_2_0).wf = true) (hw0_2_1 : (Lit.int .i64 a0_2_1).wf = true) (hw0_3 : (Lit.int .i64 a0_3).wf = true) (hw0_4 : (Lit.int .u8 a0_4).wf = true) (hw0_5 : (Lit.int .i64 a0_5).wf = true) (hc0_6 : l0_6.length ≤ c0_6) (hr0_6 : Kd.C (k38) w A0_6 l0_6.length l0_6) (hw0_6 : (l0_6.length * Try.prog.bytesOf 38 ≤ reachBytes ∧ l0_6.length ≤ maxLen ∧ ∀ y ∈ l0_6, Opens.ok38 y)) (hw1 : (Lit.int .u8 a1).wf = true) (hw2 : (Lit.int .i64 a2).wf = true) (hw3_0 : (Lit.int .u8 a3_0).wf = true) (hw3_1 : (Lit.int .u8 a3_1).wf = true) (hw3_2 : (Lit.int .u8 a3_2).wf = true) (hc3_3 : l3_3.length ≤ c3_3) (hr3_3 : Kd.C (k105) w A3_3 l3_3.length l3_3) (hw3_3 : (l3_3.length * Try.prog.bytesOf 105 ≤ reachBytes ∧ l3_3.length ≤ maxLen ∧ ∀ y ∈ l3_3, Opens.ok105 y)) (hw3_4 : (Lit.int .i64 a3_4).wf = true) (hw3_5 : (Lit.int .i64 a3_5).wf = true) (hw3_7 : (Lit.int .i64 a3_7).wf = true) (hw3_8_0 : (Lit.int .u8 a3_8_0).wf = true) (hw3_8_1 : (Lit.int .u8 a3_8_1).wf = true) (hw3_8_2 : (Lit.int .u8 a3_8_2).wf = true) (hc3_9 : l3_9.length ≤ c3_9) (hr3_9 : Kd.C (k107) w A3_9 l3_9.length l3_9) (hw3_9 : (l3_9.length * Try.prog.bytesOf 107 ≤ reachBytes ∧ l3_9.length ≤ maxLen ∧ ∀ y ∈ l3_9, Opens.ok107 y)) (hc4 : l4.length ≤ c4) (hr4 : Kd.C (k38) w A4 l4.length l4) (hw4 : (l4.length * Try.prog.bytesOf 38 ≤ reachBytes ∧ l4.length ≤ maxLen ∧ ∀ y ∈ l4, Opens.ok38 y)) (hc5 : l5.length ≤ c5) (hr5 : Kd.C (k38) w A5 l5.length l5) (hw5 : (l5.length * Try.prog.bytesOf 38 ≤ reachBytes ∧ l5.length ≤ maxLen ∧ ∀ y ∈ l5, Opens.ok38 y)) :
    Calls Try.prog 3 #[.agg #[.slice A0_0 l0_0.length c0_0, .slice A0_1 l0_1.length c0_1, .int .i64 a0_2_0, .int .i64 a0_2_1, .int .i64 a0_3, .int .u8 a0_4, .int .i64 a0_5, .slice A0_6 l0_6.length c0_6, .bool a0_7_0, .bool a0_7_1], .int .u8 a1, .int .i64 a2, .agg #[.int .u8 a3_0, .int .u8 a3_1, .int .u8 a3_2, .slice A3_3 l3_3.length c3_3, .int .i64 a3_4, .int .i64 a3_5, .bool a3_6, .int .i64 a3_7, .int .u8 a3_8_0, .int .u8 a3_8_1, .int .u8 a3_8_2, .slice A3_9 l3_9.length c3_9], .slice A4 l4.length c4, .slice A5 l5.length c5] w fun e w' => e = .returned (.bool true) ∧ Below w.heap.size w w' := by
  have u8_lo : ∀ {z : Int}, (Lit.int .u8 z).wf = true → 0 ≤ z := fun h => by simp [Lit.wf, IntKind.min, IntKind.max, IntKind.signed, IntKind.bits] at h; omega
  have u8_hi : ∀ {z : Int}, (Lit.int .u8 z).wf = true → z ≤ 255 := fun h => by simp [Lit.wf, IntKind.min, IntKind.max, IntKind.signed, IntKind.bits] at h; omega
  have i64b : ∀ {z : Int}, (Lit.int .i64 z).wf = true → -9223372036854775808 ≤ z ∧ z ≤ 9223372036854775807 := fun h => by simp [Lit.wf, IntKind.min, IntKind.max, IntKind.signed, IntKind.bits] at h; omega
  by_cases hl : l4.length ≤ 1000 ∧ l5.length ≤ 1000
  · exact Mat.grows_main A0_0 l0_0.length c0_0 A0_1 l0_1.length c0_1 a0_2_0 a0_2_1 a0_3 a0_4 A0_6 l0_6.length c0_6 a0_7_0 a0_7_1 A3_3 l3_3.length c3_3 a3_4 a3_5 a3_6 a3_7 a3_8_0 a3_8_1 a3_8_2 A3_9 l3_9.length c3_9 a1 a2 a3_0 a3_1 a3_2 a0_5 A4 c4 l4 A5 c5 l5 w hl.1 hl.2 (u8_lo hw1) (u8_lo hw3_2) (u8_hi hw3_2) hr4 hr5 (fun x hx => i64b (hw4.2.2 x hx).2.1)
  · exact Mat.grows_skip (.slice A0_0 l0_0.length c0_0) (.slice A0_1 l0_1.length c0_1) (.int .i64 a0_2_0) (.int .i64 a0_2_1) (.int .i64 a0_3) (.int .u8 a0_4) (.slice A0_6 l0_6.length c0_6) (.bool a0_7_0) (.bool a0_7_1) (.slice A3_3 l3_3.length c3_3) (.int .i64 a3_4) (.int .i64 a3_5) (.bool a3_6) (.int .i64 a3_7) (.int .u8 a3_8_0) (.int .u8 a3_8_1) (.int .u8 a3_8_2) (.slice A3_9 l3_9.length c3_9) a1 a2 a3_0 a3_1 a3_2 a0_5 A4 c4 l4 A5 c5 l5 w (by omega)
end Go.Proofs.Ytnceobnglofnmaa.Pure
end
