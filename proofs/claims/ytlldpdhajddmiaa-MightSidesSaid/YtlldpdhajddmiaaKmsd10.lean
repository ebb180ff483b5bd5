/- Joined by a program of this session (pack.py) out of: Matk Matc BaseMt -/
import Derived.Shelf.RegionOpen
import Derived.Sort.CutIn
import Derived.Test.YtlldpdhajddmiaaKmsd4
import Derived.Test.YtlldpdhajddmiaaKmsd5
import Derived.Test.YtlldpdhajddmiaaKmsd8
import Derived.Test.YtlldpdhajddmiaaKmsd9
section
/- How strong a piece attacks (might.Attack): the loop over what auras give. -/
namespace Go.Proofs.Ytlldpdhajddmiaa.Bmay
open Go Go.RowKit Go.Shelf Go.Proofs.Ytlldpdhajddmiaa.Base Go.Proofs.Ytlldpdhajddmiaa.Pmga Go.Proofs.YtlldpdhajddmiaaW.PrintWords Go.Proofs.YtlldpdhajddmiaaW.PrintLast Go.Proofs.YtlldpdhajddmiaaW.PrintMore
def put3 (n a b : Int) : Int := mn (mx n a) b
theorem put3_bd (n a b : Int) (h : a ≤ b) : a ≤ put3 n a b ∧ put3 n a b ≤ b := by unfold put3 mn mx; split <;> split <;> omega
def addG (l0 : List S97) (l1 : List PS) (p : PS) (id : Int) (g : Int) (x : Int × S107) : Int :=
  if (p.f5 == 2 && pickB l0 l1 (rd_T35 l1 x.1).f4 x.1 x.2.f4.f0 x.2.f4.f1 x.2.f4.f2 id) = true then put3 (g + put3 x.2.f2.f1 0 99999) 0 199998 else g
def givenV (l0 : List S97) (l1 : List PS) (p : PS) (id : Int) (xs : List (Int × S107)) : Int := xs.foldl (addG l0 l1 p id) 0
def attackV (l0 : List S97) (l1 : List PS) (id : Int) : Int :=
  put3 ((rd_T35 l1 id).f1 + put3 (rd_T35 l1 id).f13 (-99999) 99999 + givenV l0 l1 (rd_T35 l1 id) id (auraL l0 l1 0)) 0 99999
theorem given_bd (l0 : List S97) (l1 : List PS) (p : PS) (id : Int) (xs : List (Int × S107)) : 0 ≤ givenV l0 l1 p id xs ∧ givenV l0 l1 p id xs ≤ 199998 := by
  unfold givenV
  suffices h : ∀ (xs : List (Int × S107)) (g : Int), 0 ≤ g ∧ g ≤ 199998 → 0 ≤ xs.foldl (addG l0 l1 p id) g ∧ xs.foldl (addG l0 l1 p id) g ≤ 199998 from h xs 0 (by omega)
  intro xs
  induction xs with
  | nil => exact fun g h => h
  | cons x r ih =>
    intro g h
    refine ih _ ?_
    unfold addG
    split
    · exact put3_bd _ 0 199998 (by omega)
    · exact h
theorem given_snoc (l0 : List S97) (l1 : List PS) (p : PS) (id : Int) (xs : List (Int × S107)) (x : Int × S107) : givenV l0 l1 p id (xs ++ [x]) = addG l0 l1 p id (givenV l0 l1 p id xs) x := by unfold givenV; rw [List.foldl_append]; rfl
theorem aura_ix' (l0 : List S97) (x : Int × S107) : ∀ (l : List PS) (k : Nat), x ∈ auraL l0 l k → (k : Int) ≤ x.1 ∧ x.1 < ((k + l.length : Nat) : Int)
  | [], k, h => by simp [auraL] at h
  | p :: r, k, h => by
    unfold auraL at h
    rcases List.mem_append.1 h with h | h
    · unfold auraP at h
      split at h
      · obtain ⟨e, _, he⟩ := List.mem_flatMap.1 h
        obtain ⟨s, _, rfl⟩ := List.mem_map.1 he
        simp only [List.length_cons]; omega
      · cases h
    · have := aura_ix' l0 x r (k + 1) h
      simp only [List.length_cons]; omega
theorem aura_ix (l0 : List S97) (l1 : List PS) (x : Int × S107) (h : x ∈ auraL l0 l1 0) : 0 ≤ x.1 ∧ x.1 < (l1.length : Int) := by
  have := aura_ix' l0 x l1 0 h
  rw [Nat.zero_add] at this
  exact this
theorem ret_i {k : IntKind} {a b : Int} (h : a = b) : Ending.returned (.int k a) = .returned (.int k b) := by rw [h]
theorem put_q (n a b : Int) (w : World) : Calls Try.prog 71 #[.int .i64 n, .int .i64 a, .int .i64 b] w fun e w' => e = .returned (.int .i64 (put3 n a b)) ∧ w' = w := by
  go_enter Try.func71, Try.ntmps71
  go_wp2
  all_goals
    go_ret
    exact ⟨ret_i (by unfold put3 mn mx; (repeat' split) <;> omega), rfl⟩
theorem boosts_any (A0 : Option Addr) (c0 : Nat) (l0 : List S97) (A1 : Option Addr) (c1 : Nat) (l1 : List S35) (a2 a3 a4 a5 a6 : Int) (A7 : Option Addr) (c7 : Nat) (l7 : List S58) (a8 a9 : Bool) (w : World) : Calls Try.prog 70 #[.agg #[.slice A0 l0.length c0, .slice A1 l1.length c1, .int .i64 a2, .int .i64 a3, .int .i64 a4, .int .u8 a5, .int .i64 a6, .slice A7 l7.length c7, .bool a8, .bool a9]] w fun e w' => e = .returned (.func (.func 121) #[] #[.pointer (some ⟨w.heap.size, 0, none⟩)]) ∧ w' = w.alloc (.cells #[.slice A0 l0.length c0, .slice A1 l1.length c1, .int .i64 a2, .int .i64 a3, .int .i64 a4, .int .u8 a5, .int .i64 a6, .slice A7 l7.length c7, .bool a8, .bool a9] 28) := by
  go_enter Try.func70, Try.ntmps70
  go_wp2
  go_ret
  exact ⟨rfl, rfl⟩
theorem below_put {n l : Nat} {A W : World} {o : Obj} (h : Below n A W) (hl : n ≤ l) : Below n A (W.putObj l o) :=
  h.trans ⟨rfl, rfl, rfl, by simp [World.putObj], fun k hk => World.putObj_heap_other (by omega)⟩
theorem stb_blk {β : Type} {own : Nat → Prop} {n g : Nat} {ty : TypeId} {cs : β → Array Value} (hg : g < n) (ho : ¬ own g) : Stb (β := β) own n (fun s W => Blk W g ty (cs s)) :=
  fun _ _ _ h hs => (hs.block g hg ho).trans h
theorem stb_and {β : Type} {own : Nat → Prop} {n : Nat} {I J : β → World → Prop} (h : Stb own n I) (k : Stb own n J) : Stb own n (fun s W => I s W ∧ J s W) := fun s A B hs hb => ⟨h s A B hs.1 hb, k s A B hs.2 hb⟩
theorem stb_plain {β : Type} {own : Nat → Prop} {n : Nat} {p : β → Prop} : Stb own n (fun s _ => p s) := fun _ _ _ h _ => h
theorem stb_below {β : Type} {own : Nat → Prop} {n n₀ : Nat} {w0 : World} (hn : n₀ ≤ n) (ho : ∀ b, b < n₀ → ¬ own b) : Stb (β := β) own n (fun _ W => Below n₀ w0 W) :=
  fun _ _ _ h hs => h.trans ⟨hs.os, hs.tape, hs.output, hs.size, fun k hk => hs.block k (by omega) (ho k hk)⟩
attribute [local go_sem] Oper.semAt_some
set_option linter.unusedSimpArgs false
set_option linter.unusedVariables false
set_option maxRecDepth 100000
set_option maxHeartbeats 8000000
theorem attack_no (A0 : Option Addr) (c0 : Nat) (l0 : List S97) (A1 : Option Addr) (c1 : Nat) (l1 : List S35) (a2 a3 a4 a5 a6 : Int) (A7 : Option Addr) (c7 : Nat) (l7 : List S58) (a8 a9 : Bool) (id : Int) (w : World) (hk : ∀ w', Below w.heap.size w w' → Calls Try.prog 65 #[.agg #[.slice A0 l0.length c0, .slice A1 l1.length c1, .int .i64 a2, .int .i64 a3, .int .i64 a4, .int .u8 a5, .int .i64 a6, .slice A7 l7.length c7, .bool a8, .bool a9], .int .i64 id] w' fun e w'' => e = .returned (.bool false) ∧ Below w'.heap.size w' w'') :
    Calls Try.prog 19 #[.agg #[.slice A0 l0.length c0, .slice A1 l1.length c1, .int .i64 a2, .int .i64 a3, .int .i64 a4, .int .u8 a5, .int .i64 a6, .slice A7 l7.length c7, .bool a8, .bool a9], .int .i64 id] w fun e w' => e = .returned (.int .i64 0) ∧ Below w.heap.size w w' := by
  have HK := Lib.hid hk
  clear hk
  go_enter Try.func19, Try.ntmps19
  go_upto_region 1 with (fail)
  have hB0 : Below w.heap.size w ((w.alloc (.cells #[.slice A0 l0.length c0, .slice A1 l1.length c1, .int .i64 a2, .int .i64 a3, .int .i64 a4, .int .u8 a5, .int .i64 a6, .slice A7 l7.length c7, .bool a8, .bool a9] 28)).alloc (.cells #[.int .i64 id] 3)) := balloc (balloc (Below.refl _ _) _) _
  have t_c := ((Blk.new w 28 #[.slice A0 l0.length c0, .slice A1 l1.length c1, .int .i64 a2, .int .i64 a3, .int .i64 a4, .int .u8 a5, .int .i64 a6, .slice A7 l7.length c7, .bool a8, .bool a9]).alloc (.cells #[.int .i64 id] 3)).cell
  go_wp2_with (go_at_call 65; refine (HK.out _ hB0).mono ?_; rintro e wm ⟨rfl, hbm⟩)
  go_ret
  exact ⟨rfl, bstep hB0 hbm⟩
theorem attack_yes (A0 : Option Addr) (c0 : Nat) (l0 : List S97) (A1 : Option Addr) (c1 : Nat) (l1 : List S35) (a2 a3 a4 a5 a6 : Int) (A7 : Option Addr) (c7 : Nat) (l7 : List S58) (a8 a9 : Bool) (i : Nat) (w : World) (hr0 : Kd.C k97 w A0 l0.length l0) (hc0 : l0.length ≤ c0) (hr1 : Kd.C k35 w A1 l1.length l1) (hc1 : l1.length ≤ c1) (hr7 : Kd.C k58 w A7 l7.length l7) (hc7 : l7.length ≤ c7)
    (hi : i < l1.length) (hdef : ∀ p ∈ l1, p.f0 < (l0.length : Int)) (hat : ∀ p ∈ l1, 0 ≤ p.f1 ∧ p.f1 ≤ 99999)
    (hk : ∀ w', Below w.heap.size w w' → Calls Try.prog 65 #[.agg #[.slice A0 l0.length c0, .slice A1 l1.length c1, .int .i64 a2, .int .i64 a3, .int .i64 a4, .int .u8 a5, .int .i64 a6, .slice A7 l7.length c7, .bool a8, .bool a9], .int .i64 (i : Int)] w' fun e w'' => e = .returned (.bool true) ∧ Below w'.heap.size w' w'') :
    CallsIn Fence.wide 0 Try.prog 19 #[.agg #[.slice A0 l0.length c0, .slice A1 l1.length c1, .int .i64 a2, .int .i64 a3, .int .i64 a4, .int .u8 a5, .int .i64 a6, .slice A7 l7.length c7, .bool a8, .bool a9], .int .i64 (i : Int)] w fun e w' => e = .returned (.int .i64 (attackV l0 l1 (i : Int))) ∧ Below w.heap.size w w' := by
  obtain ⟨v, hv⟩ : ∃ v, attackV l0 l1 (i : Int) = v := ⟨_, rfl⟩
  rw [hv]
  unfold attackV at hv
  obtain ⟨p, hp⟩ : ∃ p, rd_T35 l1 (i : Int) = p := ⟨_, rfl⟩
  rw [hp] at hv
  have hpa := hat p (by rw [← hp, rd_at l1 i hi]; exact List.getElem_mem hi)
  have HPA := Lib.hid hpa
  have HV := Lib.hid hv
  have HK := Lib.hid hk
  have HR0 := Lib.hid hr0
  have HR1 := Lib.hid hr1
  have HR7 := Lib.hid hr7
  have HC := Lib.hid (And.intro hc0 (And.intro hc1 hc7))
  have HDEF := Lib.hid hdef
  have HPP := Lib.hid hp
  have HI := Lib.hid hi
  clear hv hk hr0 hr1 hr7 hc0 hc1 hc7 hdef hat hpa hp hi
  refine callsIn_of_wp_marks Try.func19 rfl trivial ?_ rfl
  simp only [Try.ntmps19, List.size_toArray, List.length_cons, List.length_nil, Nat.reduceAdd, Nat.reduceSub, Array.replicate_succ, Array.replicate_zero, List.push_toArray, List.append_toArray, List.nil_append, List.cons_append]
  gi_upto_region 1 with (fail)
  have hB0 : Below w.heap.size w ((w.alloc (.cells #[.slice A0 l0.length c0, .slice A1 l1.length c1, .int .i64 a2, .int .i64 a3, .int .i64 a4, .int .u8 a5, .int .i64 a6, .slice A7 l7.length c7, .bool a8, .bool a9] 28)).alloc (.cells #[.int .i64 (i : Int)] 3)) := balloc (balloc (Below.refl _ _) _) _
  have hT0 := (Blk.new w 28 #[.slice A0 l0.length c0, .slice A1 l1.length c1, .int .i64 a2, .int .i64 a3, .int .i64 a4, .int .u8 a5, .int .i64 a6, .slice A7 l7.length c7, .bool a8, .bool a9]).alloc (.cells #[.int .i64 (i : Int)] 3)
  have hI0 := Blk.new (w.alloc (.cells #[.slice A0 l0.length c0, .slice A1 l1.length c1, .int .i64 a2, .int .i64 a3, .int .i64 a4, .int .u8 a5, .int .i64 a6, .slice A7 l7.length c7, .bool a8, .bool a9] 28)) 3 #[.int .i64 (i : Int)]
  rw [World.size_alloc] at hI0
  obtain ⟨g, hg⟩ : ∃ g, w.heap.size = g := ⟨_, rfl⟩
  rw [hg] at hT0 hI0
  obtain ⟨W0, hW0⟩ : ∃ W, (w.alloc (.cells #[.slice A0 l0.length c0, .slice A1 l1.length c1, .int .i64 a2, .int .i64 a3, .int .i64 a4, .int .u8 a5, .int .i64 a6, .slice A7 l7.length c7, .bool a8, .bool a9] 28)).alloc (.cells #[.int .i64 (i : Int)] 3) = W := ⟨_, rfl⟩
  rw [hW0] at hT0 hI0 hB0 ⊢
  rw [hg]
  have HG := Lib.hid hg
  have HT0 := Lib.hid hT0
  have HI0 := Lib.hid hI0
  have HB0 := Lib.hid hB0
  have t_c := hT0.cell
  have i_c := hI0.cell
  clear hg hT0 hI0 hB0 hW0
  gi_upto_region 3 with (refine ⟨trivial, rfl, (callsIn_wide.2 (HK.out _ HB0.out)).mono ?_⟩; rintro e wm ⟨rfl, hbm⟩)
  have hT1 := HT0.out.after hbm
  have hI1 := HI0.out.after hbm
  have hB1 := bstep HB0.out hbm
  clear t_c i_c hbm HT0 HI0 HB0
  have hi := HI.out
  have e1 : (i < l1.length) = True := eq_true hi
  have hk0 : (0 : Int) ≤ (i : Int) := Int.natCast_nonneg _
  obtain ⟨ad, hA1, d0, d1, d2, d3, d4, d5, d6, d7, d8, d9, d10, d11, d12, d13⟩ := at_T35 (Kd.C_below HR1.out hB1) (i : Int) hk0 (Int.ofNat_lt.2 hi)
  simp only [Int.toNat_natCast] at d0 d1 d2 d3 d4 d5 d6 d7 d8 d9 d10 d11 d12 d13
  rw [HPP.out] at d0 d1 d2 d3 d4 d5 d6 d7 d8 d9 d10 d11 d12 d13
  have HA1 := Lib.hid hA1
  clear hi
  obtain ⟨p0, p1, p2, p3, p4, p5, p6, p7, p8, p9, p10, p11, p12, p13⟩ := p
  dsimp only at d0 d1 d2 d3 d4 d5 d6 d7 d8 d9 d10 d11 d12 d13
  subst hA1
  have t_c := hT1.cell
  have i_c := hI1.cell
  gi_upto_region 4 with (fail)
  have hT2 := (hT1.alloc (.cells #[.int .i64 p0, .int .i64 p1, .int .i64 p2, .int .u8 p3, .int .u8 p4, .int .u8 p5, .int .i64 p6, .bool p7, .bool p8, .int .i64 p9, .int .u8 p10, .bool p11, .bool p12, .int .i64 p13] 35)).alloc (.cells #[.int .i64 0] 3)
  have hI2 := (hI1.alloc (.cells #[.int .i64 p0, .int .i64 p1, .int .i64 p2, .int .u8 p3, .int .u8 p4, .int .u8 p5, .int .i64 p6, .bool p7, .bool p8, .int .i64 p9, .int .u8 p10, .bool p11, .bool p12, .int .i64 p13] 35)).alloc (.cells #[.int .i64 0] 3)
  have hP2 := (Blk.new wm 35 #[.int .i64 p0, .int .i64 p1, .int .i64 p2, .int .u8 p3, .int .u8 p4, .int .u8 p5, .int .i64 p6, .bool p7, .bool p8, .int .i64 p9, .int .u8 p10, .bool p11, .bool p12, .int .i64 p13]).alloc (.cells #[.int .i64 0] 3)
  have hG2 := Blk.new (wm.alloc (.cells #[.int .i64 p0, .int .i64 p1, .int .i64 p2, .int .u8 p3, .int .u8 p4, .int .u8 p5, .int .i64 p6, .bool p7, .bool p8, .int .i64 p9, .int .u8 p10, .bool p11, .bool p12, .int .i64 p13] 35)) 3 #[.int .i64 0]
  rw [World.size_alloc] at hG2
  have hB2 := balloc (balloc hB1 (.cells #[.int .i64 p0, .int .i64 p1, .int .i64 p2, .int .u8 p3, .int .u8 p4, .int .u8 p5, .int .i64 p6, .bool p7, .bool p8, .int .i64 p9, .int .u8 p10, .bool p11, .bool p12, .int .i64 p13] 35)) (.cells #[.int .i64 0] 3)
  have hgm : g + 1 < wm.heap.size := hI1.lt
  have hgw : w.heap.size ≤ wm.heap.size := hB1.size
  obtain ⟨gp, hgp⟩ : ∃ g, wm.heap.size = g := ⟨_, rfl⟩
  obtain ⟨W1, hW1⟩ : ∃ W, (wm.alloc (.cells #[.int .i64 p0, .int .i64 p1, .int .i64 p2, .int .u8 p3, .int .u8 p4, .int .u8 p5, .int .i64 p6, .bool p7, .bool p8, .int .i64 p9, .int .u8 p10, .bool p11, .bool p12, .int .i64 p13] 35)).alloc (.cells #[.int .i64 0] 3) = W := ⟨_, rfl⟩
  rw [hW1] at hT2 hI2 hP2 hG2 hB2 ⊢
  rw [hgp] at hP2 hG2 hgm hgw ⊢
  have HT2 := Lib.hid hT2
  have HI2 := Lib.hid hI2
  have HP2 := Lib.hid hP2
  have HG2 := Lib.hid hG2
  have HB2 := Lib.hid hB2
  have HGM := Lib.hid hgm
  have HGW := Lib.hid hgw
  have u_c := hT2.cell
  clear hT1 hI1 hB1 hT2 hI2 hP2 hG2 hB2 hgm hgw hgp hW1 t_c i_c e1 hk0 d0 d1 d2 d3 d4 d5 d6 d7 d8 d9 d10 d11 d12 d13
  gi_wp2_with (refine ⟨trivial, rfl, (callsIn_wide.2 (boosts_any _ _ _ _ _ _ _ _ _ _ _ _ _ _ _ _ _)).mono ?_⟩; rintro e wb ⟨rfl, rfl⟩)
  obtain ⟨gt, hgt⟩ : ∃ g, W1.heap.size = g := ⟨_, rfl⟩
  have hT3 := Blk.new W1 28 #[.slice A0 l0.length c0, .slice (some ad) l1.length c1, .int .i64 a2, .int .i64 a3, .int .i64 a4, .int .u8 a5, .int .i64 a6, .slice A7 l7.length c7, .bool a8, .bool a9]
  have hT4 := HT2.out.alloc (.cells #[.slice A0 l0.length c0, .slice (some ad) l1.length c1, .int .i64 a2, .int .i64 a3, .int .i64 a4, .int .u8 a5, .int .i64 a6, .slice A7 l7.length c7, .bool a8, .bool a9] 28)
  have hI4 := HI2.out.alloc (.cells #[.slice A0 l0.length c0, .slice (some ad) l1.length c1, .int .i64 a2, .int .i64 a3, .int .i64 a4, .int .u8 a5, .int .i64 a6, .slice A7 l7.length c7, .bool a8, .bool a9] 28)
  have hP4 := HP2.out.alloc (.cells #[.slice A0 l0.length c0, .slice (some ad) l1.length c1, .int .i64 a2, .int .i64 a3, .int .i64 a4, .int .u8 a5, .int .i64 a6, .slice A7 l7.length c7, .bool a8, .bool a9] 28)
  have hG4 := HG2.out.alloc (.cells #[.slice A0 l0.length c0, .slice (some ad) l1.length c1, .int .i64 a2, .int .i64 a3, .int .i64 a4, .int .u8 a5, .int .i64 a6, .slice A7 l7.length c7, .bool a8, .bool a9] 28)
  have hB4 := balloc HB2.out (.cells #[.slice A0 l0.length c0, .slice (some ad) l1.length c1, .int .i64 a2, .int .i64 a3, .int .i64 a4, .int .u8 a5, .int .i64 a6, .slice A7 l7.length c7, .bool a8, .bool a9] 28)
  have hgl := HG2.out.lt
  have hsz : (W1.alloc (.cells #[.slice A0 l0.length c0, .slice (some ad) l1.length c1, .int .i64 a2, .int .i64 a3, .int .i64 a4, .int .u8 a5, .int .i64 a6, .slice A7 l7.length c7, .bool a8, .bool a9] 28)).heap.size = gt + 1 := by rw [World.size_alloc, hgt]
  obtain ⟨W2, hW2⟩ : ∃ W, W1.alloc (.cells #[.slice A0 l0.length c0, .slice (some ad) l1.length c1, .int .i64 a2, .int .i64 a3, .int .i64 a4, .int .u8 a5, .int .i64 a6, .slice A7 l7.length c7, .bool a8, .bool a9] 28) = W := ⟨_, rfl⟩
  rw [hgt] at hT3 hgl
  rw [hW2] at hT3 hT4 hI4 hP4 hG4 hB4 hsz
  rw [hgt, hW2]
  have HT3 := Lib.hid hT3
  have HT4 := Lib.hid hT4
  have HI4 := Lib.hid hI4
  have HP4 := Lib.hid hP4
  have HG4 := Lib.hid hG4
  have HB4 := Lib.hid hB4
  have HGL := Lib.hid hgl
  have HSZ := Lib.hid hsz
  clear u_c hT3 hT4 hI4 hP4 hG4 hB4 hgl hsz hW2 hgt HT2 HI2 HP2 HG2 HB2
  have hgm := HGM.out
  have hgw := HGW.out
  have hgl := HGL.out
  have hsz := HSZ.out
  have hg0 := HG.out
  refine wp_iterE (gf := 121) (lb := #[.pointer (some ⟨gt, 0, none⟩)]) rfl (enters_of Try.func121 (by kernel_rfl) rfl) (own := fun _ => False) (cal := fun b => b = gp + 1) (fun b hb => hb.elim) (fun b hb => by omega)
    (boosts_iter A0 c0 l0 (some ad) c1 l1 a2 a3 a4 a5 a6 A7 l7.length c7 a8 a9 w HR0.out HR1.out HDEF.out (fun b => b = gp + 1) (fun b hb => by omega) W2 HB4.out gt HT3.out (by omega) (fun b hb => by omega)) (fun _ => rfl)
    (fun pre W => Blk W g 28 #[.slice A0 l0.length c0, .slice (some ad) l1.length c1, .int .i64 a2, .int .i64 a3, .int .i64 a4, .int .u8 a5, .int .i64 a6, .slice A7 l7.length c7, .bool a8, .bool a9] ∧ Blk W (g + 1) 3 #[.int .i64 (i : Int)] ∧ Blk W gp 35 #[.int .i64 p0, .int .i64 p1, .int .i64 p2, .int .u8 p3, .int .u8 p4, .int .u8 p5, .int .i64 p6, .bool p7, .bool p8, .int .i64 p9, .int .u8 p10, .bool p11, .bool p12, .int .i64 p13] ∧ Blk W (gp + 1) 3 #[.int .i64 (givenV l0 l1 (⟨p0, p1, p2, p3, p4, p5, p6, p7, p8, p9, p10, p11, p12, p13⟩ : PS) (i : Int) (pre.map stp))] ∧ Below w.heap.size w W) (fun _ _ _ => False)
    (stb_and (stb_blk (by omega) (fun h => h)) (stb_and (stb_blk (by omega) (fun h => h)) (stb_and (stb_blk (by omega) (fun h => h)) (stb_and (stb_blk (by omega) (fun h => h)) (stb_below (by omega) (fun b hb h => h))))))
    (fun c => stb_plain) ⟨HT4.out, HI4.out, HP4.out, HG4.out, HB4.out⟩
    (fun x a' W => ∃ bx, W2.heap.size + 1 < bx ∧ Blk W bx 107 (stepV x.2.1 x.2.2.1 x.2.2.2) ∧ a' = { tmps := #[.agg #[.slice A0 l0.length c0, .slice (some ad) l1.length c1, .int .i64 a2, .int .i64 a3, .int .i64 a4, .int .u8 a5, .int .i64 a6, .slice A7 l7.length c7, .bool a8, .bool a9], .int .i64 (i : Int), .pointer (some ⟨g, 0, none⟩), .pointer (some ⟨g + 1, 0, none⟩), .int .i64 0, .pointer (some ⟨gp, 0, none⟩), .pointer (some ⟨gp + 1, 0, none⟩), .int .i64 x.1, .pointer (some ⟨bx, 0, none⟩), .agg #[.slice A0 l0.length c0, .slice (some ad) l1.length c1, .int .i64 a2, .int .i64 a3, .int .i64 a4, .int .u8 a5, .int .i64 a6, .slice A7 l7.length c7, .bool a8, .bool a9], .int .i64 (i : Int), .bool true, .bool false, .pointer (some ⟨g, 1, none⟩), .slice (some ad) l1.length c1, .int .i64 (i : Int), .pointer (some (ad.add (i * 14))), .agg #[.int .i64 p0, .int .i64 p1, .int .i64 p2, .int .u8 p3, .int .u8 p4, .int .u8 p5, .int .i64 p6, .bool p7, .bool p8, .int .i64 p9, .int .u8 p10, .bool p11, .bool p12, .int .i64 p13], .agg #[.slice A0 l0.length c0, .slice (some ad) l1.length c1, .int .i64 a2, .int .i64 a3, .int .i64 a4, .int .u8 a5, .int .i64 a6, .slice A7 l7.length c7, .bool a8, .bool a9], .func (.func 121) #[] #[.pointer (some ⟨gt, 0, none⟩)], .int .i64 x.1, .agg (stepV x.2.1 x.2.2.1 x.2.2.2), undef, undef, undef, undef, undef, undef, undef, undef, undef, undef, undef, undef, undef, undef, undef, undef, undef, undef, undef, undef, undef, undef, undef, undef, undef, undef, undef, undef, undef, undef, undef, undef, undef], defers := [] })
    (fun x a' W ob => by rintro ⟨bx, h1, h2, h3⟩; exact ⟨bx, h1, (World.putObj_heap_other (by omega)).trans h2, h3⟩) ?assign ?body ?done ?stop
  case stop =>
    intro D c pre W _ hx
    exact hx.elim
  case assign =>
    rintro l pre x W K ⟨c0, c1, c2, c3, cB⟩ hlt hK
    obtain ⟨from_, s, A, c⟩ := x
    have hsz2 := HSZ.out
    have hz : W2.heap.size + 1 < W.heap.size := hlt
    have HC0 := Lib.hid c0
    have HC1 := Lib.hid c1
    have HC2 := Lib.hid c2
    have HC3 := Lib.hid c3
    have HCB := Lib.hid cB
    have HZ := Lib.hid hz
    have HKK := Lib.hid hK
    clear c0 c1 c2 c3 cB hz hK hsz2 hlt
    clear hgm hgw hgl hsz hg0 HT3 HT4 HI4 HP4 HG4 HB4
    dsimp only [encX, stepV]
    gi_wp2
    refine HKK.out _ _ ⟨W.heap.size, HZ.out, Blk.new W _ _, rfl⟩ ⟨HC0.out.alloc _, HC1.out.alloc _, HC2.out.alloc _, HC3.out.alloc _, balloc HCB.out _⟩ ((Beside.refl W).alloc (Nat.le_refl _) _)
  case body =>
    rintro l pre x a' W ⟨c0, c1, c2, c3, cB⟩ ⟨bx, hbx, hBX, rfl⟩ hsp hlt
    obtain ⟨from_, s, A, c⟩ := x
    dsimp only
    dsimp only [stepV] at hBX
    have hix : 0 ≤ from_ ∧ from_ < (l1.length : Int) := aura_ix l0 l1 (from_, s) (by
      obtain ⟨r, hr⟩ := hsp
      rw [← hr]; simp [stp])
    obtain ⟨G, hG⟩ : ∃ G, givenV l0 l1 (⟨p0, p1, p2, p3, p4, p5, p6, p7, p8, p9, p10, p11, p12, p13⟩ : PS) (i : Int) (pre.map stp) = G := ⟨_, rfl⟩
    have hGB : 0 ≤ G ∧ G ≤ 199998 := hG ▸ given_bd _ _ _ _ _
    have hnx : givenV l0 l1 (⟨p0, p1, p2, p3, p4, p5, p6, p7, p8, p9, p10, p11, p12, p13⟩ : PS) (i : Int) ((pre ++ [(from_, s, A, c)]).map stp) = addG l0 l1 (⟨p0, p1, p2, p3, p4, p5, p6, p7, p8, p9, p10, p11, p12, p13⟩ : PS) (i : Int) G (from_, s) := by rw [List.map_append, ← hG]; exact given_snoc _ _ _ _ _ _
    rw [hG] at c3
    have HNX := Lib.hid hnx
    have HC0 := Lib.hid c0
    have HC1 := Lib.hid c1
    have HC2 := Lib.hid c2
    have HC3 := Lib.hid c3
    have HCB := Lib.hid cB
    have HBX := Lib.hid hBX
    have HLB := Lib.hid hbx
    have HLT := Lib.hid hlt
    clear c0 c1 c2 c3 cB hBX hbx hlt hsp hG hnx
    clear hgm hgw hgl hsz hg0 HT3 HT4 HI4 HP4 HG4 HB4
    have t_c := HC0.out.cell
    have i_c := HC1.out.cell
    have p_c := HC2.out.cell
    have g_c := HC3.out.cell
    have g_f := HC3.out.frozen
    have x_c := HBX.out.cell
    by_cases hf2 : p5 = 2
    rotate_left
    · have f2 : (p5 == 2) = false := beq_eq_false_iff_ne.2 hf2
      clear hf2
      gi_upto_region 7 with (fail)
      refine startIn_ (n := 17) (S := (fun w' => w' = W.drew)) (ds := []) #[false, false, false, false, false, false, false, false, false, false, false, false, false, false, false, false, false] (by kernel_rfl) (by kernel_rfl) (by rintro ⟨_, _, hh⟩; exact hh) rfl (by kernel_rfl) rfl (fun hHeld => ?_)
      refine pure_ (i := 0) (N := some 22) (v := ?_) (a' := ?_) #[true, false, false, false, false, false, false, false, false, false, false, false, false, false, false, false, false] rfl rfl (by kernel_rfl) (fun _ _ _ h => h) (Or.inl ⟨by rfl, ?_⟩) ?_ ?_
      rotate_left
      · intro w'
        go_simp
        with_reducible rfl
      rotate_left
      · simp only [Act.put, List.setIfInBounds_toArray, List.set_cons_zero, List.set_cons_succ]
        rfl
      refine take_ (i := 1) (N := some 23) (v := ?_) (a' := ?_) #[true, true, false, false, false, false, false, false, false, false, false, false, false, false, false, false, false] rfl rfl (by kernel_rfl) (fun _ _ _ h => h) (Or.inl ⟨by rfl, ?_⟩) hHeld ?_ ?_
      rotate_left
      · rintro w' rfl
        go_simp
        with_reducible rfl
      rotate_left
      · simp only [Act.put, List.setIfInBounds_toArray, List.set_cons_zero, List.set_cons_succ]
        rfl
      refine pure_ (i := 2) (N := some 24) (v := ?_) (a' := ?_) #[true, true, true, false, false, false, false, false, false, false, false, false, false, false, false, false, false] rfl rfl (by kernel_rfl) (fun _ _ _ h => h) (Or.inl ⟨by rfl, ?_⟩) ?_ ?_
      rotate_left
      · intro w'
        go_simp
        with_reducible rfl
      rotate_left
      · simp only [Act.put, List.setIfInBounds_toArray, List.set_cons_zero, List.set_cons_succ]
        rfl
      refine pure_ (i := 3) (N := some 25) (v := ?_) (a' := ?_) #[true, true, true, true, false, false, false, false, false, false, false, false, false, false, false, false, false] rfl rfl (by kernel_rfl) (fun _ _ _ h => h) (Or.inl ⟨by rfl, ?_⟩) ?_ ?_
      rotate_left
      · intro w'
        go_simp
        with_reducible rfl
      rotate_left
      · simp only [Act.put, List.setIfInBounds_toArray, List.set_cons_zero, List.set_cons_succ]
        rfl
      refine pure_ (i := 4) (N := some 26) (v := undef) (a' := _) #[true, true, true, true, true, false, false, false, false, false, false, false, false, false, false, false, false] rfl rfl (by kernel_rfl) (fun _ _ _ h => h) (Or.inr ⟨by rfl, rfl⟩) rfl ?_
      refine norm_ (a' := ?_) ?_ ?_
      rotate_left
      · simp only [Act.put, List.setIfInBounds_toArray, List.set_cons_zero, List.set_cons_succ]
        rfl
      refine pure_ (i := 5) (N := some 27) (v := undef) (a' := _) #[true, true, true, true, true, true, false, false, false, false, false, false, false, false, false, false, false] rfl rfl (by kernel_rfl) (fun _ _ _ h => h) (Or.inr ⟨by rfl, rfl⟩) rfl ?_
      refine norm_ (a' := ?_) ?_ ?_
      rotate_left
      · simp only [Act.put, List.setIfInBounds_toArray, List.set_cons_zero, List.set_cons_succ]
        rfl
      refine pure_ (i := 6) (N := some 28) (v := undef) (a' := _) #[true, true, true, true, true, true, true, false, false, false, false, false, false, false, false, false, false] rfl rfl (by kernel_rfl) (fun _ _ _ h => h) (Or.inr ⟨by rfl, rfl⟩) rfl ?_
      refine norm_ (a' := ?_) ?_ ?_
      rotate_left
      · simp only [Act.put, List.setIfInBounds_toArray, List.set_cons_zero, List.set_cons_succ]
        rfl
      refine pure_ (i := 7) (N := some 29) (v := undef) (a' := _) #[true, true, true, true, true, true, true, true, false, false, false, false, false, false, false, false, false] rfl rfl (by kernel_rfl) (fun _ _ _ h => h) (Or.inr ⟨by rfl, rfl⟩) rfl ?_
      refine norm_ (a' := ?_) ?_ ?_
      rotate_left
      · simp only [Act.put, List.setIfInBounds_toArray, List.set_cons_zero, List.set_cons_succ]
        rfl
      refine pure_ (i := 8) (N := some 30) (v := undef) (a' := _) #[true, true, true, true, true, true, true, true, true, false, false, false, false, false, false, false, false] rfl rfl (by kernel_rfl) (fun _ _ _ h => h) (Or.inr ⟨by rfl, rfl⟩) rfl ?_
      refine norm_ (a' := ?_) ?_ ?_
      rotate_left
      · simp only [Act.put, List.setIfInBounds_toArray, List.set_cons_zero, List.set_cons_succ]
        rfl
      refine pure_ (i := 9) (N := some 31) (v := undef) (a' := _) #[true, true, true, true, true, true, true, true, true, true, false, false, false, false, false, false, false] rfl rfl (by kernel_rfl) (fun _ _ _ h => h) (Or.inr ⟨by rfl, rfl⟩) rfl ?_
      refine norm_ (a' := ?_) ?_ ?_
      rotate_left
      · simp only [Act.put, List.setIfInBounds_toArray, List.set_cons_zero, List.set_cons_succ]
        rfl
      refine pure_ (i := 10) (N := some 32) (v := undef) (a' := _) #[true, true, true, true, true, true, true, true, true, true, true, false, false, false, false, false, false] rfl rfl (by kernel_rfl) (fun _ _ _ h => h) (Or.inr ⟨by rfl, rfl⟩) rfl ?_
      refine norm_ (a' := ?_) ?_ ?_
      rotate_left
      · simp only [Act.put, List.setIfInBounds_toArray, List.set_cons_zero, List.set_cons_succ]
        rfl
      refine pure_ (i := 11) (N := some 33) (v := undef) (a' := _) #[true, true, true, true, true, true, true, true, true, true, true, true, false, false, false, false, false] rfl rfl (by kernel_rfl) (fun _ _ _ h => h) (Or.inr ⟨by rfl, rfl⟩) rfl ?_
      refine norm_ (a' := ?_) ?_ ?_
      rotate_left
      · simp only [Act.put, List.setIfInBounds_toArray, List.set_cons_zero, List.set_cons_succ]
        rfl
      refine pure_ (i := 12) (N := some 34) (v := undef) (a' := _) #[true, true, true, true, true, true, true, true, true, true, true, true, true, false, false, false, false] rfl rfl (by kernel_rfl) (fun _ _ _ h => h) (Or.inr ⟨by rfl, rfl⟩) rfl ?_
      refine norm_ (a' := ?_) ?_ ?_
      rotate_left
      · simp only [Act.put, List.setIfInBounds_toArray, List.set_cons_zero, List.set_cons_succ]
        rfl
      refine pure_ (i := 13) (N := some 35) (v := undef) (a' := _) #[true, true, true, true, true, true, true, true, true, true, true, true, true, true, false, false, false] rfl rfl (by kernel_rfl) (fun _ _ _ h => h) (Or.inr ⟨by rfl, rfl⟩) rfl ?_
      refine norm_ (a' := ?_) ?_ ?_
      rotate_left
      · simp only [Act.put, List.setIfInBounds_toArray, List.set_cons_zero, List.set_cons_succ]
        rfl
      refine pure_ (i := 14) (N := some 36) (v := undef) (a' := _) #[true, true, true, true, true, true, true, true, true, true, true, true, true, true, true, false, false] rfl rfl (by kernel_rfl) (fun _ _ _ h => h) (Or.inr ⟨by rfl, rfl⟩) rfl ?_
      refine norm_ (a' := ?_) ?_ ?_
      rotate_left
      · simp only [Act.put, List.setIfInBounds_toArray, List.set_cons_zero, List.set_cons_succ]
        rfl
      refine pure_ (i := 15) (N := some 37) (v := undef) (a' := _) #[true, true, true, true, true, true, true, true, true, true, true, true, true, true, true, true, false] rfl rfl (by kernel_rfl) (fun _ _ _ h => h) (Or.inr ⟨by rfl, rfl⟩) rfl ?_
      refine norm_ (a' := ?_) ?_ ?_
      rotate_left
      · simp only [Act.put, List.setIfInBounds_toArray, List.set_cons_zero, List.set_cons_succ]
        rfl
      refine pure_ (i := 16) (N := some 38) (v := ?_) (a' := ?_) #[true, true, true, true, true, true, true, true, true, true, true, true, true, true, true, true, true] rfl rfl (by kernel_rfl) (fun _ _ _ h => h) (Or.inl ⟨by rfl, ?_⟩) ?_ ?_
      rotate_left
      · intro w'
        go_simp
        with_reducible rfl
      rotate_left
      · simp only [Act.put, List.setIfInBounds_toArray, List.set_cons_zero, List.set_cons_succ]
        rfl
      refine done_ (by kernel_rfl) ?_
      gi_wp2
      refine ⟨(Beside.refl W).drew, ?_⟩
      dsimp only
      rw [HNX.out]
      have hadd : addG l0 l1 (⟨p0, p1, p2, p3, p4, p5, p6, p7, p8, p9, p10, p11, p12, p13⟩ : PS) (i : Int) G (from_, s) = G := by unfold addG; rw [if_neg (by simp [f2])]
      rw [hadd]
      exact ⟨HC0.out, HC1.out, HC2.out, HC3.out, bdrew HCB.out⟩
    subst hf2
    obtain ⟨ad2, hA2, y0, y1, y2, y3, y4, y5, y6, y7, y8, y9, y10, y11, y12, y13⟩ := at_T35 (Kd.C_below HR1.out HCB.out) from_ hix.1 hix.2
    obtain rfl := Option.some.inj hA2
    obtain ⟨q4, hq4⟩ : ∃ q, (rd_T35 l1 from_).f4 = q := ⟨_, rfl⟩
    rw [hq4] at y4
    obtain ⟨r, hr⟩ : ∃ r, pickB l0 l1 q4 from_ s.f4.f0 s.f4.f1 s.f4.f2 (i : Int) = r := ⟨_, rfl⟩
    have hadd : addG l0 l1 ⟨p0, p1, p2, p3, p4, 2, p6, p7, p8, p9, p10, p11, p12, p13⟩ (i : Int) G (from_, s) = if r = true then put3 (G + put3 s.f2.f1 0 99999) 0 199998 else G := by
      unfold addG; dsimp only; rw [hq4, hr, show ((2 : Int) == 2) = true from rfl, Bool.true_and]
    have hcall : ∀ W', Below w.heap.size w W' → Calls Try.prog 66 #[.agg #[.slice A0 l0.length c0, .slice (some ad) l1.length c1, .int .i64 a2, .int .i64 a3, .int .i64 a4, .int .u8 a5, .int .i64 a6, .slice A7 l7.length c7, .bool a8, .bool a9], .int .u8 q4, .int .i64 from_, .agg #[.int .u8 s.f4.f0, .int .u8 s.f4.f1, .int .u8 s.f4.f2], .int .i64 (i : Int)] W' fun e w'' => e = .returned (.bool r) ∧ Below W'.heap.size W' w'' := by
      intro W' hW'
      refine might_of.calls 0 A0 c0 l0 (some ad) c1 l1 a2 a3 a4 a5 a6 A7 c7 l7 a8 a9 q4 from_ s.f4.f0 s.f4.f1 s.f4.f2 (i : Int) r W' (Kd.C_below HR0.out hW') HC.out.1 (Kd.C_below HR1.out hW') HC.out.2.1 (Kd.C_below HR7.out hW') HC.out.2.2 ?_
      unfold might_of.f
      have := HI.out
      rw [if_pos ⟨by omega, by omega⟩, hr]
    have HADD := Lib.hid hadd
    have HCALL := Lib.hid hcall
    have h0 := hix.1
    have h1 := hix.2
    clear hadd hcall hr hq4 y0 y1 y2 y3 y5 y6 y7 y8 y9 y10 y11 y12 y13 hix t_c i_c p_c g_c g_f x_c
    gi_upto_region 7 with (fail)
    refine startIn_ (n := 17) (S := (fun w' => Blk w' g 28 #[.slice A0 l0.length c0, .slice (some ad) l1.length c1, .int .i64 a2, .int .i64 a3, .int .i64 a4, .int .u8 a5, .int .i64 a6, .slice A7 l7.length c7, .bool a8, .bool a9] ∧ Blk w' (g + 1) 3 #[.int .i64 (i : Int)] ∧ Blk w' gp 35 #[.int .i64 p0, .int .i64 p1, .int .i64 p2, .int .u8 p3, .int .u8 p4, .int .u8 2, .int .i64 p6, .bool p7, .bool p8, .int .i64 p9, .int .u8 p10, .bool p11, .bool p12, .int .i64 p13] ∧ Blk w' bx 107 #[.int .u8 s.f0, .int .u8 s.f1, .int .u8 s.f2.f0, .int .i64 s.f2.f1, .int .u8 s.f2.f2, .int .u8 s.f2.f3.f0, .int .u8 s.f2.f3.f1, .int .u8 s.f2.f3.f2, .slice A s.f2.f4.length c, .bool s.f3, .int .u8 s.f4.f0, .int .u8 s.f4.f1, .int .u8 s.f4.f2] ∧ w'.cell? ⟨(ad.add (from_.toNat * 14)).block, (ad.add (from_.toNat * 14)).off + 4, none⟩ = some (.int .u8 q4))) (ds := []) #[false, false, false, false, false, false, false, false, false, false, false, false, false, false, false, false, false] (by kernel_rfl) (by kernel_rfl) (by rintro ⟨_, _, hh⟩; exact hh) rfl (by kernel_rfl) ⟨HC0.out.drew, HC1.out.drew, HC2.out.drew, HBX.out.drew, y4⟩ (fun hHeld => ?_)
    refine pure_ (i := 0) (N := some 22) (v := ?_) (a' := ?_) #[true, false, false, false, false, false, false, false, false, false, false, false, false, false, false, false, false] rfl rfl (by kernel_rfl) (fun _ _ _ h => h) (Or.inl ⟨by rfl, ?_⟩) ?_ ?_
    rotate_left
    · intro w'
      go_simp
      with_reducible rfl
    rotate_left
    · simp only [Act.put, List.setIfInBounds_toArray, List.set_cons_zero, List.set_cons_succ]
      rfl
    refine take_ (i := 1) (N := some 23) (v := ?_) (a' := ?_) #[true, true, false, false, false, false, false, false, false, false, false, false, false, false, false, false, false] rfl rfl (by kernel_rfl) (fun _ _ _ h => h) (Or.inl ⟨by rfl, ?_⟩) hHeld ?_ ?_
    rotate_left
    · rintro w' ⟨h0, h1, h2, h3, h4⟩
      have P_5 := h2.cell 5
      simp only [List.getElem?_toArray, List.getElem?_cons_zero, List.getElem?_cons_succ] at P_5
      go_simp
      with_reducible rfl
    rotate_left
    · simp only [Act.put, List.setIfInBounds_toArray, List.set_cons_zero, List.set_cons_succ]
      rfl
    refine pure_ (i := 2) (N := some 24) (v := ?_) (a' := ?_) #[true, true, true, false, false, false, false, false, false, false, false, false, false, false, false, false, false] rfl rfl (by kernel_rfl) (fun _ _ _ h => h) (Or.inl ⟨by rfl, ?_⟩) ?_ ?_
    rotate_left
    · intro w'
      go_simp
      with_reducible rfl
    rotate_left
    · simp only [Act.put, List.setIfInBounds_toArray, List.set_cons_zero, List.set_cons_succ]
      rfl
    refine pure_ (i := 3) (N := some 25) (v := ?_) (a' := ?_) #[true, true, true, true, false, false, false, false, false, false, false, false, false, false, false, false, false] rfl rfl (by kernel_rfl) (fun _ _ _ h => h) (Or.inl ⟨by rfl, ?_⟩) ?_ ?_
    rotate_left
    · intro w'
      go_simp
      with_reducible rfl
    rotate_left
    · simp only [Act.put, List.setIfInBounds_toArray, List.set_cons_zero, List.set_cons_succ]
      rfl
    refine take_ (i := 4) (N := some 26) (v := ?_) (a' := ?_) #[true, true, true, true, true, false, false, false, false, false, false, false, false, false, false, false, false] rfl rfl (by kernel_rfl) (fun _ _ _ h => h) (Or.inl ⟨by rfl, ?_⟩) hHeld ?_ ?_
    rotate_left
    · rintro w' ⟨h0, h1, h2, h3, h4⟩
      have T_0 := h0.cell 0
      have T_1 := h0.cell 1
      have T_2 := h0.cell 2
      have T_3 := h0.cell 3
      have T_4 := h0.cell 4
      have T_5 := h0.cell 5
      have T_6 := h0.cell 6
      have T_7 := h0.cell 7
      have T_8 := h0.cell 8
      have T_9 := h0.cell 9
      simp only [List.getElem?_toArray, List.getElem?_cons_zero, List.getElem?_cons_succ] at T_0 T_1 T_2 T_3 T_4 T_5 T_6 T_7 T_8 T_9
      go_simp
      with_reducible rfl
    rotate_left
    · simp only [Act.put, List.setIfInBounds_toArray, List.set_cons_zero, List.set_cons_succ]
      rfl
    refine pure_ (i := 5) (N := some 27) (v := ?_) (a' := ?_) #[true, true, true, true, true, true, false, false, false, false, false, false, false, false, false, false, false] rfl rfl (by kernel_rfl) (fun _ _ _ h => h) (Or.inl ⟨by rfl, ?_⟩) ?_ ?_
    rotate_left
    · intro w'
      go_simp
      with_reducible rfl
    rotate_left
    · simp only [Act.put, List.setIfInBounds_toArray, List.set_cons_zero, List.set_cons_succ]
      rfl
    refine take_ (i := 6) (N := some 28) (v := ?_) (a' := ?_) #[true, true, true, true, true, true, true, false, false, false, false, false, false, false, false, false, false] rfl rfl (by kernel_rfl) (fun _ _ _ h => h) (Or.inl ⟨by rfl, ?_⟩) hHeld ?_ ?_
    rotate_left
    · rintro w' ⟨h0, h1, h2, h3, h4⟩
      have T_1 := h0.cell 1
      simp only [List.getElem?_toArray, List.getElem?_cons_zero, List.getElem?_cons_succ] at T_1
      go_simp
      with_reducible rfl
    rotate_left
    · simp only [Act.put, List.setIfInBounds_toArray, List.set_cons_zero, List.set_cons_succ]
      rfl
    refine pure_ (i := 7) (N := some 29) (v := ?_) (a' := ?_) #[true, true, true, true, true, true, true, true, false, false, false, false, false, false, false, false, false] rfl rfl (by kernel_rfl) (fun _ _ _ h => h) (Or.inl ⟨by rfl, ?_⟩) ?_ ?_
    rotate_left
    · intro w'
      go_simp
      with_reducible rfl
    rotate_left
    · simp only [Act.put, List.setIfInBounds_toArray, List.set_cons_zero, List.set_cons_succ]
      rfl
    refine pure_ (i := 8) (N := some 30) (v := ?_) (a' := ?_) #[true, true, true, true, true, true, true, true, true, false, false, false, false, false, false, false, false] rfl rfl (by kernel_rfl) (fun _ _ _ h => h) (Or.inl ⟨by rfl, ?_⟩) ?_ ?_
    rotate_left
    · intro w'
      go_simp
      with_reducible rfl
    rotate_left
    · simp only [Act.put, List.setIfInBounds_toArray, List.set_cons_zero, List.set_cons_succ]
      rfl
    refine pure_ (i := 9) (N := some 31) (v := ?_) (a' := ?_) #[true, true, true, true, true, true, true, true, true, true, false, false, false, false, false, false, false] rfl rfl (by kernel_rfl) (fun _ _ _ h => h) (Or.inl ⟨by rfl, ?_⟩) ?_ ?_
    rotate_left
    · intro w'
      go_simp
      with_reducible rfl
    rotate_left
    · simp only [Act.put, List.setIfInBounds_toArray, List.set_cons_zero, List.set_cons_succ]
      rfl
    refine take_ (i := 10) (N := some 32) (v := ?_) (a' := ?_) #[true, true, true, true, true, true, true, true, true, true, true, false, false, false, false, false, false] rfl rfl (by kernel_rfl) (fun _ _ _ h => h) (Or.inl ⟨by rfl, ?_⟩) hHeld ?_ ?_
    rotate_left
    · rintro w' ⟨h0, h1, h2, h3, h4⟩
      go_simp
      with_reducible rfl
    rotate_left
    · simp only [Act.put, List.setIfInBounds_toArray, List.set_cons_zero, List.set_cons_succ]
      rfl
    refine pure_ (i := 11) (N := some 33) (v := ?_) (a' := ?_) #[true, true, true, true, true, true, true, true, true, true, true, true, false, false, false, false, false] rfl rfl (by kernel_rfl) (fun _ _ _ h => h) (Or.inl ⟨by rfl, ?_⟩) ?_ ?_
    rotate_left
    · intro w'
      go_simp
      with_reducible rfl
    rotate_left
    · simp only [Act.put, List.setIfInBounds_toArray, List.set_cons_zero, List.set_cons_succ]
      rfl
    refine pure_ (i := 12) (N := some 34) (v := ?_) (a' := ?_) #[true, true, true, true, true, true, true, true, true, true, true, true, true, false, false, false, false] rfl rfl (by kernel_rfl) (fun _ _ _ h => h) (Or.inl ⟨by rfl, ?_⟩) ?_ ?_
    rotate_left
    · intro w'
      go_simp
      with_reducible rfl
    rotate_left
    · simp only [Act.put, List.setIfInBounds_toArray, List.set_cons_zero, List.set_cons_succ]
      rfl
    refine take_ (i := 13) (N := some 35) (v := ?_) (a' := ?_) #[true, true, true, true, true, true, true, true, true, true, true, true, true, true, false, false, false] rfl rfl (by kernel_rfl) (fun _ _ _ h => h) (Or.inl ⟨by rfl, ?_⟩) hHeld ?_ ?_
    rotate_left
    · rintro w' ⟨h0, h1, h2, h3, h4⟩
      have X_0 := h3.cell 0
      have X_1 := h3.cell 1
      have X_2 := h3.cell 2
      have X_3 := h3.cell 3
      have X_4 := h3.cell 4
      have X_5 := h3.cell 5
      have X_6 := h3.cell 6
      have X_7 := h3.cell 7
      have X_8 := h3.cell 8
      have X_9 := h3.cell 9
      have X_10 := h3.cell 10
      have X_11 := h3.cell 11
      have X_12 := h3.cell 12
      simp only [List.getElem?_toArray, List.getElem?_cons_zero, List.getElem?_cons_succ] at X_0 X_1 X_2 X_3 X_4 X_5 X_6 X_7 X_8 X_9 X_10 X_11 X_12
      go_simp
      with_reducible rfl
    rotate_left
    · simp only [Act.put, List.setIfInBounds_toArray, List.set_cons_zero, List.set_cons_succ]
      rfl
    refine take_ (i := 14) (N := some 36) (v := ?_) (a' := ?_) #[true, true, true, true, true, true, true, true, true, true, true, true, true, true, true, false, false] rfl rfl (by kernel_rfl) (fun _ _ _ h => h) (Or.inl ⟨by rfl, ?_⟩) hHeld ?_ ?_
    rotate_left
    · rintro w' ⟨h0, h1, h2, h3, h4⟩
      have I_0 := h1.cell 0
      simp only [List.getElem?_toArray, List.getElem?_cons_zero, List.getElem?_cons_succ] at I_0
      go_simp
      with_reducible rfl
    rotate_left
    · simp only [Act.put, List.setIfInBounds_toArray, List.set_cons_zero, List.set_cons_succ]
      rfl
    refine one_ (i := 15) (N := some 37) #[true, true, true, true, true, true, true, true, true, true, true, true, true, true, true, true, false] rfl rfl (by kernel_rfl) (by simp) (fun K hK => ?_)
    rw [if_pos (by rfl)]
    go_simp
    refine (HCALL.out _ (bdrew HCB.out)).mono ?_
    rintro e w2 ⟨rfl, hb2⟩
    dsimp only
    refine hK.out _ _ ⟨HC0.out.drew.after hb2, HC1.out.drew.after hb2, HC2.out.drew.after hb2, HBX.out.drew.after hb2, cell_keep hb2 y4⟩ (fun hHeld => ?_)
    clear hK K hHeld
    refine pure_ (i := 16) (N := some 38) (v := ?_) (a' := ?_) #[true, true, true, true, true, true, true, true, true, true, true, true, true, true, true, true, true] rfl rfl (by kernel_rfl) (fun _ _ _ h => h) (Or.inl ⟨by rfl, ?_⟩) ?_ ?_
    rotate_left
    · intro w'
      go_simp
      with_reducible rfl
    rotate_left
    · simp only [Act.put, List.setIfInBounds_toArray, List.set_cons_zero, List.set_cons_succ]
      rfl
    refine done_ (by kernel_rfl) ?_
    have hc0 := HC0.out.drew.after hb2
    have hc1 := HC1.out.drew.after hb2
    have hc2 := HC2.out.drew.after hb2
    have hc3 := HC3.out.drew.after hb2
    have hcB := bstep (bdrew HCB.out) hb2
    have hX2 := HBX.out.drew.after hb2
    have hbes : Beside (fun b => b = gp + 1) W.heap.size W w2 := (Beside.refl W).drew.call hb2 (Nat.le_refl _)
    clear y4 h0 h1 HC0 HC1 HC2 HC3 HCB HBX HCALL hb2
    have HC0 := Lib.hid hc0
    have HC1 := Lib.hid hc1
    have HC2 := Lib.hid hc2
    have HC3 := Lib.hid hc3
    have HCB := Lib.hid hcB
    have HBES := Lib.hid hbes
    have g_c := hc3.cell
    have g_f := hc3.frozen
    have x_c := hX2.cell
    clear hc0 hc1 hc2 hc3 hcB hX2 hbes
    cases r with
    | false =>
      gi_wp2
      refine ⟨HBES.out, ?_⟩
      dsimp only
      rw [HNX.out, HADD.out]
      exact ⟨HC0.out, HC1.out, HC2.out, HC3.out, HCB.out⟩
    | true =>
      have hp := put3_bd s.f2.f1 0 99999 (by omega)
      obtain ⟨u, hu⟩ : ∃ u, put3 s.f2.f1 0 99999 = u := ⟨_, rfl⟩
      rw [hu] at hp
      have hs0 := hGB.1
      have hs1 := hGB.2
      have hu0 := hp.1
      have hu1 := hp.2
      have hsum : IntKind.i64.wrap (G + u) = G + u := IntWalk.i64_in _ (by omega)
      have hputc : Calls Try.prog 71 #[.int .i64 s.f2.f1, .int .i64 0, .int .i64 99999] w2.drew fun e w' => e = .returned (.int .i64 u) ∧ w' = w2.drew := hu ▸ put_q s.f2.f1 0 99999 w2.drew
      have HPC := Lib.hid hputc
      have HU := Lib.hid hu
      clear hp hputc hu hGB
      gi_upto_region 8 with (fail)
      refine startIn_ (n := 8) (S := (fun w' => w' = w2.drew)) (ds := [7]) #[false, false, false, false, false, false, false, false] (by kernel_rfl) (by kernel_rfl) (by rintro ⟨_, _, hh⟩; exact hh) rfl (by kernel_rfl) rfl (fun hHeld => ?_)
      refine take_ (i := 0) (N := some 39) (v := ?_) (a' := ?_) #[true, false, false, false, false, false, false, false] rfl rfl (by kernel_rfl) (fun _ _ _ h => h) (Or.inl ⟨by rfl, ?_⟩) hHeld ?_ ?_
      rotate_left
      · rintro w' rfl
        go_simp
        with_reducible rfl
      rotate_left
      · simp only [Act.put, List.setIfInBounds_toArray, List.set_cons_zero, List.set_cons_succ]
        rfl
      refine pure_ (i := 1) (N := some 40) (v := ?_) (a' := ?_) #[true, true, false, false, false, false, false, false] rfl rfl (by kernel_rfl) (fun _ _ _ h => h) (Or.inl ⟨by rfl, ?_⟩) ?_ ?_
      rotate_left
      · intro w'
        go_simp
        with_reducible rfl
      rotate_left
      · simp only [Act.put, List.setIfInBounds_toArray, List.set_cons_zero, List.set_cons_succ]
        rfl
      refine pure_ (i := 2) (N := some 41) (v := ?_) (a' := ?_) #[true, true, true, false, false, false, false, false] rfl rfl (by kernel_rfl) (fun _ _ _ h => h) (Or.inl ⟨by rfl, ?_⟩) ?_ ?_
      rotate_left
      · intro w'
        go_simp
        with_reducible rfl
      rotate_left
      · simp only [Act.put, List.setIfInBounds_toArray, List.set_cons_zero, List.set_cons_succ]
        rfl
      refine take_ (i := 3) (N := some 42) (v := ?_) (a' := ?_) #[true, true, true, true, false, false, false, false] rfl rfl (by kernel_rfl) (fun _ _ _ h => h) (Or.inl ⟨by rfl, ?_⟩) hHeld ?_ ?_
      rotate_left
      · rintro w' rfl
        go_simp
        with_reducible rfl
      rotate_left
      · simp only [Act.put, List.setIfInBounds_toArray, List.set_cons_zero, List.set_cons_succ]
        rfl
      refine one_ (i := 4) (N := some 43) #[true, true, true, true, true, false, false, false] rfl rfl (by kernel_rfl) (by simp) (fun K hK => ?_)
      rw [if_pos (by rfl)]
      go_simp
      refine HPC.out.mono ?_
      rintro e w3 ⟨rfl, rfl⟩
      dsimp only
      refine hK.out _ _ rfl (fun hHeld => ?_)
      clear hK K
      refine pure_ (i := 5) (N := some 44) (v := ?_) (a' := ?_) #[true, true, true, true, true, true, false, false] rfl rfl (by kernel_rfl) (fun _ _ _ h => h) (Or.inl ⟨by rfl, ?_⟩) ?_ ?_
      rotate_left
      · intro w'
        go_simp
        with_reducible rfl
      rotate_left
      · simp only [Act.put, List.setIfInBounds_toArray, List.set_cons_zero, List.set_cons_succ]
        rfl
      refine one_ (i := 6) (N := some 45) #[true, true, true, true, true, true, true, false] rfl rfl (by kernel_rfl) (by simp) (fun K hK => ?_)
      rw [if_pos (by rfl)]
      go_simp
      refine (put_q _ _ _ _).mono ?_
      rintro e w3 ⟨rfl, rfl⟩
      dsimp only
      refine hK.out _ _ rfl (fun hHeld => ?_)
      clear hK K
      refine last_ (i := 7) (N := none) #[true, true, true, true, true, true, true, true] rfl rfl (by kernel_rfl) (by simp) (fun K hK => ?_)
      rw [if_pos (by rfl)]
      go_simp
      refine hK.out _ _ ?_
      clear hK K
      refine done_ (by kernel_rfl) ?_
      refine ⟨(HBES.out.drew).set (.inl rfl), ?_⟩
      dsimp only
      rw [HNX.out, HADD.out, if_pos rfl, HU.out]
      have hgm := HGM.out
      have hgw := HGW.out
      refine ⟨HC0.out.far (p := ⟨gp + 1, 0, none⟩) (by show _ ≠ gp + 1; omega) _, HC1.out.far (p := ⟨gp + 1, 0, none⟩) (by show _ ≠ gp + 1; omega) _, HC2.out.far (p := ⟨gp + 1, 0, none⟩) (by show _ ≠ gp + 1; omega) _, (HC3.out.set_ 0 _).to rfl, ?_⟩
      exact bset (bdrew HCB.out) (by show w.heap.size ≤ gp + 1; omega)
  case done =>
    intro D xs W hS hI hD hK
    obtain ⟨c0, c1, c2, c3, cB⟩ := hI
    have hxs : xs.map stp = auraL l0 l1 0 := hS
    rw [hxs] at c3
    obtain ⟨G, hG⟩ : ∃ G, givenV l0 l1 (⟨p0, p1, p2, p3, p4, p5, p6, p7, p8, p9, p10, p11, p12, p13⟩ : PS) (i : Int) (auraL l0 l1 0) = G := ⟨_, rfl⟩
    have hGB : 0 ≤ G ∧ G ≤ 199998 := hG ▸ given_bd _ _ _ _ _
    have hv := HV.out
    rw [hG] at hv c3
    have hb1 := put3_bd p13 (-99999) 99999 (by omega)
    obtain ⟨u, hu⟩ : ∃ u, put3 p13 (-99999) 99999 = u := ⟨_, rfl⟩
    rw [hu] at hb1 hv
    have hpa := HPA.out
    have b0 := hGB.1
    have b1 := hGB.2
    have b2 := hb1.1
    have b3 := hb1.2
    have b4 := hpa.1
    have b5 := hpa.2
    have hs1 : IntKind.i64.wrap (p1 + u) = p1 + u := IntWalk.i64_in _ (by omega)
    have hs2 : IntKind.i64.wrap (p1 + u + G) = p1 + u + G := IntWalk.i64_in _ (by omega)
    have hputc : ∀ W' : World, Calls Try.prog 71 #[.int .i64 p13, .int .i64 (-99999), .int .i64 99999] W' fun e w' => e = .returned (.int .i64 u) ∧ w' = W' := fun W' => hu ▸ put_q p13 (-99999) 99999 W'
    have HPC := Lib.hid hputc
    have HVV := Lib.hid hv
    have HCB := Lib.hid cB
    have HKD := Lib.hid hK
    have HDD := Lib.hid hD
    have p_c := c2.cell
    have g_c := c3.cell
    clear c0 c1 c2 c3 cB hK hD hS hxs hG hGB hv hb1 hu hpa hputc hgm hgw hgl hsz hg0 HT3 HT4 HI4 HP4 HG4 HB4
    gi_upto_region 9 with (fail)
    refine wpIn_wide.2 (wp_only ?_)
    refine start_ (n := 10) (S := (fun w' => w' = W.drew)) (ds := []) #[false, false, false, false, false, false, false, false, false, false] (by kernel_rfl) rfl (by kernel_rfl) rfl (fun hHeld => ?_)
    refine pure_ (i := 0) (N := some 46) (v := ?_) (a' := ?_) #[true, false, false, false, false, false, false, false, false, false] rfl rfl (by kernel_rfl) (fun _ _ _ h => h) (Or.inl ⟨by rfl, ?_⟩) ?_ ?_
    rotate_left
    · intro w'
      go_simp
      with_reducible rfl
    rotate_left
    · simp only [Act.put, List.setIfInBounds_toArray, List.set_cons_zero, List.set_cons_succ]
      rfl
    refine take_ (i := 1) (N := some 47) (v := ?_) (a' := ?_) #[true, true, false, false, false, false, false, false, false, false] rfl rfl (by kernel_rfl) (fun _ _ _ h => h) (Or.inl ⟨by rfl, ?_⟩) hHeld ?_ ?_
    rotate_left
    · rintro w' rfl
      go_simp
      with_reducible rfl
    rotate_left
    · simp only [Act.put, List.setIfInBounds_toArray, List.set_cons_zero, List.set_cons_succ]
      rfl
    refine pure_ (i := 2) (N := some 48) (v := ?_) (a' := ?_) #[true, true, true, false, false, false, false, false, false, false] rfl rfl (by kernel_rfl) (fun _ _ _ h => h) (Or.inl ⟨by rfl, ?_⟩) ?_ ?_
    rotate_left
    · intro w'
      go_simp
      with_reducible rfl
    rotate_left
    · simp only [Act.put, List.setIfInBounds_toArray, List.set_cons_zero, List.set_cons_succ]
      rfl
    refine take_ (i := 3) (N := some 49) (v := ?_) (a' := ?_) #[true, true, true, true, false, false, false, false, false, false] rfl rfl (by kernel_rfl) (fun _ _ _ h => h) (Or.inl ⟨by rfl, ?_⟩) hHeld ?_ ?_
    rotate_left
    · rintro w' rfl
      go_simp
      with_reducible rfl
    rotate_left
    · simp only [Act.put, List.setIfInBounds_toArray, List.set_cons_zero, List.set_cons_succ]
      rfl
    refine take_ (i := 6) (N := some 52) (v := ?_) (a' := ?_) #[true, true, true, true, false, false, true, false, false, false] rfl rfl (by kernel_rfl) (fun _ _ _ h => h) (Or.inl ⟨by rfl, ?_⟩) hHeld ?_ ?_
    rotate_left
    · rintro w' rfl
      go_simp
      with_reducible rfl
    rotate_left
    · simp only [Act.put, List.setIfInBounds_toArray, List.set_cons_zero, List.set_cons_succ]
      rfl
    refine one_ (i := 4) (N := some 50) #[true, true, true, true, true, false, true, false, false, false] rfl rfl (by kernel_rfl) (by simp) (fun K hK => ?_)
    rw [if_pos (by rfl)]
    go_simp
    refine (HPC.out _).mono ?_
    rintro e w3 ⟨rfl, rfl⟩
    dsimp only
    refine hK.out _ _ rfl (fun hHeld => ?_)
    clear hK K
    refine pure_ (i := 5) (N := some 51) (v := ?_) (a' := ?_) #[true, true, true, true, true, true, true, false, false, false] rfl rfl (by kernel_rfl) (fun _ _ _ h => h) (Or.inl ⟨by rfl, ?_⟩) ?_ ?_
    rotate_left
    · intro w'
      go_simp
      with_reducible rfl
    rotate_left
    · simp only [Act.put, List.setIfInBounds_toArray, List.set_cons_zero, List.set_cons_succ]
      rfl
    refine pure_ (i := 7) (N := some 53) (v := ?_) (a' := ?_) #[true, true, true, true, true, true, true, true, false, false] rfl rfl (by kernel_rfl) (fun _ _ _ h => h) (Or.inl ⟨by rfl, ?_⟩) ?_ ?_
    rotate_left
    · intro w'
      go_simp
      with_reducible rfl
    rotate_left
    · simp only [Act.put, List.setIfInBounds_toArray, List.set_cons_zero, List.set_cons_succ]
      rfl
    refine one_ (i := 8) (N := some 54) #[true, true, true, true, true, true, true, true, true, false] rfl rfl (by kernel_rfl) (by simp) (fun K hK => ?_)
    rw [if_pos (by rfl)]
    go_simp
    refine (put_q _ _ _ _).mono ?_
    rintro e w3 ⟨rfl, rfl⟩
    dsimp only
    refine hK.out _ _ rfl (fun hHeld => ?_)
    clear hK K
    refine pure_ (i := 9) (N := some 4) (v := ?_) (a' := ?_) #[true, true, true, true, true, true, true, true, true, true] rfl rfl (by kernel_rfl) (fun _ _ _ h => h) (Or.inl ⟨by rfl, ?_⟩) ?_ ?_
    rotate_left
    · intro w'
      go_simp
      with_reducible rfl
    rotate_left
    · simp only [Act.put, List.setIfInBounds_toArray, List.set_cons_zero, List.set_cons_succ]
      rfl
    refine done_ (by kernel_rfl) ?_
    gi_wp2
    refine ⟨by simp, .inl ⟨_, _, rfl, run_takeDeferred (HKD.out : W.drew.heap[D]? = _), ?_⟩⟩
    refine ⟨.int .i64 v, ?_, rfl, ?_⟩
    · rw [← HVV.out]; simp [results, Try.f19, go_sem]
    · exact below_put (bdrew HCB.out) (by have := HDD.out; have := HSZ.out; have := HGL.out; have := HGW.out; have := HG.out; omega)
end Go.Proofs.Ytlldpdhajddmiaa.Bmay
end
section
/- How strong a piece attacks: the contract as the prints take it. -/
namespace Go.Proofs.Ytlldpdhajddmiaa.Base
open Go Go.RowKit Go.Proofs.Ytlldpdhajddmiaa.Pmga Go.Proofs.Ytlldpdhajddmiaa.Bmay Go.Proofs.YtlldpdhajddmiaaW.PrintWords
theorem may_ok {l0 : List (S97)} {l1 : List (S35)} {a2 a3 a4 a5 : Int} (h : mayB l0 l1 a2 a3 a4 a5 = true) : ∀ p ∈ l1, okP l0 p = true := by
  rw [may_ref] at h
  unfold refB at h
  rw [Bool.and_eq_true, Bool.and_eq_true] at h
  intro p hp
  have h1 := List.all_eq_true.1 h.1.2 p hp
  unfold pieceB at h1
  rw [Bool.and_eq_true] at h1
  exact h1.1
theorem ok_def {l0 : List (S97)} {p : S35} (h : okP l0 p = true) : p.f0 < (l0.length : Int) ∧ 0 ≤ p.f1 ∧ p.f1 ≤ 99999 ∧ 0 ≤ p.f2 ∧ p.f2 ≤ 99999 := by
  unfold okP oneB oneA oneC at h
  simp only [Bool.and_eq_true, Bool.not_eq_true', Bool.or_eq_false_iff, decide_eq_false_iff_not] at h
  omega
def attackB (l0 : List (S97)) (l1 : List (S35)) (a2 a3 a4 a5 id : Int) : Int :=
  if 0 ≤ id ∧ id < (l1.length : Int) ∧ mayB l0 l1 a2 a3 a4 a5 = true then attackV l0 l1 id else 0
def might_Attack.f (_k : Nat) (l0_0 : List (S97)) (l0_1 : List (S35)) (a0_2 : Int) (a0_3 : Int) (a0_4 : Int) (a0_5 : Int) (_a0_6 : Int) (_l0_7 : List (S58)) (_a0_8 : Bool) (_a0_9 : Bool) (a1 : Int) : Option (Int) :=
  if l0_1.all wfP = true then some (attackB l0_0 l0_1 a0_2 a0_3 a0_4 a0_5 a1) else none
theorem might_Attack.mono : ∀ a0 a1 a2 a3 a4 a5 a6 a7 a8 a9 b0 k, LeO (might_Attack.f k a0 a1 a2 a3 a4 a5 a6 a7 a8 a9 b0) (might_Attack.f (k + 1) a0 a1 a2 a3 a4 a5 a6 a7 a8 a9 b0) := fun _ _ _ _ _ _ _ _ _ _ _ _ _ h => h
theorem might_Attack.calls (k : Nat) (A0_0 : Option Addr) (c0_0 : Nat) (l0_0 : List (S97)) (A0_1 : Option Addr) (c0_1 : Nat) (l0_1 : List (S35)) (a0_2 : Int) (a0_3 : Int) (a0_4 : Int) (a0_5 : Int) (a0_6 : Int) (A0_7 : Option Addr) (c0_7 : Nat) (l0_7 : List (S58)) (a0_8 : Bool) (a0_9 : Bool) (a1 : Int) (r : Int) (w : World) (hr0_0 : Kd.C k97 w A0_0 l0_0.length l0_0) (hc0_0 : l0_0.length ≤ c0_0) (hr0_1 : Kd.C k35 w A0_1 l0_1.length l0_1) (hc0_1 : l0_1.length ≤ c0_1) (hr0_7 : Kd.C k58 w A0_7 l0_7.length l0_7) (hc0_7 : l0_7.length ≤ c0_7) (h : might_Attack.f k l0_0 l0_1 a0_2 a0_3 a0_4 a0_5 a0_6 l0_7 a0_8 a0_9 a1 = some r) :
    Calls Try.prog 19 #[.agg #[.slice A0_0 l0_0.length c0_0, .slice A0_1 l0_1.length c0_1, .int .i64 a0_2, .int .i64 a0_3, .int .i64 a0_4, .int .u8 a0_5, .int .i64 a0_6, .slice A0_7 l0_7.length c0_7, .bool a0_8, .bool a0_9], .int .i64 a1] w fun e w' => e = .returned (.int .i64 r) ∧ Below w.heap.size w w' := by
  unfold might_Attack.f at h
  split at h
  · rename_i hwf
    obtain rfl := (Option.some.inj h).symm
    unfold attackB
    have hk := fun (b : Bool) (hb : Pmgb.might_known.f 0 l0_0 l0_1 a0_2 a0_3 a0_4 a0_5 a0_6 l0_7 a0_8 a0_9 a1 = some b) w' (hw : Below w.heap.size w w') => Pmgb.might_known.calls 0 A0_0 c0_0 l0_0 A0_1 c0_1 l0_1 a0_2 a0_3 a0_4 a0_5 a0_6 A0_7 c0_7 l0_7 a0_8 a0_9 a1 b w' (Kd.C_below hr0_0 hw) hc0_0 (Kd.C_below hr0_1 hw) hc0_1 (Kd.C_below hr0_7 hw) hc0_7 hb
    have hmay : ∀ k, board_May.f k l0_0 l0_1 a0_2 a0_3 a0_4 a0_5 a0_6 l0_7 a0_8 a0_9 = some (mayB l0_0 l0_1 a0_2 a0_3 a0_4 a0_5) := fun k => by unfold board_May.f; rw [if_pos hwf]
    by_cases hc : 0 ≤ a1 ∧ a1 < (l0_1.length : Int) ∧ mayB l0_0 l0_1 a0_2 a0_3 a0_4 a0_5 = true
    · rw [if_pos hc]
      obtain ⟨h1, h2, h3⟩ := hc
      obtain ⟨i, rfl⟩ : ∃ i : Nat, a1 = (i : Int) := ⟨a1.toNat, by omega⟩
      refine callsIn_wide.1 (attack_yes A0_0 c0_0 l0_0 A0_1 c0_1 l0_1 a0_2 a0_3 a0_4 a0_5 a0_6 A0_7 c0_7 l0_7 a0_8 a0_9 i w hr0_0 hc0_0 hr0_1 hc0_1 hr0_7 hc0_7 (by omega) (fun p hp => (ok_def (may_ok h3 p hp)).1) (fun p hp => ⟨(ok_def (may_ok h3 p hp)).2.1, (ok_def (may_ok h3 p hp)).2.2.1⟩) (hk true ?_))
      unfold Pmgb.might_known.f
      rw [if_pos (by omega), if_pos (by omega), hmay, h3]
      rfl
    · rw [if_neg hc]
      refine attack_no A0_0 c0_0 l0_0 A0_1 c0_1 l0_1 a0_2 a0_3 a0_4 a0_5 a0_6 A0_7 c0_7 l0_7 a0_8 a0_9 a1 w (hk false ?_)
      unfold Pmgb.might_known.f
      by_cases h1 : a1 ≥ 0
      · rw [if_pos h1]
        by_cases h2 : a1 < (l0_1.length : Int)
        · rw [if_pos h2, hmay]
          have : mayB l0_0 l0_1 a0_2 a0_3 a0_4 a0_5 = false := by
            cases e : mayB l0_0 l0_1 a0_2 a0_3 a0_4 a0_5
            · rfl
            · exact absurd ⟨h1, h2, e⟩ hc
          rw [this]; rfl
        · rw [if_neg h2]
      · rw [if_neg h1]
  · cases h
end Go.Proofs.Ytlldpdhajddmiaa.Base
end
section
/- What the statements of might take as given. -/
end
