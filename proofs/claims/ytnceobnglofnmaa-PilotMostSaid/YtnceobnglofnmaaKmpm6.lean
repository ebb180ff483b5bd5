/- Joined by a program of this session (pack.py) out of: Mixb BaseMx -/
import Derived.Lib.Hide
import Derived.LoopNIn
import Derived.RegionIn
import Derived.Test.YtnceobnglofnmaaKmpm4
import Derived.Test.YtnceobnglofnmaaKmpm5
section
/- The number below n: the draws as an iterator that never ends, and the loop that leaves it at the first draw that may be taken. -/
namespace Go.Proofs.Ytnceobnglofnmaa.Base
open Go Go.RowKit Go.Shelf Go.Proofs.YtnceobnglofnmaaW.PrintWords Go.Proofs.Ytnceobnglofnmaa.Pmxa

def MixV (x : Int) : Int := (mix_Mix.f x).getD 0
theorem mix_any (x : Int) (w : World) : Calls Try.prog 43 #[.int .u64 x] w fun e w' => e = .returned (.int .u64 (MixV x)) ∧ w' = w := by
  go_enter Try.func43, Try.ntmps43
  go_wp2
  go_ret
  exact ⟨rfl, rfl⟩
theorem draws_any (s a : Int) (w : World) : Calls Try.prog 75 #[.int .u64 s, .int .u64 a] w fun e w' =>
    e = .returned (.func (.func 98) #[] #[.pointer (some ⟨w.heap.size, 0, none⟩), .pointer (some ⟨w.heap.size + 1, 0, none⟩)]) ∧ w' = (w.alloc (.cells #[.int .u64 s] 54)).alloc (.cells #[.int .u64 a] 54) := by
  go_enter Try.func75, Try.ntmps75
  go_wp2
  go_ret
  exact ⟨rfl, rfl⟩

def au (a : Int) : Nat → Int
  | 0 => a
  | j + 1 => IntKind.u64.wrap (au a j + 1)
def draw (s a : Int) : Int := MixV (IntKind.u64.wrap (s + IntKind.u64.wrap (a * 11400714819323198485)))
def drawn (s a : Int) (m : Nat) : List (Int × Int) := (List.range m).map fun j => (au a (j + 1), draw s (au a j))
theorem drawn_succ (s a : Int) (m : Nat) : drawn s a (m + 1) = drawn s a m ++ [(au a (m + 1), draw s (au a m))] := by simp [drawn, List.range_succ]
theorem drawn_length (s a : Int) (m : Nat) : (drawn s a m).length = m := by simp [drawn]
theorem au_succ (a : Int) (j : Nat) : IntKind.u64.wrap (au a j + 1) = au a (j + 1) := rfl
theorem au_next (a : Int) (j : Nat) : au (IntKind.u64.wrap (a + 1)) j = au a (j + 1) := by
  induction j with
  | zero => rfl
  | succ j ih => simp only [au] at ih ⊢; rw [ih]
def isDrawn (s a : Int) (pre : List (Int × Int)) : Prop := pre = drawn s a pre.length
theorem isDrawn_drawn (s a : Int) (m : Nat) : isDrawn s a (drawn s a m) := by unfold isDrawn; rw [drawn_length]
attribute [local go_sem] Oper.semAt_some
set_option maxRecDepth 100000 in
set_option maxHeartbeats 2000000 in
theorem draws_iter (s a : Int) (bs ba n₀ N : Nat) (w : World) (hs : bs < n₀) (ha : ba < n₀) (hne : bs ≠ ba)
    (cs : Blk w bs 54 #[.int .u64 s]) (ca : Blk w ba 54 #[.int .u64 (au a 0)]) :
    IterC Try.prog 98 #[.pointer (some ⟨bs, 0, none⟩), .pointer (some ⟨ba, 0, none⟩)] (fun p : Int × Int => #[.int .u64 p.1, .int .u64 p.2]) (fun b => b = ba) n₀ N (fun _ => False) (isDrawn s a) w := by
  intro l J Jx W hW hJ hJx hN hY h0
  refine callsIn_of_wp Try.func98 rfl trivial ?_ rfl
  simp only [Try.ntmps98, List.size_toArray, List.length_cons, List.length_nil, Nat.reduceAdd, Nat.reduceSub, Array.replicate_succ, Array.replicate_zero, List.push_toArray, List.append_toArray, List.nil_append, List.cons_append]
  apply wpIn_block
  refine wpIn_loop_rounds (N + 1) ?_
  refine (show ∀ (m j : Nat) (V : World) (u3 u4 u5 u6 u7 u8 u9 u10 u11 u12 u13 u14 u15 u16 : Value), j + m = N + 1 → J (drawn s a j) V → Blk V bs 54 #[.int .u64 s] → Blk V ba 54 #[.int .u64 (au a j)] →
      Code.roundsIn Fence.wide 0 Try.prog _ _ m { tmps := #[.func (.yield l) #[] #[], .pointer (some ⟨bs, 0, none⟩), .pointer (some ⟨ba, 0, none⟩), u3, u4, u5, u6, u7, u8, u9, u10, u11, u12, u13, u14, u15, u16], defers := [] } V from ?_) (N + 1) 0 W undef undef undef undef undef undef undef undef undef undef undef undef undef undef (by omega) h0 (cs.below hW hs) (ca.below hW ha)
  intro m
  induction m with
  | zero =>
    intro j V u3 u4 u5 u6 u7 u8 u9 u10 u11 u12 u13 u14 u15 u16 hjm hj _ _
    have := hN (drawn s a j) V (isDrawn_drawn _ _ _) hj
    rw [drawn_length] at this
    omega
  | succ m ih =>
    intro j V u3 u4 u5 u6 u7 u8 u9 u10 u11 u12 u13 u14 u15 u16 hjm hj hbs hba
    have hJ' : J (drawn s a j) (V.setCell ⟨ba, 0, none⟩ (.int .u64 (au a (j + 1)))) := hJ _ _ _ hj ((Beside.refl _).set (Or.inl rfl))
    obtain ⟨f1, t1, a1, b1, hy1, hR1⟩ := hY (drawn s a j) (au a (j + 1), draw s (au a j)) _ hJ' (by rw [← drawn_succ]; exact isDrawn_drawn _ _ _)
    dsimp only at hy1
    have HR1 := Lib.hid hR1
    have HJM := Lib.hid hjm
    have IH := Lib.hid ih
    have HBA := Lib.hid hba
    have HBS := Lib.hid hbs
    have c1 := hbs.cell 0
    have c2 := hba.cell 0
    have f2 := hba.frozen 0
    have e1 := au_succ a j
    have e2 : MixV (IntKind.u64.wrap (s + IntKind.u64.wrap (au a j * 11400714819323198485))) = draw s (au a j) := rfl
    simp only [List.getElem?_toArray, List.getElem?_cons_zero] at c1 c2
    clear hR1 hjm ih hba hbs hY hJ hJx hN cs ca hW hJ' hj h0
    rw [roundsIn_succ]
    gi_wp2_with (first | (refine ⟨trivial, rfl, (callsIn_wide.2 (mix_any _ _)).mono ?_⟩; rintro e w' ⟨rfl, rfl⟩))
    refine ⟨rfl, HR1.out.mono ?_⟩
    rintro e W1 (⟨rfl, hJ1, hB1⟩ | ⟨rfl, hx1⟩)
    · have HB1 := Lib.hid hB1
      have HJ1 := Lib.hid hJ1
      clear hB1 hJ1 hy1 HR1
      gi_wp2
      refine IH.out (j + 1) W1 _ _ _ _ _ _ _ _ _ _ _ _ _ _ (by have := HJM.out; omega) (by rw [drawn_succ]; exact HJ1.out) ((HBS.out.far (p := ⟨ba, 0, none⟩) hne _).below HB1.out hs) ?_
      exact ((HBA.out.set_ 0 _).to rfl).below HB1.out ha
    · have HX := Lib.hid hx1
      clear hx1 hy1 HR1
      gi_wp2
      refine bodyPost_ret (results_none rfl _ _ _) rfl ⟨⟨_, rfl⟩, .inr ⟨_, ?_, HX.out⟩⟩
      rw [← drawn_succ]
      exact isDrawn_drawn _ _ _

def below_l : Nat → Int → Int → Int → Int → Option (Int × Int × Int)
  | 0, _, _, _, _ => none
  | k + 1, s, a, n, wh => if draw s a < wh then some (Int.tmod (draw s a) n, IntKind.u64.wrap (a + 1), 0) else below_l k s (IntKind.u64.wrap (a + 1)) n wh
theorem below_l_first (k : Nat) : ∀ (s a n wh : Int) (r : Int × Int × Int), below_l k s a n wh = some r →
    ∃ D, D < k ∧ (∀ j, j < D → ¬ draw s (au a j) < wh) ∧ draw s (au a D) < wh ∧ r = (Int.tmod (draw s (au a D)) n, au a (D + 1), 0) := by
  induction k with
  | zero => intro s a n wh r h; cases h
  | succ k ih =>
    intro s a n wh r h
    simp only [below_l] at h
    split at h
    · rename_i hlt
      refine ⟨0, by omega, fun j hj => by omega, hlt, ?_⟩
      injection h with h
      exact h.symm
    · rename_i hge
      obtain ⟨D, hD, hb, hd, hr⟩ := ih _ _ _ _ _ h
      refine ⟨D + 1, by omega, fun j hj => ?_, by rw [← au_next]; exact hd, by rw [hr, au_next, au_next]⟩
      cases j with
      | zero => exact hge
      | succ j => rw [← au_next]; exact hb j (by omega)
def whole (n : Int) : Int := IntKind.u64.wrap (18446744073709551615 - 18446744073709551615 % n)
def mix_Below.f (k : Nat) (a0 a1 a2 : Int) : Option (Int × Int × Int) := if a2 = 0 then some (0, 0, 2) else below_l k a0 a1 a2 (whole a2)
theorem below_put {n l : Nat} {A W : World} {o : Obj} (h : Below n A W) (hl : n ≤ l) : Below n A (W.putObj l o) :=
  h.trans ⟨rfl, rfl, rfl, by simp [World.putObj], fun k hk => World.putObj_heap_other (by omega)⟩
theorem stb_blk {β : Type} {own : Nat → Prop} {n g : Nat} {ty : TypeId} {cs : Array Value} (hg : g < n) (ho : ¬ own g) : Stb (β := β) own n (fun _ W => Blk W g ty cs) :=
  fun _ A B h hs => (hs.block g hg ho).trans h
theorem stb_and {β : Type} {own : Nat → Prop} {n : Nat} {I J : β → World → Prop} (h : Stb own n I) (k : Stb own n J) : Stb own n (fun s W => I s W ∧ J s W) := fun s A B hs hb => ⟨h s A B hs.1 hb, k s A B hs.2 hb⟩
theorem stb_plain {β : Type} {own : Nat → Prop} {n : Nat} {p : β → Prop} : Stb own n (fun s _ => p s) := fun _ _ _ h _ => h
theorem stb_below {β : Type} {own : Nat → Prop} {n n₀ : Nat} {w0 : World} (hn : n₀ ≤ n) (ho : ∀ b, b < n₀ → ¬ own b) : Stb (β := β) own n (fun _ W => Below n₀ w0 W) :=
  fun _ A B h hs => h.trans ⟨hs.os, hs.tape, hs.output, hs.size, fun k hk => hs.block k (by omega) (ho k hk)⟩
set_option maxRecDepth 100000 in
set_option maxHeartbeats 2000000 in
theorem below_pos (D : Nat) (s a n : Int) (hn : n ≠ 0) (hb : ∀ j, j < D → ¬ draw s (au a j) < whole n) (hd : draw s (au a D) < whole n) (w : World) :
    CallsIn Fence.wide 0 Try.prog 38 #[.int .u64 s, .int .u64 a, .int .u64 n] w fun e w' => e = .returned (.tuple #[.int .u64 (Int.tmod (draw s (au a D)) n), .int .u64 (au a (D + 1)), .int .i64 0]) ∧ Below w.heap.size w w' := by
  have h0 : (n == 0) = false := beq_eq_false_iff_ne.mpr hn
  have HB := Lib.hid hb
  have HD := Lib.hid hd
  clear hb hd
  refine callsIn_of_wp_marks Try.func38 rfl trivial ?_ rfl
  simp only [Try.ntmps38, List.size_toArray, List.length_cons, List.length_nil, Nat.reduceAdd, Nat.reduceSub, Array.replicate_succ, Array.replicate_zero, List.push_toArray, List.append_toArray, List.nil_append, List.cons_append]
  gi_wp2_with (first | (refine ⟨trivial, rfl, (callsIn_wide.2 (draws_any _ _ _)).mono ?_⟩; rintro e w' ⟨rfl, rfl⟩))
  rw [show IntKind.u64.wrap (18446744073709551615 - 18446744073709551615 % n) = whole n from rfl]
  obtain ⟨g, hg⟩ : ∃ g, w.heap.size = g := ⟨_, rfl⟩
  have b0 := Blk.new w 54 #[.int .u64 n]
  have b1 := Blk.new (w.alloc (.cells #[.int .u64 n] 54)) 54 #[.int .u64 0]
  have b2 := Blk.new ((w.alloc (.cells #[.int .u64 n] 54)).alloc (.cells #[.int .u64 0] 54)) 54 #[.int .u64 0]
  have b3 := Blk.new (((w.alloc (.cells #[.int .u64 n] 54)).alloc (.cells #[.int .u64 0] 54)).alloc (.cells #[.int .u64 0] 54)) 54 #[.int .u64 (whole n)]
  have b4 := Blk.new ((((w.alloc (.cells #[.int .u64 n] 54)).alloc (.cells #[.int .u64 0] 54)).alloc (.cells #[.int .u64 0] 54)).alloc (.cells #[.int .u64 (whole n)] 54)) 54 #[.int .u64 s]
  have b5 := Blk.new (((((w.alloc (.cells #[.int .u64 n] 54)).alloc (.cells #[.int .u64 0] 54)).alloc (.cells #[.int .u64 0] 54)).alloc (.cells #[.int .u64 (whole n)] 54)).alloc (.cells #[.int .u64 s] 54)) 54 #[.int .u64 a]
  simp only [World.size_alloc, hg] at b0 b1 b2 b3 b4 b5
  replace b0 := ((((b0.alloc (.cells #[.int .u64 0] 54)).alloc (.cells #[.int .u64 0] 54)).alloc (.cells #[.int .u64 (whole n)] 54)).alloc (.cells #[.int .u64 s] 54)).alloc (.cells #[.int .u64 a] 54)
  replace b1 := (((b1.alloc (.cells #[.int .u64 0] 54)).alloc (.cells #[.int .u64 (whole n)] 54)).alloc (.cells #[.int .u64 s] 54)).alloc (.cells #[.int .u64 a] 54)
  replace b2 := ((b2.alloc (.cells #[.int .u64 (whole n)] 54)).alloc (.cells #[.int .u64 s] 54)).alloc (.cells #[.int .u64 a] 54)
  replace b3 := (b3.alloc (.cells #[.int .u64 s] 54)).alloc (.cells #[.int .u64 a] 54)
  replace b4 := b4.alloc (.cells #[.int .u64 a] 54)
  have hB0 : Below g w ((((((w.alloc (.cells #[.int .u64 n] 54)).alloc (.cells #[.int .u64 0] 54)).alloc (.cells #[.int .u64 0] 54)).alloc (.cells #[.int .u64 (whole n)] 54)).alloc (.cells #[.int .u64 s] 54)).alloc (.cells #[.int .u64 a] 54)) := by
    rw [← hg]; exact balloc (balloc (balloc (balloc (balloc (balloc (Below.refl _ _) _) _) _) _) _) _
  have hZ : ((((((w.alloc (.cells #[.int .u64 n] 54)).alloc (.cells #[.int .u64 0] 54)).alloc (.cells #[.int .u64 0] 54)).alloc (.cells #[.int .u64 (whole n)] 54)).alloc (.cells #[.int .u64 s] 54)).alloc (.cells #[.int .u64 a] 54)).heap.size = g + 6 := by
    simp only [World.size_alloc, hg]
  rw [hg]
  obtain ⟨W0, hW0⟩ : ∃ W0, (((((w.alloc (.cells #[.int .u64 n] 54)).alloc (.cells #[.int .u64 0] 54)).alloc (.cells #[.int .u64 0] 54)).alloc (.cells #[.int .u64 (whole n)] 54)).alloc (.cells #[.int .u64 s] 54)).alloc (.cells #[.int .u64 a] 54) = W0 := ⟨_, rfl⟩
  rw [hW0] at b0 b1 b2 b3 b4 b5 hB0 hZ ⊢
  clear hW0
  simp only [Nat.add_assoc, Nat.reduceAdd] at b1 b2 b3 b4 b5 ⊢
  refine wp_iter (gf := 98) (lb := #[.pointer (some ⟨g + 4, 0, none⟩), .pointer (some ⟨g + 5, 0, none⟩)]) rfl (enters_of Try.func98 (by kernel_rfl) rfl) (own := fun b => b = g + 5) (N := D)
    (fun b hb => by omega) (draws_iter s a (g + 4) (g + 5) W0.heap.size D W0 (by omega) (by omega) (by omega) b4 b5) (fun _ => rfl)
    (fun pre W => pre.length ≤ D ∧ Blk W g 54 #[.int .u64 n] ∧ Blk W (g + 1) 54 #[.int .u64 0] ∧ Blk W (g + 2) 54 #[.int .u64 0] ∧ Blk W (g + 3) 54 #[.int .u64 (whole n)] ∧ Below g w W)
    (fun c pre W => c = .exit 0 ∧ Blk W (g + 1) 54 #[.int .u64 (Int.tmod (draw s (au a D)) n)] ∧ Blk W (g + 2) 54 #[.int .u64 (au a (D + 1))] ∧ Below g w W)
    (stb_and stb_plain (stb_and (stb_blk (by omega) (by omega)) (stb_and (stb_blk (by omega) (by omega)) (stb_and (stb_blk (by omega) (by omega)) (stb_and (stb_blk (by omega) (by omega)) (stb_below (by omega) (fun b hb => by omega)))))))
    (fun c => stb_and stb_plain (stb_and (stb_blk (by omega) (by omega)) (stb_and (stb_blk (by omega) (by omega)) (stb_below (by omega) (fun b hb => by omega)))))
    (fun pre W _ h => h.1) ⟨Nat.zero_le _, b0, b1, b2, b3, hB0⟩
    (fun x => { tmps := #[.int .u64 s, .int .u64 a, .int .u64 n, undef, undef, .pointer (some ⟨g, 0, none⟩), .pointer (some ⟨g + 1, 0, none⟩), .pointer (some ⟨g + 2, 0, none⟩), .int .i64 0, .pointer (some ⟨g + 3, 0, none⟩), .int .u64 x.1, .int .u64 x.2,
      .int .u64 n, .bool false, .int .u64 n, .int .u64 (18446744073709551615 % n), .int .u64 (whole n), .int .u64 s, .int .u64 a, .func (.func 98) #[] #[.pointer (some ⟨g + 4, 0, none⟩), .pointer (some ⟨g + 5, 0, none⟩)], .int .u64 x.1, .int .u64 x.2, undef, undef, undef, undef, undef, undef, undef, undef, undef], defers := [] }) ?assign ?body ?done ?stop
  case assign =>
    intro l x W K hK
    gi_wp2
    exact hK
  case body =>
    rintro l pre x W ⟨hl, c0, c1, c2, c3, hB⟩ hsp _
    have hx : x = (au a (pre.length + 1), draw s (au a pre.length)) := by
      unfold isDrawn at hsp
      rw [List.length_append, List.length_singleton, drawn_succ] at hsp
      exact (List.cons.inj (List.append_inj hsp (by rw [drawn_length])).2).1
    obtain ⟨m, hm⟩ : ∃ m, pre.length = m := ⟨_, rfl⟩
    rw [hm] at hx
    subst hx
    have h3 := c3.cell 0
    have h0' := c0.cell 0
    have h1 := c1.cell 0
    have h2 := c2.cell 0
    have f1 := c1.frozen 0
    have f2 := c2.frozen 0
    simp only [List.getElem?_toArray, List.getElem?_cons_zero] at h3 h0' h1 h2
    have HC0 := Lib.hid c0
    have HC1 := Lib.hid c1
    have HC2 := Lib.hid c2
    have HC3 := Lib.hid c3
    have HBW := Lib.hid hB
    have HL := Lib.hid hl
    have HM := Lib.hid hm
    clear c0 c1 c2 c3 hB hl hm hsp b0 b1 b2 b3 b4 b5 hB0 hZ
    obtain ⟨i, hi⟩ : ∃ i, au a (m + 1) = i := ⟨_, rfl⟩
    obtain ⟨d, hdd⟩ : ∃ d, draw s (au a m) = d := ⟨_, rfl⟩
    rw [hi, hdd]
    have HI := Lib.hid hi
    have HDR := Lib.hid hdd
    clear hi hdd
    dsimp only
    by_cases hlt : d < whole n
    · have hmD : m = D := by
        have := HL.out
        have := HM.out
        by_cases e : m < D
        · exact absurd (HB.out m e) (by rw [HDR.out]; omega)
        · omega
      have hd : decide (d < whole n) = true := decide_eq_true hlt
      have HMD := Lib.hid hmD
      have e1 : d = draw s (au a D) := by rw [← HDR.out, HMD.out]
      have e2 : i = au a (D + 1) := by rw [← HI.out, HMD.out]
      have E1 := Lib.hid e1
      have E2 := Lib.hid e2
      clear hlt hmD e1 e2
      gi_wp2
      rw [← E1.out, ← E2.out]
      refine ⟨(KeepsOthers.setCell _ _ _).trans (KeepsOthers.setCell _ _ _), rfl, ?_, ?_, ?_⟩
      · exact ((HC1.out.set_ 0 _).to rfl).far (p := ⟨g + 2, 0, none⟩) (by simp) _
      · exact ((HC2.out.far (p := ⟨g + 1, 0, none⟩) (by simp) _).set_ 0 _).to rfl
      · exact (HBW.out.setCell (p := ⟨g + 1, 0, none⟩) (by simp) _).setCell (p := ⟨g + 2, 0, none⟩) (by simp) _
    · have hd : decide (d < whole n) = false := decide_eq_false hlt
      have HLT := Lib.hid hlt
      clear hlt
      gi_wp2
      refine ⟨KeepsOthers.refl _, Below.refl _ _, ?_, HC0.out, HC1.out, HC2.out, HC3.out, HBW.out⟩
      rw [List.length_append, List.length_singleton, HM.out]
      have := HL.out
      have := HM.out
      by_cases e : m < D
      · omega
      · obtain rfl : m = D := by omega
        exact absurd HD.out (by rw [HDR.out]; exact Int.not_lt.2 HLT.out)
  case done =>
    rintro D ys W hD
    exact hD.elim
  case stop =>
    rintro D' c pre W hpre ⟨rfl, c1, c2, hB⟩ hD hK
    have h1 := c1.cell 0
    have h2 := c2.cell 0
    have f1 := c1.frozen 0
    have f2 := c2.frozen 0
    simp only [List.getElem?_toArray, List.getElem?_cons_zero] at h1 h2
    have HC1 := Lib.hid c1
    have HC2 := Lib.hid c2
    have HBW := Lib.hid hB
    have HK := Lib.hid hK
    have HDD := Lib.hid (show g + 6 ≤ D' by omega)
    clear c1 c2 hB hK hD hpre b0 b1 b2 b3 b4 b5 hB0 hZ
    gi_wp2_with gi_region
    all_goals
      have k1 := (((HC1.out.set_ 0 (.int .u64 (Int.tmod (draw s (au a D)) n))).to rfl).far (p := ⟨g + 2, 0, none⟩) (by simp) (.int .u64 (au a (D + 1)))).drew
      have k2 := (((HC2.out.far (p := ⟨g + 1, 0, none⟩) (by simp) (.int .u64 (Int.tmod (draw s (au a D)) n))).set_ 0 (.int .u64 (au a (D + 1)))).to rfl).drew
      have k3 := (((HBW.out.setCell (p := ⟨g + 1, 0, none⟩) (by simp) (.int .u64 (Int.tmod (draw s (au a D)) n))).setCell (p := ⟨g + 2, 0, none⟩) (by simp) (.int .u64 (au a (D + 1)))).drew)
      have kK := (((KeepsOthers.setCell W ⟨g + 1, 0, none⟩ (.int .u64 (Int.tmod (draw s (au a D)) n))).trans (KeepsOthers.setCell _ ⟨g + 2, 0, none⟩ (.int .u64 (au a (D + 1))))).trans (KeepsOthers.drew _)).same D' _ HK.out rfl
      have hD' := HDD.out
      generalize ((W.setCell ⟨g + 1, 0, none⟩ (.int .u64 (Int.tmod (draw s (au a D)) n))).setCell ⟨g + 2, 0, none⟩ (.int .u64 (au a (D + 1)))).drew = W2 at k1 k2 k3 kK ⊢
      generalize Int.tmod (draw s (au a D)) n = v1 at k1 ⊢
      generalize au a (D + 1) = v2 at k2 ⊢
      refine ⟨by simp, .inl ⟨_, _, rfl, run_takeDeferred kK, ?_⟩⟩
      have r1 := Blk.cell ((World.putObj_heap_other (o := .deferred none) (show g + 1 ≠ D' by omega)).trans k1) 0
      have r2 := Blk.cell ((World.putObj_heap_other (o := .deferred none) (show g + 2 ≠ D' by omega)).trans k2) 0
      simp only [List.setIfInBounds_toArray, List.set_cons_zero, List.getElem?_toArray, List.getElem?_cons_zero] at r1 r2
      refine ⟨.tuple #[.int .u64 v1, .int .u64 v2, .int .i64 0], ?_, rfl, ?_⟩
      · simp [results, Try.f38, go_sem, r1, r2]
      · exact Below.mono (below_put k3 (by omega)) (Nat.le_of_eq hg)
theorem below_l_mono (k : Nat) : ∀ s a n wh, LeO (below_l k s a n wh) (below_l (k + 1) s a n wh) := by
  induction k with
  | zero => intro s a n wh r h; cases h
  | succ k ih =>
    intro s a n wh r h
    rw [below_l] at h ⊢
    split at h
    · rename_i hlt; rw [if_pos hlt]; exact h
    · rename_i hlt; rw [if_neg hlt]; exact ih _ _ _ _ _ h
theorem mix_Below.mono : ∀ a0 a1 a2 k, LeO (mix_Below.f k a0 a1 a2) (mix_Below.f (k + 1) a0 a1 a2) := by
  intro a0 a1 a2 k r h
  unfold mix_Below.f at h ⊢
  split at h
  · rename_i h0; rw [if_pos h0]; exact h
  · rename_i h0; rw [if_neg h0]; exact below_l_mono _ _ _ _ _ _ h
set_option maxRecDepth 100000 in
theorem mix_Below.calls (k : Nat) (a0 a1 a2 r1 r2 r3 : Int) (w : World) (h : mix_Below.f k a0 a1 a2 = some (r1, r2, r3)) :
    Calls Try.prog 38 #[.int .u64 a0, .int .u64 a1, .int .u64 a2] w fun e w' => e = .returned (.tuple #[.int .u64 r1, .int .u64 r2, .int .i64 r3]) ∧ Below w.heap.size w w' := by
  unfold mix_Below.f at h
  by_cases hz : a2 = 0
  · rw [if_pos hz] at h
    subst hz
    simp only [Option.some.injEq, Prod.mk.injEq] at h
    obtain ⟨rfl, rfl, rfl⟩ := h
    go_enter Try.func38, Try.ntmps38
    go_wp2
    simp [bodyPost, results, Try.results38, go_sem]
    exact balloc (balloc (balloc (Below.refl _ _) _) _) _
  · rw [if_neg hz] at h
    obtain ⟨D, _, hb, hd, hr⟩ := below_l_first _ _ _ _ _ _ h
    simp only [Prod.mk.injEq] at hr
    obtain ⟨rfl, rfl, rfl⟩ := hr
    exact callsIn_wide.1 (below_pos D a0 a1 a2 hz hb hd w)
end Go.Proofs.Ytnceobnglofnmaa.Base
end
section
/- What the orders' prints take as given. -/
end
