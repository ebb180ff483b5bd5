/- Joined by a program of this session (pack.py) out of: Iter Mixd Map8 Ev -/
import Derived.Deep.RegionLaw
import Derived.Laws.Bits64
import Derived.Lib.Hide
import Derived.Lib.SliceRun
import Derived.RangeFuncCalls
import Derived.RangeFuncFrom
import Derived.RangeFuncRecord
import Derived.Shelf.Abstract
import Derived.TacticsInMore
import Derived.Test.YtnceobnglofnmaaProg
import Derived.WideMake
import Derived.Test.YtnceobnglofnmaaKmpm1
import Derived.Test.YtnceobnglofnmaaKmpm3
section
/- A loop over a function ('for x := range seq'): the iterator's contract and the law, for iterators with variables of their own, and for such as never end by themselves. -/
namespace Go.Proofs.Ytnceobnglofnmaa.Base
open Go Go.RowKit Go.Shelf

/-- What lies below n, but for the blocks of 'own', is as it was. -/
structure Beside (own : Nat → Prop) (n : Nat) (A B : World) : Prop where
  os : B.os = A.os
  tape : B.tape = A.tape
  output : B.output = A.output
  size : A.heap.size ≤ B.heap.size
  block : ∀ k, k < n → ¬ own k → B.heap[k]? = A.heap[k]?
theorem Beside.refl {own : Nat → Prop} {n : Nat} (A : World) : Beside own n A A := ⟨rfl, rfl, rfl, Nat.le_refl _, fun _ _ _ => rfl⟩
theorem Beside.trans {own : Nat → Prop} {n : Nat} {A B C : World} (h : Beside own n A B) (k : Beside own n B C) : Beside own n A C :=
  ⟨k.os.trans h.os, k.tape.trans h.tape, k.output.trans h.output, Nat.le_trans h.size k.size, fun i hi ho => (k.block i hi ho).trans (h.block i hi ho)⟩
theorem Beside.drew {own : Nat → Prop} {n : Nat} {A B : World} (h : Beside own n A B) : Beside own n A B.drew := ⟨h.os, h.tape, h.output, h.size, h.block⟩
theorem Beside.drewN {own : Nat → Prop} {n : Nat} {A B : World} (h : Beside own n A B) (k : Nat) : Beside own n A (B.drewN k) := ⟨h.os, h.tape, h.output, h.size, h.block⟩
theorem Beside.set {own : Nat → Prop} {n : Nat} {A B : World} (h : Beside own n A B) {b i : Nat} {v : Value} (hb : own b ∨ n ≤ b) : Beside own n A (B.setCell ⟨b, i, none⟩ v) := by
  refine ⟨h.os, h.tape, h.output, by simpa using h.size, fun k hk ho => ?_⟩
  refine Eq.trans ?_ (h.block k hk ho)
  refine Below.heap_setCell B ⟨b, i, none⟩ v k ?_
  rintro rfl
  rcases hb with hb | hb
  · exact ho hb
  · exact absurd hk (Nat.not_lt.2 hb)
theorem Beside.alloc {own : Nat → Prop} {n : Nat} {A B : World} (h : Beside own n A B) (hn : n ≤ A.heap.size) (o : Obj) : Beside own n A (B.alloc o) :=
  ⟨h.os, h.tape, h.output, by rw [World.size_alloc]; exact Nat.le_succ_of_le h.size, fun k hk ho => (Below.heap_alloc B o k (Nat.lt_of_lt_of_le hk (Nat.le_trans hn h.size))).trans (h.block k hk ho)⟩
theorem Beside.put {own : Nat → Prop} {n : Nat} {A : World} {l : Nat} {o : Obj} (hl : n ≤ l) : Beside own n A (A.putObj l o) := by
  refine ⟨rfl, rfl, rfl, by simp [World.putObj], fun k hk _ => ?_⟩
  exact World.putObj_heap_other (by omega)
theorem Beside.of_below {own : Nat → Prop} {n : Nat} {A B : World} (h : Below n A B) : Beside own n A B := ⟨h.os, h.tape, h.output, h.size, fun k hk _ => h.block k hk⟩

/-- It hangs on what lies below n beside 'own' alone. -/
def Stb {β : Type} (own : Nat → Prop) (n : Nat) (I : β → World → Prop) : Prop := ∀ s A B, I s A → Beside own n A B → I s B

def IterC {α : Type} (P : Program) (gf : Nat) (lb : Array Value) (encs : α → Array Value) (own : Nat → Prop) (n₀ N : Nat) (S Sp : List α → Prop) (w : World) : Prop :=
  ∀ (l : Nat) (J Jx : List α → World → Prop) (W : World), Below n₀ w W → Stb own W.heap.size J → Stb own W.heap.size Jx →
    (∀ pre W1, Sp pre → J pre W1 → pre.length ≤ N) →
    (∀ pre x W1, J pre W1 → Sp (pre ++ [x]) → YieldAt Fence.wide 0 P l (encs x) W1 fun e W' =>
      (e = .returned (.bool true) ∧ J (pre ++ [x]) W' ∧ Below n₀ W1 W') ∨ (e = .returned (.bool false) ∧ Jx (pre ++ [x]) W')) →
    J [] W →
    CallsIn Fence.wide 0 P gf (#[.func (.yield l) #[] #[]] ++ lb) W fun e W' => (∃ v, e = .returned v) ∧ ((∃ xs, S xs ∧ J xs W') ∨ (∃ pre, Sp pre ∧ Jx pre W'))

/-- How a round's body is left. -/
def iterPost {α : Type} (n₀ : Nat) (I : List α → World → Prop) (Ix : Code → List α → World → Prop) (xs : List α) (W : World) : Exit → Act → World → Prop
  | .normal, _, W' => KeepsOthers W W' ∧ Below n₀ W W' ∧ I xs W'
  | .ret, _, W' => KeepsOthers W W' ∧ Ix .ret xs W'
  | .exit id, _, W' => KeepsOthers W W' ∧ Ix (.exit id) xs W'
  | .goto _, _, _ => False
  | .panic _, _, _ => False
  | .outgrown, _, _ => False

theorem wp_iter {P : Program} {α : Type} {g : Operand} {ps : Array Tmp} {assign body : Code} {Q : Exit → Act → World → Prop} {a : Act} {w : World} {gf : Nat} {lb : Array Value}
    (hg : a.eval g = .func (.func gf) #[] lb) (eg : ∀ args w, (callFunc gf args).run P w = .ok (.enter gf args) w)
    {encs : α → Array Value} {own : Nat → Prop} {N : Nat} {S Sp : List α → Prop} (hown : ∀ b, own b → b < w.heap.size)
    (hseq : IterC P gf lb encs own w.heap.size N S Sp w) (hps : ∀ x, (encs x).size = ps.size)
    (I : List α → World → Prop) (Ix : Code → List α → World → Prop) (hI : Stb own w.heap.size I) (hIx : ∀ c, Stb own w.heap.size (Ix c))
    (hN : ∀ pre W, Sp pre → I pre W → pre.length ≤ N) (h0 : I [] w) (a₁ : α → Act)
    (hassign : ∀ (l : Nat) (x : α) (W : World) (K : Act → World → Prop), K (a₁ x) W →
      assign.wpIn (Fence.wide.inRound l) 0 P (Exit.then K (fun _ _ _ => False)) { tmps := (ps.zip (encs x)).foldl (fun t (p, v) => t.setIfInBounds p v) a.tmps, defers := [] } W)
    (hbody : ∀ (l : Nat) (pre : List α) (x : α) (W : World), I pre W → Sp (pre ++ [x]) → w.heap.size < W.heap.size → body.wpIn (Fence.wide.inRound l) 0 P (iterPost w.heap.size I Ix (pre ++ [x]) W) (a₁ x) W)
    (hdone : ∀ (D : Nat) (xs : List α) (W : World), S xs → I xs W → w.heap.size ≤ D → W.heap[D]? = some (.deferred (some [])) → Q .normal { a with defers := { target := .collected D, args := #[] } :: a.defers } W)
    (hstop : ∀ (D : Nat) (c : Code) (pre : List α) (W : World), Sp pre → Ix c pre W → w.heap.size ≤ D → W.heap[D]? = some (.deferred (some [])) → c.wpIn Fence.wide 0 P Q { a with defers := { target := .collected D, args := #[] } :: a.defers } W) :
    (Code.rangeFunc g ps assign body).wpIn Fence.wide 0 P Q a w := by
  refine wpIn_rangeFunc fun fn hfn => ?_
  obtain ⟨rec, hrec⟩ : ∃ rec : LoopState → Option Code → Loop, rec = fun st pe => { state := st, pending := pe, fn, tmps := a.tmps, params := ps, assign, body, defers := w.heap.size } := ⟨_, rfl⟩
  obtain ⟨W1, hW1⟩ : ∃ W1, (w.alloc (.deferred (some []))).alloc (.loop (rec .ready none)) = W1 := ⟨_, rfl⟩
  have hS1 : W1.heap.size = w.heap.size + 2 := by rw [← hW1]; simp
  have hb1 : Below w.heap.size w W1 := by
    rw [← hW1]; exact ((Below.refl _ w).alloc (Nat.le_refl _) _).alloc (by simp) _
  have hL1 : W1.heap[w.heap.size + 1]? = some (.loop (rec .ready none)) := by
    rw [← hW1]; have := World.alloc_heap_new (w.alloc (.deferred (some []))) (.loop (rec .ready none)); rwa [World.size_alloc] at this
  have hK1 : W1.heap[w.heap.size]? = some (.deferred (some [])) := by
    rw [← hW1]; exact (Below.heap_alloc _ _ _ (by simp)).trans (World.alloc_heap_new w _)
  have hlow : ∀ {A B : World}, Beside own W1.heap.size A B → Beside own w.heap.size A B := fun h => ⟨h.os, h.tape, h.output, h.size, fun k hk ho => h.block k (by omega) ho⟩
  have hl_ : ∀ {A B : World}, Beside own W1.heap.size A B → B.heap[w.heap.size + 1]? = A.heap[w.heap.size + 1]? := fun h => h.block _ (by omega) (fun ho => absurd (hown _ ho) (by omega))
  have hd_ : ∀ {A B : World}, Beside own W1.heap.size A B → B.heap[w.heap.size]? = A.heap[w.heap.size]? := fun h => h.block _ (by omega) (fun ho => absurd (hown _ ho) (by omega))
  refine ⟨w.heap.size + 1, [{ target := .collected w.heap.size, args := #[] }], W1, { target := .fn (.func gf) lb, args := #[.func (.yield (w.heap.size + 1)) #[] #[]] }, W1, gf,
    #[.func (.yield (w.heap.size + 1)) #[] #[]] ++ lb, W1, ?_, ?_, fun _ _ => trivial, ?_, fun h => absurd h (by simp [Fence.wide]), ?_⟩
  · rw [← hW1, hrec]; exact run_enterLoop_outer _ _ _ _ _
  · simp only [resolve, hg]
    simp [go_sem]
  · simp [invoke, go_sem, eg]
  · refine CallsIn.mono (hseq (w.heap.size + 1)
      (fun pre W => I pre W ∧ W.heap[w.heap.size + 1]? = some (.loop (rec .ready none)) ∧ W.heap[w.heap.size]? = some (.deferred (some [])))
      (fun pre W => ∃ c, Ix c pre W ∧ W.heap[w.heap.size + 1]? = some (.loop (rec .done (some c))) ∧ W.heap[w.heap.size]? = some (.deferred (some [])))
      W1 hb1
      (fun s A B hs hg' => ⟨hI s A B hs.1 (hlow hg'), (hl_ hg').trans hs.2.1, (hd_ hg').trans hs.2.2⟩)
      (fun s A B hs hg' => by
        obtain ⟨c, hc, hl, hk⟩ := hs
        exact ⟨c, hIx c s A B hc (hlow hg'), (hl_ hg').trans hl, (hd_ hg').trans hk⟩)
      (fun pre W hp hs => hN pre W hp hs.1) ?_ ⟨hI _ _ _ h0 (Beside.of_below hb1), hL1, hK1⟩) ?_
    · rintro pre x W ⟨hi, hl, hk⟩ hsp
      have hlt : w.heap.size + 1 < W.heap.size := (Array.getElem?_eq_some_iff.1 hl).1
      have hy := run_yield (P := P) (args := encs x) hl (by rw [hrec]; exact hps x)
      rw [hrec] at hy
      refine ⟨fn, _, assign, body, hy, roundIn_of_wpIn hfn (hassign _ x W _ ⟨_, run_beginRound hl (by rw [hrec]), ?_⟩)⟩
      have hl2 : (W.putObj (w.heap.size + 1) (.loop { rec .ready none with state := .busy })).heap[w.heap.size + 1]? = some (.loop { rec .ready none with state := .busy }) := World.putObj_heap_same hlt
      have hk2 : (W.putObj (w.heap.size + 1) (.loop { rec .ready none with state := .busy })).heap[w.heap.size]? = some (.deferred (some [])) := (World.putObj_heap_other (by omega)).trans hk
      have hput : ∀ (V : World) (o : Obj), Below w.heap.size V (V.putObj (w.heap.size + 1) o) := fun V o => ⟨rfl, rfl, rfl, by simp [World.putObj], fun k hk => World.putObj_heap_other (by omega)⟩
      have hsz2 : w.heap.size < (W.putObj (w.heap.size + 1) (.loop { rec .ready none with state := .busy })).heap.size := by simp [World.putObj]; omega
      refine wpIn_mono (hbody _ pre x _ (hI _ _ _ hi (Beside.put (by omega))) hsp hsz2) ?_
      have fin : ∀ (jump : Option Code) (W3 : World), KeepsOthers (W.putObj (w.heap.size + 1) (.loop { rec .ready none with state := .busy })) W3 →
          (Instr.endRound (w.heap.size + 1) jump).run P W3 = .ok (.bool jump.isNone) (W3.putObj (w.heap.size + 1) (.loop (rec (if jump.isNone then .ready else .done) jump))) ∧
          (W3.putObj (w.heap.size + 1) (.loop (rec (if jump.isNone then .ready else .done) jump))).heap[w.heap.size + 1]? = some (.loop (rec (if jump.isNone then .ready else .done) jump)) ∧
          (W3.putObj (w.heap.size + 1) (.loop (rec (if jump.isNone then .ready else .done) jump))).heap[w.heap.size]? = some (.deferred (some [])) := fun jump W3 hk3 => by
        have hl3 := hk3.same _ _ hl2 rfl
        have := run_endRound (P := P) jump hl3
        rw [hrec] at this ⊢
        exact ⟨this, World.putObj_heap_same (Array.getElem?_eq_some_iff.1 hl3).1, (World.putObj_heap_other (by omega)).trans (hk3.same _ _ hk2 rfl)⟩
      rintro e a3 W3 hp
      cases e with
      | normal =>
        obtain ⟨hk3, hkp3, hi3⟩ := hp
        obtain ⟨hr, hl4, hk4⟩ := fin none W3 hk3
        exact ⟨_, _, hr, .inl ⟨rfl, ⟨hI _ _ _ hi3 (Beside.put (by omega)), hl4, hk4⟩, ((hput _ _).trans hkp3).trans (hput _ _)⟩⟩
      | ret =>
        obtain ⟨hk3, hi3⟩ := hp
        obtain ⟨hr, hl4, hk4⟩ := fin (some .ret) W3 hk3
        exact ⟨_, _, hr, .inr ⟨rfl, .ret, hIx _ _ _ _ hi3 (Beside.put (by omega)), hl4, hk4⟩⟩
      | exit id =>
        obtain ⟨hk3, hi3⟩ := hp
        obtain ⟨hr, hl4, hk4⟩ := fin (some (.exit id)) W3 hk3
        exact ⟨_, _, hr, .inr ⟨rfl, .exit id, hIx _ _ _ _ hi3 (Beside.put (by omega)), hl4, hk4⟩⟩
      | goto t => exact hp.elim
      | panic ch => exact hp.elim
      | outgrown => exact hp.elim
    · rintro e W2 ⟨⟨v, rfl⟩, (⟨xs, hS, hi, hl, hk⟩ | ⟨pre, hSp, c, hi, hl, hk⟩)⟩
      · refine ⟨none, _, by have := run_endLoop (P := P) hl (by rw [hrec]; simp); rw [hrec] at this; exact this, ?_⟩
        exact hdone _ xs _ hS (hI _ _ _ hi (Beside.put (by omega))) (Nat.le_refl _) ((World.putObj_heap_other (by omega)).trans hk)
      · refine ⟨some c, _, by have := run_endLoop (P := P) hl (by rw [hrec]; simp); rw [hrec] at this; exact this, ?_⟩
        exact hstop _ c pre _ hSp (hIx _ _ _ _ hi (Beside.put (by omega))) (Nat.le_refl _) ((World.putObj_heap_other (by omega)).trans hk)
end Go.Proofs.Ytnceobnglofnmaa.Base
end
section
/- slices.Delete of one element of a row of whole numbers that the call made. -/
namespace Go.Proofs.Ytnceobnglofnmaa.Base
open Go Go.RowKit Go.Proofs.YtnceobnglofnmaaW.PrintWords

theorem R_spare {α : Type} {d : Kd α} {e : Nat} {W : World} {base g n c i : Nat} {ok : Nat → Prop} {xs : List α} (h : d.R e W base ok (.slice (some ⟨g, 0, none⟩) n c) xs) (hi : n * d.sz ≤ i) (u : Value) :
    d.R e (W.setCell ⟨g, i, none⟩ u) base ok (.slice (some ⟨g, 0, none⟩) n c) xs := by
  obtain ⟨h0, inner, ⟨h1, h2⟩, hr⟩ := h
  have hown : (Value.slice (some ⟨g, 0, none⟩) n c).ownBlock = some g := rfl
  refine ⟨h0, inner, ⟨h1, ?_⟩, hr.imp_ (fun p q hp => d.M_move (fun k hk => Below.heap_setCell W _ u k (fun he => hk.2 (by rw [hown, he]))) hp)⟩
  rcases h2 with ⟨h2, _⟩ | ⟨g', cap, cur, hv, hb, hh, h3, h4, h5, h6⟩
  · cases h2
  · injection hv with hv hn hc
    injection hv with hv
    injection hv with hv
    subst hv hn hc
    refine .inr ⟨g, c, cur.setIfInBounds i u, rfl, hb, ?_, h3, h4, by simp [h5], ?_⟩
    · simp [World.setCell, Array.getElem?_modify, hh]
    · rw [← h6, Array.toList_setIfInBounds, List.take_set_of_le (by omega)]

theorem R_room {α : Type} {d : Kd α} {e : Nat} {W : World} {base g n c i : Nat} {ok : Nat → Prop} {xs : List α} (h : d.R e W base ok (.slice (some ⟨g, 0, none⟩) n c) xs) (hi : i < c * d.sz) :
    (W.cell? ⟨g, i, none⟩).isSome = true ∧ W.frozen? ⟨g, i, none⟩ = false := by
  obtain ⟨h0, inner, ⟨h1, h2⟩, hr⟩ := h
  rcases h2 with ⟨h2, _⟩ | ⟨g', cap, cur, hv, hb, hh, h3, h4, h5, h6⟩
  · cases h2
  · injection hv with hv hn hc
    injection hv with hv
    injection hv with hv
    subst hv hn hc
    rw [cell_of_row W g i cur e (0, 0) hh]
    exact ⟨by simp; omega, by simp [World.frozen?, hh]⟩
set_option maxHeartbeats 1600000 in
set_option maxRecDepth 1000000 in
theorem delete_calls (g c base : Nat) (l : List Int) (i : Nat) (ok : Nat → Prop) (w : World) (hi : i < l.length) (hl : l.length ≤ c) (hm : c ≤ 9223372036854775807) (hbase : base ≤ w.heap.size)
    (HO : (Kd.int .i64).R 3 w base ok (.slice (some ⟨g, 0, none⟩) l.length c) l) :
    Calls Try.prog 74 #[.slice (some ⟨g, 0, none⟩) l.length c, .int .i64 i, .int .i64 ((i : Int) + 1)] w fun e w' => e = .returned (.slice (some ⟨g, 0, none⟩) (l.length - 1) c) ∧
      (Kd.int .i64).R 3 w' base ok (.slice (some ⟨g, 0, none⟩) (l.length - 1) c) (l.eraseIdx i) ∧ w.grownBy w' (some g) := by
  obtain ⟨n, hn⟩ : ∃ n, l.length = n := ⟨_, rfl⟩
  rw [hn] at hi hl HO ⊢
  have HN := Lib.hid hn
  obtain ⟨A, hA⟩ : ∃ A : Option Addr, (if c = i + 1 then some (⟨g, 0, none⟩ : Addr) else some ⟨g, i + 1, none⟩) = A := ⟨_, rfl⟩
  have HAA := Lib.hid (show A = if c = i + 1 then some (⟨g, 0, none⟩ : Addr) else (some (⟨g, 0, none⟩ : Addr)).map (·.add ((i + 1) * (Kd.int .i64).sz)) by rw [← hA]; split <;> simp [Addr.add, Kd.int, Kd.scalar])
  have HOO := Lib.hid HO
  have p0 : (0 : Int) ≤ (i : Int) := by omega
  have p1 : (i : Int) ≤ (n : Int) := by omega
  have p2 : (i : Int) + 1 ≤ (n : Int) := by omega
  have p3 : (0 : Int) ≤ (i : Int) + 1 := by omega
  have p4 : ((i : Int) + 1).toNat = i + 1 := by omega
  have p5 : (i : Int) ≤ (i : Int) + 1 := by omega
  have p6 : ((i : Int) == (i : Int) + 1) = false := by simp; omega
  have p7 : i ≤ c := by omega
  clear hn HO
  go_enter Try.func74, Try.ntmps74
  go_wp2_with fail
  go_region_law ((refine Kd.R_delete_step (w0 := w.drew) (Kd.int .i64) base rfl (.tmp 22) (.tmp 25) 53 3 rfl Try.underlying53 rfl (g := g) (n := n) (c := c) (k := i) (m := n - (i + 1)) (c2 := c - (i + 1)) (A := A) (xs := l) (by simp [Act.eval, Act.put]) (by simp [Act.eval, Act.put]) HAA.out rfl (Kd.R_drew HOO.out) hi (Below.refl _ _) hbase ?_); intro w1 ho hb hgr; have HO1 := Lib.hid ho; have HG1 := Lib.hid hgr; clear ho hb hgr)
  have hrc := R_room (i := n - 1) HO1.out (by simp only [Kd.int, Kd.scalar]; omega)
  have hcl : ∀ ty c', (Builtin.clear_ #[53] ty #[.slice (some ⟨g, n - 1, none⟩) (n - (n - 1)) c']).run Try.prog w1 = .ok (.tuple #[]) (w1.setCell ⟨g, n - 1, none⟩ (.int .i64 0)) := fun ty c' => by
    have e1 : n - (n - 1) = 1 := by omega
    rw [e1]
    exact Lib.run_clear_slice w1 53 3 ty (.int .i64 0) Try.underlying53 Try.zeroValue3 rfl rfl g (n - 1) 1 c' (by omega) (fun j hj => by cases Nat.lt_one_iff.1 hj; exact hrc.1) (fun j hj => by cases Nat.lt_one_iff.1 hj; exact hrc.2)
  have q1 : ((n - 1 : Nat) : Int) ≤ (n : Int) := by omega
  have q2 : (0 : Int) ≤ ((n - 1 : Nat) : Int) := by omega
  have q3 : (c = n - 1) = False := by simp; omega
  have q4 : n - 1 ≤ n := by omega
  clear hrc
  go_wp2
  go_ret
  refine ⟨rfl, R_spare HO1.out (by simp [Kd.int, Kd.scalar]) _, ?_⟩
  exact World.grownBy.trans (World.grownBy.trans (b := w.drew) ⟨rfl, rfl, rfl, Nat.le_refl _, fun _ _ _ => rfl⟩ HG1.out) ⟨rfl, rfl, rfl, by simp, fun k _ hne => Below.heap_setCell _ _ _ k (by rintro rfl; exact hne rfl)⟩
theorem slices_Delete.calls {w0 w : World} {base g n c : Nat} {l : List Int} {ok : Nat → Prop} (H L : Int) (h0 : 0 ≤ H) (h1 : H < n) (hL : L = H + 1) (hbase : base ≤ w.heap.size) (hb : Below base w0 w)
    (HO : (Kd.int .i64).R 3 w base ok (.slice (some ⟨g, 0, none⟩) n c) l) :
    Calls Try.prog 74 #[.slice (some ⟨g, 0, none⟩) n c, .int .i64 H, .int .i64 L] w fun e w' => e = .returned (.slice (some ⟨g, 0, none⟩) (n - 1) c) ∧
      (Kd.int .i64).R 3 w' base ok (.slice (some ⟨g, 0, none⟩) (n - 1) c) (l.eraseIdx H.toNat) ∧ Below base w0 w' ∧ w.grownBy w' (some g) := by
  obtain ⟨i, rfl⟩ := Int.eq_ofNat_of_zero_le h0
  subst hL
  obtain ⟨hn, hc, hm⟩ : l.length = n ∧ n ≤ c ∧ c ≤ maxLen := by
    obtain ⟨_, inner, ⟨k1, k2⟩, k3⟩ := HO
    rcases k2 with ⟨k2, _⟩ | ⟨g', cap, cur, hv, _, _, k4, k5, _, _⟩
    · cases k2
    · injection hv with _ hn hc
      subst hn hc
      exact ⟨rfl, k4, k5⟩
  subst hn
  refine (delete_calls g c base l i ok w (by omega) hc hm hbase HO).mono ?_
  rintro e w' ⟨he, ho, hg⟩
  exact ⟨he, ho, hb.grown hg hbase (fun k hk => by injection hk with hk; subst hk; exact Kd.R_base HO _ rfl), hg⟩
end Go.Proofs.Ytnceobnglofnmaa.Base
end
section
/- A map whose keys are bytes: a new entry, a look-up, where the entries are known. -/
namespace Go.Proofs.Ytnceobnglofnmaa.Base
open Go Go.RowKit
section
variable {P : Program} {t kt et : TypeId} {W : World} {r c : Nat} {es : Array MapEntry} {k : Int} {v : Value}
theorem run_getMap (h : W.heap[r]? = some (.map es c)) : (getObj r).run P W = .ok (.map es c) W := by simp [getObj, Sem.run, h]
theorem run_setMap (o : Obj) (h : W.heap[r]? = some (.map es c)) : (setObj r o).run P W = .ok () (W.putObj r o) := by simp [setObj, Sem.run, h, World.putObj]
theorem run_checkKey8 (b : Bool) (hk : P.underlying kt = some (.int .u8)) : (Instr.checkKey b 10000 kt (.int .u8 k)).run P W = .ok () W := by
  rw [show (10000 : Nat) = 9999 + 1 from rfl, Instr.checkKey]
  simp only [Sem.run_bind, run_underlying hk, Result.andThen_ok]
  rfl
theorem run_findKey8 {l : List MapEntry} {x : Option (Nat × Value)} (hk : P.underlying kt = some (.int .u8)) (hn : Instr.findNow (.int .u8) (.int .u8 k) l 0 = some x) : (Instr.findKey kt (.int .u8 k) l).run P W = .ok x W := by
  unfold Instr.findKey
  simp only [Sem.run_bind, run_underlying hk, Result.andThen_ok, hn]
  rfl
theorem run_mapPut8 (ht : P.underlying t = some (.map kt et)) (hk : P.underlying kt = some (.int .u8)) (h : W.heap[r]? = some (.map es c)) (hn : Instr.findNow (.int .u8) (.int .u8 k) es.toList 0 = some none) :
    (Instr.mapUpdate t (.map (some r)) (.int .u8 k) v).run P W = .ok () (W.putObj r (.map (es.push { key := .int .u8 k, val := v, born := c }) (c + 1))) := by
  unfold Instr.mapUpdate
  simp only [Sem.run_bind, run_underlying ht, Result.andThen_ok, run_getMap h, run_checkKey8 false hk, run_findKey8 hk hn, run_setMap _ h]
theorem run_mapGet8 {i : Nat} (ht : P.underlying t = some (.map kt et)) (hk : P.underlying kt = some (.int .u8)) (h : W.heap[r]? = some (.map es c)) (hn : Instr.findNow (.int .u8) (.int .u8 k) es.toList 0 = some (some (i, v))) :
    (Instr.lookup t (.map (some r)) (.int .u8 k) true).run P W = .ok (.tuple #[v, .bool true]) W := by
  unfold Instr.lookup
  simp only [Sem.run_bind, run_underlying ht, Result.andThen_ok, run_getMap h, run_checkKey8 _ hk, run_findKey8 hk hn, Sem.run_pure]
  rfl
theorem run_mapMiss8 {z : Value} (ht : P.underlying t = some (.map kt et)) (hk : P.underlying kt = some (.int .u8)) (h : W.heap[r]? = some (.map es c)) (hn : Instr.findNow (.int .u8) (.int .u8 k) es.toList 0 = some none)
    (hz : (zeroValue et).run P W = .ok z W) : (Instr.lookup t (.map (some r)) (.int .u8 k) true).run P W = .ok (.tuple #[z, .bool false]) W := by
  unfold Instr.lookup
  simp only [Sem.run_bind, run_underlying ht, Result.andThen_ok, run_getMap h, run_checkKey8 _ hk, run_findKey8 hk hn, hz, Sem.run_pure]
  rfl
end
end Go.Proofs.Ytnceobnglofnmaa.Base
end
section
/- Plain words for printed functions: 'with rounds enough it tells v' (Tells), and what follows of parts. -/
namespace Go.Proofs.Ytnceobnglofnmaa.Base
open Go.RowKit Go.Proofs.YtnceobnglofnmaaW.PrintWords

/-- from some number of rounds on it tells v -/
def Tells {α : Type} (f : Nat → Option α) (v : α) : Prop := ∃ k0, ∀ k, k0 ≤ k → f k = some v
theorem Tells.const {α : Type} (v : α) : Tells (fun _ => some v) v := ⟨0, fun _ _ => rfl⟩
theorem Tells.of {α : Type} {f : Nat → Option α} {v : α} (h : ∀ k, f k = some v) : Tells f v := ⟨0, fun k _ => h k⟩
theorem Tells.exists {α : Type} {f : Nat → Option α} {v : α} (h : Tells f v) : ∃ k, f k = some v := by obtain ⟨k, h⟩ := h; exact ⟨k, h k (Nat.le_refl _)⟩
theorem Tells.bind {α β : Type} {f : Nat → Option α} {g : α → Nat → Option β} {a : α} {v : β} (h : Tells f a) (h' : Tells (g a) v) : Tells (fun k => (f k).bind fun x => g x k) v := by
  obtain ⟨k1, h1⟩ := h
  obtain ⟨k2, h2⟩ := h'
  exact ⟨k1 + k2, fun k hk => by simp only [h1 k (by omega), Option.bind_some, h2 k (by omega)]⟩
theorem Tells.succ {α : Type} {f g : Nat → Option α} {v : α} (hg : ∀ k, f (k + 1) = g k) (h : Tells g v) : Tells f v := by
  obtain ⟨k0, h⟩ := h
  refine ⟨k0 + 1, fun k hk => ?_⟩
  obtain ⟨j, rfl⟩ : ∃ j, k = j + 1 := ⟨k - 1, by omega⟩
  rw [hg, h j (by omega)]
theorem Tells.congr {α : Type} {f g : Nat → Option α} {v : α} (hg : ∀ k, f k = g k) (h : Tells g v) : Tells f v := by
  obtain ⟨k0, h⟩ := h
  exact ⟨k0, fun k hk => by rw [hg, h k hk]⟩
theorem Tells.mono {α : Type} {f : Nat → Option α} {v : α} (hm : ∀ k, LeO (f k) (f (k + 1))) {k0 : Nat} (h : f k0 = some v) : Tells f v := by
  refine ⟨k0, fun k hk => ?_⟩
  obtain ⟨d, rfl⟩ : ∃ d, k = k0 + d := ⟨k - k0, by omega⟩
  clear hk
  induction d with
  | zero => exact h
  | succ d ih => exact hm _ _ ih
theorem Tells.pos {α : Type} {p : Prop} [Decidable p] {f g : Nat → Option α} {v : α} (hp : p) (h : Tells f v) : Tells (fun k => if p then f k else g k) v := Tells.congr (fun _ => if_pos hp) h
theorem Tells.neg {α : Type} {p : Prop} [Decidable p] {f g : Nat → Option α} {v : α} (hp : ¬ p) (h : Tells g v) : Tells (fun k => if p then f k else g k) v := Tells.congr (fun _ => if_neg hp) h
theorem wrap_i {a : Int} (h0 : -9223372036854775808 ≤ a) (h1 : a ≤ 9223372036854775807) : wrap64 a = a := by unfold wrap64; omega
end Go.Proofs.Ytnceobnglofnmaa.Base
end
