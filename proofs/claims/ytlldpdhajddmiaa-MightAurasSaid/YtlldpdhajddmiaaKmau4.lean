/- Joined by a program of this session (pack.py) out of: Iter IterD MapL Spot Ev RoundReg Rowc -/
import Derived.Carry
import Derived.DeepKeys4
import Derived.KernelRfl
import Derived.Laws.Bits64
import Derived.Laws.IdiomRangeMap
import Derived.OrdersIn
import Derived.RangeFuncCalls
import Derived.RangeFuncFrom
import Derived.RangeFuncRecord
import Derived.Shelf.Abstract
import Derived.TacticsInMore
import Derived.Test.YtlldpdhajddmiaaProg
import Derived.WideKeyEntry
import Derived.Test.YtlldpdhajddmiaaKmau1
import Derived.Test.YtlldpdhajddmiaaKmau3
section
/- A loop over a function ('for x := range seq'): the iterator's contract and the law, for iterators with variables of their own, and for such as never end by themselves. -/
namespace Go.Proofs.Ytlldpdhajddmiaa.Base
open Go Go.RowKit Go.Shelf

/-- What lies below n, but for the blocks of 'own', is as it was. -/
structure Beside (own : Nat → Prop) (n : Nat) (A B : World) : Prop where
  os : B.os = A.os
  tape : B.tape = A.tape
  output : B.output = A.output
  size : A.heap.size ≤ B.heap.size
  block : ∀ k, k < n → ¬ own k → B.heap[k]? = A.heap[k]?
theorem Beside.refl {own : Nat → Prop} {n : Nat} (A : World) : Beside own n A A := ⟨rfl, rfl, rfl, Nat.le_refl _, fun _ _ _ => rfl⟩
theorem Beside.trans {own : Nat → Prop} {n : Nat} {A B C : World} (h : Beside own n A B) (k : Beside own n B C) : Beside own n A C :=
  ⟨k.os.trans h.os, k.tape.trans h.tape, k.output.trans h.output, Nat.le_trans h.size k.size, fun i hi ho => (k.block i hi ho).trans (h.block i hi ho)⟩
theorem Beside.drew {own : Nat → Prop} {n : Nat} {A B : World} (h : Beside own n A B) : Beside own n A B.drew := ⟨h.os, h.tape, h.output, h.size, h.block⟩
theorem Beside.drewN {own : Nat → Prop} {n : Nat} {A B : World} (h : Beside own n A B) (k : Nat) : Beside own n A (B.drewN k) := ⟨h.os, h.tape, h.output, h.size, h.block⟩
theorem Beside.set {own : Nat → Prop} {n : Nat} {A B : World} (h : Beside own n A B) {b i : Nat} {v : Value} (hb : own b ∨ n ≤ b) : Beside own n A (B.setCell ⟨b, i, none⟩ v) := by
  refine ⟨h.os, h.tape, h.output, by simpa using h.size, fun k hk ho => ?_⟩
  refine Eq.trans ?_ (h.block k hk ho)
  refine Below.heap_setCell B ⟨b, i, none⟩ v k ?_
  rintro rfl
  rcases hb with hb | hb
  · exact ho hb
  · exact absurd hk (Nat.not_lt.2 hb)
theorem Beside.alloc {own : Nat → Prop} {n : Nat} {A B : World} (h : Beside own n A B) (hn : n ≤ A.heap.size) (o : Obj) : Beside own n A (B.alloc o) :=
  ⟨h.os, h.tape, h.output, by rw [World.size_alloc]; exact Nat.le_succ_of_le h.size, fun k hk ho => (Below.heap_alloc B o k (Nat.lt_of_lt_of_le hk (Nat.le_trans hn h.size))).trans (h.block k hk ho)⟩
theorem Beside.put {own : Nat → Prop} {n : Nat} {A : World} {l : Nat} {o : Obj} (hl : n ≤ l) : Beside own n A (A.putObj l o) := by
  refine ⟨rfl, rfl, rfl, by simp [World.putObj], fun k hk _ => ?_⟩
  exact World.putObj_heap_other (by omega)
theorem Beside.of_below {own : Nat → Prop} {n : Nat} {A B : World} (h : Below n A B) : Beside own n A B := ⟨h.os, h.tape, h.output, h.size, fun k hk _ => h.block k hk⟩

/-- It hangs on what lies below n beside 'own' alone. -/
def Stb {β : Type} (own : Nat → Prop) (n : Nat) (I : β → World → Prop) : Prop := ∀ s A B, I s A → Beside own n A B → I s B

end Go.Proofs.Ytlldpdhajddmiaa.Base
end
section
/- A loop over a function whose iterator keeps blocks of its own between two rounds: what a round must keep is told block by block. -/
namespace Go.Proofs.Ytlldpdhajddmiaa.Base
open Go Go.RowKit Go.Shelf
theorem cell_keep {W w1 : World} {a : Addr} {v : Value} (hb : Below W.heap.size W w1) (h : W.cell? a = some v) : w1.cell? a = some v := (hb.cell (p := a) (World.block_lt_of_cell? W _ h)).trans h
theorem Beside.below {cal : Nat → Prop} {n m : Nat} {A B : World} (h : Beside cal n A B) (hc : ∀ b, cal b → m ≤ b) (hm : m ≤ n) : Below m A B :=
  ⟨h.os, h.tape, h.output, h.size, fun k hk => h.block k (by omega) (fun ho => absurd (hc k ho) (by omega))⟩
theorem Beside.blk {cal : Nat → Prop} {A B : World} {g : Nat} {t : TypeId} {cs : Array Value} (h : Beside cal A.heap.size A B) (hb : Blk A g t cs) (hg : ¬ cal g) : Blk B g t cs :=
  (h.block g (Array.getElem?_eq_some_iff.1 hb).1 hg).trans hb
theorem Beside.step {cal : Nat → Prop} {n m : Nat} {A B C : World} (h : Beside cal n A B) (k : Beside cal m B C) (hn : n ≤ m) : Beside cal n A C :=
  h.trans ⟨k.os, k.tape, k.output, k.size, fun i hi ho => k.block i (by omega) ho⟩
theorem Beside.call {cal : Nat → Prop} {n : Nat} {A B C : World} (h : Beside cal n A B) (k : Below B.heap.size B C) (hn : n ≤ B.heap.size) : Beside cal n A C :=
  h.trans ⟨k.os, k.tape, k.output, k.size, fun i hi _ => k.block i (by omega)⟩

def IterD {α : Type} (P : Program) (gf : Nat) (lb : Array Value) (encs : α → Array Value) (own cal : Nat → Prop) (S Sp : List α → Prop) (w : World) : Prop :=
  ∀ (l : Nat) (J Jx : List α → World → Prop) (W : World), Below w.heap.size w W → Stb own W.heap.size J → Stb own W.heap.size Jx →
    (∀ pre x W1, J pre W1 → Sp (pre ++ [x]) → YieldAt Fence.wide 0 P l (encs x) W1 fun e W' =>
      (e = .returned (.bool true) ∧ J (pre ++ [x]) W' ∧ Beside cal W1.heap.size W1 W') ∨ (e = .returned (.bool false) ∧ Jx (pre ++ [x]) W')) →
    J [] W →
    CallsIn Fence.wide 0 P gf (#[.func (.yield l) #[] #[]] ++ lb) W fun e W' => (∃ v, e = .returned v) ∧ ((∃ xs, S xs ∧ J xs W') ∨ (∃ pre, Sp pre ∧ Jx pre W'))

/-- How a round's body is left. -/
def iterPostD {α : Type} (cal : Nat → Prop) (I : List α → World → Prop) (Ix : Code → List α → World → Prop) (xs : List α) (W : World) : Exit → Act → World → Prop
  | .normal, _, W' => Beside cal W.heap.size W W' ∧ I xs W'
  | .ret, _, W' => Beside cal W.heap.size W W' ∧ Ix .ret xs W'
  | .exit id, _, W' => Beside cal W.heap.size W W' ∧ Ix (.exit id) xs W'
  | .goto _, _, _ => False
  | .panic _, _, _ => False
  | .outgrown, _, _ => False

theorem wp_iterE {P : Program} {α : Type} {g : Operand} {ps : Array Tmp} {assign body : Code} {Q : Exit → Act → World → Prop} {a : Act} {w : World} {gf : Nat} {lb : Array Value}
    (hg : a.eval g = .func (.func gf) #[] lb) (eg : ∀ args w, (callFunc gf args).run P w = .ok (.enter gf args) w)
    {encs : α → Array Value} {own cal : Nat → Prop} {S Sp : List α → Prop} (hown : ∀ b, own b → b < w.heap.size) (hcal : ∀ b, cal b → b < w.heap.size)
    (hseq : IterD P gf lb encs own cal S Sp w) (hps : ∀ x, (encs x).size = ps.size)
    (I : List α → World → Prop) (Ix : Code → List α → World → Prop) (hI : Stb own w.heap.size I) (hIx : ∀ c, Stb own w.heap.size (Ix c))
    (h0 : I [] w) (Ax : α → Act → World → Prop) (hAx : ∀ x a' W o, Ax x a' W → Ax x a' (W.putObj (w.heap.size + 1) o))
    (hassign : ∀ (l : Nat) (pre : List α) (x : α) (W : World) (K : Act → World → Prop), I pre W → w.heap.size + 1 < W.heap.size → (∀ a' W', Ax x a' W' → I pre W' → Beside cal W.heap.size W W' → K a' W') →
      assign.wpIn (Fence.wide.inRound l) 0 P (Exit.then K (fun _ _ _ => False)) { tmps := (ps.zip (encs x)).foldl (fun t (p, v) => t.setIfInBounds p v) a.tmps, defers := [] } W)
    (hbody : ∀ (l : Nat) (pre : List α) (x : α) (a' : Act) (W : World), I pre W → Ax x a' W → Sp (pre ++ [x]) → w.heap.size < W.heap.size → body.wpIn (Fence.wide.inRound l) 0 P (iterPostD cal I Ix (pre ++ [x]) W) a' W)
    (hdone : ∀ (D : Nat) (xs : List α) (W : World), S xs → I xs W → w.heap.size ≤ D → W.heap[D]? = some (.deferred (some [])) → Q .normal { a with defers := { target := .collected D, args := #[] } :: a.defers } W)
    (hstop : ∀ (D : Nat) (c : Code) (pre : List α) (W : World), Sp pre → Ix c pre W → w.heap.size ≤ D → W.heap[D]? = some (.deferred (some [])) → c.wpIn Fence.wide 0 P Q { a with defers := { target := .collected D, args := #[] } :: a.defers } W) :
    (Code.rangeFunc g ps assign body).wpIn Fence.wide 0 P Q a w := by
  refine wpIn_rangeFunc fun fn hfn => ?_
  obtain ⟨rec, hrec⟩ : ∃ rec : LoopState → Option Code → Loop, rec = fun st pe => { state := st, pending := pe, fn, tmps := a.tmps, params := ps, assign, body, defers := w.heap.size } := ⟨_, rfl⟩
  obtain ⟨W1, hW1⟩ : ∃ W1, (w.alloc (.deferred (some []))).alloc (.loop (rec .ready none)) = W1 := ⟨_, rfl⟩
  have hS1 : W1.heap.size = w.heap.size + 2 := by rw [← hW1]; simp
  have hb1 : Below w.heap.size w W1 := by
    rw [← hW1]; exact ((Below.refl _ w).alloc (Nat.le_refl _) _).alloc (by simp) _
  have hL1 : W1.heap[w.heap.size + 1]? = some (.loop (rec .ready none)) := by
    rw [← hW1]; have := World.alloc_heap_new (w.alloc (.deferred (some []))) (.loop (rec .ready none)); rwa [World.size_alloc] at this
  have hK1 : W1.heap[w.heap.size]? = some (.deferred (some [])) := by
    rw [← hW1]; exact (Below.heap_alloc _ _ _ (by simp)).trans (World.alloc_heap_new w _)
  have hlow : ∀ {A B : World}, Beside own W1.heap.size A B → Beside own w.heap.size A B := fun h => ⟨h.os, h.tape, h.output, h.size, fun k hk ho => h.block k (by omega) ho⟩
  have hl_ : ∀ {A B : World}, Beside own W1.heap.size A B → B.heap[w.heap.size + 1]? = A.heap[w.heap.size + 1]? := fun h => h.block _ (by omega) (fun ho => absurd (hown _ ho) (by omega))
  have hd_ : ∀ {A B : World}, Beside own W1.heap.size A B → B.heap[w.heap.size]? = A.heap[w.heap.size]? := fun h => h.block _ (by omega) (fun ho => absurd (hown _ ho) (by omega))
  refine ⟨w.heap.size + 1, [{ target := .collected w.heap.size, args := #[] }], W1, { target := .fn (.func gf) lb, args := #[.func (.yield (w.heap.size + 1)) #[] #[]] }, W1, gf,
    #[.func (.yield (w.heap.size + 1)) #[] #[]] ++ lb, W1, ?_, ?_, fun _ _ => trivial, ?_, fun h => absurd h (by simp [Fence.wide]), ?_⟩
  · rw [← hW1, hrec]; exact run_enterLoop_outer _ _ _ _ _
  · simp only [resolve, hg]
    simp [go_sem]
  · simp [invoke, go_sem, eg]
  · refine CallsIn.mono (hseq (w.heap.size + 1)
      (fun pre W => I pre W ∧ W.heap[w.heap.size + 1]? = some (.loop (rec .ready none)) ∧ W.heap[w.heap.size]? = some (.deferred (some [])))
      (fun pre W => ∃ c, Ix c pre W ∧ W.heap[w.heap.size + 1]? = some (.loop (rec .done (some c))) ∧ W.heap[w.heap.size]? = some (.deferred (some [])))
      W1 hb1
      (fun s A B hs hg' => ⟨hI s A B hs.1 (hlow hg'), (hl_ hg').trans hs.2.1, (hd_ hg').trans hs.2.2⟩)
      (fun s A B hs hg' => by
        obtain ⟨c, hc, hl, hk⟩ := hs
        exact ⟨c, hIx c s A B hc (hlow hg'), (hl_ hg').trans hl, (hd_ hg').trans hk⟩)
      ?_ ⟨hI _ _ _ h0 (Beside.of_below hb1), hL1, hK1⟩) ?_
    · rintro pre x Wy ⟨hiy, hly, hky⟩ hsp
      have hlty : w.heap.size + 1 < Wy.heap.size := (Array.getElem?_eq_some_iff.1 hly).1
      have hy := run_yield (P := P) (args := encs x) hly (by rw [hrec]; exact hps x)
      rw [hrec] at hy
      refine ⟨fn, _, assign, body, hy, roundIn_of_wpIn hfn (hassign _ pre x Wy _ hiy hlty (fun a' W hax hi hbs => ?_))⟩
      have hl : W.heap[w.heap.size + 1]? = some (.loop (rec .ready none)) := (hbs.block _ hlty (fun ho => absurd (hcal _ ho) (by omega))).trans hly
      have hk : W.heap[w.heap.size]? = some (.deferred (some [])) := (hbs.block _ (by omega) (fun ho => absurd (hcal _ ho) (by omega))).trans hky
      have hlt : w.heap.size + 1 < W.heap.size := (Array.getElem?_eq_some_iff.1 hl).1
      refine ⟨_, run_beginRound hl (by rw [hrec]), ?_⟩
      have hl2 : (W.putObj (w.heap.size + 1) (.loop { rec .ready none with state := .busy })).heap[w.heap.size + 1]? = some (.loop { rec .ready none with state := .busy }) := World.putObj_heap_same hlt
      have hk2 : (W.putObj (w.heap.size + 1) (.loop { rec .ready none with state := .busy })).heap[w.heap.size]? = some (.deferred (some [])) := (World.putObj_heap_other (by omega)).trans hk
      have hsz2 : w.heap.size < (W.putObj (w.heap.size + 1) (.loop { rec .ready none with state := .busy })).heap.size := by simp [World.putObj]; omega
      refine wpIn_mono (hbody _ pre x _ _ (hI _ _ _ hi (Beside.put (by omega))) (hAx _ _ _ _ hax) hsp hsz2) ?_
      have fin : ∀ (jump : Option Code) (W3 : World), Beside cal (W.putObj (w.heap.size + 1) (.loop { rec .ready none with state := .busy })).heap.size (W.putObj (w.heap.size + 1) (.loop { rec .ready none with state := .busy })) W3 →
          (Instr.endRound (w.heap.size + 1) jump).run P W3 = .ok (.bool jump.isNone) (W3.putObj (w.heap.size + 1) (.loop (rec (if jump.isNone then .ready else .done) jump))) ∧
          (W3.putObj (w.heap.size + 1) (.loop (rec (if jump.isNone then .ready else .done) jump))).heap[w.heap.size + 1]? = some (.loop (rec (if jump.isNone then .ready else .done) jump)) ∧
          (W3.putObj (w.heap.size + 1) (.loop (rec (if jump.isNone then .ready else .done) jump))).heap[w.heap.size]? = some (.deferred (some [])) := fun jump W3 hk3 => by
        have hl3 := (hk3.block (w.heap.size + 1) (Array.getElem?_eq_some_iff.1 hl2).1 (fun ho => absurd (hcal _ ho) (by omega))).trans hl2
        have := run_endRound (P := P) jump hl3
        rw [hrec] at this ⊢
        exact ⟨this, World.putObj_heap_same (Array.getElem?_eq_some_iff.1 hl3).1, (World.putObj_heap_other (by omega)).trans ((hk3.block w.heap.size (by omega) (fun ho => absurd (hcal _ ho) (by omega))).trans hk2)⟩
      have keep : ∀ (W3 : World), Beside cal (W.putObj (w.heap.size + 1) (.loop { rec .ready none with state := .busy })).heap.size (W.putObj (w.heap.size + 1) (.loop { rec .ready none with state := .busy })) W3 →
          Beside cal W.heap.size W (W3.putObj (w.heap.size + 1) (.loop (rec .ready none))) := fun W3 hk3 => by
        have hs2 : (W.putObj (w.heap.size + 1) (.loop { rec .ready none with state := .busy })).heap.size = W.heap.size := by simp [World.putObj]
        have hl3 := (hk3.block (w.heap.size + 1) (Array.getElem?_eq_some_iff.1 hl2).1 (fun ho => absurd (hcal _ ho) (by omega))).trans hl2
        refine ⟨hk3.os, hk3.tape, hk3.output, ?_, fun k hk ho => ?_⟩
        · have := hk3.size; simp only [World.putObj, Array.size_setIfInBounds] at this ⊢; omega
        · by_cases e : k = w.heap.size + 1
          · subst e
            exact (World.putObj_heap_same (Array.getElem?_eq_some_iff.1 hl3).1).trans hl.symm
          · exact (World.putObj_heap_other (by omega)).trans ((hk3.block k (by omega) ho).trans (World.putObj_heap_other (by omega)))
      rintro e a3 W3 hp
      cases e with
      | normal =>
        obtain ⟨hk3, hi3⟩ := hp
        obtain ⟨hr, hl4, hk4⟩ := fin none W3 hk3
        exact ⟨_, _, hr, .inl ⟨rfl, ⟨hI _ _ _ hi3 (Beside.put (by omega)), hl4, hk4⟩, hbs.step (keep W3 hk3) hbs.size⟩⟩
      | ret =>
        obtain ⟨hk3, hi3⟩ := hp
        obtain ⟨hr, hl4, hk4⟩ := fin (some .ret) W3 hk3
        exact ⟨_, _, hr, .inr ⟨rfl, .ret, hIx _ _ _ _ hi3 (Beside.put (by omega)), hl4, hk4⟩⟩
      | exit id =>
        obtain ⟨hk3, hi3⟩ := hp
        obtain ⟨hr, hl4, hk4⟩ := fin (some (.exit id)) W3 hk3
        exact ⟨_, _, hr, .inr ⟨rfl, .exit id, hIx _ _ _ _ hi3 (Beside.put (by omega)), hl4, hk4⟩⟩
      | goto t => exact hp.elim
      | panic ch => exact hp.elim
      | outgrown => exact hp.elim
    · rintro e W2 ⟨⟨v, rfl⟩, (⟨xs, hS, hi, hl, hk⟩ | ⟨pre, hSp, c, hi, hl, hk⟩)⟩
      · refine ⟨none, _, by have := run_endLoop (P := P) hl (by rw [hrec]; simp); rw [hrec] at this; exact this, ?_⟩
        exact hdone _ xs _ hS (hI _ _ _ hi (Beside.put (by omega))) (Nat.le_refl _) ((World.putObj_heap_other (by omega)).trans hk)
      · refine ⟨some c, _, by have := run_endLoop (P := P) hl (by rw [hrec]; simp); rw [hrec] at this; exact this, ?_⟩
        exact hstop _ c pre _ hSp (hIx _ _ _ _ hi (Beside.put (by omega))) (Nat.le_refl _) ((World.putObj_heap_other (by omega)).trans hk)
end Go.Proofs.Ytlldpdhajddmiaa.Base
end
section
/- Maps that a call makes, as plain lists of keys and values (in the order in which they came; none is ever taken out): what each operation makes of them. -/
namespace Go.Proofs.Ytlldpdhajddmiaa.Base
open Go
set_option linter.unusedSectionVars false
set_option linter.unusedSimpArgs false
set_option linter.unusedVariables false
section
variable {κ : Type} [DecidableEq κ]
/-- How keys of a type lie in a map. -/
structure KeyS (P : Program) (k : TypeId) (enc : κ → Value) (good : κ → Prop) : Prop where
  check : ∀ {x}, good x → ∀ (w : World) (em : Bool), (Instr.checkKey em 10000 k (enc x)).run P w = .ok () w
  find : ∀ {x}, good x → ∀ (w : World) (es : List MapEntry), (∀ e ∈ es, ∃ y, good y ∧ e.key = enc y) →
    ((Instr.findKey k (enc x) es).run P w = .ok none w ∧ ∀ e ∈ es, e.key ≠ enc x) ∨ ∃ j e, (Instr.findKey k (enc x) es).run P w = .ok (some (j, e.val)) w ∧ es[j]? = some e ∧ e.key = enc x
  stays : ∀ {x}, good x → ∀ (w : World), (Instr.keyThatStays (enc x) (enc x)).run P w = .ok (enc x) w
  inj : ∀ {x y}, good x → good y → enc x = enc y → x = y
theorem KeyS.of_law {P : Program} {k : TypeId} {enc : κ → Value} {good : κ → Prop} (K : WideMaps.KeyLaw P k) (h : ∀ x, good x → ∃ l, keyOf P k (enc x) = some l) (hi : ∀ {x y}, good x → good y → enc x = enc y → x = y) : KeyS P k enc good where
  check := fun {x} hx w em => by obtain ⟨l, hl⟩ := h x hx; exact K.check w em hl
  find := fun {x} hx w es he => by
    obtain ⟨l, hl⟩ := h x hx
    refine K.find w hl es fun e hm => ?_
    obtain ⟨y, hy, e1⟩ := he e hm
    rw [e1]
    exact h y hy
  stays := fun {x} hx w => by obtain ⟨l, hl⟩ := h x hx; exact K.stays w hl
  inj := hi

def entL (enc : κ → Value) : Nat → List (κ × Value) → List MapEntry
  | _, [] => []
  | n, (x, v) :: r => { key := enc x, val := v, born := n } :: entL enc (n + 1) r
def mobj (enc : κ → Value) (l : List (κ × Value)) : Obj := .map (entL enc 0 l).toArray l.length
def getM : List (κ × Value) → κ → Option Value
  | [], _ => none
  | (y, v) :: r, x => if y = x then some v else getM r x
def idxM : List (κ × Value) → κ → Nat
  | [], _ => 0
  | (y, _) :: r, x => if y = x then 0 else idxM r x + 1
def putM : List (κ × Value) → κ → Value → List (κ × Value)
  | [], x, v => [(x, v)]
  | (y, u) :: r, x, v => if y = x then (y, v) :: r else (y, u) :: putM r x v
def ensM (l : List (κ × Value)) (x : κ) (z : Value) : List (κ × Value) := if getM l x = none then l ++ [(x, z)] else l
def goodM (good : κ → Prop) (l : List (κ × Value)) : Prop := (∀ p ∈ l, good p.1) ∧ (l.map (·.1)).Nodup

theorem entL_at (enc : κ → Value) : ∀ (l : List (κ × Value)) (n j : Nat), (entL enc n l)[j]? = (l[j]?).map fun p => { key := enc p.1, val := p.2, born := n + j }
  | [], _, _ => by simp [entL]
  | (x, v) :: r, n, 0 => by simp [entL]
  | (x, v) :: r, n, j + 1 => by simp only [entL, List.getElem?_cons_succ, entL_at enc r (n + 1) j]; congr 1; funext p; simp; omega
theorem entL_mem (enc : κ → Value) {l : List (κ × Value)} {n : Nat} {e : MapEntry} (h : e ∈ entL enc n l) : ∃ (j : Nat) (p : κ × Value), l[j]? = some p ∧ e = { key := enc p.1, val := p.2, born := n + j } := by
  obtain ⟨j, hj⟩ := List.mem_iff_getElem?.1 h
  rw [entL_at] at hj
  obtain ⟨p, hp, he⟩ := Option.map_eq_some_iff.1 hj
  exact ⟨j, p, hp, he.symm⟩
theorem entL_append (enc : κ → Value) : ∀ (l : List (κ × Value)) (n : Nat) (x : κ) (v : Value), entL enc n (l ++ [(x, v)]) = entL enc n l ++ [{ key := enc x, val := v, born := n + l.length }]
  | [], n, x, v => by simp [entL]
  | (y, u) :: r, n, x, v => by simp [entL, entL_append enc r (n + 1)]; omega
theorem entL_nodup (enc : κ → Value) : ∀ (l : List (κ × Value)) (n : Nat), ((entL enc n l).map (·.born)).Nodup ∧ ∀ b ∈ (entL enc n l).map (·.born), n ≤ b ∧ b < n + l.length
  | [], n => by simp [entL]
  | (x, v) :: r, n => by
    obtain ⟨h1, h2⟩ := entL_nodup enc r (n + 1)
    refine ⟨?_, fun b hb => ?_⟩
    · simp only [entL, List.map_cons, List.nodup_cons]
      exact ⟨fun h => by have := (h2 _ h).1; omega, h1⟩
    · simp only [entL, List.map_cons, List.mem_cons] at hb
      rcases hb with rfl | hb
      · simp
      · have := h2 b hb
        simp only [List.length_cons]; omega
theorem entL_set (enc : κ → Value) : ∀ (l : List (κ × Value)) (n j : Nat) (p : κ × Value) (v : Value), l[j]? = some p → (entL enc n l).modify j (fun e => { e with val := v }) = entL enc n (l.set j (p.1, v))
  | [], _, _, _, _, h => by simp at h
  | (x, u) :: r, n, 0, p, v, h => by simp at h; subst h; simp [entL]
  | (x, u) :: r, n, j + 1, p, v, h => by simp at h; simp [entL, List.modify_succ_cons, entL_set enc r (n + 1) j p v h]
theorem getM_none {l : List (κ × Value)} {x : κ} : getM l x = none ↔ ∀ p ∈ l, p.1 ≠ x := by
  induction l with
  | nil => simp [getM]
  | cons p r ih =>
    obtain ⟨y, v⟩ := p
    by_cases h : y = x
    · simp [getM, h]
    · simp [getM, h, ih]
theorem getM_at {l : List (κ × Value)} {x : κ} (hn : (l.map (·.1)).Nodup) {j : Nat} {v : Value} (h : l[j]? = some (x, v)) : getM l x = some v ∧ idxM l x = j ∧ ∀ u, putM l x u = l.set j (x, u) := by
  induction l generalizing j with
  | nil => simp at h
  | cons p r ih =>
    obtain ⟨y, u⟩ := p
    simp only [List.map_cons, List.nodup_cons] at hn
    cases j with
    | zero =>
      simp only [List.getElem?_cons_zero, Option.some.injEq, Prod.mk.injEq] at h
      obtain ⟨rfl, rfl⟩ := h
      simp [getM, idxM, putM]
    | succ j =>
      simp only [List.getElem?_cons_succ] at h
      have hne : y ≠ x := fun e => hn.1 (e ▸ List.mem_map.2 ⟨(x, v), List.mem_of_getElem? h, rfl⟩)
      obtain ⟨h1, h2, h3⟩ := ih hn.2 h
      simp [getM, idxM, putM, hne, h1, h2, h3]
theorem put_new {l : List (κ × Value)} {x : κ} {v : Value} (h : getM l x = none) : putM l x v = l ++ [(x, v)] ∧ idxM l x = l.length := by
  induction l with
  | nil => simp [putM, idxM]
  | cons p r ih =>
    obtain ⟨y, u⟩ := p
    by_cases hy : y = x
    · simp [getM, hy] at h
    · simp only [getM, hy, if_false] at h
      obtain ⟨h1, h2⟩ := ih h
      simp [putM, idxM, hy, h1, h2]
theorem goodM_nil (good : κ → Prop) : goodM good ([] : List (κ × Value)) := ⟨by simp, by simp⟩
theorem goodM_put {good : κ → Prop} {l : List (κ × Value)} {x : κ} (h : goodM good l) (hx : good x) (v : Value) : goodM good (putM l x v) := by
  obtain ⟨h1, h2⟩ := h
  have hk : ∀ l : List (κ × Value), (putM l x v).map (·.1) = if getM l x = none then l.map (·.1) ++ [x] else l.map (·.1) := by
    intro l
    induction l with
    | nil => simp [putM, getM]
    | cons p r ih =>
      obtain ⟨y, u⟩ := p
      by_cases hy : y = x
      · simp [putM, getM, hy]
      · simp only [putM, getM, hy, if_false, List.map_cons, ih]
        split <;> simp
  constructor
  · intro p hp
    have hm : p.1 ∈ (putM l x v).map (·.1) := List.mem_map.2 ⟨p, hp, rfl⟩
    rw [hk] at hm
    split at hm
    · rcases List.mem_append.1 hm with h | h
      · obtain ⟨q, hq, e⟩ := List.mem_map.1 h; rw [← e]; exact h1 q hq
      · rw [List.mem_singleton.1 h]; exact hx
    · obtain ⟨q, hq, e⟩ := List.mem_map.1 hm; rw [← e]; exact h1 q hq
  · rw [hk]
    split
    · rename_i hg
      refine List.nodup_append.2 ⟨h2, by simp, fun a ha b hb e => ?_⟩
      rw [List.mem_singleton.1 hb] at e
      obtain ⟨q, hq, e2⟩ := List.mem_map.1 ha
      exact getM_none.1 hg q hq (e2.trans e)
    · exact h2
theorem goodM_ens {good : κ → Prop} {l : List (κ × Value)} {x : κ} (h : goodM good l) (hx : good x) (z : Value) : goodM good (ensM l x z) := by
  unfold ensM
  split
  · rename_i hg
    have := goodM_put h hx z
    rwa [(put_new hg).1] at this
  · exact h
theorem get_put (l : List (κ × Value)) (x y : κ) (v : Value) : getM (putM l x v) y = if x = y then some v else getM l y := by
  induction l with
  | nil => by_cases h : x = y <;> simp [putM, getM, h]
  | cons p r ih =>
    obtain ⟨q, u⟩ := p
    by_cases hq : q = x
    · subst hq
      by_cases hy : q = y <;> simp [putM, getM, hy]
    · by_cases hy : q = y
      · subst hy
        simp [putM, getM, hq, Ne.symm hq]

      · simp [putM, getM, hq, hy, ih]
theorem get_ens (l : List (κ × Value)) (x y : κ) (z : Value) : (getM (ensM l x z) y).getD z = (getM l y).getD z := by
  unfold ensM
  split
  · rename_i hg
    rw [← (put_new (v := z) hg).1, get_put]
    split
    · rename_i e; subst e; rw [hg]; rfl
    · rfl
  · rfl
theorem ens_put {l : List (κ × Value)} {x : κ} {z v : Value} (hn : (l.map (·.1)).Nodup) : ∃ j p, (ensM l x z)[j]? = some p ∧ p.1 = x ∧ idxM l x = j ∧ (ensM l x z).set j (x, v) = putM l x v := by
  unfold ensM
  split
  · rename_i hg
    obtain ⟨h1, h2⟩ := put_new (v := v) hg
    exact ⟨l.length, (x, z), by simp, rfl, h2, by rw [h1]; simp⟩
  · rename_i hg
    obtain ⟨u, hu⟩ := Option.ne_none_iff_exists'.1 hg
    have : ∃ j : Nat, l[j]? = some (x, u) := by
      clear hg hn
      induction l with
      | nil => simp [getM] at hu
      | cons p r ih =>
        obtain ⟨y, t⟩ := p
        by_cases hy : y = x
        · simp only [getM, hy, if_true, Option.some.injEq] at hu
          exact ⟨0, by simp [hy, hu]⟩
        · simp only [getM, hy, if_false] at hu
          obtain ⟨j, hj⟩ := ih hu
          exact ⟨j + 1, by simpa using hj⟩
    obtain ⟨j, hj⟩ := this
    obtain ⟨_, h2, h3⟩ := getM_at hn hj
    exact ⟨j, (x, u), hj, rfl, h2, (h3 v).symm⟩

variable {P : Program} {t k e : TypeId} {enc : κ → Value} {good : κ → Prop} {W : World} {b : Nat} {l : List (κ × Value)} {x : κ}
theorem run_getL {es : Array MapEntry} {c : Nat} (h : W.heap[b]? = some (.map es c)) : (getObj b).run P W = .ok (.map es c) W := by simp [getObj, Sem.run, h]
theorem run_setL {es : Array MapEntry} {c : Nat} (o' : Obj) (h : W.heap[b]? = some (.map es c)) : (setObj b o').run P W = .ok () (W.putObj b o') := by simp [setObj, Sem.run, h, World.putObj]
theorem run_getI {m : Option Nat} {s c : Nat} {seen : Array Nat} (h : W.heap[b]? = some (.mapIter m s seen c)) : (getObj b).run P W = .ok (.mapIter m s seen c) W := by simp [getObj, Sem.run, h]
theorem run_setI {m : Option Nat} {s c : Nat} {seen : Array Nat} (o' : Obj) (h : W.heap[b]? = some (.mapIter m s seen c)) : (setObj b o').run P W = .ok () (W.putObj b o') := by simp [setObj, Sem.run, h, World.putObj]
theorem mobj_at (h : W.heap[b]? = some (mobj enc l)) : W.heap[b]? = some (.map (entL enc 0 l).toArray l.length) := h
/-- What findKey says of such a map. -/
theorem find_list (K : KeyS P k enc good) (hl : goodM good l) (hx : good x) (w : World) :
    (getM l x = none ∧ (Instr.findKey k (enc x) (entL enc 0 l)).run P w = .ok none w) ∨ ∃ j v, l[j]? = some (x, v) ∧ getM l x = some v ∧ (Instr.findKey k (enc x) (entL enc 0 l)).run P w = .ok (some (j, v)) w := by
  have hk : ∀ e ∈ entL enc 0 l, ∃ y, good y ∧ e.key = enc y := by
    intro e he
    obtain ⟨j, p, hp, rfl⟩ := entL_mem enc he
    exact ⟨p.1, hl.1 p (List.mem_of_getElem? hp), rfl⟩
  rcases K.find hx w _ hk with ⟨h1, h2⟩ | ⟨j, e, h1, h2, h3⟩
  · refine .inl ⟨getM_none.2 fun p hp e => ?_, h1⟩
    obtain ⟨j, hj⟩ := List.mem_iff_getElem?.1 hp
    have := entL_at enc l 0 j
    rw [hj] at this
    exact h2 _ (List.mem_of_getElem? this) (by rw [← e])
  · rw [entL_at] at h2
    obtain ⟨p, hp, he⟩ := Option.map_eq_some_iff.1 h2
    subst he
    have : p.1 = x := K.inj (hl.1 p (List.mem_of_getElem? hp)) hx h3
    subst this
    exact .inr ⟨j, p.2, hp, (getM_at hl.2 hp).1, h1⟩
theorem run_lookM (K : KeyS P k enc good) (ht : P.underlying t = some (.map k e)) {z : Value} (hz : (zeroValue e).run P W = .ok z W) (hb : W.heap[b]? = some (mobj enc l)) (hl : goodM good l) (hx : good x) :
    (Instr.lookup t (.map (some b)) (enc x) false).run P W = .ok ((getM l x).getD z) W := by
  rcases find_list K hl hx W with ⟨h1, h2⟩ | ⟨j, v, _, h1, h2⟩
  · unfold Instr.lookup
    simp only [Sem.run_bind, run_underlying ht, Result.andThen_ok, run_getL (mobj_at hb), mobj, K.check hx, h1, h2, hz, Sem.run_pure]
    rfl
  · unfold Instr.lookup
    simp only [Sem.run_bind, run_underlying ht, Result.andThen_ok, run_getL (mobj_at hb), mobj, K.check hx, h1, h2, Sem.run_pure]
    rfl
theorem modify_key {j : Nat} {v : Value} (h : l[j]? = some (x, v)) : (entL enc 0 l).toArray.modify j (fun e => { e with key := enc x }) = (entL enc 0 l).toArray := by
  apply Array.ext'
  have h2 : (entL enc 0 l)[j]? = some { key := enc x, val := v, born := 0 + j } := by rw [entL_at, h]; rfl
  rw [Array.toList_modify, ChangeMaps.modify_eq_set _ _ _ _ h2]
  exact WideElems.set_self _ _ _ h2
theorem run_putM (K : KeyS P k enc good) (ht : P.underlying t = some (.map k e)) (hb : W.heap[b]? = some (mobj enc l)) (hl : goodM good l) (hx : good x) (v : Value) :
    (Instr.mapUpdate t (.map (some b)) (enc x) v).run P W = .ok () (W.putObj b (mobj enc (putM l x v))) := by
  rcases find_list K hl hx W with ⟨h1, h2⟩ | ⟨j, u, h0, h1, h2⟩
  · unfold Instr.mapUpdate
    simp only [Sem.run_bind, run_underlying ht, Result.andThen_ok, run_getL (mobj_at hb), mobj, K.check hx, h2]
    rw [run_setL _ (mobj_at hb), (put_new h1).1, entL_append]
    simp
  · have h3 : (entL enc 0 l)[j]? = some { key := enc x, val := u, born := 0 + j } := by rw [entL_at, h0]; rfl
    have h4 : (entL enc 0 l).toArray[j]? = some { key := enc x, val := u, born := 0 + j } := by simpa using h3
    unfold Instr.mapUpdate
    simp only [Sem.run_bind, run_underlying ht, Result.andThen_ok, run_getL (mobj_at hb), mobj, K.check hx, h2, h4, Option.map_some, Option.getD_some, K.stays hx]
    rw [run_setL _ (mobj_at hb), (getM_at hl.2 h0).2.2 v, ← entL_set enc l 0 j (x, u) v h0]
    congr 2
    rw [List.length_set]
    congr 1
    apply Array.ext'
    rw [Array.toList_modify, ChangeMaps.modify_eq_set _ _ _ _ (show (entL enc 0 l).toArray.toList[j]? = _ from h3), ChangeMaps.modify_eq_set _ _ _ _ h3]
theorem run_entM (K : KeyS P k enc good) (ht : P.underlying t = some (.map k e)) {z : Value} (hz : (zeroValue e).run P W = .ok z W) (hb : W.heap[b]? = some (mobj enc l)) (hl : goodM good l) (hx : good x) :
    (Instr.mapEntry t (.map (some b)) (enc x)).run P W = .ok (.tuple #[(getM l x).getD z, goInt (idxM l x : Nat)]) (W.putObj b (mobj enc (ensM l x z))) := by
  rcases find_list K hl hx W with ⟨h1, h2⟩ | ⟨j, u, h0, h1, h2⟩
  · unfold Instr.mapEntry
    simp only [Sem.run_bind, run_underlying ht, Result.andThen_ok, run_getL (mobj_at hb), mobj, K.check hx, h2, hz]
    rw [run_setL _ (mobj_at hb)]
    simp only [Result.andThen_ok, Sem.run_pure, ensM, h1, if_true, Option.getD_none, (put_new (v := z) h1).2, entL_append]
    simp
  · have h3 : (entL enc 0 l)[j]? = some { key := enc x, val := u, born := 0 + j } := by rw [entL_at, h0]; rfl
    have h4 : (entL enc 0 l).toArray[j]? = some { key := enc x, val := u, born := 0 + j } := by simpa using h3
    unfold Instr.mapEntry
    simp only [Sem.run_bind, run_underlying ht, Result.andThen_ok, run_getL (mobj_at hb), mobj, K.check hx, h2, h4, Option.map_some, Option.getD_some, K.stays hx]
    rw [run_setL _ (mobj_at hb)]
    simp only [Result.andThen_ok, Sem.run_pure, ensM, h1, Option.getD_some, (getM_at hl.2 h0).2.1, modify_key h0]
    simp
/-- The store behind it. -/
theorem run_stoM {z : Value} (hb : W.heap[b]? = some (mobj enc (ensM l x z))) (hn : (l.map (·.1)).Nodup) (v : Value) :
    (Instr.entryStore t (.map (some b)) (goInt (idxM l x : Nat)) v).run P W = .ok () (W.putObj b (mobj enc (putM l x v))) := by
  obtain ⟨j, p, h1, h2, h3, h4⟩ := ens_put (l := l) (x := x) (z := z) (v := v) hn
  rw [h3, ← h4]
  generalize ensM l x z = l' at hb h1
  have e1 : (entL enc 0 l')[j]? = some { key := enc p.1, val := p.2, born := 0 + j } := by rw [entL_at, h1]; rfl
  have hidx : (entL enc 0 l').toArray.findIdx? (fun e => ((e.born : Nat) : Int) == ((j : Nat) : Int)) = some j := by
    rw [WideElems.findIdx_arr]
    have := WideElems.findIdx_born (entL_nodup enc l' 0).1 e1
    simpa using this
  unfold Instr.entryStore
  simp only [Sem.run_bind, run_getL (mobj_at hb), mobj, Result.andThen_ok, asInt, asIntOf, goInt, Sem.run_pure, hidx]
  rw [run_setL _ (mobj_at hb)]
  congr 2
  rw [List.length_set]
  congr 1
  apply Array.ext'
  rw [← h2, ← entL_set enc l' 0 j p v h1, Array.toList_modify]
theorem run_ranM (ht : P.underlying t = some (.map k e)) (hb : W.heap[b]? = some (mobj enc l)) :
    (Instr.range t (.map (some b))).run P W = .ok (.pointer (some ⟨W.heap.size, 0, none⟩)) (W.alloc (.mapIter (some b) l.length #[] l.length)) := run_range_map W t k e b _ _ ht hb
/-- The next entry, whichever: none that was seen. -/
theorem run_nexM {r : Nat} {seen : Array Nat} (hb : W.heap[b]? = some (mobj enc l)) (hr : W.heap[r]? = some (.mapIter (some b) l.length seen l.length)) (ty : TypeId) :
    ((∀ j, j < l.length → j ∈ seen) ∧ ∃ w1 : World, (w1 = W ∨ w1 = W.drew) ∧ (Instr.next (.pointer (some ⟨r, 0, none⟩)) false ty).run P W = .ok (.tuple #[.bool false]) w1) ∨
    ∃ j x v, l[j]? = some (x, v) ∧ j ∉ seen ∧ ∃ w1 : World, (w1 = W ∨ w1 = W.drew) ∧ (Instr.next (.pointer (some ⟨r, 0, none⟩)) false ty).run P W = .ok (.tuple #[.bool true, enc x, v]) (w1.putObj r (.mapIter (some b) l.length (seen.push j) l.length)) := by
  have hold : ∀ y ∈ (entL enc 0 l).toArray.toList, y.born < l.length := by
    intro y hy
    obtain ⟨j, p, hp, rfl⟩ := entL_mem enc (show y ∈ entL enc 0 l by simpa using hy)
    have := (List.getElem?_eq_some_iff.1 hp).1
    simpa using this
  simp only [Instr.next, Sem.run_bind, run_getI hr, run_getL (mobj_at hb), mobj, Result.andThen_ok, next_test_false seen _ _ _ hold (Nat.le_refl _), Bool.false_eq_true, if_false]
  have hmem : ∀ y ∈ (Array.filter (fun e => !seen.contains e.born) (entL enc 0 l).toArray).toList, y.born < l.length := fun y hy => hold y (by simp at hy ⊢; exact hy.1)
  have hback : ∀ y ∈ (Array.filter (fun e => !seen.contains e.born) (entL enc 0 l).toArray).toList, ∃ j x v, l[j]? = some (x, v) ∧ j ∉ seen ∧ y = { key := enc x, val := v, born := j } := by
    intro y hy
    simp at hy
    obtain ⟨j, p, hp, rfl⟩ := entL_mem enc hy.1
    refine ⟨j, p.1, p.2, hp, ?_, by simp⟩
    simpa using hy.2
  have hnone : (Array.filter (fun e => !seen.contains e.born) (entL enc 0 l).toArray).size = 0 → ∀ j, j < l.length → j ∈ seen := by
    intro h j hj
    have h0 : Array.filter (fun e => !seen.contains e.born) (entL enc 0 l).toArray = #[] := Array.eq_empty_of_size_eq_zero h
    rw [Array.filter_eq_empty_iff] at h0
    have e1 : (entL enc 0 l)[j]? = some { key := enc l[j].1, val := l[j].2, born := 0 + j } := by rw [entL_at, List.getElem?_eq_getElem hj]; rfl
    have := h0 _ (by simpa using List.mem_of_getElem? e1)
    simpa using this
  generalize Array.filter (fun e => !seen.contains e.born) (entL enc 0 l).toArray = L at hmem hback hnone ⊢
  have e1 : L.filter (fun y => decide (y.born < l.length)) = L := Array.filter_eq_self.2 (fun y hy => by simpa using hmem y (by simpa using hy))
  have e2 : L.filter (fun y => decide (y.born ≥ l.length)) = #[] := by
    rw [Array.filter_eq_empty_iff]
    intro y hy
    have := hmem y (by simpa using hy)
    simp
    omega
  simp only [e1, e2, Array.append_empty]
  by_cases h0 : L.size = 0
  · left
    have : L = #[] := Array.eq_empty_of_size_eq_zero h0
    subst this
    refine ⟨hnone rfl, W, .inl rfl, ?_⟩
    simp [choose, Sem.run, Question.forced]
  · right
    have hne : L.isEmpty = false := by simp [Array.isEmpty, h0]
    simp only [hne, Bool.false_eq_true, if_false, Array.empty_append, Array.size_map]
    have hch : ∃ (j : Nat) (w1 : World), j < L.size ∧ (w1 = W ∨ w1 = W.drew) ∧ (choose (Question.mapNext L.size)).run P W = .ok j w1 := by
      by_cases hf : L.size ≤ 1
      · exact ⟨0, W, by omega, .inl rfl, by simp [choose, Sem.run, Question.forced, hf]⟩
      · exact ⟨_, W.drew, Nat.mod_lt _ (by omega), .inr rfl, by
          simp only [choose, Sem.run, Question.forced, decide_eq_true_eq, hf, if_false, Question.cut]
          rfl⟩
    obtain ⟨j, w1, hj, hal, hrun⟩ := hch
    obtain ⟨i, x, v, hi, hs, he⟩ := hback L[j] (by simp)
    refine ⟨i, x, v, hi, hs, w1, hal, ?_⟩
    have hr1 : w1.heap[r]? = some (.mapIter (some b) l.length seen l.length) := by rcases hal with rfl | rfl <;> exact hr
    simp only [hrun, Array.getElem?_map, Array.getElem?_eq_getElem hj, Option.map_some, Sem.run_bind, run_setI _ hr1, Result.andThen_ok, he, Sem.run_pure]
theorem run_entrM {r : Nat} {seen : Array Nat} {j : Nat} {v : Value} (hb : W.heap[b]? = some (mobj enc l)) (hr : W.heap[r]? = some (.mapIter (some b) l.length (seen.push j) l.length)) (hj : l[j]? = some (x, v)) :
    (Instr.entry (.pointer (some ⟨r, 0, none⟩))).run P W = .ok (.tuple #[enc x, v]) W := by
  have e1 : (entL enc 0 l)[j]? = some { key := enc x, val := v, born := 0 + j } := by rw [entL_at, hj]; rfl
  have hf : (entL enc 0 l).toArray.find? (fun e => e.born == j) = some { key := enc x, val := v, born := 0 + j } := by
    rw [← Array.find?_toList]
    have := find_born { key := enc x, val := v, born := 0 + j } (entL enc 0 l) (entL_nodup enc l 0).1 (List.mem_of_getElem? e1)
    simpa using this
  simp only [Instr.entry, Sem.run_bind, run_getI hr, run_getL (mobj_at hb), mobj, Result.andThen_ok, Array.back?_push, bne_self_eq_false, Bool.false_eq_true, if_false, hf, Sem.run_pure]
end
end Go.Proofs.Ytlldpdhajddmiaa.Base
end
section
/- Places of a player's zone (board.spot) as keys of a map. -/
namespace Go.Proofs.Ytlldpdhajddmiaa.Base
open Go
abbrev Spot := Int × Int × Int
def encS (x : Spot) : Value := .agg #[.int .u8 x.1, .int .u8 x.2.1, .int .i64 x.2.2]
def okS (x : Spot) : Prop := (Lit.int .u8 x.1).wf = true ∧ (Lit.int .u8 x.2.1).wf = true ∧ (Lit.int .i64 x.2.2).wf = true
theorem laidS : laidOutB Try.prog = true := by kernel_rfl
theorem lawS : WideMaps.KeyLaw Try.prog 123 :=
  deep_law_laid laidS (m := 9) (by decide) (of_decide_eq_true (by kernel_rfl)) (by kernel_rfl) (by kernel_rfl)
theorem keyOf_spot (x : Spot) (h : okS x) : ∃ l, keyOf Try.prog 123 (encS x) = some l := by
  obtain ⟨h1, h2, h3⟩ := h
  have hu := Try.underlying123
  have u5 := Try.underlying5
  have u3 := Try.underlying3
  have ht : Try.prog.keyType 123 = true := by kernel_rfl
  have hc : Try.prog.cellsOf 123 = 3 := by kernel_rfl
  have c5 : Try.prog.cellsOf 5 = 1 := by kernel_rfl
  have c3 : Try.prog.cellsOf 3 = 1 := by kernel_rfl
  obtain ⟨m, hm⟩ : ∃ m, Try.prog.types.size + 1 = m + 2 := ⟨Try.prog.types.size - 1, by have : 1 ≤ Try.prog.types.size := of_decide_eq_true (by kernel_rfl); omega⟩
  have k5 : ∀ a : Int, (Lit.int .u8 a).wf = true → Try.prog.keyLits (m + 1) 5 [.int .u8 a] = some [.int .u8 a] := fun a ha => by unfold Program.keyLits; simp only [u5]; simp [ha]
  have k3 : ∀ a : Int, (Lit.int .i64 a).wf = true → Try.prog.keyLits (m + 1) 3 [.int .i64 a] = some [.int .i64 a] := fun a ha => by unfold Program.keyLits; simp only [u3]; simp [ha]
  refine ⟨.string (keyBytes [.int .u8 x.1, .int .u8 x.2.1, .int .i64 x.2.2]), ?_⟩
  unfold keyOf
  rw [hu]
  simp only [ht, encS, Value.formed, hu, hc, Value.cells, Bool.true_and]
  rw [hm]
  unfold Program.keyLits
  simp only [hu]
  simp [hc, c5, c3, k5 _ h1, k5 _ h2, k3 _ h3]
theorem keyS : KeyS Try.prog 123 encS okS := KeyS.of_law lawS keyOf_spot (fun {x y} _ _ h => by
  simp only [encS, Value.agg.injEq, Array.mk.injEq, List.cons.injEq, Value.int.injEq] at h
  obtain ⟨⟨-, h1⟩, ⟨-, h2⟩, ⟨-, h3⟩, -⟩ := h
  exact Prod.ext h1 (Prod.ext h2 h3))
end Go.Proofs.Ytlldpdhajddmiaa.Base
end
section
/- Plain words for printed functions: 'with rounds enough it tells v' (Tells), and what follows of parts. -/
namespace Go.Proofs.Ytlldpdhajddmiaa.Base
open Go.RowKit Go.Proofs.YtlldpdhajddmiaaW.PrintWords

/-- from some number of rounds on it tells v -/
def Tells {α : Type} (f : Nat → Option α) (v : α) : Prop := ∃ k0, ∀ k, k0 ≤ k → f k = some v
theorem Tells.const {α : Type} (v : α) : Tells (fun _ => some v) v := ⟨0, fun _ _ => rfl⟩
theorem Tells.of {α : Type} {f : Nat → Option α} {v : α} (h : ∀ k, f k = some v) : Tells f v := ⟨0, fun k _ => h k⟩
theorem Tells.exists {α : Type} {f : Nat → Option α} {v : α} (h : Tells f v) : ∃ k, f k = some v := by obtain ⟨k, h⟩ := h; exact ⟨k, h k (Nat.le_refl _)⟩
theorem Tells.bind {α β : Type} {f : Nat → Option α} {g : α → Nat → Option β} {a : α} {v : β} (h : Tells f a) (h' : Tells (g a) v) : Tells (fun k => (f k).bind fun x => g x k) v := by
  obtain ⟨k1, h1⟩ := h
  obtain ⟨k2, h2⟩ := h'
  exact ⟨k1 + k2, fun k hk => by simp only [h1 k (by omega), Option.bind_some, h2 k (by omega)]⟩
theorem Tells.succ {α : Type} {f g : Nat → Option α} {v : α} (hg : ∀ k, f (k + 1) = g k) (h : Tells g v) : Tells f v := by
  obtain ⟨k0, h⟩ := h
  refine ⟨k0 + 1, fun k hk => ?_⟩
  obtain ⟨j, rfl⟩ : ∃ j, k = j + 1 := ⟨k - 1, by omega⟩
  rw [hg, h j (by omega)]
theorem Tells.congr {α : Type} {f g : Nat → Option α} {v : α} (hg : ∀ k, f k = g k) (h : Tells g v) : Tells f v := by
  obtain ⟨k0, h⟩ := h
  exact ⟨k0, fun k hk => by rw [hg, h k hk]⟩
theorem Tells.mono {α : Type} {f : Nat → Option α} {v : α} (hm : ∀ k, LeO (f k) (f (k + 1))) {k0 : Nat} (h : f k0 = some v) : Tells f v := by
  refine ⟨k0, fun k hk => ?_⟩
  obtain ⟨d, rfl⟩ : ∃ d, k = k0 + d := ⟨k - k0, by omega⟩
  clear hk
  induction d with
  | zero => exact h
  | succ d ih => exact hm _ _ ih
theorem Tells.pos {α : Type} {p : Prop} [Decidable p] {f g : Nat → Option α} {v : α} (hp : p) (h : Tells f v) : Tells (fun k => if p then f k else g k) v := Tells.congr (fun _ => if_pos hp) h
theorem Tells.neg {α : Type} {p : Prop} [Decidable p] {f g : Nat → Option α} {v : α} (hp : ¬ p) (h : Tells g v) : Tells (fun k => if p then f k else g k) v := Tells.congr (fun _ => if_neg hp) h
end Go.Proofs.Ytlldpdhajddmiaa.Base
end
section
/- A region that draws its order, inside a round of a loop over a function: shown by the words for regions outside. -/
namespace Go.Proofs.Ytlldpdhajddmiaa.Base
open Go Go.Proofs.YtlldpdhajddmiaaW.PrintLast
section
variable {P : Program} {ops : Array Oper} {Q : Exit → Act → World → Prop} {md : Region.Mode} {S : World → Prop} {ds : List Nat} {l : Nat}
def noDeferB (ops : Array Oper) : Bool := ops.all fun o => match o.op with | .defer _ => false | _ => true
theorem noDefer_spec (h : noDeferB ops = true) {j : Nat} {o : Oper} (ho : ops[j]? = some o) : ∀ c, o.op ≠ .defer c := by
  intro c hc
  have hm : o ∈ ops := Array.mem_of_getElem? ho
  have h1 := Array.all_eq_true_iff_forall_mem.1 h o hm
  simp [hc] at h1
theorem wpOpIn_round {i : Nat} {K : Act → World → Prop} {a : Act} {w : World} (hd : noDeferB ops = true) (hQ : ¬ LetsOut Q) (h : wpOp P ops Q i K a w) :
    wpOpIn (Fence.wide.inRound l) 0 P ops Q i K a w := by
  unfold wpOp at h
  unfold wpOpIn
  cases ho : ops[i]? with
  | none => simp only [ho] at h ⊢; exact h
  | some o =>
    simp only [ho] at h ⊢
    split at h
    · rename_i hw
      simp only [hw, if_true]
      have h1 : o.wp P a w K Q := h.resolve_right (fun hh => hQ hh.2)
      unfold Oper.wp at h1
      refine ⟨fun f _ => trivial, ?_⟩
      rw [Oper.semAt_eq _ _ _ (noDefer_spec hd ho)]
      generalize (execOp a.eval o).run P w = r at *
      cases r with
      | ok x w' =>
        cases x <;> simp only [Oper.upon, Oper.uponIn] at h1 ⊢
        case value u => exact h1
        case skip => exact h1
        case defer d => exact h1
        case enter f args => exact ⟨fun hh => by simp [Fence.wide, Fence.inRound] at hh, CallsIn.inRound l (callsIn_wide.2 h1)⟩
        case row row args => exact ⟨fun hh => by simp [Fence.wide, Fence.inRound] at hh, fun c cs _ => by
          obtain ⟨v, w', r, s⟩ := h1 c cs
          exact ⟨v, w', r, stepsIn_wide.2 s⟩⟩
      | halt x w' => cases x <;> simp only [Oper.upon, Oper.uponIn] at h1 ⊢ <;> exact h1
    · rename_i hw
      rw [if_neg hw]
      exact ⟨fun f _ => trivial, h⟩
theorem wpAnyIn_round (hd : noDeferB ops = true) (hQ : ¬ LetsOut Q) : ∀ (fuel : Nat) (listed : Array Bool) (a : Act) (w : World), wpAny P md ops Q fuel listed a w → wpAnyIn (Fence.wide.inRound l) 0 P md ops Q fuel listed a w
  | 0, _, _, _, h => h
  | fuel + 1, _, _, _, h => ⟨h.1, fun i hi => wpOpIn_mono (fun a' w' h' => wpAnyIn_round hd hQ fuel _ a' w' h') (wpOpIn_round hd hQ (h.2 i hi))⟩
theorem startIn_ {id n : Nat} {a : Act} {w : World} (lst : Array Bool) (hm : P.follows .mixedOrders = true) (hd : noDeferB ops = true) (hQ : ¬ LetsOut Q) (hn : ops.size = n) (hl : Array.replicate n false = lst) (hS : S w.drew)
    (h : S w.drew → wpAnyLast P .any ops Q S ds n lst a w.drew) : (Code.region id ops true).wpIn (Fence.wide.inRound l) 0 P Q a w := by
  subst hn
  subst hl
  exact wpIn_region_any hm (wpAnyIn_round hd hQ _ _ _ _ (wpAny_of_last _ _ _ _ (h hS)))
theorem wp_only {c : Code} {K : Act → World → Prop} {a : Act} {w : World} (h : c.wp P (Exit.then K (fun _ _ _ => False)) a w) : c.wp P (Exit.then K Q) a w :=
  wp_mono h (fun e a w h => by cases e <;> first | exact h | exact h.elim)
end
end Go.Proofs.Ytlldpdhajddmiaa.Base
end
section
/- A row of elements out of a block that is known whole. -/
namespace Go.Proofs.Ytlldpdhajddmiaa.Base
open Go Go.RowKit Go.Proofs.YtlldpdhajddmiaaW.PrintWords
theorem flat_get {α : Type} {sz : Nat} : ∀ (parts : List (List α)), (∀ c ∈ parts, c.length = sz) → ∀ j i, i < sz → (parts.flatten)[j * sz + i]? = parts[j]?.bind (fun c => c[i]?)
  | [], _, j, i, _ => by simp
  | c :: r, h, j, i, hi => by
    have hc : c.length = sz := h c (by simp)
    rw [List.flatten_cons]
    cases j with
    | zero => rw [List.getElem?_append_left (by omega)]; simp
    | succ j =>
      rw [List.getElem?_append_right (by rw [hc, Nat.succ_mul]; omega), hc, show (j + 1) * sz + i - sz = j * sz + i by rw [Nat.succ_mul]; omega]
      rw [flat_get r (fun c' h' => h c' (List.mem_cons_of_mem _ h')) j i hi]
      simp
inductive All2 {α : Type} (R : α → List Value → Prop) : List α → List (List Value) → Prop
  | nil : All2 R [] []
  | cons {x : α} {c : List Value} {xs : List α} {cs : List (List Value)} (h : R x c) (r : All2 R xs cs) : All2 R (x :: xs) (c :: cs)
theorem All2.length {α : Type} {R : α → List Value → Prop} {xs : List α} {cs : List (List Value)} (h : All2 R xs cs) : xs.length = cs.length := by
  induction h with
  | nil => rfl
  | cons _ _ ih => simp [ih]
theorem All2.get {α : Type} {R : α → List Value → Prop} {xs : List α} {cs : List (List Value)} (h : All2 R xs cs) : ∀ {j : Nat} {x : α}, xs[j]? = some x → ∃ c, cs[j]? = some c ∧ R x c := by
  induction h with
  | nil => intro j x hx; simp at hx
  | cons hr _ ih =>
    intro j x hx
    cases j with
    | zero => simp at hx; subst hx; exact ⟨_, rfl, hr⟩
    | succ j => simp at hx; obtain ⟨c, h1, h2⟩ := ih hx; exact ⟨c, by simpa using h1, h2⟩
theorem All2.sizes {α : Type} {d : Kd α} {w : World} {xs : List α} {cs : List (List Value)} (h : All2 (d.K w) xs cs) : ∀ c ∈ cs, c.length = d.sz := by
  induction h with
  | nil => intro c hc; cases hc
  | cons hr _ ih =>
    intro c hc
    rcases List.mem_cons.1 hc with rfl | hc
    · exact d.K_len hr
    · exact ih c hc
theorem C_row {α : Type} {d : Kd α} {w : World} {g : Nat} {ty : TypeId} {xs : List α} {parts : List (List Value)} (hb : Blk w g ty parts.flatten.toArray) (h : All2 (d.K w) xs parts) (hl : xs.length ≤ 9223372036854775807) :
    d.C w (some ⟨g, 0, none⟩) xs.length xs := by
  refine ⟨rfl, hl, fun _ => ⟨_, rfl, fun j p hp => ?_⟩⟩
  obtain ⟨c, hc, hk⟩ := h.get hp
  refine ⟨c, d.K_len hk, hk, fun i u hu => ?_⟩
  have hi : i < d.sz := by rw [← d.K_len hk]; exact (List.getElem?_eq_some_iff.1 hu).1
  have h1 := hb.cell (j * d.sz + i)
  rw [List.getElem?_toArray, flat_get parts h.sizes j i hi, hc] at h1
  have ha : (⟨g, 0, none⟩ : Addr).add (j * d.sz + i) = ⟨g, j * d.sz + i, none⟩ := by
    simp [Addr.add]
    intro h2 h3
    rw [h2, h3]
  rw [ha, h1]
  exact hu
end Go.Proofs.Ytlldpdhajddmiaa.Base
end
