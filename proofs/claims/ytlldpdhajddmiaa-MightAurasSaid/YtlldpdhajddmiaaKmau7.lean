/- Joined by a program of this session (pack.py) out of: Bmp Bmya Bmyb Bmyc Mayl Bmyd Mof Mrof Mto -/
import Derived.Deep.CutBlock
import Derived.Deep.DeepCutAuto
import Derived.Deep.LoopGhost
import Derived.Lib.Hide
import Derived.RegionTactic
import Derived.WideMake
import Derived.Test.YtlldpdhajddmiaaKmau2
import Derived.Test.YtlldpdhajddmiaaKmau4
import Derived.Test.YtlldpdhajddmiaaKmau6
section
/- What board.May reckons, in plain words: the places that are taken, the greatest place and how many there are of each player's zone. -/
namespace Go.Proofs.Ytlldpdhajddmiaa.Bmay
open Go Go.RowKit Go.Proofs.Ytlldpdhajddmiaa.Base Go.Proofs.Ytlldpdhajddmiaa.Pmga Go.Proofs.YtlldpdhajddmiaaW.PrintWords
abbrev PS := S35
abbrev ML := List (Spot × Int)
def toV (l : ML) : List (Spot × Value) := l.map fun p => (p.1, Value.int .i64 p.2)
def getI : ML → Spot → Int
  | [], _ => 0
  | (y, v) :: r, x => if y = x then v else getI r x
def putI : ML → Spot → Int → ML
  | [], x, v => [(x, v)]
  | (y, u) :: r, x, v => if y = x then (y, v) :: r else (y, u) :: putI r x v
theorem toV_get (l : ML) (x : Spot) : (getM (toV l) x).getD (.int .i64 0) = .int .i64 (getI l x) := by
  induction l with
  | nil => rfl
  | cons p r ih =>
    obtain ⟨y, v⟩ := p
    simp only [toV, List.map_cons, getM, getI] at ih ⊢
    split
    · rfl
    · exact ih
theorem toV_put (l : ML) (x : Spot) (v : Int) : putM (toV l) x (.int .i64 v) = toV (putI l x v) := by
  induction l with
  | nil => rfl
  | cons p r ih =>
    obtain ⟨y, u⟩ := p
    simp only [toV, List.map_cons, putM, putI] at ih ⊢
    split
    · rfl
    · rw [ih]; rfl
theorem toV_at {l : ML} {j : Nat} {x : Spot} {v : Value} (h : (toV l)[j]? = some (x, v)) : ∃ u, l[j]? = some (x, u) ∧ v = .int .i64 u := by
  unfold toV at h
  rw [List.getElem?_map] at h
  obtain ⟨p, hp, he⟩ := Option.map_eq_some_iff.1 h
  obtain ⟨y, u⟩ := p
  simp only [Prod.mk.injEq] at he
  exact ⟨u, by rw [hp, he.1], he.2.symm⟩
theorem toV_length (l : ML) : (toV l).length = l.length := List.length_map _
structure TS where
  tk : ML
  ms : ML
  mn : ML
def spotOf (p : PS) : Spot := (if p.f5 = 6 then 0 else p.f4, p.f5, p.f6)
def roomOf (p : PS) : Spot := (p.f4, p.f5, 0)
/-- One piece: none, where the table may not be. -/
def stepM (bad sh : Bool) (p : PS) (s : TS) : Option TS :=
  if bad = true then none else if p.f5 = 7 then some s else if getI s.tk (spotOf p) > 0 then none else
  if sh = true then some ⟨putI s.tk (spotOf p) (wrap64 (getI s.tk (spotOf p) + 1)), s.ms, s.mn⟩ else
  some ⟨putI s.tk (spotOf p) (wrap64 (getI s.tk (spotOf p) + 1)), putI s.ms (roomOf p) (mx (getI s.ms (roomOf p)) p.f6), putI s.mn (roomOf p) (wrap64 (getI s.mn (roomOf p) + 1))⟩
/-- All pieces from the k-th on. -/
def runM (bad sh : Nat → Bool) (ps : List PS) : Nat → Nat → TS → Option TS
  | 0, _, s => some s
  | d + 1, k, s => (stepM (bad k) (sh k) (rd_T35 ps (k : Int)) s).bind fun s' => runM bad sh ps d (k + 1) s'
def lastM (s : TS) : Bool := s.ms.all fun p => decide (p.2 < getI s.mn p.1)
def mayM (bad sh : Nat → Bool) (ps : List PS) : Bool := match runM bad sh ps ps.length 0 ⟨[], [], []⟩ with | none => false | some s => lastM s
def okM (l : ML) : Prop := goodM okS (toV l)
theorem okM_nil : okM [] := goodM_nil _
theorem okM_put {l : ML} {x : Spot} (h : okM l) (hx : okS x) (v : Int) : okM (putI l x v) := by
  unfold okM
  rw [← toV_put]
  exact goodM_put h hx _
end Go.Proofs.Ytlldpdhajddmiaa.Bmay
end
section
/- Whether a table may be (board.May): walked; whether a piece stands right is taken as told. -/
namespace Go.Proofs.Ytlldpdhajddmiaa.Bmay
open Go Go.RowKit Go.Proofs.Ytlldpdhajddmiaa.Base Go.Proofs.Ytlldpdhajddmiaa.Pmga Go.Proofs.YtlldpdhajddmiaaW.PrintWords Go.Proofs.YtlldpdhajddmiaaW.PrintLast Go.Proofs.YtlldpdhajddmiaaW.PrintMore
def withinB (a b : Int) : Bool := decide (0 ≤ a ∧ a ≤ b)
def sharedB (z : Int) : Bool := decide (z = 2 ∨ z = 3 ∨ z = 6)
theorem within_v (a b : Int) (w : World) : Calls Try.prog 93 #[.int .i64 a, .int .i64 b] w fun e w' => e = .returned (.bool (withinB a b)) ∧ ∃ m, w' = w.drewN m := by
  refine (board_within.calls a b (withinB a b) w ?_).mono fun e w' h => (by obtain ⟨he, m, hm⟩ := h; exact ⟨he, m, hm⟩)
  unfold board_within.f withinB
  by_cases h : a ≥ 0
  · rw [if_pos h]; congr 1; simp [h]
  · rw [if_neg h, decide_eq_false (fun h2 => h h2.1)]
theorem shared_v (z : Int) (w : World) : Calls Try.prog 88 #[.int .u8 z] w fun e w' => e = .returned (.bool (sharedB z)) ∧ ∃ m, w' = w.drewN m := by
  refine (board_shared.calls z (sharedB z) w ?_).mono fun e w' h => (by obtain ⟨he, m, hm⟩ := h; exact ⟨he, m, hm⟩)
  unfold board_shared.f sharedB
  by_cases h2 : z = 2
  · rw [if_pos h2, decide_eq_true (.inl h2)]
  by_cases h3 : z = 3
  · rw [if_neg h2, if_pos h3, decide_eq_true (.inr (.inl h3))]
  by_cases h6 : z = 6
  · rw [if_neg h2, if_neg h3, decide_eq_true (.inr (.inr h6)), beq_iff_eq.2 h6]
  · rw [if_neg h2, if_neg h3, decide_eq_false (by omega), beq_eq_false_iff_ne.2 h6]
def headB (a2 a3 a4 a5 : Int) (n : Nat) : Bool := withinB a2 99999 && withinB a3 99999 && decide (¬ a4 < 1) && decide (¬ a5 > 1) && decide (¬ (n : Int) > 144)
set_option linter.unusedSimpArgs false
set_option linter.unusedVariables false
set_option maxRecDepth 100000
set_option maxHeartbeats 8000000
/-- A head that may not be. -/
theorem may_head (A0 : Option Addr) (c0 : Nat) (l0 : List S97) (A1 : Option Addr) (c1 : Nat) (l1 : List S35) (a2 a3 a4 a5 a6 : Int) (A7 : Option Addr) (n7 c7 : Nat) (a8 a9 : Bool) (w : World) (h : headB a2 a3 a4 a5 l1.length = false) :
    Calls Try.prog 41 #[.agg #[.slice A0 l0.length c0, .slice A1 l1.length c1, .int .i64 a2, .int .i64 a3, .int .i64 a4, .int .u8 a5, .int .i64 a6, .slice A7 n7 c7, .bool a8, .bool a9]] w fun e w' => e = .returned (.bool false) ∧ Below w.heap.size w w' := by
  obtain ⟨n, hn⟩ : ∃ n, l1.length = n := ⟨_, rfl⟩
  rw [hn] at h ⊢
  clear hn
  cases h2 : withinB a2 99999 with
  | false =>
    clear h
    go_enter Try.func41, Try.ntmps41
    go_wp2_with (go_at_call 93; refine (within_v _ _ _).mono ?_; rintro e wx ⟨rfl, m, rfl⟩)
    go_ret
    exact ⟨rfl, by (repeat (first | exact balloc (Below.refl _ _) _ | refine bdrewN ?_ _))⟩
  | true =>
    cases h3 : withinB a3 99999 with
    | false =>
      clear h
      go_enter Try.func41, Try.ntmps41
      go_wp2_with (go_at_call 93; refine (within_v _ _ _).mono ?_; rintro e wx ⟨rfl, m, rfl⟩)
      go_ret
      exact ⟨rfl, by (repeat (first | exact balloc (Below.refl _ _) _ | refine bdrewN ?_ _))⟩
    | true =>
      by_cases h4 : a4 < 1
      · have e4 : decide (a4 < 1) = true := decide_eq_true h4
        clear h4
        clear h
        go_enter Try.func41, Try.ntmps41
        go_wp2_with (go_at_call 93; refine (within_v _ _ _).mono ?_; rintro e wx ⟨rfl, m, rfl⟩)
        go_ret
        exact ⟨rfl, by (repeat (first | exact balloc (Below.refl _ _) _ | refine bdrewN ?_ _))⟩
      have e4 : decide (a4 < 1) = false := decide_eq_false h4
      by_cases h5 : a5 > 1
      · have e5 : decide (a5 > 1) = true := decide_eq_true h5
        clear h5
        clear h
        go_enter Try.func41, Try.ntmps41
        go_wp2_with (go_at_call 93; refine (within_v _ _ _).mono ?_; rintro e wx ⟨rfl, m, rfl⟩)
        go_ret
        exact ⟨rfl, by (repeat (first | exact balloc (Below.refl _ _) _ | refine bdrewN ?_ _))⟩
      have e5 : decide (a5 > 1) = false := decide_eq_false h5
      by_cases h6 : 144 < n
      · have e6 : decide ((n : Int) > 144) = true := decide_eq_true (by omega)
        have e7 : (144 < n) = True := eq_true h6
        clear h6
        clear h
        go_enter Try.func41, Try.ntmps41
        go_wp2_with (go_at_call 93; refine (within_v _ _ _).mono ?_; rintro e wx ⟨rfl, m, rfl⟩)
        go_ret
        exact ⟨rfl, by (repeat (first | exact balloc (Below.refl _ _) _ | refine bdrewN ?_ _))⟩
      exfalso
      unfold headB at h
      rw [h2, h3, decide_eq_true h4, decide_eq_true h5, decide_eq_true (show ¬ (n : Int) > 144 by omega)] at h
      cases h
end Go.Proofs.Ytlldpdhajddmiaa.Bmay
end
section
/- Whether a table may be (board.May): the main walk. -/
namespace Go.Proofs.Ytlldpdhajddmiaa.Bmay
open Go Go.RowKit Go.Proofs.Ytlldpdhajddmiaa.Base Go.Proofs.Ytlldpdhajddmiaa.Pmga Go.Proofs.YtlldpdhajddmiaaW.PrintWords Go.Proofs.YtlldpdhajddmiaaW.PrintLast Go.Proofs.YtlldpdhajddmiaaW.PrintMore
theorem putObj_same {W : World} {r : Nat} {o o' : Obj} (h : W.heap[r]? = some o) : (W.putObj r o').heap[r]? = some o' := World.putObj_heap_same (Array.getElem?_eq_some_iff.1 h).1
theorem below_putObj {n r : Nat} {A W : World} {o : Obj} (h : Below n A W) (hl : n ≤ r) : Below n A (W.putObj r o) :=
  h.trans ⟨rfl, rfl, rfl, by simp [World.putObj], fun k hk => World.putObj_heap_other (by omega)⟩
theorem lt_of {W : World} {r : Nat} {o : Obj} (h : W.heap[r]? = some o) : r < W.heap.size := (Array.getElem?_eq_some_iff.1 h).1
/-- Where the walk stands: the table's box at g, the three maps behind it. -/
structure Tw (w0 : World) (g : Nat) (cs : Array Value) (s : TS) (w : World) : Prop where
  x : Blk w g 28 cs
  a : w.heap[g + 1]? = some (mobj encS (toV s.tk))
  b : w.heap[g + 1 + 1]? = some (mobj encS (toV s.ms))
  c : w.heap[g + 1 + 1 + 1]? = some (mobj encS (toV s.mn))
  lo : w0.heap.size ≤ g
  be : Below w0.heap.size w0 w
section
variable {w0 w w' : World} {g : Nat} {cs : Array Value} {s : TS}
theorem Tw.lt (h : Tw w0 g cs s w) : g + 3 < w.heap.size := lt_of h.c
theorem Tw.call (h : Tw w0 g cs s w) (k : Below w.heap.size w w') : Tw w0 g cs s w' :=
  ⟨h.x.after k, (k.block _ (lt_of h.a)).trans h.a, (k.block _ (lt_of h.b)).trans h.b, (k.block _ (lt_of h.c)).trans h.c, h.lo, bstep h.be k⟩
theorem Tw.alloc (h : Tw w0 g cs s w) (o : Obj) : Tw w0 g cs s (w.alloc o) := h.call (balloc (Below.refl _ _) o)
theorem Tw.drewN (h : Tw w0 g cs s w) (n : Nat) : Tw w0 g cs s (w.drewN n) := ⟨h.x, h.a, h.b, h.c, h.lo, bdrewN h.be n⟩
theorem bdrew {w W : World} (h : Below w.heap.size w W) : Below w.heap.size w W.drew := ⟨h.os, h.tape, h.output, h.size, h.block⟩
theorem Tw.drew (h : Tw w0 g cs s w) : Tw w0 g cs s w.drew := ⟨h.x, h.a, h.b, h.c, h.lo, bdrew h.be⟩
theorem Tw.cell (h : Tw w0 g cs s w) {b j : Nat} (hp : g + 3 < b) (v : Value) : Tw w0 g cs s (w.setCell ⟨b, j, none⟩ v) :=
  ⟨h.x.far (by show g ≠ b; omega) v, (Below.heap_setCell w _ v _ (by show g + 1 ≠ b; omega)).trans h.a, (Below.heap_setCell w _ v _ (by show g + 1 + 1 ≠ b; omega)).trans h.b, (Below.heap_setCell w _ v _ (by show g + 1 + 1 + 1 ≠ b; omega)).trans h.c, h.lo, bset h.be (by have := h.lo; omega)⟩
theorem blk_put {w : World} {b r : Nat} {t : TypeId} {cs : Array Value} (h : Blk w b t cs) (hn : b ≠ r) (o : Obj) : Blk (w.putObj r o) b t cs := (World.putObj_heap_other hn).trans h
theorem Tw.putA (h : Tw w0 g cs s w) (l : ML) : Tw w0 g cs ⟨l, s.ms, s.mn⟩ (w.putObj (g + 1) (mobj encS (toV l))) :=
  ⟨blk_put h.x (by omega) _, putObj_same h.a, (World.putObj_heap_other (by omega)).trans h.b, (World.putObj_heap_other (by omega)).trans h.c, h.lo, below_putObj h.be (by have := h.lo; omega)⟩
theorem Tw.putB (h : Tw w0 g cs s w) (l : ML) : Tw w0 g cs ⟨s.tk, l, s.mn⟩ (w.putObj (g + 1 + 1) (mobj encS (toV l))) :=
  ⟨blk_put h.x (by omega) _, (World.putObj_heap_other (by omega)).trans h.a, putObj_same h.b, (World.putObj_heap_other (by omega)).trans h.c, h.lo, below_putObj h.be (by have := h.lo; omega)⟩
theorem Tw.putC (h : Tw w0 g cs s w) (l : ML) : Tw w0 g cs ⟨s.tk, s.ms, l⟩ (w.putObj (g + 1 + 1 + 1) (mobj encS (toV l))) :=
  ⟨blk_put h.x (by omega) _, (World.putObj_heap_other (by omega)).trans h.a, (World.putObj_heap_other (by omega)).trans h.b, putObj_same h.c, h.lo, below_putObj h.be (by have := h.lo; omega)⟩
theorem Tw.putFar (h : Tw w0 g cs s w) {r : Nat} (hr : g + 3 < r) (o : Obj) : Tw w0 g cs s (w.putObj r o) :=
  ⟨blk_put h.x (by omega) _, (World.putObj_heap_other (by omega)).trans h.a, (World.putObj_heap_other (by omega)).trans h.b, (World.putObj_heap_other (by omega)).trans h.c, h.lo, below_putObj h.be (by have := h.lo; omega)⟩
theorem Tw.start (w : World) (cs : Array Value) (n : Nat) : Tw w w.heap.size cs ⟨[], [], []⟩ (((((w.alloc (.cells cs 28)).drewN n).alloc (.map #[] 0)).alloc (.map #[] 0)).alloc (.map #[] 0)) := by
  have h1 : ((w.alloc (.cells cs 28)).drewN n).heap.size = w.heap.size + 1 := World.size_alloc ..
  refine ⟨((((Blk.new w 28 cs).drewN n).alloc _).alloc _).alloc _, ?_, ?_, ?_, Nat.le_refl _, balloc (balloc (balloc (bdrewN (balloc (Below.refl _ _) _) _) _) _) _⟩
  · rw [Below.heap_alloc _ _ _ (by simp [World.size_alloc]), Below.heap_alloc _ _ _ (by simp [World.size_alloc]), ← h1]; exact heap_alloc_new _ _
  · rw [Below.heap_alloc _ _ _ (by simp [World.size_alloc]), ← h1, ← World.size_alloc]; exact heap_alloc_new _ _
  · rw [← h1, ← World.size_alloc, ← World.size_alloc]; exact heap_alloc_new _ _
end
def ensI (l : ML) (x : Spot) : ML := if getM (toV l) x = none then l ++ [(x, 0)] else l
theorem toV_ens (l : ML) (x : Spot) : ensM (toV l) x (.int .i64 0) = toV (ensI l x) := by
  unfold ensM ensI
  split
  · simp [toV]
  · rfl
theorem getI_ens (l : ML) (x : Spot) : getI (ensI l x) x = getI l x := by
  have h := get_ens (toV l) x x (.int .i64 0)
  rw [toV_ens, toV_get, toV_get] at h
  exact (Value.int.injEq .. ▸ h).2
theorem okM_ens {l : ML} {x : Spot} (h : okM l) (hx : okS x) : okM (ensI l x) := by
  unfold okM
  rw [← toV_ens]
  exact goodM_ens h hx _
def InE (w' : World) (m : Nat) (l : ML) (x : Spot) : Prop := w'.heap[m]? = some (mobj encS (toV l)) ∨ w'.heap[m]? = some (mobj encS (toV (ensI l x)))
theorem zero_i (W : World) : (zeroValue 3).run Try.prog W = .ok (.int .i64 0) W := by go_simp
theorem look_one {w' : World} {m : Nat} {l : ML} {x : Spot} (h : w'.heap[m]? = some (mobj encS (toV l))) (hl : okM l) (hx : okS x) :
    (Instr.lookup 121 (.map (some m)) (encS x) false).run Try.prog w' = .ok (.int .i64 (getI l x)) w' := by
  rw [← toV_get]
  exact run_lookM keyS Try.underlying121 (zero_i _) h hl hx
theorem look_run {w' : World} {m : Nat} {l : ML} {x : Spot} (h : InE w' m l x) (hl : okM l) (hx : okS x) :
    (Instr.lookup 121 (.map (some m)) (encS x) false).run Try.prog w' = .ok (.int .i64 (getI l x)) w' := by
  rcases h with h | h
  · exact look_one h hl hx
  · rw [look_one h (okM_ens hl hx) hx, getI_ens]
theorem ent_run {W : World} {m : Nat} {l : ML} {x : Spot} (h : W.heap[m]? = some (mobj encS (toV l))) (hl : okM l) (hx : okS x) :
    (Instr.mapEntry 121 (.map (some m)) (encS x)).run Try.prog W = .ok (.tuple #[.int .i64 (getI l x), goInt (idxM (toV l) x : Nat)]) (W.putObj m (mobj encS (toV (ensI l x)))) := by
  rw [← toV_get, ← toV_ens]
  exact run_entM keyS Try.underlying121 (zero_i _) h hl hx
theorem sto_run {W : World} {m : Nat} {l : ML} {x : Spot} (h : W.heap[m]? = some (mobj encS (toV (ensI l x)))) (hl : okM l) (v : Int) :
    (Instr.entryStore 121 (.map (some m)) (goInt (idxM (toV l) x : Nat)) (.int .i64 v)).run Try.prog W = .ok () (W.putObj m (mobj encS (toV (putI l x v)))) := by
  rw [← toV_put]
  rw [← toV_ens] at h
  exact run_stoM h hl.2 _
theorem upd_run {W : World} {m : Nat} {l : ML} {x : Spot} (h : W.heap[m]? = some (mobj encS (toV l))) (hl : okM l) (hx : okS x) (v : Int) :
    (Instr.mapUpdate 121 (.map (some m)) (encS x) (.int .i64 v)).run Try.prog W = .ok () (W.putObj m (mobj encS (toV (putI l x v)))) := by
  rw [← toV_put]
  exact run_putM keyS Try.underlying121 h hl hx _
theorem nodup_le : ∀ (L : Nat) (l : List Nat), l.Nodup → (∀ i ∈ l, i < L) → l.length ≤ L
  | 0, [], _, _ => Nat.le_refl _
  | 0, a :: r, _, h => absurd (h a (by simp)) (by omega)
  | L + 1, l, hn, h => by
    have h1 := nodup_le L (l.erase L) (hn.erase L) (fun i hi => by
      have h2 := (hn.mem_erase_iff).1 hi
      have h3 := h i h2.2
      have h4 : i ≠ L := h2.1
      omega)
    rw [List.length_erase] at h1
    split at h1 <;> omega
theorem seen_lt {seen : Array Nat} {L j : Nat} (hnd : seen.toList.Nodup) (hl : ∀ i ∈ seen, i < L) (hj : j < L) (hn : j ∉ seen) : seen.size < L := by
  have h1 : (seen.toList ++ [j]).Nodup := List.nodup_append.2 ⟨hnd, by simp, fun a ha b hb e => hn (by rw [List.mem_singleton.1 hb] at e; rw [← e]; simpa using ha)⟩
  have h2 : ∀ i ∈ seen.toList ++ [j], i < L := by
    intro i hi
    rcases List.mem_append.1 hi with h | h
    · exact hl i (by simpa using h)
    · rw [List.mem_singleton.1 h]; exact hj
  have h3 := nodup_le L _ h1 h2
  simp at h3
  omega
structure OkT (s : TS) : Prop where
  a : okM s.tk
  b : okM s.ms
  c : okM s.mn
def finM : Option TS → Bool
  | none => false
  | some s => lastM s
theorem mayM_fin (bad sh : Nat → Bool) (ps : List PS) : mayM bad sh ps = finM (runM bad sh ps ps.length 0 ⟨[], [], []⟩) := by unfold mayM finM; rfl
def badB (n0 : Nat) (st : Bool) (p : PS) : Bool := !(decide (¬ p.f0 < -1) && decide (¬ p.f0 ≥ n0) && decide (¬ p.f3 > 1) && decide (¬ p.f4 > 1) && (p.f3 == p.f4 || sharedB p.f5) && withinB p.f1 99999 && withinB p.f2 99999 && st)
theorem rd_mem35 (l : List PS) (k : Nat) (h : k < l.length) : rd_T35 l (k : Int) ∈ l := by
  unfold rd_T35
  rw [Int.toNat_natCast, List.getD_eq_getElem?_getD, List.getElem?_eq_getElem h]
  exact List.getElem_mem h
set_option linter.unusedSimpArgs false
set_option linter.unusedVariables false
set_option maxRecDepth 100000
set_option maxHeartbeats 8000000
theorem may_main (A0 : Option Addr) (c0 : Nat) (l0 : List S97) (A1 : Option Addr) (c1 : Nat) (l1 : List S35) (a2 a3 a4 a5 a6 : Int) (A7 : Option Addr) (n7 c7 : Nat) (a8 a9 : Bool) (w : World) (hr : Kd.C k35 w A1 l1.length l1) (hw : ∀ p ∈ l1, okS (spotOf p) ∧ okS (roomOf p) ∧ 0 ≤ p.f4 ∧ 0 ≤ p.f3) (st : Nat → Bool)
    (hst : ∀ i : Nat, i < l1.length → ∀ w', Below w.heap.size w w' → Calls Try.prog 95 #[.agg #[.slice A0 l0.length c0, .slice A1 l1.length c1, .int .i64 a2, .int .i64 a3, .int .i64 a4, .int .u8 a5, .int .i64 a6, .slice A7 n7 c7, .bool a8, .bool a9], .int .i64 (i : Int)] w' fun e w'' => e = .returned (.bool (st i)) ∧ Below w'.heap.size w' w'')
    (h : headB a2 a3 a4 a5 l1.length = true) :
    Calls Try.prog 41 #[.agg #[.slice A0 l0.length c0, .slice A1 l1.length c1, .int .i64 a2, .int .i64 a3, .int .i64 a4, .int .u8 a5, .int .i64 a6, .slice A7 n7 c7, .bool a8, .bool a9]] w fun e w' => e = .returned (.bool (mayM (fun i : Nat => badB l0.length (st i) (rd_T35 l1 (i : Int))) (fun i : Nat => sharedB (rd_T35 l1 (i : Int)).f5) l1)) ∧ Below w.heap.size w w' := by
  obtain ⟨bad, hbad⟩ : ∃ b : Nat → Bool, (fun i : Nat => badB l0.length (st i) (rd_T35 l1 (i : Int))) = b := ⟨_, rfl⟩
  obtain ⟨sh, hsh⟩ : ∃ b : Nat → Bool, (fun i : Nat => sharedB (rd_T35 l1 (i : Int)).f5) = b := ⟨_, rfl⟩
  rw [hbad, hsh, mayM_fin]
  obtain ⟨R, hR⟩ : ∃ R, runM bad sh l1 l1.length 0 ⟨[], [], []⟩ = R := ⟨_, rfl⟩
  rw [hR]
  have HR := Lib.hid hr
  have HW := Lib.hid hw
  have HST := Lib.hid hst
  have HBAD := Lib.hid hbad
  have HSH := Lib.hid hsh
  have HRR := Lib.hid hR
  clear hr hw hst hbad hsh hR
  obtain ⟨h2, h3, h4, h5, h6⟩ : withinB a2 99999 = true ∧ withinB a3 99999 = true ∧ ¬ a4 < 1 ∧ ¬ a5 > 1 ∧ ¬ (l1.length : Int) > 144 := by
    unfold headB at h
    simp only [Bool.and_eq_true, decide_eq_true_eq] at h
    exact ⟨h.1.1.1.1, h.1.1.1.2, h.1.1.2, h.1.2, h.2⟩
  clear h
  have HL := Lib.hid (show l1.length ≤ 144 by omega)
  have e4 : decide (a4 < 1) = false := decide_eq_false h4
  have e5 : decide (a5 > 1) = false := decide_eq_false h5
  have e6 : (144 < l1.length) = False := eq_false (by omega)
  have e7 : decide ((l1.length : Int) > 144) = false := decide_eq_false h6
  have mmk : ∀ W : World, (Instr.makeMap 121 none).run Try.prog W = .ok (.map (some W.heap.size)) (W.alloc (.map #[] 0)) := fun W => run_makeMap_plain (w := W) 121
  clear h4 h5 h6
  go_enter Try.func41, Try.ntmps41
  go_wp2_with (go_at_call 93; refine (within_v _ _ _).mono ?_; rintro e wx ⟨rfl, m, rfl⟩)
  obtain ⟨g, hg⟩ : ∃ g, w.heap.size = g := ⟨_, rfl⟩
  rw [hg]
  go_loopg [45] l1.length (fun gg s45 wr => ∃ (kk : Nat) (s : TS), kk ≤ l1.length ∧ l1.length - kk ≤ gg ∧ s45 = .int .i64 kk ∧ Aside0 (Tw w g #[.slice A0 l0.length c0, .slice A1 l1.length c1, .int .i64 a2, .int .i64 a3, .int .i64 a4, .int .u8 a5, .int .i64 a6, .slice A7 n7 c7, .bool a8, .bool a9] s wr) ∧ Aside0 (OkT s) ∧ Aside0 (runM bad sh l1 (l1.length - kk) kk s = R))
  case atStart => exact ⟨0, ⟨[], [], []⟩, Nat.zero_le _, by omega, rfl, ⟨hg ▸ Tw.start _ _ _⟩, ⟨⟨okM_nil, okM_nil, okM_nil⟩⟩, ⟨HRR.out⟩⟩
  case round =>
    have HG := Lib.hid hg
    clear hg
    clear HRR h2 h3 e4 e5 e6 e7 mmk
    obtain ⟨kk, s, hkk, hgg, rfl, HT, HO, HRR⟩ := hrel
    by_cases hlt : kk < l1.length
    rotate_left
    · have h3 : (kk < l1.length) = False := eq_false hlt
      have hRs : R = some s := by rw [← HRR.out, show l1.length - kk = 0 by omega]; rfl
      have HRS := Lib.hid hRs
      have hran := run_ranM (P := Try.prog) Try.underlying121 HT.out.b
      have HT1 := Lib.hid (HT.out.alloc (.mapIter (some (g + 1 + 1)) (toV s.ms).length #[] (toV s.ms).length))
      have hit : (wr.alloc (.mapIter (some (g + 1 + 1)) (toV s.ms).length #[] (toV s.ms).length)).heap[wr.heap.size]? = some (.mapIter (some (g + 1 + 1)) (toV s.ms).length #[] (toV s.ms).length) := heap_alloc_new _ _
      have HIT := Lib.hid hit
      obtain ⟨r, hr⟩ : ∃ r, wr.heap.size = r := ⟨_, rfl⟩
      have hgr : g + 3 < r := hr ▸ HT.out.lt
      have HGR := Lib.hid hgr
      have HO1 := Lib.hid HO.out
      have HR1 := Lib.hid hr
      clear hRs hit hr hgr HT HO HRR hlt
      go_wp2_with fail
      clear hran
      rw [HR1.out] at HIT ⊢
      obtain ⟨W1, hW1⟩ : ∃ W, wr.alloc (.mapIter (some (g + 1 + 1)) (toV s.ms).length #[] (toV s.ms).length) = W := ⟨_, rfl⟩
      rw [hW1] at HT1 HIT ⊢
      clear HR1 hW1 h3
      go_loopg [] (toV s.ms).length (fun gg wq => ∃ seen : Array Nat, seen.toList.Nodup ∧ Aside0 (∀ j ∈ seen, j < (toV s.ms).length) ∧ Aside0 ((toV s.ms).length - seen.size ≤ gg) ∧ Aside0 (∀ j ∈ seen, ∀ p, s.ms[j]? = some p → p.2 < getI s.mn p.1) ∧ Aside0 (Tw w g #[.slice A0 l0.length c0, .slice A1 l1.length c1, .int .i64 a2, .int .i64 a3, .int .i64 a4, .int .u8 a5, .int .i64 a6, .slice A7 n7 c7, .bool a8, .bool a9] s wq) ∧ Aside0 (wq.heap[r]? = some (.mapIter (some (g + 1 + 1)) (toV s.ms).length seen (toV s.ms).length)))
      case atStart => exact ⟨#[], List.nodup_nil, ⟨by simp⟩, ⟨by simp⟩, ⟨by simp⟩, ⟨HT1.out⟩, ⟨HIT.out⟩⟩
      case round =>
        clear HT1 HIT
        obtain ⟨seen, hnd, HLT, HME, HAL, HT, HIT⟩ := hrel
        rcases run_nexM (P := Try.prog) HT.out.b HIT.out 0 with ⟨hall, w1, hw1, hrun⟩ | ⟨j, x, v, hj, hns, w1, hw1, hrun⟩
        · have hlast : lastM s = true := by
            unfold lastM
            rw [List.all_eq_true]
            intro p hp
            obtain ⟨j, hjl, hj⟩ := List.mem_iff_getElem.1 hp
            exact decide_eq_true (HAL.out j (hall j (by rw [toV_length]; exact hjl)) p (by rw [List.getElem?_eq_getElem hjl, hj]))
          have hfin : finM R = true := by rw [HRS.out]; exact hlast
          have HFIN := Lib.hid hfin
          have hbe : Below w.heap.size w w1 := by rcases hw1 with rfl | rfl <;> first | exact HT.out.be | exact bdrew HT.out.be
          have HBE := Lib.hid hbe
          clear hfin hlast hbe hall hw1
          go_wp2_with fail
          go_ret
          exact ⟨congrArg (fun b => Ending.returned (Value.bool b)) HFIN.out.symm, HBE.out⟩
        · obtain ⟨u, hu, rfl⟩ := toV_at hj
          have hT1 : Tw w g #[.slice A0 l0.length c0, .slice A1 l1.length c1, .int .i64 a2, .int .i64 a3, .int .i64 a4, .int .u8 a5, .int .i64 a6, .slice A7 n7 c7, .bool a8, .bool a9] s w1 := by rcases hw1 with rfl | rfl <;> first | exact HT.out | exact HT.out.drew
          have hi1 : w1.heap[r]? = some (.mapIter (some (g + 1 + 1)) (toV s.ms).length seen (toV s.ms).length) := by rcases hw1 with rfl | rfl <;> exact HIT.out
          have hT2 := hT1.putFar HGR.out (.mapIter (some (g + 1 + 1)) (toV s.ms).length (seen.push j) (toV s.ms).length)
          have hi2 : (w1.putObj r (.mapIter (some (g + 1 + 1)) (toV s.ms).length (seen.push j) (toV s.ms).length)).heap[r]? = some (.mapIter (some (g + 1 + 1)) (toV s.ms).length (seen.push j) (toV s.ms).length) := putObj_same hi1
          have hent := run_entrM (P := Try.prog) hT2.b hi2 hj
          have hox : okS x := HO1.out.b.1 (x, .int .i64 u) (List.mem_of_getElem? hj)
          obtain ⟨W2, hW2⟩ : ∃ W, w1.putObj r (.mapIter (some (g + 1 + 1)) (toV s.ms).length (seen.push j) (toV s.ms).length) = W := ⟨_, rfl⟩
          rw [hW2] at hT2 hi2 hent hrun
          clear hT1 hi1 hw1 hW2
          obtain ⟨x0, x1, x2⟩ := x
          have HT2 := Lib.hid hT2
          have HI2 := Lib.hid hi2
          have HU := Lib.hid hu
          have HOX := Lib.hid hox
          have HNS := Lib.hid hns
          have HJ := Lib.hid hj
          have hent2 := hent
          have hrun2 := hrun
          unfold encS at hent2 hrun2
          dsimp only at hent2 hrun2
          clear hT2 hi2 hu hox hns hj hent hrun
          go_upto_region 23 with (fail)
          have hT3 := HT2.out.alloc (.cells #[.int .u8 x0, .int .u8 x1, .int .i64 x2] 123)
          have hB3 := Blk.new W2 123 #[.int .u8 x0, .int .u8 x1, .int .i64 x2]
          have hi3 : (W2.alloc (.cells #[.int .u8 x0, .int .u8 x1, .int .i64 x2] 123)).heap[r]? = some (.mapIter (some (g + 1 + 1)) (toV s.ms).length (seen.push j) (toV s.ms).length) := (Below.heap_alloc W2 _ r (lt_of HI2.out)).trans HI2.out
          obtain ⟨q, hq⟩ : ∃ q, W2.heap.size = q := ⟨_, rfl⟩
          rw [hq] at hB3 ⊢
          obtain ⟨W3, hW3⟩ : ∃ W, W2.alloc (.cells #[.int .u8 x0, .int .u8 x1, .int .i64 x2] 123) = W := ⟨_, rfl⟩
          rw [hW3] at hT3 hB3 hi3 ⊢
          have HT3 := Lib.hid hT3
          have HI3 := Lib.hid hi3
          have b_c := hB3.cell
          have hlk : (Instr.lookup 121 (.map (some (g + 1 + 1 + 1))) (.agg #[.int .u8 x0, .int .u8 x1, .int .i64 x2]) false).run Try.prog W3 = .ok (.int .i64 (getI s.mn (x0, x1, x2))) W3 := look_one hT3.c HO1.out.c HOX.out
          clear hT3 hB3 hi3 hq hW3 hent2 hrun2 HT2 HI2
          obtain ⟨n, hn⟩ : ∃ n, getI s.mn (x0, x1, x2) = n := ⟨_, rfl⟩
          rw [hn] at hlk
          have HN := Lib.hid hn
          clear hn
          by_cases hge : u ≥ n
          · have e1 : (n ≤ u) = True := eq_true hge
            have e2 : decide (u ≥ n) = true := decide_eq_true hge
            have hlast : lastM s = false := by
              unfold lastM
              rw [List.all_eq_false]
              exact ⟨((x0, x1, x2), u), List.mem_of_getElem? HU.out, by rw [HN.out]; exact fun h => absurd (of_decide_eq_true h) (Int.not_lt.2 hge)⟩
            have hfin : finM R = false := by rw [HRS.out]; exact hlast
            have HFIN := Lib.hid hfin
            clear hfin hlast hge
            go_wp2_with fail
            go_ret
            exact ⟨congrArg (fun b => Ending.returned (Value.bool b)) HFIN.out.symm, HT3.out.be⟩
          · have e1 : (n ≤ u) = False := eq_false hge
            have e2 : decide (u ≥ n) = false := decide_eq_false hge
            have hlt : u < n := by omega
            have HLT2 := Lib.hid hlt
            clear hge hlt
            go_wp2_with fail
            have hjl : j < (toV s.ms).length := (List.getElem?_eq_some_iff.1 HJ.out).1
            have hsz : seen.size < (toV s.ms).length := seen_lt hnd HLT.out hjl HNS.out
            go_roundg ((toV s.ms).length - (seen.size + 1))
            case measure => have := HME.out; omega
            case rel =>
              refine ⟨seen.push j, ?_, ⟨?_⟩, ⟨?_⟩, ⟨?_⟩, ⟨HT3.out⟩, ⟨HI3.out⟩⟩
              · simp only [Array.toList_push]
                exact List.nodup_append.2 ⟨hnd, by simp, fun a ha b hb e => HNS.out (by rw [List.mem_singleton.1 hb] at e; rw [← e]; simpa using ha)⟩
              · intro i hi
                rcases Array.mem_push.1 hi with h | h
                · exact HLT.out i h
                · rw [h]; exact hjl
              · simp
              · intro i hi p hp
                rcases Array.mem_push.1 hi with h | h
                · exact HAL.out i h p hp
                · rw [h, HU.out] at hp
                  cases hp
                  show u < getI s.mn (x0, x1, x2)
                  rw [HN.out]
                  exact HLT2.out
    · have e1 : (kk < l1.length) = True := eq_true hlt
      have hk0 : (0 : Int) ≤ (kk : Int) := Int.natCast_nonneg _
      obtain ⟨ad, hA1, d0, d1, d2, d3, d4, d5, d6, d7, d8, d9, d10, d11, d12, d13⟩ := at_T35 (Kd.C_below HR.out HT.out.be) (kk : Int) hk0 (Int.ofNat_lt.2 hlt)
      simp only [Int.toNat_natCast] at d0 d1 d2 d3 d4 d5 d6 d7 d8 d9 d10 d11 d12 d13
      obtain ⟨p, hp⟩ : ∃ p, rd_T35 l1 (kk : Int) = p := ⟨_, rfl⟩
      have hpw := HW.out p (hp ▸ rd_mem35 l1 kk hlt)
      have hbd : bad kk = badB l0.length (st kk) p := by rw [← hp]; exact (congrFun HBAD.out kk).symm
      have hsd : sh kk = sharedB p.f5 := by rw [← hp]; exact (congrFun HSH.out kk).symm
      rw [hp] at d0 d1 d2 d3 d4 d5 d6 d7 d8 d9 d10 d11 d12 d13
      have hrun := HRR.out
      obtain ⟨d, hd⟩ : ∃ d, l1.length - kk = d + 1 := ⟨l1.length - kk - 1, by omega⟩
      rw [hd] at hrun
      unfold runM at hrun
      rw [hp] at hrun
      have HP := Lib.hid hp
      have HPW := Lib.hid hpw
      have HBD := Lib.hid hbd
      have HSD := Lib.hid hsd
      have HRN := Lib.hid hrun
      have HD := Lib.hid hd
      have HA1 := Lib.hid hA1
      clear hp hpw hbd hsd hrun hd HRR
      obtain ⟨p0, p1, p2, p3, p4, p5, p6, p7, p8, p9, p10, p11, p12, p13⟩ := p
      dsimp only at d0 d1 d2 d3 d4 d5 d6 d7 d8 d9 d10 d11 d12 d13 HPW HBD HSD
      subst hA1
      go_upto_region 7 with (fail)
      have hT1 := HT.out.alloc (.cells #[.int .i64 p0, .int .i64 p1, .int .i64 p2, .int .u8 p3, .int .u8 p4, .int .u8 p5, .int .i64 p6, .bool p7, .bool p8, .int .i64 p9, .int .u8 p10, .bool p11, .bool p12, .int .i64 p13] 35)
      have hP1 := Blk.new wr 35 #[.int .i64 p0, .int .i64 p1, .int .i64 p2, .int .u8 p3, .int .u8 p4, .int .u8 p5, .int .i64 p6, .bool p7, .bool p8, .int .i64 p9, .int .u8 p10, .bool p11, .bool p12, .int .i64 p13]
      obtain ⟨b, hb⟩ : ∃ b, wr.heap.size = b := ⟨_, rfl⟩
      have hgb : g + 3 < b := hb ▸ HT.out.lt
      rw [hb] at hP1 ⊢
      obtain ⟨W1, hW1⟩ : ∃ W, wr.alloc (.cells #[.int .i64 p0, .int .i64 p1, .int .i64 p2, .int .u8 p3, .int .u8 p4, .int .u8 p5, .int .i64 p6, .bool p7, .bool p8, .int .i64 p9, .int .u8 p10, .bool p11, .bool p12, .int .i64 p13] 35) = W := ⟨_, rfl⟩
      rw [hW1] at hT1 hP1 ⊢
      have HT1 := Lib.hid hT1
      have HP1 := Lib.hid hP1
      have HGB := Lib.hid hgb
      clear d0 d1 d2 d3 d4 d5 d6 d7 d8 d9 d10 d11 d12 d13 hT1 hP1 hW1 hb HT hgb
      go_cut [101] (fun v101 wc => v101 = .bool (bad kk) ∧ Aside0 (Tw w g #[.slice A0 l0.length c0, .slice (some ad) l1.length c1, .int .i64 a2, .int .i64 a3, .int .i64 a4, .int .u8 a5, .int .i64 a6, .slice A7 n7 c7, .bool a8, .bool a9] s wc) ∧ Aside0 (Blk wc b 35 #[.int .i64 p0, .int .i64 p1, .int .i64 p2, .int .u8 p3, .int .u8 p4, .int .u8 p5, .int .i64 p6, .bool p7, .bool p8, .int .i64 p9, .int .u8 p10, .bool p11, .bool p12, .int .i64 p13]))
      case first =>
        have c_c := HT1.out.x.cell
        have q_c := HP1.out.cell
        by_cases ha : p0 < -1
        · have ea : decide (p0 < -1) = true := decide_eq_true ha
          have hv : bad kk = true := by rw [HBD.out]; unfold badB; simp [ha]
          clear ha
          go_wp2_with (first | (go_at_call 93; refine (within_v _ _ _).mono ?_; rintro e wx ⟨rfl, m, rfl⟩) | (go_at_call 88; refine (shared_v _ _).mono ?_; rintro e wx ⟨rfl, m, rfl⟩) | (go_at_call 95; refine (HST.out kk hlt _ (by repeat (first | exact HT1.out.be | refine bdrewN ?_ _ | refine balloc ?_ _))).mono ?_; rintro e wx ⟨rfl, hB⟩))
          go_meet
          case rel => exact ⟨by rw [hv], ⟨by repeat (first | exact HT1.out | refine Tw.drewN ?_ _ | refine Tw.call ?_ (by assumption))⟩, ⟨by repeat (first | exact HP1.out | refine Blk.drewN ?_ _ | refine Blk.after ?_ (by assumption))⟩⟩
        have ea : decide (p0 < -1) = false := decide_eq_false ha
        by_cases hb : p0 ≥ (l0.length : Int)
        · have eb : decide (p0 ≥ (l0.length : Int)) = true := decide_eq_true hb
          have hv : bad kk = true := by rw [HBD.out]; unfold badB; simp [ha, hb]
          clear ha hb
          go_wp2_with (first | (go_at_call 93; refine (within_v _ _ _).mono ?_; rintro e wx ⟨rfl, m, rfl⟩) | (go_at_call 88; refine (shared_v _ _).mono ?_; rintro e wx ⟨rfl, m, rfl⟩) | (go_at_call 95; refine (HST.out kk hlt _ (by repeat (first | exact HT1.out.be | refine bdrewN ?_ _ | refine balloc ?_ _))).mono ?_; rintro e wx ⟨rfl, hB⟩))
          go_meet
          case rel => exact ⟨by rw [hv], ⟨by repeat (first | exact HT1.out | refine Tw.drewN ?_ _ | refine Tw.call ?_ (by assumption))⟩, ⟨by repeat (first | exact HP1.out | refine Blk.drewN ?_ _ | refine Blk.after ?_ (by assumption))⟩⟩
        have eb : decide (p0 ≥ (l0.length : Int)) = false := decide_eq_false hb
        by_cases hc : p3 > 1
        · have ec : decide (p3 > 1) = true := decide_eq_true hc
          have hv : bad kk = true := by rw [HBD.out]; unfold badB; simp [ha, hb, hc]
          clear ha hb hc
          go_wp2_with (first | (go_at_call 93; refine (within_v _ _ _).mono ?_; rintro e wx ⟨rfl, m, rfl⟩) | (go_at_call 88; refine (shared_v _ _).mono ?_; rintro e wx ⟨rfl, m, rfl⟩) | (go_at_call 95; refine (HST.out kk hlt _ (by repeat (first | exact HT1.out.be | refine bdrewN ?_ _ | refine balloc ?_ _))).mono ?_; rintro e wx ⟨rfl, hB⟩))
          go_meet
          case rel => exact ⟨by rw [hv], ⟨by repeat (first | exact HT1.out | refine Tw.drewN ?_ _ | refine Tw.call ?_ (by assumption))⟩, ⟨by repeat (first | exact HP1.out | refine Blk.drewN ?_ _ | refine Blk.after ?_ (by assumption))⟩⟩
        have ec : decide (p3 > 1) = false := decide_eq_false hc
        by_cases hd : p4 > 1
        · have ed : decide (p4 > 1) = true := decide_eq_true hd
          have hv : bad kk = true := by rw [HBD.out]; unfold badB; simp [ha, hb, hc, hd]
          clear ha hb hc hd
          go_wp2_with (first | (go_at_call 93; refine (within_v _ _ _).mono ?_; rintro e wx ⟨rfl, m, rfl⟩) | (go_at_call 88; refine (shared_v _ _).mono ?_; rintro e wx ⟨rfl, m, rfl⟩) | (go_at_call 95; refine (HST.out kk hlt _ (by repeat (first | exact HT1.out.be | refine bdrewN ?_ _ | refine balloc ?_ _))).mono ?_; rintro e wx ⟨rfl, hB⟩))
          go_meet
          case rel => exact ⟨by rw [hv], ⟨by repeat (first | exact HT1.out | refine Tw.drewN ?_ _ | refine Tw.call ?_ (by assumption))⟩, ⟨by repeat (first | exact HP1.out | refine Blk.drewN ?_ _ | refine Blk.after ?_ (by assumption))⟩⟩
        have ed : decide (p4 > 1) = false := decide_eq_false hd
        by_cases hq : p3 = p4
        · have eq1 : (p3 == p4) = true := beq_iff_eq.2 hq
          have eq2 : (p3 != p4) = false := by rw [bne, eq1]; rfl
          cases gx : withinB p1 99999 with
          | false =>
            have hv : bad kk = true := by rw [HBD.out]; unfold badB; simp [ha, hb, hc, hd, eq1, gx]
            clear ha hb hc hd
            go_wp2_with (first | (go_at_call 93; refine (within_v _ _ _).mono ?_; rintro e wx ⟨rfl, m, rfl⟩) | (go_at_call 88; refine (shared_v _ _).mono ?_; rintro e wx ⟨rfl, m, rfl⟩) | (go_at_call 95; refine (HST.out kk hlt _ (by repeat (first | exact HT1.out.be | refine bdrewN ?_ _ | refine balloc ?_ _))).mono ?_; rintro e wx ⟨rfl, hB⟩))
            go_meet
            case rel => exact ⟨by rw [hv], ⟨by repeat (first | exact HT1.out | refine Tw.drewN ?_ _ | refine Tw.call ?_ (by assumption))⟩, ⟨by repeat (first | exact HP1.out | refine Blk.drewN ?_ _ | refine Blk.after ?_ (by assumption))⟩⟩
          | true =>
            cases gy : withinB p2 99999 with
            | false =>
              have hv : bad kk = true := by rw [HBD.out]; unfold badB; simp [ha, hb, hc, hd, eq1, gx, gy]
              clear ha hb hc hd
              go_wp2_with (first | (go_at_call 93; refine (within_v _ _ _).mono ?_; rintro e wx ⟨rfl, m, rfl⟩) | (go_at_call 88; refine (shared_v _ _).mono ?_; rintro e wx ⟨rfl, m, rfl⟩) | (go_at_call 95; refine (HST.out kk hlt _ (by repeat (first | exact HT1.out.be | refine bdrewN ?_ _ | refine balloc ?_ _))).mono ?_; rintro e wx ⟨rfl, hB⟩))
              go_meet
              case rel => exact ⟨by rw [hv], ⟨by repeat (first | exact HT1.out | refine Tw.drewN ?_ _ | refine Tw.call ?_ (by assumption))⟩, ⟨by repeat (first | exact HP1.out | refine Blk.drewN ?_ _ | refine Blk.after ?_ (by assumption))⟩⟩
            | true =>
              cases gz : st kk with
              | false =>
                have hv : bad kk = true := by rw [HBD.out]; unfold badB; simp [ha, hb, hc, hd, eq1, gx, gy, gz]
                clear ha hb hc hd
                go_wp2_with (first | (go_at_call 93; refine (within_v _ _ _).mono ?_; rintro e wx ⟨rfl, m, rfl⟩) | (go_at_call 88; refine (shared_v _ _).mono ?_; rintro e wx ⟨rfl, m, rfl⟩) | (go_at_call 95; refine (HST.out kk hlt _ (by repeat (first | exact HT1.out.be | refine bdrewN ?_ _ | refine balloc ?_ _))).mono ?_; rintro e wx ⟨rfl, hB⟩))
                go_meet
                case rel => exact ⟨by rw [hv], ⟨by repeat (first | exact HT1.out | refine Tw.drewN ?_ _ | refine Tw.call ?_ (by assumption))⟩, ⟨by repeat (first | exact HP1.out | refine Blk.drewN ?_ _ | refine Blk.after ?_ (by assumption))⟩⟩
              | true =>
                have hv : bad kk = false := by rw [HBD.out]; unfold badB; simp [ha, hb, hc, hd, eq1, gx, gy, gz]
                clear ha hb hc hd
                go_wp2_with (first | (go_at_call 93; refine (within_v _ _ _).mono ?_; rintro e wx ⟨rfl, m, rfl⟩) | (go_at_call 88; refine (shared_v _ _).mono ?_; rintro e wx ⟨rfl, m, rfl⟩) | (go_at_call 95; refine (HST.out kk hlt _ (by repeat (first | exact HT1.out.be | refine bdrewN ?_ _ | refine balloc ?_ _))).mono ?_; rintro e wx ⟨rfl, hB⟩))
                go_meet
                case rel => exact ⟨by rw [hv], ⟨by repeat (first | exact HT1.out | refine Tw.drewN ?_ _ | refine Tw.call ?_ (by assumption))⟩, ⟨by repeat (first | exact HP1.out | refine Blk.drewN ?_ _ | refine Blk.after ?_ (by assumption))⟩⟩
        · have eq1 : (p3 == p4) = false := beq_eq_false_iff_ne.2 hq
          have eq2 : (p3 != p4) = true := by rw [bne, eq1]; rfl
          cases gs : sharedB p5 with
          | false =>
            have hv : bad kk = true := by rw [HBD.out]; unfold badB; simp [ha, hb, hc, hd, eq1, gs]
            clear ha hb hc hd
            go_wp2_with (first | (go_at_call 93; refine (within_v _ _ _).mono ?_; rintro e wx ⟨rfl, m, rfl⟩) | (go_at_call 88; refine (shared_v _ _).mono ?_; rintro e wx ⟨rfl, m, rfl⟩) | (go_at_call 95; refine (HST.out kk hlt _ (by repeat (first | exact HT1.out.be | refine bdrewN ?_ _ | refine balloc ?_ _))).mono ?_; rintro e wx ⟨rfl, hB⟩))
            go_meet
            case rel => exact ⟨by rw [hv], ⟨by repeat (first | exact HT1.out | refine Tw.drewN ?_ _ | refine Tw.call ?_ (by assumption))⟩, ⟨by repeat (first | exact HP1.out | refine Blk.drewN ?_ _ | refine Blk.after ?_ (by assumption))⟩⟩
          | true =>
            cases gx : withinB p1 99999 with
            | false =>
              have hv : bad kk = true := by rw [HBD.out]; unfold badB; simp [ha, hb, hc, hd, eq1, gs, gx]
              clear ha hb hc hd
              go_wp2_with (first | (go_at_call 93; refine (within_v _ _ _).mono ?_; rintro e wx ⟨rfl, m, rfl⟩) | (go_at_call 88; refine (shared_v _ _).mono ?_; rintro e wx ⟨rfl, m, rfl⟩) | (go_at_call 95; refine (HST.out kk hlt _ (by repeat (first | exact HT1.out.be | refine bdrewN ?_ _ | refine balloc ?_ _))).mono ?_; rintro e wx ⟨rfl, hB⟩))
              go_meet
              case rel => exact ⟨by rw [hv], ⟨by repeat (first | exact HT1.out | refine Tw.drewN ?_ _ | refine Tw.call ?_ (by assumption))⟩, ⟨by repeat (first | exact HP1.out | refine Blk.drewN ?_ _ | refine Blk.after ?_ (by assumption))⟩⟩
            | true =>
              cases gy : withinB p2 99999 with
              | false =>
                have hv : bad kk = true := by rw [HBD.out]; unfold badB; simp [ha, hb, hc, hd, eq1, gs, gx, gy]
                clear ha hb hc hd
                go_wp2_with (first | (go_at_call 93; refine (within_v _ _ _).mono ?_; rintro e wx ⟨rfl, m, rfl⟩) | (go_at_call 88; refine (shared_v _ _).mono ?_; rintro e wx ⟨rfl, m, rfl⟩) | (go_at_call 95; refine (HST.out kk hlt _ (by repeat (first | exact HT1.out.be | refine bdrewN ?_ _ | refine balloc ?_ _))).mono ?_; rintro e wx ⟨rfl, hB⟩))
                go_meet
                case rel => exact ⟨by rw [hv], ⟨by repeat (first | exact HT1.out | refine Tw.drewN ?_ _ | refine Tw.call ?_ (by assumption))⟩, ⟨by repeat (first | exact HP1.out | refine Blk.drewN ?_ _ | refine Blk.after ?_ (by assumption))⟩⟩
              | true =>
                cases gz : st kk with
                | false =>
                  have hv : bad kk = true := by rw [HBD.out]; unfold badB; simp [ha, hb, hc, hd, eq1, gs, gx, gy, gz]
                  clear ha hb hc hd
                  go_wp2_with (first | (go_at_call 93; refine (within_v _ _ _).mono ?_; rintro e wx ⟨rfl, m, rfl⟩) | (go_at_call 88; refine (shared_v _ _).mono ?_; rintro e wx ⟨rfl, m, rfl⟩) | (go_at_call 95; refine (HST.out kk hlt _ (by repeat (first | exact HT1.out.be | refine bdrewN ?_ _ | refine balloc ?_ _))).mono ?_; rintro e wx ⟨rfl, hB⟩))
                  go_meet
                  case rel => exact ⟨by rw [hv], ⟨by repeat (first | exact HT1.out | refine Tw.drewN ?_ _ | refine Tw.call ?_ (by assumption))⟩, ⟨by repeat (first | exact HP1.out | refine Blk.drewN ?_ _ | refine Blk.after ?_ (by assumption))⟩⟩
                | true =>
                  have hv : bad kk = false := by rw [HBD.out]; unfold badB; simp [ha, hb, hc, hd, eq1, gs, gx, gy, gz]
                  clear ha hb hc hd
                  go_wp2_with (first | (go_at_call 93; refine (within_v _ _ _).mono ?_; rintro e wx ⟨rfl, m, rfl⟩) | (go_at_call 88; refine (shared_v _ _).mono ?_; rintro e wx ⟨rfl, m, rfl⟩) | (go_at_call 95; refine (HST.out kk hlt _ (by repeat (first | exact HT1.out.be | refine bdrewN ?_ _ | refine balloc ?_ _))).mono ?_; rintro e wx ⟨rfl, hB⟩))
                  go_meet
                  case rel => exact ⟨by rw [hv], ⟨by repeat (first | exact HT1.out | refine Tw.drewN ?_ _ | refine Tw.call ?_ (by assumption))⟩, ⟨by repeat (first | exact HP1.out | refine Blk.drewN ?_ _ | refine Blk.after ?_ (by assumption))⟩⟩
      case rest =>
        obtain ⟨rfl, HT2, HP2⟩ := hcut
        clear HT1 HP1 HST HBD
        have hbk2 : bad kk = true ∨ bad kk = false := by cases bad kk <;> simp
        obtain hbk | hbk := hbk2
        · rw [hbk] at HRN ⊢
          have hfin : finM R = false := by rw [← HRN.out]; rfl
          have HFIN := Lib.hid hfin
          clear hbk hfin
          go_wp2_with fail
          go_ret
          exact ⟨congrArg (fun b => Ending.returned (Value.bool b)) HFIN.out.symm, HT2.out.be⟩
        · rw [hbk] at HRN ⊢
          have c_c := HP2.out.cell
          go_upto_region 10 with (fail)
          have hT3 := HT2.out.alloc (.cells #[.int .u8 p4, .int .u8 p5, .int .i64 p6] 123)
          have hP3 := HP2.out.alloc (.cells #[.int .u8 p4, .int .u8 p5, .int .i64 p6] 123)
          have hS3 := Blk.new wc 123 #[.int .u8 p4, .int .u8 p5, .int .i64 p6]
          obtain ⟨c, hc⟩ : ∃ c, wc.heap.size = c := ⟨_, rfl⟩
          have hbc : b < c := hc ▸ HP2.out.lt
          rw [hc] at hS3 ⊢
          obtain ⟨W3, hW3⟩ : ∃ W, wc.alloc (.cells #[.int .u8 p4, .int .u8 p5, .int .i64 p6] 123) = W := ⟨_, rfl⟩
          rw [hW3] at hT3 hP3 hS3 ⊢
          have HT3 := Lib.hid hT3
          have HP3 := Lib.hid hP3
          have HS3 := Lib.hid hS3
          have HBC := Lib.hid hbc
          clear hT3 hP3 hS3 hW3 hc HT2 HP2 c_c hbk hbc
          obtain ⟨z, hz⟩ : ∃ z, (if p5 = 6 then 0 else p4) = z := ⟨_, rfl⟩
          have hsp : spotOf (⟨p0, p1, p2, p3, p4, p5, p6, p7, p8, p9, p10, p11, p12, p13⟩ : PS) = (z, p5, p6) := by rw [← hz]; rfl
          have hrm : roomOf (⟨p0, p1, p2, p3, p4, p5, p6, p7, p8, p9, p10, p11, p12, p13⟩ : PS) = (p4, p5, 0) := rfl
          rw [hsp, hrm] at HPW
          have HSP := Lib.hid hsp
          have HZ := Lib.hid hz
          clear hsp hrm hz
          have q_c := HP3.out.cell
          go_upto_if 111 with (fail)
          go_cut [] (fun wd => Aside0 (Tw w g #[.slice A0 l0.length c0, .slice (some ad) l1.length c1, .int .i64 a2, .int .i64 a3, .int .i64 a4, .int .u8 a5, .int .i64 a6, .slice A7 n7 c7, .bool a8, .bool a9] s wd) ∧ Aside0 (Blk wd b 35 #[.int .i64 p0, .int .i64 p1, .int .i64 p2, .int .u8 p3, .int .u8 p4, .int .u8 p5, .int .i64 p6, .bool p7, .bool p8, .int .i64 p9, .int .u8 p10, .bool p11, .bool p12, .int .i64 p13]) ∧ Aside0 (Blk wd c 123 #[.int .u8 z, .int .u8 p5, .int .i64 p6]))
          case first =>
            by_cases h6 : p5 = 6
            · have e6 : (p5 == 6) = true := beq_iff_eq.2 h6
              have s_f := HS3.out.frozen
              have s_c := HS3.out.cell
              have hz : z = 0 := by rw [← HZ.out, if_pos h6]
              clear h6
              subst hz
              go_wp2_with fail
              go_meet
              case rel => exact ⟨⟨HT3.out.cell (by have := HGB.out; have := HBC.out; omega) _⟩, ⟨HP3.out.far (by show b ≠ c; have := HBC.out; omega) _⟩, ⟨(HS3.out.set_ 0 _).to (by simp only [List.setIfInBounds_toArray, List.set_cons_zero])⟩⟩
            · have e6 : (p5 == 6) = false := beq_eq_false_iff_ne.2 h6
              have hz : z = p4 := by rw [← HZ.out, if_neg h6]
              clear h6
              subst hz
              go_wp2_with fail
              go_meet
              case rel => exact ⟨⟨HT3.out⟩, ⟨HP3.out⟩, ⟨HS3.out⟩⟩
          case rest =>
            obtain ⟨HT4, HP4, HS4⟩ := hcut
            clear HT3 HP3 HS3 q_c
            have q_c := HP4.out.cell
            have s_c := HS4.out.cell
            by_cases h7 : p5 = 7
            · have e7 : (p5 == 7) = true := beq_iff_eq.2 h7
              have hnext := HRN.out
              unfold stepM at hnext
              rw [if_neg (by decide), if_pos (show ((⟨p0, p1, p2, p3, p4, p5, p6, p7, p8, p9, p10, p11, p12, p13⟩ : PS)).f5 = 7 from h7)] at hnext
              have HNEXT := Lib.hid hnext
              clear h7 hnext
              go_wp2_with fail
              go_roundg (l1.length - (kk + 1))
              case measure => omega
              have eN : wrap64 ((kk : Int) + 1) = ((kk + 1 : Nat) : Int) := by have := HL.out; unfold wrap64; omega
              case rel => exact ⟨kk + 1, s, by omega, by omega, (by first | exact congrArg (Value.int .i64) eN | exact congrArg (Value.int .i64) (by omega)), ⟨HT4.out⟩, ⟨HO.out⟩, ⟨by rw [show l1.length - (kk + 1) = d from by have := HD.out; omega]; exact HNEXT.out⟩⟩
            · have e7 : (p5 == 7) = false := beq_eq_false_iff_ne.2 h7
              have hlk : (Instr.lookup 121 (.map (some (g + 1))) (encS (z, p5, p6)) false).run Try.prog wc = .ok (.int .i64 (getI s.tk (z, p5, p6))) wc := look_one HT4.out.a HO.out.a HPW.out.1
              have hlk2 := hlk
              unfold encS at hlk2
              dsimp only at hlk2
              by_cases hg0 : 0 < getI s.tk (z, p5, p6)
              · have hfin : finM R = false := by
                  rw [← HRN.out]
                  unfold stepM
                  rw [if_neg (by decide), if_neg (show ¬ ((⟨p0, p1, p2, p3, p4, p5, p6, p7, p8, p9, p10, p11, p12, p13⟩ : PS)).f5 = 7 from h7), HSP.out, if_pos hg0]
                  rfl
                have HFIN := Lib.hid hfin
                have e9 : (0 < getI s.tk (z, p5, p6)) = True := eq_true hg0
                have e10 : decide (getI s.tk (z, p5, p6) > 0) = true := decide_eq_true hg0
                have hbe := HT4.out.be
                have HBE := Lib.hid hbe
                clear hfin hg0 hbe h7
                go_wp2_with fail
                go_ret
                exact ⟨congrArg (fun b => Ending.returned (Value.bool b)) HFIN.out.symm, HBE.out⟩
              · have e9 : (0 < getI s.tk (z, p5, p6)) = False := eq_false hg0
                have e10 : decide (getI s.tk (z, p5, p6) > 0) = false := decide_eq_false hg0
                have hnx := HRN.out
                unfold stepM at hnx
                rw [if_neg (by decide), if_neg (show ¬ ((⟨p0, p1, p2, p3, p4, p5, p6, p7, p8, p9, p10, p11, p12, p13⟩ : PS)).f5 = 7 from h7), HSP.out, if_neg hg0, HSD.out] at hnx
                have HNX := Lib.hid hnx
                clear hnx hg0 h7 HRN
                go_upto_region 15 with (fail)
                clear hlk hlk2 s_c q_c
                have hent := ent_run (m := g + 1) (W := wc.drew) (l := s.tk) (x := (z, p5, p6)) HT4.out.a HO.out.a HPW.out.1
                have HENT := Lib.hid hent
                clear hent
                refine start_ (n := 7) (S := (fun w' => Blk w' c 123 #[.int .u8 z, .int .u8 p5, .int .i64 p6] ∧ InE w' (g + 1) s.tk (z, p5, p6))) (ds := [6]) #[false, false, false, false, false, false, false] (by kernel_rfl) rfl (by kernel_rfl) ⟨HS4.out.drew, .inl HT4.out.drew.a⟩ (fun hHeld => ?_)
                refine pure_ (i := 0) (N := some 120) (v := ?_) (a' := ?_) #[true, false, false, false, false, false, false] rfl rfl (by kernel_rfl) (fun _ _ _ h => h) (Or.inl ⟨by rfl, ?_⟩) ?_ ?_
                rotate_left
                · intro w'
                  go_simp
                  with_reducible rfl
                rotate_left
                · simp only [Act.put, List.setIfInBounds_toArray, List.set_cons_zero, List.set_cons_succ]
                  rfl
                refine take_ (i := 1) (N := some 121) (v := ?_) (a' := ?_) #[true, true, false, false, false, false, false] rfl rfl (by kernel_rfl) (fun _ _ _ h => h) (Or.inl ⟨by rfl, ?_⟩) hHeld ?_ ?_
                rotate_left
                · rintro w' ⟨hB, hD⟩
                  have s0 := hB.cell 0
                  have s1 := hB.cell 1
                  have s2 := hB.cell 2
                  simp only [List.getElem?_toArray, List.getElem?_cons_zero, List.getElem?_cons_succ] at s0 s1 s2
                  go_simp
                  with_reducible rfl
                rotate_left
                · simp only [Act.put, List.setIfInBounds_toArray, List.set_cons_zero, List.set_cons_succ]
                  rfl
                refine take_ (i := 2) (N := some 122) (v := ?_) (a' := ?_) #[true, true, true, false, false, false, false] rfl rfl (by kernel_rfl) (fun _ _ _ h => h) (Or.inl ⟨by rfl, ?_⟩) hHeld ?_ ?_
                rotate_left
                · rintro w' ⟨hB, hD⟩
                  have hlk : (Instr.lookup 121 (.map (some (g + 1))) (.agg #[.int .u8 z, .int .u8 p5, .int .i64 p6]) false).run Try.prog w' = .ok (.int .i64 (getI s.tk (z, p5, p6))) w' := look_run (w' := w') hD HO.out.a HPW.out.1
                  go_simp
                  with_reducible rfl
                rotate_left
                · simp only [Act.put, List.setIfInBounds_toArray, List.set_cons_zero, List.set_cons_succ]
                  rfl
                refine pure_ (i := 3) (N := some 123) (v := ?_) (a' := ?_) #[true, true, true, true, false, false, false] rfl rfl (by kernel_rfl) (fun _ _ _ h => h) (Or.inl ⟨by rfl, ?_⟩) ?_ ?_
                rotate_left
                · intro w'
                  go_simp
                  with_reducible rfl
                rotate_left
                · simp only [Act.put, List.setIfInBounds_toArray, List.set_cons_zero, List.set_cons_succ]
                  rfl
                refine one_ (i := 4) (N := some 124) #[true, true, true, true, true, false, false] rfl rfl (by kernel_rfl) (by simp) (fun K hK => ?_)
                rw [if_pos (by rfl)]
                have hent : (Instr.mapEntry 121 (.map (some (g + 1))) (.agg #[.int .u8 z, .int .u8 p5, .int .i64 p6])).run Try.prog wc.drew = .ok (.tuple #[.int .i64 (getI s.tk (z, p5, p6)), goInt (idxM (toV s.tk) (z, p5, p6) : Nat)]) (wc.drew.putObj (g + 1) (mobj encS (toV (ensI s.tk (z, p5, p6))))) := HENT.out
                go_simp
                clear hent
                refine hK.out _ _ ⟨blk_put HS4.out.drew (by have := HGB.out; have := HBC.out; omega) _, .inr (putObj_same HT4.out.drew.a)⟩ (fun hHeld => ?_)
                clear hK K
                refine pure_ (i := 5) (N := some 125) (v := ?_) (a' := ?_) #[true, true, true, true, true, true, false] rfl rfl (by kernel_rfl) (fun _ _ _ h => h) (Or.inl ⟨by rfl, ?_⟩) ?_ ?_
                rotate_left
                · intro w'
                  go_simp
                  with_reducible rfl
                rotate_left
                · simp only [Act.put, List.setIfInBounds_toArray, List.set_cons_zero, List.set_cons_succ]
                  rfl
                refine last_ (i := 6) (N := none) #[true, true, true, true, true, true, true] rfl rfl (by kernel_rfl) (by simp) (fun K hK => ?_)
                rw [if_pos (by rfl)]
                have hsto : (Instr.entryStore 121 (.map (some (g + 1))) (.int .i64 ((idxM (toV s.tk) (z, p5, p6) : Nat) : Int)) (.int .i64 (IntKind.i64.wrap (getI s.tk (z, p5, p6) + 1)))).run Try.prog (wc.drew.putObj (g + 1) (mobj encS (toV (ensI s.tk (z, p5, p6))))) = .ok () ((wc.drew.putObj (g + 1) (mobj encS (toV (ensI s.tk (z, p5, p6))))).putObj (g + 1) (mobj encS (toV (putI s.tk (z, p5, p6) (wrap64 (getI s.tk (z, p5, p6) + 1)))))) := by
                  rw [IntWalk.i64_left]
                  exact sto_run (m := g + 1) (l := s.tk) (x := (z, p5, p6)) (putObj_same HT4.out.drew.a) HO.out.a _
                go_simp
                clear hsto
                refine hK.out _ _ ?_
                clear hK K
                refine done_ (by kernel_rfl) ?_
                have hT5 := (HT4.out.drew.putA (ensI s.tk (z, p5, p6))).putA (putI s.tk (z, p5, p6) (wrap64 (getI s.tk (z, p5, p6) + 1)))
                have hP5 := blk_put (r := g + 1) (blk_put (r := g + 1) HP4.out.drew (by have := HGB.out; omega) (mobj encS (toV (ensI s.tk (z, p5, p6))))) (by have := HGB.out; omega) (mobj encS (toV (putI s.tk (z, p5, p6) (wrap64 (getI s.tk (z, p5, p6) + 1)))))
                have hS5 := blk_put (r := g + 1) (blk_put (r := g + 1) HS4.out.drew (by have := HGB.out; have := HBC.out; omega) (mobj encS (toV (ensI s.tk (z, p5, p6))))) (by have := HGB.out; have := HBC.out; omega) (mobj encS (toV (putI s.tk (z, p5, p6) (wrap64 (getI s.tk (z, p5, p6) + 1)))))
                dsimp only at hT5
                obtain ⟨t5, ht5⟩ : ∃ t, putI s.tk (z, p5, p6) (wrap64 (getI s.tk (z, p5, p6) + 1)) = t := ⟨_, rfl⟩
                have hk5 : okM t5 := ht5 ▸ okM_put HO.out.a HPW.out.1 _
                rw [ht5] at hT5 hP5 hS5 ⊢
                have hnx := HNX.out
                rw [ht5] at hnx
                have HNX2 := Lib.hid hnx
                generalize ((wc.drew.putObj (g + 1) (mobj encS (toV (ensI s.tk (z, p5, p6))))).putObj (g + 1) (mobj encS (toV t5))) = W5 at hT5 hP5 hS5 ⊢
                have HT5 := Lib.hid hT5
                have HP5 := Lib.hid hP5
                have HS5 := Lib.hid hS5
                have HK5 := Lib.hid hk5
                clear hHeld HT4 HP4 HS4 HNX HENT hnx ht5 hT5 hP5 hS5 hk5 e9 e10
                have q_c := HP5.out.cell
                have s_c := HS5.out.cell
                have s_f := HS5.out.frozen
                have hsv := HSD.out
                cases gs : sharedB p5 with
                | true =>
                  have hnx := HNX2.out
                  rw [gs] at hnx
                  dsimp only [if_true] at hnx
                  have HNEXT := Lib.hid hnx
                  clear hnx hsv
                  go_wp2_with (go_at_call 88; refine (shared_v _ _).mono ?_; rintro e wx ⟨rfl, m, rfl⟩)
                  go_roundg (l1.length - (kk + 1))
                  case measure => omega
                  have eN : wrap64 ((kk : Int) + 1) = ((kk + 1 : Nat) : Int) := by have := HL.out; unfold wrap64; omega
                  case rel => exact ⟨kk + 1, ⟨t5, s.ms, s.mn⟩, by omega, by omega, (by first | exact congrArg (Value.int .i64) eN | exact congrArg (Value.int .i64) (by omega)), ⟨(HT5.out.drewN _)⟩, ⟨⟨HK5.out, HO.out.b, HO.out.c⟩⟩, ⟨by rw [show l1.length - (kk + 1) = d from by have := HD.out; omega]; exact HNEXT.out⟩⟩
                | false =>
                  have hz6 : p5 ≠ 6 := by intro h; rw [h] at gs; cases gs
                  have hzp : z = p4 := by rw [← HZ.out, if_neg hz6]
                  have hnx := HNX2.out
                  rw [gs] at hnx
                  rw [if_neg (by decide), show roomOf (⟨p0, p1, p2, p3, p4, p5, p6, p7, p8, p9, p10, p11, p12, p13⟩ : PS) = (p4, p5, 0) from rfl] at hnx
                  have HNX3 := Lib.hid hnx
                  clear hnx hz6 hsv HNX2
                  subst hzp
                  go_upto_region 18 with (go_at_call 88; refine (shared_v _ _).mono ?_; rintro e wx ⟨rfl, mq, rfl⟩)
                  have hT6 := (HT5.out.drewN mq).cell (b := c) (j := 2) (by have := HGB.out; have := HBC.out; omega) (.int .i64 0)
                  have hP6 := (HP5.out.drewN mq).far (p := ⟨c, 2, none⟩) (by show b ≠ c; have := HBC.out; omega) (.int .i64 0)
                  have hS6 : Blk ((W5.drewN mq).setCell ⟨c, 2, none⟩ (.int .i64 0)) c 123 #[.int .u8 z, .int .u8 p5, .int .i64 0] := ((HS5.out.drewN mq).set_ 2 (.int .i64 0)).to (by simp only [List.setIfInBounds_toArray, List.set_cons_zero, List.set_cons_succ])
                  generalize ((W5.drewN mq).setCell ⟨c, 2, none⟩ (.int .i64 0)) = W6 at hT6 hP6 hS6 ⊢
                  have HT6 := Lib.hid hT6.drew
                  have HP6 := Lib.hid hP6.drew
                  have HS6 := Lib.hid hS6.drew
                  clear q_c s_c s_f hT6 hP6 hS6 HT5 HP5 HS5
                  obtain ⟨W7, hW7⟩ : ∃ W, W6.drew = W := ⟨_, rfl⟩
                  have hB7 : Blk W6.drew c 123 #[.int .u8 z, .int .u8 p5, .int .i64 0] ∧ Blk W6.drew b 35 #[.int .i64 p0, .int .i64 p1, .int .i64 p2, .int .u8 p3, .int .u8 z, .int .u8 p5, .int .i64 p6, .bool p7, .bool p8, .int .i64 p9, .int .u8 p10, .bool p11, .bool p12, .int .i64 p13] ∧ W6.drew.heap[g + 1 + 1 + 1]? = some (mobj encS (toV s.mn)) := ⟨HS6.out, HP6.out, HT6.out.c⟩
                  rw [hW7] at HT6 HP6 HS6
                  have hlm := look_one HT6.out.b HO.out.b HPW.out.2.1
                  have hle := look_one (putObj_same (o' := mobj encS (toV (ensI s.ms (z, p5, 0)))) HT6.out.b) (okM_ens HO.out.b HPW.out.2.1) HPW.out.2.1
                  rw [getI_ens] at hle
                  have hent := ent_run (W := W7) HT6.out.b HO.out.b HPW.out.2.1
                  have hsto := fun v => sto_run (putObj_same (o' := mobj encS (toV (ensI s.ms (z, p5, 0)))) HT6.out.b) HO.out.b v
                  have hT7 := fun v => (HT6.out.putB (ensI s.ms (z, p5, 0))).putB (putI s.ms (z, p5, 0) v)
                  have hupd := fun v v2 => upd_run (hT7 v).c HO.out.c HPW.out.2.1 v2
                  have HT8 := Lib.hid (fun v v2 => (hT7 v).putC (putI s.mn (z, p5, 0) v2))
                  have HLM := Lib.hid hlm
                  have HLE := Lib.hid hle
                  have HENT := Lib.hid hent
                  have HSTO := Lib.hid hsto
                  have HUPD := Lib.hid hupd
                  have HW7 := Lib.hid hW7
                  clear hlm hle hent hsto hT7 hupd hW7
                  obtain ⟨n1, hn1⟩ : ∃ n, getI s.ms (z, p5, 0) = n := ⟨_, rfl⟩
                  rw [hn1] at HLM HLE HENT HNX3
                  obtain ⟨n2, hn2⟩ : ∃ n, getI s.mn (z, p5, 0) = n := ⟨_, rfl⟩
                  have HN2 := Lib.hid hn2
                  rw [hn2] at HNX3
                  clear hn1 hn2
                  refine start_ (n := 18) (S := (fun w' => Blk w' c 123 #[.int .u8 z, .int .u8 p5, .int .i64 0] ∧ Blk w' b 35 #[.int .i64 p0, .int .i64 p1, .int .i64 p2, .int .u8 p3, .int .u8 z, .int .u8 p5, .int .i64 p6, .bool p7, .bool p8, .int .i64 p9, .int .u8 p10, .bool p11, .bool p12, .int .i64 p13] ∧ w'.heap[g + 1 + 1 + 1]? = some (mobj encS (toV s.mn)))) (ds := [17]) #[false, false, false, false, false, false, false, false, false, false, false, false, false, false, false, false, false, false] (by kernel_rfl) rfl (by kernel_rfl) hB7 (fun hHeld => ?_)
                  refine pure_ (i := 0) (N := some 131) (v := ?_) (a' := ?_) #[true, false, false, false, false, false, false, false, false, false, false, false, false, false, false, false, false, false] rfl rfl (by kernel_rfl) (fun _ _ _ h => h) (Or.inl ⟨by rfl, ?_⟩) ?_ ?_
                  rotate_left
                  · intro w'
                    go_simp
                    with_reducible rfl
                  rotate_left
                  · simp only [Act.put, List.setIfInBounds_toArray, List.set_cons_zero, List.set_cons_succ]
                    rfl
                  refine pure_ (i := 2) (N := some 133) (v := ?_) (a' := ?_) #[true, false, true, false, false, false, false, false, false, false, false, false, false, false, false, false, false, false] rfl rfl (by kernel_rfl) (fun _ _ _ h => h) (Or.inl ⟨by rfl, ?_⟩) ?_ ?_
                  rotate_left
                  · intro w'
                    go_simp
                    with_reducible rfl
                  rotate_left
                  · simp only [Act.put, List.setIfInBounds_toArray, List.set_cons_zero, List.set_cons_succ]
                    rfl
                  refine pure_ (i := 4) (N := some 135) (v := ?_) (a' := ?_) #[true, false, true, false, true, false, false, false, false, false, false, false, false, false, false, false, false, false] rfl rfl (by kernel_rfl) (fun _ _ _ h => h) (Or.inl ⟨by rfl, ?_⟩) ?_ ?_
                  rotate_left
                  · intro w'
                    go_simp
                    with_reducible rfl
                  rotate_left
                  · simp only [Act.put, List.setIfInBounds_toArray, List.set_cons_zero, List.set_cons_succ]
                    rfl
                  refine pure_ (i := 7) (N := some 138) (v := ?_) (a' := ?_) #[true, false, true, false, true, false, false, true, false, false, false, false, false, false, false, false, false, false] rfl rfl (by kernel_rfl) (fun _ _ _ h => h) (Or.inl ⟨by rfl, ?_⟩) ?_ ?_
                  rotate_left
                  · intro w'
                    go_simp
                    with_reducible rfl
                  rotate_left
                  · simp only [Act.put, List.setIfInBounds_toArray, List.set_cons_zero, List.set_cons_succ]
                    rfl
                  refine pure_ (i := 10) (N := some 141) (v := ?_) (a' := ?_) #[true, false, true, false, true, false, false, true, false, false, true, false, false, false, false, false, false, false] rfl rfl (by kernel_rfl) (fun _ _ _ h => h) (Or.inl ⟨by rfl, ?_⟩) ?_ ?_
                  rotate_left
                  · intro w'
                    go_simp
                    with_reducible rfl
                  rotate_left
                  · simp only [Act.put, List.setIfInBounds_toArray, List.set_cons_zero, List.set_cons_succ]
                    rfl
                  refine take_ (i := 1) (N := some 132) (v := ?_) (a' := ?_) #[true, true, true, false, true, false, false, true, false, false, true, false, false, false, false, false, false, false] rfl rfl (by kernel_rfl) (fun _ _ _ h => h) (Or.inl ⟨by rfl, ?_⟩) hHeld ?_ ?_
                  rotate_left
                  · rintro w' ⟨hB, hC, hD⟩
                    have s0 := hB.cell 0
                    have s1 := hB.cell 1
                    have s2 := hB.cell 2
                    simp only [List.getElem?_toArray, List.getElem?_cons_zero, List.getElem?_cons_succ] at s0 s1 s2
                    go_simp
                    with_reducible rfl
                  rotate_left
                  · simp only [Act.put, List.setIfInBounds_toArray, List.set_cons_zero, List.set_cons_succ]
                    rfl
                  refine take_ (i := 3) (N := some 134) (v := ?_) (a' := ?_) #[true, true, true, true, true, false, false, true, false, false, true, false, false, false, false, false, false, false] rfl rfl (by kernel_rfl) (fun _ _ _ h => h) (Or.inl ⟨by rfl, ?_⟩) hHeld ?_ ?_
                  rotate_left
                  · rintro w' ⟨hB, hC, hD⟩
                    have s0 := hB.cell 0
                    have s1 := hB.cell 1
                    have s2 := hB.cell 2
                    simp only [List.getElem?_toArray, List.getElem?_cons_zero, List.getElem?_cons_succ] at s0 s1 s2
                    go_simp
                    with_reducible rfl
                  rotate_left
                  · simp only [Act.put, List.setIfInBounds_toArray, List.set_cons_zero, List.set_cons_succ]
                    rfl
                  refine take_ (i := 5) (N := some 136) (v := ?_) (a' := ?_) #[true, true, true, true, true, true, false, true, false, false, true, false, false, false, false, false, false, false] rfl rfl (by kernel_rfl) (fun _ _ _ h => h) (Or.inl ⟨by rfl, ?_⟩) hHeld ?_ ?_
                  rotate_left
                  · rintro w' ⟨hB, hC, hD⟩
                    have s0 := hB.cell 0
                    have s1 := hB.cell 1
                    have s2 := hB.cell 2
                    simp only [List.getElem?_toArray, List.getElem?_cons_zero, List.getElem?_cons_succ] at s0 s1 s2
                    go_simp
                    with_reducible rfl
                  rotate_left
                  · simp only [Act.put, List.setIfInBounds_toArray, List.set_cons_zero, List.set_cons_succ]
                    rfl
                  refine take_ (i := 11) (N := some 142) (v := ?_) (a' := ?_) #[true, true, true, true, true, true, false, true, false, false, true, true, false, false, false, false, false, false] rfl rfl (by kernel_rfl) (fun _ _ _ h => h) (Or.inl ⟨by rfl, ?_⟩) hHeld ?_ ?_
                  rotate_left
                  · rintro w' ⟨hB, hC, hD⟩
                    have s0 := hB.cell 0
                    have s1 := hB.cell 1
                    have s2 := hB.cell 2
                    simp only [List.getElem?_toArray, List.getElem?_cons_zero, List.getElem?_cons_succ] at s0 s1 s2
                    go_simp
                    with_reducible rfl
                  rotate_left
                  · simp only [Act.put, List.setIfInBounds_toArray, List.set_cons_zero, List.set_cons_succ]
                    rfl
                  refine take_ (i := 8) (N := some 139) (v := ?_) (a' := ?_) #[true, true, true, true, true, true, false, true, true, false, true, true, false, false, false, false, false, false] rfl rfl (by kernel_rfl) (fun _ _ _ h => h) (Or.inl ⟨by rfl, ?_⟩) hHeld ?_ ?_
                  rotate_left
                  · rintro w' ⟨hB, hC, hD⟩
                    have s6 := hC.cell 6
                    simp only [List.getElem?_toArray, List.getElem?_cons_zero, List.getElem?_cons_succ] at s6
                    go_simp
                    with_reducible rfl
                  rotate_left
                  · simp only [Act.put, List.setIfInBounds_toArray, List.set_cons_zero, List.set_cons_succ]
                    rfl
                  refine take_ (i := 12) (N := some 143) (v := ?_) (a' := ?_) #[true, true, true, true, true, true, false, true, true, false, true, true, true, false, false, false, false, false] rfl rfl (by kernel_rfl) (fun _ _ _ h => h) (Or.inl ⟨by rfl, ?_⟩) hHeld ?_ ?_
                  rotate_left
                  · rintro w' ⟨hB, hC, hD⟩
                    have hlk : (Instr.lookup 121 (.map (some (g + 1 + 1 + 1))) (.agg #[.int .u8 z, .int .u8 p5, .int .i64 0]) false).run Try.prog w' = .ok (.int .i64 n2) w' := by
                      rw [← HN2.out]
                      exact look_one hD HO.out.c HPW.out.2.1
                    go_simp
                    with_reducible rfl
                  rotate_left
                  · simp only [Act.put, List.setIfInBounds_toArray, List.set_cons_zero, List.set_cons_succ]
                    rfl
                  refine pure_ (i := 13) (N := some 144) (v := ?_) (a' := ?_) #[true, true, true, true, true, true, false, true, true, false, true, true, true, true, false, false, false, false] rfl rfl (by kernel_rfl) (fun _ _ _ h => h) (Or.inl ⟨by rfl, ?_⟩) ?_ ?_
                  rotate_left
                  · intro w'
                    go_simp
                    with_reducible rfl
                  rotate_left
                  · simp only [Act.put, List.setIfInBounds_toArray, List.set_cons_zero, List.set_cons_succ]
                    rfl
                  rw [HW7.out] at hHeld ⊢
                  obtain ⟨hh1, hh2, hh3⟩ := hHeld
                  have HH1 := Lib.hid hh1
                  have HH2 := Lib.hid hh2
                  have HH3 := Lib.hid hh3
                  clear hh1 hh2 hh3
                  refine two_ (i := 6) (j := 14) (Ni := some 137) (Nj := some 145) #[true, true, true, true, true, true, true, true, true, false, true, true, true, true, false, false, false, false] #[true, true, true, true, true, true, false, true, true, false, true, true, true, true, true, false, false, false] rfl rfl rfl rfl (by kernel_rfl) (by simp) (by simp) (fun K hK => ?_) (fun K hK => ?_)
                  · rw [if_pos (by rfl)]
                    have hlk : (Instr.lookup 121 (.map (some (g + 1 + 1))) (.agg #[.int .u8 z, .int .u8 p5, .int .i64 0]) false).run Try.prog W7 = .ok (.int .i64 n1) W7 := HLM.out
                    go_simp
                    clear hlk
                    refine hK.out _ _ ⟨HH1.out, HH2.out, HH3.out⟩ (fun hHeld => ?_)
                    clear hK K hHeld
                    refine pure_ (i := 9) (N := some 140) (v := ?_) (a' := ?_) #[true, true, true, true, true, true, true, true, true, true, true, true, true, true, false, false, false, false] rfl rfl (by kernel_rfl) (fun _ _ _ h => h) (Or.inl ⟨by rfl, ?_⟩) ?_ ?_
                    rotate_left
                    · intro w'
                      go_simp
                      with_reducible rfl
                    rotate_left
                    · simp only [Act.put, List.setIfInBounds_toArray, List.set_cons_zero, List.set_cons_succ]
                      rfl
                    refine one_ (i := 14) (N := some 145) #[true, true, true, true, true, true, true, true, true, true, true, true, true, true, true, false, false, false] rfl rfl (by kernel_rfl) (by simp) (fun K hK => ?_)
                    rw [if_pos (by rfl)]
                    have hent : (Instr.mapEntry 121 (.map (some (g + 1 + 1))) (.agg #[.int .u8 z, .int .u8 p5, .int .i64 0])).run Try.prog W7 = .ok (.tuple #[.int .i64 n1, (.int .i64 ((idxM (toV s.ms) (z, p5, 0) : Nat) : Int))]) (W7.putObj (g + 1 + 1) (mobj encS (toV (ensI s.ms (z, p5, 0))))) := HENT.out
                    go_simp
                    clear hent
                    refine hK.out _ _ ⟨blk_put HH1.out (by have := HGB.out; have := HBC.out; omega) _, blk_put HH2.out (by have := HGB.out; have := HBC.out; omega) _, (World.putObj_heap_other (by omega)).trans HH3.out⟩ (fun hHeld => ?_)
                    clear hK K hHeld
                    refine pure_ (i := 15) (N := some 146) (v := ?_) (a' := ?_) #[true, true, true, true, true, true, true, true, true, true, true, true, true, true, true, true, false, false] rfl rfl (by kernel_rfl) (fun _ _ _ h => h) (Or.inl ⟨by rfl, ?_⟩) ?_ ?_
                    rotate_left
                    · intro w'
                      go_simp
                      with_reducible rfl
                    rotate_left
                    · simp only [Act.put, List.setIfInBounds_toArray, List.set_cons_zero, List.set_cons_succ]
                      rfl
                    refine one_ (i := 16) (N := none) #[true, true, true, true, true, true, true, true, true, true, true, true, true, true, true, true, true, false] rfl rfl (by kernel_rfl) (by simp) (fun K hK => ?_)
                    rw [if_pos (by rfl)]
                    have hsto : (Instr.entryStore 121 (.map (some (g + 1 + 1))) (.int .i64 ((idxM (toV s.ms) (z, p5, 0) : Nat) : Int)) (.int .i64 (if n1 < p6 then p6 else n1))).run Try.prog (W7.putObj (g + 1 + 1) (mobj encS (toV (ensI s.ms (z, p5, 0))))) = .ok () ((W7.putObj (g + 1 + 1) (mobj encS (toV (ensI s.ms (z, p5, 0))))).putObj (g + 1 + 1) (mobj encS (toV (putI s.ms (z, p5, 0) (mx n1 p6))))) := HSTO.out _
                    go_simp
                    clear hsto
                    refine hK.out _ _ ⟨blk_put (blk_put HH1.out (by have := HGB.out; have := HBC.out; omega) _) (by have := HGB.out; have := HBC.out; omega) _, blk_put (blk_put HH2.out (by have := HGB.out; have := HBC.out; omega) _) (by have := HGB.out; have := HBC.out; omega) _, (World.putObj_heap_other (by omega)).trans ((World.putObj_heap_other (by omega)).trans HH3.out)⟩ (fun hHeld => ?_)
                    clear hK K hHeld
                    refine last_ (i := 17) (N := none) #[true, true, true, true, true, true, true, true, true, true, true, true, true, true, true, true, true, true] rfl rfl (by kernel_rfl) (by simp) (fun K hK => ?_)
                    rw [if_pos (by rfl)]
                    have hupd : (Instr.mapUpdate 121 (.map (some (g + 1 + 1 + 1))) (.agg #[.int .u8 z, .int .u8 p5, .int .i64 0]) (.int .i64 (IntKind.i64.wrap (n2 + 1)))).run Try.prog ((W7.putObj (g + 1 + 1) (mobj encS (toV (ensI s.ms (z, p5, 0))))).putObj (g + 1 + 1) (mobj encS (toV (putI s.ms (z, p5, 0) (mx n1 p6))))) = .ok () (((W7.putObj (g + 1 + 1) (mobj encS (toV (ensI s.ms (z, p5, 0))))).putObj (g + 1 + 1) (mobj encS (toV (putI s.ms (z, p5, 0) (mx n1 p6))))).putObj (g + 1 + 1 + 1) (mobj encS (toV (putI s.mn (z, p5, 0) (wrap64 (n2 + 1)))))) := by
                      rw [IntWalk.i64_left]
                      exact HUPD.out _ _
                    go_simp
                    clear hupd
                    refine hK.out _ _ ?_
                    clear hK K
                    refine done_ (by kernel_rfl) ?_
                    have HT9 := Lib.hid (HT8.out (mx n1 p6) (wrap64 (n2 + 1)))
                    dsimp only at HT9
                    generalize (((W7.putObj (g + 1 + 1) (mobj encS (toV (ensI s.ms (z, p5, 0))))).putObj (g + 1 + 1) (mobj encS (toV (putI s.ms (z, p5, 0) (mx n1 p6))))).putObj (g + 1 + 1 + 1) (mobj encS (toV (putI s.mn (z, p5, 0) (wrap64 (n2 + 1)))))) = W10 at HT9 ⊢
                    clear HENT HSTO HUPD HLM HLE HT8 HH1 HH2 HH3 HT6 HP6 HS6
                    generalize (if n1 < p6 then p6 else n1) = nx
                    go_wp2_with fail
                    go_roundg (l1.length - (kk + 1))
                    case measure => omega
                    have eN : wrap64 ((kk : Int) + 1) = ((kk + 1 : Nat) : Int) := by have := HL.out; unfold wrap64; omega
                    case rel => exact ⟨kk + 1, ⟨t5, putI s.ms (z, p5, 0) (mx n1 p6), putI s.mn (z, p5, 0) (wrap64 (n2 + 1))⟩, by omega, by omega, (by first | exact congrArg (Value.int .i64) eN | exact congrArg (Value.int .i64) (by omega)), ⟨HT9.out⟩, ⟨⟨HK5.out, okM_put HO.out.b HPW.out.2.1 _, okM_put HO.out.c HPW.out.2.1 _⟩⟩, ⟨by rw [show l1.length - (kk + 1) = d from by have := HD.out; omega]; exact HNX3.out⟩⟩
                  · rw [if_pos (by rfl)]
                    have hent : (Instr.mapEntry 121 (.map (some (g + 1 + 1))) (.agg #[.int .u8 z, .int .u8 p5, .int .i64 0])).run Try.prog W7 = .ok (.tuple #[.int .i64 n1, (.int .i64 ((idxM (toV s.ms) (z, p5, 0) : Nat) : Int))]) (W7.putObj (g + 1 + 1) (mobj encS (toV (ensI s.ms (z, p5, 0))))) := HENT.out
                    go_simp
                    clear hent
                    refine hK.out _ _ ⟨blk_put HH1.out (by have := HGB.out; have := HBC.out; omega) _, blk_put HH2.out (by have := HGB.out; have := HBC.out; omega) _, (World.putObj_heap_other (by omega)).trans HH3.out⟩ (fun hHeld => ?_)
                    clear hK K hHeld
                    refine pure_ (i := 15) (N := some 146) (v := ?_) (a' := ?_) #[true, true, true, true, true, true, false, true, true, false, true, true, true, true, true, true, false, false] rfl rfl (by kernel_rfl) (fun _ _ _ h => h) (Or.inl ⟨by rfl, ?_⟩) ?_ ?_
                    rotate_left
                    · intro w'
                      go_simp
                      with_reducible rfl
                    rotate_left
                    · simp only [Act.put, List.setIfInBounds_toArray, List.set_cons_zero, List.set_cons_succ]
                      rfl
                    refine one_ (i := 6) (N := some 137) #[true, true, true, true, true, true, true, true, true, false, true, true, true, true, true, true, false, false] rfl rfl (by kernel_rfl) (by simp) (fun K hK => ?_)
                    rw [if_pos (by rfl)]
                    have hlk : (Instr.lookup 121 (.map (some (g + 1 + 1))) (.agg #[.int .u8 z, .int .u8 p5, .int .i64 0]) false).run Try.prog (W7.putObj (g + 1 + 1) (mobj encS (toV (ensI s.ms (z, p5, 0))))) = .ok (.int .i64 n1) (W7.putObj (g + 1 + 1) (mobj encS (toV (ensI s.ms (z, p5, 0))))) := HLE.out
                    go_simp
                    clear hlk
                    refine hK.out _ _ ⟨blk_put HH1.out (by have := HGB.out; have := HBC.out; omega) _, blk_put HH2.out (by have := HGB.out; have := HBC.out; omega) _, (World.putObj_heap_other (by omega)).trans HH3.out⟩ (fun hHeld => ?_)
                    clear hK K hHeld
                    refine pure_ (i := 9) (N := some 140) (v := ?_) (a' := ?_) #[true, true, true, true, true, true, true, true, true, true, true, true, true, true, true, true, false, false] rfl rfl (by kernel_rfl) (fun _ _ _ h => h) (Or.inl ⟨by rfl, ?_⟩) ?_ ?_
                    rotate_left
                    · intro w'
                      go_simp
                      with_reducible rfl
                    rotate_left
                    · simp only [Act.put, List.setIfInBounds_toArray, List.set_cons_zero, List.set_cons_succ]
                      rfl
                    refine one_ (i := 16) (N := none) #[true, true, true, true, true, true, true, true, true, true, true, true, true, true, true, true, true, false] rfl rfl (by kernel_rfl) (by simp) (fun K hK => ?_)
                    rw [if_pos (by rfl)]
                    have hsto : (Instr.entryStore 121 (.map (some (g + 1 + 1))) (.int .i64 ((idxM (toV s.ms) (z, p5, 0) : Nat) : Int)) (.int .i64 (if n1 < p6 then p6 else n1))).run Try.prog (W7.putObj (g + 1 + 1) (mobj encS (toV (ensI s.ms (z, p5, 0))))) = .ok () ((W7.putObj (g + 1 + 1) (mobj encS (toV (ensI s.ms (z, p5, 0))))).putObj (g + 1 + 1) (mobj encS (toV (putI s.ms (z, p5, 0) (mx n1 p6))))) := HSTO.out _
                    go_simp
                    clear hsto
                    refine hK.out _ _ ⟨blk_put (blk_put HH1.out (by have := HGB.out; have := HBC.out; omega) _) (by have := HGB.out; have := HBC.out; omega) _, blk_put (blk_put HH2.out (by have := HGB.out; have := HBC.out; omega) _) (by have := HGB.out; have := HBC.out; omega) _, (World.putObj_heap_other (by omega)).trans ((World.putObj_heap_other (by omega)).trans HH3.out)⟩ (fun hHeld => ?_)
                    clear hK K hHeld
                    refine last_ (i := 17) (N := none) #[true, true, true, true, true, true, true, true, true, true, true, true, true, true, true, true, true, true] rfl rfl (by kernel_rfl) (by simp) (fun K hK => ?_)
                    rw [if_pos (by rfl)]
                    have hupd : (Instr.mapUpdate 121 (.map (some (g + 1 + 1 + 1))) (.agg #[.int .u8 z, .int .u8 p5, .int .i64 0]) (.int .i64 (IntKind.i64.wrap (n2 + 1)))).run Try.prog ((W7.putObj (g + 1 + 1) (mobj encS (toV (ensI s.ms (z, p5, 0))))).putObj (g + 1 + 1) (mobj encS (toV (putI s.ms (z, p5, 0) (mx n1 p6))))) = .ok () (((W7.putObj (g + 1 + 1) (mobj encS (toV (ensI s.ms (z, p5, 0))))).putObj (g + 1 + 1) (mobj encS (toV (putI s.ms (z, p5, 0) (mx n1 p6))))).putObj (g + 1 + 1 + 1) (mobj encS (toV (putI s.mn (z, p5, 0) (wrap64 (n2 + 1)))))) := by
                      rw [IntWalk.i64_left]
                      exact HUPD.out _ _
                    go_simp
                    clear hupd
                    refine hK.out _ _ ?_
                    clear hK K
                    refine done_ (by kernel_rfl) ?_
                    have HT9 := Lib.hid (HT8.out (mx n1 p6) (wrap64 (n2 + 1)))
                    dsimp only at HT9
                    generalize (((W7.putObj (g + 1 + 1) (mobj encS (toV (ensI s.ms (z, p5, 0))))).putObj (g + 1 + 1) (mobj encS (toV (putI s.ms (z, p5, 0) (mx n1 p6))))).putObj (g + 1 + 1 + 1) (mobj encS (toV (putI s.mn (z, p5, 0) (wrap64 (n2 + 1)))))) = W10 at HT9 ⊢
                    clear HENT HSTO HUPD HLM HLE HT8 HH1 HH2 HH3 HT6 HP6 HS6
                    generalize (if n1 < p6 then p6 else n1) = nx
                    go_wp2_with fail
                    go_roundg (l1.length - (kk + 1))
                    case measure => omega
                    have eN : wrap64 ((kk : Int) + 1) = ((kk + 1 : Nat) : Int) := by have := HL.out; unfold wrap64; omega
                    case rel => exact ⟨kk + 1, ⟨t5, putI s.ms (z, p5, 0) (mx n1 p6), putI s.mn (z, p5, 0) (wrap64 (n2 + 1))⟩, by omega, by omega, (by first | exact congrArg (Value.int .i64) eN | exact congrArg (Value.int .i64) (by omega)), ⟨HT9.out⟩, ⟨⟨HK5.out, okM_put HO.out.b HPW.out.2.1 _, okM_put HO.out.c HPW.out.2.1 _⟩⟩, ⟨by rw [show l1.length - (kk + 1) = d from by have := HD.out; omega]; exact HNX3.out⟩⟩
end Go.Proofs.Ytlldpdhajddmiaa.Bmay
end
section
/- A piece by itself: board.stands and joustref06.one walked; what kind it is of is taken as told. -/
namespace Go.Proofs.Ytlldpdhajddmiaa.Bmay
open Go Go.RowKit Go.Proofs.Ytlldpdhajddmiaa.Base Go.Proofs.Ytlldpdhajddmiaa.Pmga Go.Proofs.YtlldpdhajddmiaaW.PrintWords Go.Proofs.YtlldpdhajddmiaaW.PrintLast Go.Proofs.YtlldpdhajddmiaaW.PrintMore
def standsB (p : PS) (kd : Int) : Bool :=
  if p.f5 == 2 then kd == 0 && withinB p.f6 4 else if p.f5 == 3 then !(kd == 0) && withinB p.f6 4 else
  if p.f5 == 6 then kd == 0 && !(p.f0 == -1) && p.f6 == 0 else if p.f5 == 7 then p.f0 == -1 && p.f6 == 0 else
  !(p.f0 == -1) && decide (p.f5 < 7) && decide (p.f6 ≥ 0)
def oneA (n0 : Nat) (p : PS) : Bool := decide (p.f0 < -1) || decide (p.f0 ≥ n0) || decide (p.f3 > 1) || decide (p.f4 > 1) || decide (p.f5 > 7) || (!(p.f3 == p.f4) && !sharedB p.f5)
def oneC (p : PS) : Bool := decide (p.f1 < 0) || decide (p.f1 > 99999) || decide (p.f2 < 0) || decide (p.f2 > 99999)
def oneD (p : PS) (kd : Int) : Bool :=
  if p.f5 == 2 then !decide (p.f6 < 0) && !decide (p.f6 ≥ 5) && kd == 0 else if p.f5 == 3 then !decide (p.f6 < 0) && !decide (p.f6 ≥ 5) && !(kd == 0) && !(p.f0 == -1) else
  if p.f5 == 6 then p.f6 == 0 && kd == 0 && !(p.f0 == -1) else if p.f5 == 7 then p.f6 == 0 && p.f0 == -1 else !(p.f0 == -1)
def oneB (n0 : Nat) (p : PS) (kd : Int) : Bool := !oneA n0 p && !oneC p && oneD p kd
theorem rshared_v (z : Int) (w : World) : Calls Try.prog 69 #[.int .u8 z] w fun e w' => e = .returned (.bool (sharedB z)) ∧ ∃ m, w' = w.drewN m := by
  refine (joustref06_shared.calls z (sharedB z) w ?_).mono fun e w' h => (by obtain ⟨he, m, hm⟩ := h; exact ⟨he, m, hm⟩)
  unfold joustref06_shared.f sharedB
  by_cases h2 : z = 2
  · rw [if_pos h2, decide_eq_true (.inl h2)]
  by_cases h3 : z = 3
  · rw [if_neg h2, if_pos h3, decide_eq_true (.inr (.inl h3))]
  by_cases h6 : z = 6
  · rw [if_neg h2, if_neg h3, decide_eq_true (.inr (.inr h6)), beq_iff_eq.2 h6]
  · rw [if_neg h2, if_neg h3, decide_eq_false (by omega), beq_eq_false_iff_ne.2 h6]
set_option linter.unusedSimpArgs false
set_option linter.unusedVariables false
set_option maxRecDepth 100000
set_option maxHeartbeats 8000000
theorem stands_walk (A0 : Option Addr) (c0 : Nat) (l0 : List S97) (A1 : Option Addr) (c1 : Nat) (l1 : List S35) (a2 a3 a4 a5 a6 : Int) (A7 : Option Addr) (n7 c7 : Nat) (a8 a9 : Bool) (i : Nat) (w : World) (hr : Kd.C k35 w A1 l1.length l1) (hi : i < l1.length) (kd : Int)
    (hk : ∀ w', Below w.heap.size w w' → Calls Try.prog 120 #[.agg #[.slice A0 l0.length c0, .slice A1 l1.length c1, .int .i64 a2, .int .i64 a3, .int .i64 a4, .int .u8 a5, .int .i64 a6, .slice A7 n7 c7, .bool a8, .bool a9], .int .i64 (i : Int)] w' fun e w'' => e = .returned (.int .u8 kd) ∧ Below w'.heap.size w' w'') :
    Calls Try.prog 95 #[.agg #[.slice A0 l0.length c0, .slice A1 l1.length c1, .int .i64 a2, .int .i64 a3, .int .i64 a4, .int .u8 a5, .int .i64 a6, .slice A7 n7 c7, .bool a8, .bool a9], .int .i64 (i : Int)] w fun e w' => e = .returned (.bool (standsB (rd_T35 l1 (i : Int)) kd)) ∧ Below w.heap.size w w' := by
  obtain ⟨v, hv⟩ : ∃ v, standsB (rd_T35 l1 (i : Int)) kd = v := ⟨_, rfl⟩
  rw [hv]
  obtain ⟨p, hp⟩ : ∃ p, rd_T35 l1 (i : Int) = p := ⟨_, rfl⟩
  rw [hp] at hv
  have HPP := Lib.hid hp
  have HV := Lib.hid hv
  have HK := Lib.hid hk
  have HR := Lib.hid hr
  clear hk hr hv hp
  go_enter Try.func95, Try.ntmps95
  go_upto_region 1 with (fail)
  have hB0 : Below w.heap.size w (w.alloc (.cells #[.slice A0 l0.length c0, .slice A1 l1.length c1, .int .i64 a2, .int .i64 a3, .int .i64 a4, .int .u8 a5, .int .i64 a6, .slice A7 n7 c7, .bool a8, .bool a9] 28)) := balloc (Below.refl _ _) _
  have hT0 := Blk.new w 28 #[.slice A0 l0.length c0, .slice A1 l1.length c1, .int .i64 a2, .int .i64 a3, .int .i64 a4, .int .u8 a5, .int .i64 a6, .slice A7 n7 c7, .bool a8, .bool a9]
  obtain ⟨g, hg⟩ : ∃ g, w.heap.size = g := ⟨_, rfl⟩
  rw [hg] at hT0 ⊢
  obtain ⟨W0, hW0⟩ : ∃ W, w.alloc (.cells #[.slice A0 l0.length c0, .slice A1 l1.length c1, .int .i64 a2, .int .i64 a3, .int .i64 a4, .int .u8 a5, .int .i64 a6, .slice A7 n7 c7, .bool a8, .bool a9] 28) = W := ⟨_, rfl⟩
  rw [hW0] at hT0 hB0 ⊢
  have HG := Lib.hid hg
  clear hW0 hg
  have e1 : (i < l1.length) = True := eq_true hi
  have hk0 : (0 : Int) ≤ (i : Int) := Int.natCast_nonneg _
  obtain ⟨ad, hA1, d0, d1, d2, d3, d4, d5, d6, d7, d8, d9, d10, d11, d12, d13⟩ := at_T35 (Kd.C_below HR.out hB0) (i : Int) hk0 (Int.ofNat_lt.2 hi)
  simp only [Int.toNat_natCast] at d0 d1 d2 d3 d4 d5 d6 d7 d8 d9 d10 d11 d12 d13
  rw [HPP.out] at d0 d1 d2 d3 d4 d5 d6 d7 d8 d9 d10 d11 d12 d13
  have HI := Lib.hid hi
  have HA1 := Lib.hid hA1
  clear hi HPP
  obtain ⟨p0, p1, p2, p3, p4, p5, p6, p7, p8, p9, p10, p11, p12, p13⟩ := p
  dsimp only at d0 d1 d2 d3 d4 d5 d6 d7 d8 d9 d10 d11 d12 d13
  subst hA1
  have c_c := hT0.cell
  go_upto_region 2 with (fail)
  have hT1 := hT0.alloc (.cells #[.int .i64 p0, .int .i64 p1, .int .i64 p2, .int .u8 p3, .int .u8 p4, .int .u8 p5, .int .i64 p6, .bool p7, .bool p8, .int .i64 p9, .int .u8 p10, .bool p11, .bool p12, .int .i64 p13] 35)
  have hP1 := Blk.new W0 35 #[.int .i64 p0, .int .i64 p1, .int .i64 p2, .int .u8 p3, .int .u8 p4, .int .u8 p5, .int .i64 p6, .bool p7, .bool p8, .int .i64 p9, .int .u8 p10, .bool p11, .bool p12, .int .i64 p13]
  have hB1 := balloc hB0 (.cells #[.int .i64 p0, .int .i64 p1, .int .i64 p2, .int .u8 p3, .int .u8 p4, .int .u8 p5, .int .i64 p6, .bool p7, .bool p8, .int .i64 p9, .int .u8 p10, .bool p11, .bool p12, .int .i64 p13] 35)
  obtain ⟨b, hb⟩ : ∃ b, W0.heap.size = b := ⟨_, rfl⟩
  rw [hb] at hP1 ⊢
  obtain ⟨W1, hW1⟩ : ∃ W, W0.alloc (.cells #[.int .i64 p0, .int .i64 p1, .int .i64 p2, .int .u8 p3, .int .u8 p4, .int .u8 p5, .int .i64 p6, .bool p7, .bool p8, .int .i64 p9, .int .u8 p10, .bool p11, .bool p12, .int .i64 p13] 35) = W := ⟨_, rfl⟩
  rw [hW1] at hT1 hP1 hB1 ⊢
  have HT1 := Lib.hid hT1
  have HP1 := Lib.hid hP1
  have HB1 := Lib.hid hB1
  clear d0 d1 d2 d3 d4 d5 d6 d7 d8 d9 d10 d11 d12 d13 hT1 hP1 hB1 hW1 hb hT0 hB0 c_c HR
  refine start_ (n := 9) (S := (fun w' => Blk w' g 28 #[.slice A0 l0.length c0, .slice (some ad) l1.length c1, .int .i64 a2, .int .i64 a3, .int .i64 a4, .int .u8 a5, .int .i64 a6, .slice A7 n7 c7, .bool a8, .bool a9] ∧ Blk w' b 35 #[.int .i64 p0, .int .i64 p1, .int .i64 p2, .int .u8 p3, .int .u8 p4, .int .u8 p5, .int .i64 p6, .bool p7, .bool p8, .int .i64 p9, .int .u8 p10, .bool p11, .bool p12, .int .i64 p13])) (ds := []) #[false, false, false, false, false, false, false, false, false] (by kernel_rfl) rfl (by kernel_rfl) ⟨HT1.out.drew, HP1.out.drew⟩ (fun hHeld => ?_)
  refine take_ (i := 0) (N := some 13) (v := ?_) (a' := ?_) #[true, false, false, false, false, false, false, false, false] rfl rfl (by kernel_rfl) (fun _ _ _ h => h) (Or.inl ⟨by rfl, ?_⟩) hHeld ?_ ?_
  rotate_left
  · rintro w' ⟨hT, hP⟩
    have c0 := hT.cell 0
    have c1 := hT.cell 1
    have c2 := hT.cell 2
    have c3 := hT.cell 3
    have c4 := hT.cell 4
    have c5 := hT.cell 5
    have c6 := hT.cell 6
    have c7 := hT.cell 7
    have c8 := hT.cell 8
    have c9 := hT.cell 9
    simp only [List.getElem?_toArray, List.getElem?_cons_zero, List.getElem?_cons_succ] at c0 c1 c2 c3 c4 c5 c6 c7 c8 c9
    go_simp
    with_reducible rfl
  rotate_left
  · simp only [Act.put, List.setIfInBounds_toArray, List.set_cons_zero, List.set_cons_succ]
    rfl
  refine pure_ (i := 1) (N := some 14) (v := ?_) (a' := ?_) #[true, true, false, false, false, false, false, false, false] rfl rfl (by kernel_rfl) (fun _ _ _ h => h) (Or.inl ⟨by rfl, ?_⟩) ?_ ?_
  rotate_left
  · intro w'
    go_simp
    with_reducible rfl
  rotate_left
  · simp only [Act.put, List.setIfInBounds_toArray, List.set_cons_zero, List.set_cons_succ]
    rfl
  refine pure_ (i := 4) (N := some 17) (v := ?_) (a' := ?_) #[true, true, false, false, true, false, false, false, false] rfl rfl (by kernel_rfl) (fun _ _ _ h => h) (Or.inl ⟨by rfl, ?_⟩) ?_ ?_
  rotate_left
  · intro w'
    go_simp
    with_reducible rfl
  rotate_left
  · simp only [Act.put, List.setIfInBounds_toArray, List.set_cons_zero, List.set_cons_succ]
    rfl
  refine take_ (i := 5) (N := some 18) (v := ?_) (a' := ?_) #[true, true, false, false, true, true, false, false, false] rfl rfl (by kernel_rfl) (fun _ _ _ h => h) (Or.inl ⟨by rfl, ?_⟩) hHeld ?_ ?_
  rotate_left
  · rintro w' ⟨hT, hP⟩
    have s0 := hP.cell 0
    simp only [List.getElem?_toArray, List.getElem?_cons_zero, List.getElem?_cons_succ] at s0
    go_simp
    with_reducible rfl
  rotate_left
  · simp only [Act.put, List.setIfInBounds_toArray, List.set_cons_zero, List.set_cons_succ]
    rfl
  refine pure_ (i := 6) (N := some 19) (v := ?_) (a' := ?_) #[true, true, false, false, true, true, true, false, false] rfl rfl (by kernel_rfl) (fun _ _ _ h => h) (Or.inl ⟨by rfl, ?_⟩) ?_ ?_
  rotate_left
  · intro w'
    go_simp
    with_reducible rfl
  rotate_left
  · simp only [Act.put, List.setIfInBounds_toArray, List.set_cons_zero, List.set_cons_succ]
    rfl
  refine one_ (i := 2) (N := some 15) #[true, true, true, false, true, true, true, false, false] rfl rfl (by kernel_rfl) (by simp) (fun K hK => ?_)
  rw [if_pos (by rfl)]
  go_simp
  refine (HK.out _ (bdrew HB1.out)).mono ?_
  rintro e w2 ⟨rfl, hbk⟩
  dsimp only
  refine hK.out _ _ ⟨HT1.out.drew.after hbk, HP1.out.drew.after hbk⟩ (fun hHeld => ?_)
  have HT2 := Lib.hid (HT1.out.drew.after hbk)
  have HP2 := Lib.hid (HP1.out.drew.after hbk)
  have HB2 := Lib.hid (bstep (bdrew HB1.out) hbk)
  clear hK K hHeld hbk
  refine pure_ (i := 3) (N := some 16) (v := ?_) (a' := ?_) #[true, true, true, true, true, true, true, false, false] rfl rfl (by kernel_rfl) (fun _ _ _ h => h) (Or.inl ⟨by rfl, ?_⟩) ?_ ?_
  rotate_left
  · intro w'
    go_simp
    with_reducible rfl
  rotate_left
  · simp only [Act.put, List.setIfInBounds_toArray, List.set_cons_zero, List.set_cons_succ]
    rfl
  refine pure_ (i := 7) (N := some 6) (v := ?_) (a' := ?_) #[true, true, true, true, true, true, true, true, false] rfl rfl (by kernel_rfl) (fun _ _ _ h => h) (Or.inl ⟨by rfl, ?_⟩) ?_ ?_
  rotate_left
  · intro w'
    go_simp
    with_reducible rfl
  rotate_left
  · simp only [Act.put, List.setIfInBounds_toArray, List.set_cons_zero, List.set_cons_succ]
    rfl
  refine pure_ (i := 8) (N := some 7) (v := ?_) (a' := ?_) #[true, true, true, true, true, true, true, true, true] rfl rfl (by kernel_rfl) (fun _ _ _ h => h) (Or.inl ⟨by rfl, ?_⟩) ?_ ?_
  rotate_left
  · intro w'
    go_simp
    with_reducible rfl
  rotate_left
  · simp only [Act.put, List.setIfInBounds_toArray, List.set_cons_zero, List.set_cons_succ]
    rfl
  refine done_ (by kernel_rfl) ?_
  have q_c := HP2.out.cell
  by_cases he2 : p5 = 2
  · subst he2
    by_cases hk0 : kd = 0
    · have k0 : (kd == 0) = true := beq_iff_eq.2 hk0
      have k0n : (kd != 0) = false := by rw [bne, k0]; rfl
      clear hk0
      go_wp2_with (go_at_call 93; refine (within_v _ _ _).mono ?_; rintro e wx ⟨rfl, m, rfl⟩)
      go_ret
      exact ⟨by rw [← HV.out]; unfold standsB; simp [k0], by repeat (first | exact HB2.out | refine bdrewN ?_ _ | refine balloc ?_ _)⟩
    · have k0 : (kd == 0) = false := beq_eq_false_iff_ne.2 hk0
      have k0n : (kd != 0) = true := by rw [bne, k0]; rfl
      clear hk0
      go_wp2_with (go_at_call 93; refine (within_v _ _ _).mono ?_; rintro e wx ⟨rfl, m, rfl⟩)
      go_ret
      exact ⟨by rw [← HV.out]; unfold standsB; simp [k0], by repeat (first | exact HB2.out | refine bdrewN ?_ _ | refine balloc ?_ _)⟩
  · have e2 : (p5 == 2) = false := beq_eq_false_iff_ne.2 he2
    have e2n : (p5 != 2) = true := by rw [bne, e2]; rfl
    by_cases he3 : p5 = 3
    · subst he3
      by_cases hk0 : kd = 0
      · have k0 : (kd == 0) = true := beq_iff_eq.2 hk0
        have k0n : (kd != 0) = false := by rw [bne, k0]; rfl
        clear hk0
        go_wp2_with (go_at_call 93; refine (within_v _ _ _).mono ?_; rintro e wx ⟨rfl, m, rfl⟩)
        go_ret
        exact ⟨by rw [← HV.out]; unfold standsB; simp [k0], by repeat (first | exact HB2.out | refine bdrewN ?_ _ | refine balloc ?_ _)⟩
      · have k0 : (kd == 0) = false := beq_eq_false_iff_ne.2 hk0
        have k0n : (kd != 0) = true := by rw [bne, k0]; rfl
        clear hk0
        go_wp2_with (go_at_call 93; refine (within_v _ _ _).mono ?_; rintro e wx ⟨rfl, m, rfl⟩)
        go_ret
        exact ⟨by rw [← HV.out]; unfold standsB; simp [k0], by repeat (first | exact HB2.out | refine bdrewN ?_ _ | refine balloc ?_ _)⟩
    · have e3 : (p5 == 3) = false := beq_eq_false_iff_ne.2 he3
      have e3n : (p5 != 3) = true := by rw [bne, e3]; rfl
      by_cases he6 : p5 = 6
      · subst he6
        by_cases hk0 : kd = 0
        · have k0 : (kd == 0) = true := beq_iff_eq.2 hk0
          have k0n : (kd != 0) = false := by rw [bne, k0]; rfl
          by_cases ht1 : p0 = -1
          · have t1 : (p0 == -1) = true := beq_iff_eq.2 ht1
            have t1n : (p0 != -1) = false := by rw [bne, t1]; rfl
            clear hk0 ht1
            go_wp2_with (go_at_call 93; refine (within_v _ _ _).mono ?_; rintro e wx ⟨rfl, m, rfl⟩)
            go_ret
            exact ⟨by rw [← HV.out]; unfold standsB; simp [k0, t1], by repeat (first | exact HB2.out | refine bdrewN ?_ _ | refine balloc ?_ _)⟩
          · have t1 : (p0 == -1) = false := beq_eq_false_iff_ne.2 ht1
            have t1n : (p0 != -1) = true := by rw [bne, t1]; rfl
            clear hk0 ht1
            go_wp2_with (go_at_call 93; refine (within_v _ _ _).mono ?_; rintro e wx ⟨rfl, m, rfl⟩)
            go_ret
            exact ⟨by rw [← HV.out]; unfold standsB; simp [k0, t1], by repeat (first | exact HB2.out | refine bdrewN ?_ _ | refine balloc ?_ _)⟩
        · have k0 : (kd == 0) = false := beq_eq_false_iff_ne.2 hk0
          have k0n : (kd != 0) = true := by rw [bne, k0]; rfl
          clear hk0
          go_wp2_with (go_at_call 93; refine (within_v _ _ _).mono ?_; rintro e wx ⟨rfl, m, rfl⟩)
          go_ret
          exact ⟨by rw [← HV.out]; unfold standsB; simp [k0], by repeat (first | exact HB2.out | refine bdrewN ?_ _ | refine balloc ?_ _)⟩
      · have e6 : (p5 == 6) = false := beq_eq_false_iff_ne.2 he6
        have e6n : (p5 != 6) = true := by rw [bne, e6]; rfl
        by_cases he7 : p5 = 7
        · subst he7
          by_cases ht1 : p0 = -1
          · have t1 : (p0 == -1) = true := beq_iff_eq.2 ht1
            have t1n : (p0 != -1) = false := by rw [bne, t1]; rfl
            clear ht1
            go_wp2_with (go_at_call 93; refine (within_v _ _ _).mono ?_; rintro e wx ⟨rfl, m, rfl⟩)
            go_ret
            exact ⟨by rw [← HV.out]; unfold standsB; simp [t1], by repeat (first | exact HB2.out | refine bdrewN ?_ _ | refine balloc ?_ _)⟩
          · have t1 : (p0 == -1) = false := beq_eq_false_iff_ne.2 ht1
            have t1n : (p0 != -1) = true := by rw [bne, t1]; rfl
            clear ht1
            go_wp2_with (go_at_call 93; refine (within_v _ _ _).mono ?_; rintro e wx ⟨rfl, m, rfl⟩)
            go_ret
            exact ⟨by rw [← HV.out]; unfold standsB; simp [t1], by repeat (first | exact HB2.out | refine bdrewN ?_ _ | refine balloc ?_ _)⟩
        · have e7 : (p5 == 7) = false := beq_eq_false_iff_ne.2 he7
          have e7n : (p5 != 7) = true := by rw [bne, e7]; rfl
          by_cases ht1 : p0 = -1
          · have t1 : (p0 == -1) = true := beq_iff_eq.2 ht1
            have t1n : (p0 != -1) = false := by rw [bne, t1]; rfl
            clear he2 he3 he6 he7 ht1
            go_wp2_with (go_at_call 93; refine (within_v _ _ _).mono ?_; rintro e wx ⟨rfl, m, rfl⟩)
            go_ret
            exact ⟨by rw [← HV.out]; unfold standsB; simp [e2, e3, e6, e7, t1], by repeat (first | exact HB2.out | refine bdrewN ?_ _ | refine balloc ?_ _)⟩
          · have t1 : (p0 == -1) = false := beq_eq_false_iff_ne.2 ht1
            have t1n : (p0 != -1) = true := by rw [bne, t1]; rfl
            by_cases hl7 : p5 < 7
            · have l7 : decide (p5 < 7) = true := decide_eq_true hl7
              clear he2 he3 he6 he7 ht1 hl7
              go_wp2_with (go_at_call 93; refine (within_v _ _ _).mono ?_; rintro e wx ⟨rfl, m, rfl⟩)
              go_ret
              exact ⟨by rw [← HV.out]; unfold standsB; simp [e2, e3, e6, e7, t1, l7], by repeat (first | exact HB2.out | refine bdrewN ?_ _ | refine balloc ?_ _)⟩
            · have l7 : decide (p5 < 7) = false := decide_eq_false hl7
              clear he2 he3 he6 he7 ht1 hl7
              go_wp2_with (go_at_call 93; refine (within_v _ _ _).mono ?_; rintro e wx ⟨rfl, m, rfl⟩)
              go_ret
              exact ⟨by rw [← HV.out]; unfold standsB; simp [e2, e3, e6, e7, t1, l7], by repeat (first | exact HB2.out | refine bdrewN ?_ _ | refine balloc ?_ _)⟩

theorem one_walk (A0 : Option Addr) (c0 : Nat) (l0 : List S97) (A1 : Option Addr) (c1 : Nat) (l1 : List S35) (a2 a3 a4 a5 a6 : Int) (A7 : Option Addr) (n7 c7 : Nat) (a8 a9 : Bool) (i : Nat) (w : World) (hr : Kd.C k35 w A1 l1.length l1) (hi : i < l1.length) (kd : Int)
    (hk : ∀ w', Below w.heap.size w w' → Calls Try.prog 74 #[.agg #[.slice A0 l0.length c0, .slice A1 l1.length c1, .int .i64 a2, .int .i64 a3, .int .i64 a4, .int .u8 a5, .int .i64 a6, .slice A7 n7 c7, .bool a8, .bool a9], .int .i64 (i : Int)] w' fun e w'' => e = .returned (.int .u8 kd) ∧ Below w'.heap.size w' w'') :
    Calls Try.prog 67 #[.agg #[.slice A0 l0.length c0, .slice A1 l1.length c1, .int .i64 a2, .int .i64 a3, .int .i64 a4, .int .u8 a5, .int .i64 a6, .slice A7 n7 c7, .bool a8, .bool a9], .int .i64 (i : Int)] w fun e w' => e = .returned (.bool (oneB l0.length (rd_T35 l1 (i : Int)) kd)) ∧ Below w.heap.size w w' := by
  obtain ⟨v, hv⟩ : ∃ v, oneB l0.length (rd_T35 l1 (i : Int)) kd = v := ⟨_, rfl⟩
  rw [hv]
  obtain ⟨p, hp⟩ : ∃ p, rd_T35 l1 (i : Int) = p := ⟨_, rfl⟩
  rw [hp] at hv
  have HPP := Lib.hid hp
  have HV := Lib.hid hv
  have HK := Lib.hid hk
  have HR := Lib.hid hr
  clear hk hr hv hp
  go_enter Try.func67, Try.ntmps67
  go_upto_region 1 with (fail)
  have hB0 : Below w.heap.size w (w.alloc (.cells #[.slice A0 l0.length c0, .slice A1 l1.length c1, .int .i64 a2, .int .i64 a3, .int .i64 a4, .int .u8 a5, .int .i64 a6, .slice A7 n7 c7, .bool a8, .bool a9] 28)) := balloc (Below.refl _ _) _
  have hT0 := Blk.new w 28 #[.slice A0 l0.length c0, .slice A1 l1.length c1, .int .i64 a2, .int .i64 a3, .int .i64 a4, .int .u8 a5, .int .i64 a6, .slice A7 n7 c7, .bool a8, .bool a9]
  obtain ⟨g, hg⟩ : ∃ g, w.heap.size = g := ⟨_, rfl⟩
  rw [hg] at hT0 ⊢
  obtain ⟨W0, hW0⟩ : ∃ W, w.alloc (.cells #[.slice A0 l0.length c0, .slice A1 l1.length c1, .int .i64 a2, .int .i64 a3, .int .i64 a4, .int .u8 a5, .int .i64 a6, .slice A7 n7 c7, .bool a8, .bool a9] 28) = W := ⟨_, rfl⟩
  rw [hW0] at hT0 hB0 ⊢
  have HG := Lib.hid hg
  clear hW0 hg
  have e1 : (i < l1.length) = True := eq_true hi
  have hk0 : (0 : Int) ≤ (i : Int) := Int.natCast_nonneg _
  obtain ⟨ad, hA1, d0, d1, d2, d3, d4, d5, d6, d7, d8, d9, d10, d11, d12, d13⟩ := at_T35 (Kd.C_below HR.out hB0) (i : Int) hk0 (Int.ofNat_lt.2 hi)
  simp only [Int.toNat_natCast] at d0 d1 d2 d3 d4 d5 d6 d7 d8 d9 d10 d11 d12 d13
  rw [HPP.out] at d0 d1 d2 d3 d4 d5 d6 d7 d8 d9 d10 d11 d12 d13
  have HI := Lib.hid hi
  have HA1 := Lib.hid hA1
  clear hi HPP
  obtain ⟨p0, p1, p2, p3, p4, p5, p6, p7, p8, p9, p10, p11, p12, p13⟩ := p
  dsimp only at d0 d1 d2 d3 d4 d5 d6 d7 d8 d9 d10 d11 d12 d13
  subst hA1
  have c_c := hT0.cell
  go_upto_region 2 with (fail)
  have hT1 := hT0.alloc (.cells #[.int .i64 p0, .int .i64 p1, .int .i64 p2, .int .u8 p3, .int .u8 p4, .int .u8 p5, .int .i64 p6, .bool p7, .bool p8, .int .i64 p9, .int .u8 p10, .bool p11, .bool p12, .int .i64 p13] 35)
  have hP1 := Blk.new W0 35 #[.int .i64 p0, .int .i64 p1, .int .i64 p2, .int .u8 p3, .int .u8 p4, .int .u8 p5, .int .i64 p6, .bool p7, .bool p8, .int .i64 p9, .int .u8 p10, .bool p11, .bool p12, .int .i64 p13]
  have hB1 := balloc hB0 (.cells #[.int .i64 p0, .int .i64 p1, .int .i64 p2, .int .u8 p3, .int .u8 p4, .int .u8 p5, .int .i64 p6, .bool p7, .bool p8, .int .i64 p9, .int .u8 p10, .bool p11, .bool p12, .int .i64 p13] 35)
  obtain ⟨b, hb⟩ : ∃ b, W0.heap.size = b := ⟨_, rfl⟩
  rw [hb] at hP1 ⊢
  obtain ⟨W1, hW1⟩ : ∃ W, W0.alloc (.cells #[.int .i64 p0, .int .i64 p1, .int .i64 p2, .int .u8 p3, .int .u8 p4, .int .u8 p5, .int .i64 p6, .bool p7, .bool p8, .int .i64 p9, .int .u8 p10, .bool p11, .bool p12, .int .i64 p13] 35) = W := ⟨_, rfl⟩
  rw [hW1] at hT1 hP1 hB1 ⊢
  have HT1 := Lib.hid hT1
  have HP1 := Lib.hid hP1
  have HB1 := Lib.hid hB1
  clear d0 d1 d2 d3 d4 d5 d6 d7 d8 d9 d10 d11 d12 d13 hT1 hP1 hB1 hW1 hb hT0 hB0 c_c HR
  go_cut [50] (fun v50 wc => v50 = .bool (oneA l0.length (⟨p0, p1, p2, p3, p4, p5, p6, p7, p8, p9, p10, p11, p12, p13⟩ : PS)) ∧ Aside0 (Blk wc g 28 #[.slice A0 l0.length c0, .slice (some ad) l1.length c1, .int .i64 a2, .int .i64 a3, .int .i64 a4, .int .u8 a5, .int .i64 a6, .slice A7 n7 c7, .bool a8, .bool a9]) ∧ Aside0 (Blk wc b 35 #[.int .i64 p0, .int .i64 p1, .int .i64 p2, .int .u8 p3, .int .u8 p4, .int .u8 p5, .int .i64 p6, .bool p7, .bool p8, .int .i64 p9, .int .u8 p10, .bool p11, .bool p12, .int .i64 p13]) ∧ Aside0 (Below w.heap.size w wc))
  case first =>
    have c_c := HT1.out.cell
    have q_c := HP1.out.cell
    by_cases hxa : p0 < -1
    · have xa : decide (p0 < -1) = true := decide_eq_true hxa
      clear hxa
      go_wp2_with (first | (go_at_call 69; refine (rshared_v _ _).mono ?_; rintro e wx ⟨rfl, m, rfl⟩))
      go_meet
      case rel => exact ⟨by unfold oneA; simp [xa], ⟨by repeat (first | exact HT1.out | refine Blk.drewN ?_ _)⟩, ⟨by repeat (first | exact HP1.out | refine Blk.drewN ?_ _)⟩, ⟨by repeat (first | exact HB1.out | refine bdrewN ?_ _)⟩⟩
    · have xa : decide (p0 < -1) = false := decide_eq_false hxa
      by_cases hxb : p0 ≥ (l0.length : Int)
      · have xb : decide (p0 ≥ (l0.length : Int)) = true := decide_eq_true hxb
        clear hxa hxb
        go_wp2_with (first | (go_at_call 69; refine (rshared_v _ _).mono ?_; rintro e wx ⟨rfl, m, rfl⟩))
        go_meet
        case rel => exact ⟨by unfold oneA; simp [xa, xb], ⟨by repeat (first | exact HT1.out | refine Blk.drewN ?_ _)⟩, ⟨by repeat (first | exact HP1.out | refine Blk.drewN ?_ _)⟩, ⟨by repeat (first | exact HB1.out | refine bdrewN ?_ _)⟩⟩
      · have xb : decide (p0 ≥ (l0.length : Int)) = false := decide_eq_false hxb
        by_cases hxc : p3 > 1
        · have xc : decide (p3 > 1) = true := decide_eq_true hxc
          clear hxa hxb hxc
          go_wp2_with (first | (go_at_call 69; refine (rshared_v _ _).mono ?_; rintro e wx ⟨rfl, m, rfl⟩))
          go_meet
          case rel => exact ⟨by unfold oneA; simp [xa, xb, xc], ⟨by repeat (first | exact HT1.out | refine Blk.drewN ?_ _)⟩, ⟨by repeat (first | exact HP1.out | refine Blk.drewN ?_ _)⟩, ⟨by repeat (first | exact HB1.out | refine bdrewN ?_ _)⟩⟩
        · have xc : decide (p3 > 1) = false := decide_eq_false hxc
          by_cases hxd : p4 > 1
          · have xd : decide (p4 > 1) = true := decide_eq_true hxd
            clear hxa hxb hxc hxd
            go_wp2_with (first | (go_at_call 69; refine (rshared_v _ _).mono ?_; rintro e wx ⟨rfl, m, rfl⟩))
            go_meet
            case rel => exact ⟨by unfold oneA; simp [xa, xb, xc, xd], ⟨by repeat (first | exact HT1.out | refine Blk.drewN ?_ _)⟩, ⟨by repeat (first | exact HP1.out | refine Blk.drewN ?_ _)⟩, ⟨by repeat (first | exact HB1.out | refine bdrewN ?_ _)⟩⟩
          · have xd : decide (p4 > 1) = false := decide_eq_false hxd
            by_cases hxe : p5 > 7
            · have xe : decide (p5 > 7) = true := decide_eq_true hxe
              clear hxa hxb hxc hxd hxe
              go_wp2_with (first | (go_at_call 69; refine (rshared_v _ _).mono ?_; rintro e wx ⟨rfl, m, rfl⟩))
              go_meet
              case rel => exact ⟨by unfold oneA; simp [xa, xb, xc, xd, xe], ⟨by repeat (first | exact HT1.out | refine Blk.drewN ?_ _)⟩, ⟨by repeat (first | exact HP1.out | refine Blk.drewN ?_ _)⟩, ⟨by repeat (first | exact HB1.out | refine bdrewN ?_ _)⟩⟩
            · have xe : decide (p5 > 7) = false := decide_eq_false hxe
              by_cases hq : p3 = p4
              · have eq1 : (p3 == p4) = true := beq_iff_eq.2 hq
                have eq2 : (p3 != p4) = false := by rw [bne, eq1]; rfl
                clear hxa hxb hxc hxd hxe hq
                go_wp2_with (first | (go_at_call 69; refine (rshared_v _ _).mono ?_; rintro e wx ⟨rfl, m, rfl⟩))
                go_meet
                case rel => exact ⟨by unfold oneA; simp [xa, xb, xc, xd, xe, eq1], ⟨by repeat (first | exact HT1.out | refine Blk.drewN ?_ _)⟩, ⟨by repeat (first | exact HP1.out | refine Blk.drewN ?_ _)⟩, ⟨by repeat (first | exact HB1.out | refine bdrewN ?_ _)⟩⟩
              · have eq1 : (p3 == p4) = false := beq_eq_false_iff_ne.2 hq
                have eq2 : (p3 != p4) = true := by rw [bne, eq1]; rfl
                cases gs : sharedB p5 with
                | false =>
                  clear hxa hxb hxc hxd hxe hq
                  go_wp2_with (first | (go_at_call 69; refine (rshared_v _ _).mono ?_; rintro e wx ⟨rfl, m, rfl⟩))
                  go_meet
                  case rel => exact ⟨by unfold oneA; simp [xa, xb, xc, xd, xe, eq1, gs], ⟨by repeat (first | exact HT1.out | refine Blk.drewN ?_ _)⟩, ⟨by repeat (first | exact HP1.out | refine Blk.drewN ?_ _)⟩, ⟨by repeat (first | exact HB1.out | refine bdrewN ?_ _)⟩⟩
                | true =>
                  clear hxa hxb hxc hxd hxe hq
                  go_wp2_with (first | (go_at_call 69; refine (rshared_v _ _).mono ?_; rintro e wx ⟨rfl, m, rfl⟩))
                  go_meet
                  case rel => exact ⟨by unfold oneA; simp [xa, xb, xc, xd, xe, eq1, gs], ⟨by repeat (first | exact HT1.out | refine Blk.drewN ?_ _)⟩, ⟨by repeat (first | exact HP1.out | refine Blk.drewN ?_ _)⟩, ⟨by repeat (first | exact HB1.out | refine bdrewN ?_ _)⟩⟩
  case rest =>
    clear HT1 HP1 HB1
    obtain ⟨rfl, HT1, HP1, HB1⟩ := hcut
    have hbk2 : oneA l0.length (⟨p0, p1, p2, p3, p4, p5, p6, p7, p8, p9, p10, p11, p12, p13⟩ : PS) = true ∨ oneA l0.length (⟨p0, p1, p2, p3, p4, p5, p6, p7, p8, p9, p10, p11, p12, p13⟩ : PS) = false := by cases oneA l0.length (⟨p0, p1, p2, p3, p4, p5, p6, p7, p8, p9, p10, p11, p12, p13⟩ : PS) <;> simp
    obtain hbk | hbk := hbk2
    · rw [hbk]
      have hfin : v = false := by rw [← HV.out]; unfold oneB; simp [hbk]
      have HFIN := Lib.hid hfin
      clear hbk hfin
      go_wp2_with fail
      go_ret
      exact ⟨congrArg (fun b => Ending.returned (Value.bool b)) HFIN.out.symm, HB1.out⟩
    · rw [hbk]
      have HKA := Lib.hid hbk
      clear hbk
      have c_c := HT1.out.cell
      have q_c := HP1.out.cell
      go_upto_region 4 with (fail)
      clear c_c q_c
      go_cut [68] (fun v68 wc => v68 = .bool (oneC (⟨p0, p1, p2, p3, p4, p5, p6, p7, p8, p9, p10, p11, p12, p13⟩ : PS)) ∧ Aside0 (Blk wc g 28 #[.slice A0 l0.length c0, .slice (some ad) l1.length c1, .int .i64 a2, .int .i64 a3, .int .i64 a4, .int .u8 a5, .int .i64 a6, .slice A7 n7 c7, .bool a8, .bool a9]) ∧ Aside0 (Blk wc b 35 #[.int .i64 p0, .int .i64 p1, .int .i64 p2, .int .u8 p3, .int .u8 p4, .int .u8 p5, .int .i64 p6, .bool p7, .bool p8, .int .i64 p9, .int .u8 p10, .bool p11, .bool p12, .int .i64 p13]) ∧ Aside0 (Below w.heap.size w wc))
      case first =>
        have c_c := HT1.out.cell
        have q_c := HP1.out.cell
        by_cases hxa : p1 < 0
        · have xa : decide (p1 < 0) = true := decide_eq_true hxa
          clear hxa
          go_wp2_with fail
          go_meet
          case rel => exact ⟨by unfold oneC; simp [xa], ⟨by repeat (first | exact HT1.out | refine Blk.drewN ?_ _)⟩, ⟨by repeat (first | exact HP1.out | refine Blk.drewN ?_ _)⟩, ⟨by repeat (first | exact HB1.out | refine bdrewN ?_ _)⟩⟩
        · have xa : decide (p1 < 0) = false := decide_eq_false hxa
          by_cases hxb : p1 > 99999
          · have xb : decide (p1 > 99999) = true := decide_eq_true hxb
            clear hxa hxb
            go_wp2_with fail
            go_meet
            case rel => exact ⟨by unfold oneC; simp [xa, xb], ⟨by repeat (first | exact HT1.out | refine Blk.drewN ?_ _)⟩, ⟨by repeat (first | exact HP1.out | refine Blk.drewN ?_ _)⟩, ⟨by repeat (first | exact HB1.out | refine bdrewN ?_ _)⟩⟩
          · have xb : decide (p1 > 99999) = false := decide_eq_false hxb
            by_cases hxc : p2 < 0
            · have xc : decide (p2 < 0) = true := decide_eq_true hxc
              clear hxa hxb hxc
              go_wp2_with fail
              go_meet
              case rel => exact ⟨by unfold oneC; simp [xa, xb, xc], ⟨by repeat (first | exact HT1.out | refine Blk.drewN ?_ _)⟩, ⟨by repeat (first | exact HP1.out | refine Blk.drewN ?_ _)⟩, ⟨by repeat (first | exact HB1.out | refine bdrewN ?_ _)⟩⟩
            · have xc : decide (p2 < 0) = false := decide_eq_false hxc
              by_cases hxd : p2 > 99999
              · have xd : decide (p2 > 99999) = true := decide_eq_true hxd
                clear hxa hxb hxc hxd
                go_wp2_with fail
                go_meet
                case rel => exact ⟨by unfold oneC; simp [xa, xb, xc, xd], ⟨by repeat (first | exact HT1.out | refine Blk.drewN ?_ _)⟩, ⟨by repeat (first | exact HP1.out | refine Blk.drewN ?_ _)⟩, ⟨by repeat (first | exact HB1.out | refine bdrewN ?_ _)⟩⟩
              · have xd : decide (p2 > 99999) = false := decide_eq_false hxd
                clear hxa hxb hxc hxd
                go_wp2_with fail
                go_meet
                case rel => exact ⟨by unfold oneC; simp [xa, xb, xc, xd], ⟨by repeat (first | exact HT1.out | refine Blk.drewN ?_ _)⟩, ⟨by repeat (first | exact HP1.out | refine Blk.drewN ?_ _)⟩, ⟨by repeat (first | exact HB1.out | refine bdrewN ?_ _)⟩⟩
      case rest =>
        clear HT1 HP1 HB1
        obtain ⟨rfl, HT1, HP1, HB1⟩ := hcut
        have hbk2 : oneC (⟨p0, p1, p2, p3, p4, p5, p6, p7, p8, p9, p10, p11, p12, p13⟩ : PS) = true ∨ oneC (⟨p0, p1, p2, p3, p4, p5, p6, p7, p8, p9, p10, p11, p12, p13⟩ : PS) = false := by cases oneC (⟨p0, p1, p2, p3, p4, p5, p6, p7, p8, p9, p10, p11, p12, p13⟩ : PS) <;> simp
        obtain hbk | hbk := hbk2
        · rw [hbk]
          have hfin : v = false := by rw [← HV.out]; unfold oneB; simp [hbk]
          have HFIN := Lib.hid hfin
          clear hbk hfin
          go_wp2_with fail
          go_ret
          exact ⟨congrArg (fun b => Ending.returned (Value.bool b)) HFIN.out.symm, HB1.out⟩
        · rw [hbk]
          have HKC := Lib.hid hbk
          clear hbk
          have hvd : oneD (⟨p0, p1, p2, p3, p4, p5, p6, p7, p8, p9, p10, p11, p12, p13⟩ : PS) kd = v := by rw [← HV.out]; unfold oneB; rw [HKA.out, HKC.out]; simp
          have HVD := Lib.hid hvd
          clear hvd
          have c_c := HT1.out.cell
          go_upto_region 7 with (go_at_call 74; refine (HK.out _ (by repeat (first | exact HB1.out | refine bdrewN ?_ _ | refine bdrew ?_))).mono ?_; rintro e w2 ⟨rfl, hbk⟩)
          clear c_c
          have HT2 := Lib.hid (HT1.out.after hbk)
          have HP2 := Lib.hid (HP1.out.after hbk)
          have HB2 := Lib.hid (bstep HB1.out hbk)
          clear hbk HT1 HP1 HB1
          have q_c := HP2.out.cell
          by_cases he2 : p5 = 2
          · subst he2
            by_cases hs0 : p6 < 0
            · have s0 : decide (p6 < 0) = true := decide_eq_true hs0
              clear hs0
              go_wp2_with fail
              go_ret
              exact ⟨by rw [← HVD.out]; unfold oneD; simp [s0], HB2.out⟩
            · have s0 : decide (p6 < 0) = false := decide_eq_false hs0
              by_cases hs5 : p6 ≥ 5
              · have s5 : decide (p6 ≥ 5) = true := decide_eq_true hs5
                clear hs0 hs5
                go_wp2_with fail
                go_ret
                exact ⟨by rw [← HVD.out]; unfold oneD; simp [s0, s5], HB2.out⟩
              · have s5 : decide (p6 ≥ 5) = false := decide_eq_false hs5
                by_cases hk0 : kd = 0
                · have k0 : (kd == 0) = true := beq_iff_eq.2 hk0
                  have k0n : (kd != 0) = false := by rw [bne, k0]; rfl
                  by_cases ht1 : p0 = -1
                  · have t1 : (p0 == -1) = true := beq_iff_eq.2 ht1
                    have t1n : (p0 != -1) = false := by rw [bne, t1]; rfl
                    clear hs0 hs5 hk0 ht1
                    go_wp2_with fail
                    go_ret
                    exact ⟨by rw [← HVD.out]; unfold oneD; simp [s0, s5, k0, t1], HB2.out⟩
                  · have t1 : (p0 == -1) = false := beq_eq_false_iff_ne.2 ht1
                    have t1n : (p0 != -1) = true := by rw [bne, t1]; rfl
                    clear hs0 hs5 hk0 ht1
                    go_wp2_with fail
                    go_ret
                    exact ⟨by rw [← HVD.out]; unfold oneD; simp [s0, s5, k0, t1], HB2.out⟩
                · have k0 : (kd == 0) = false := beq_eq_false_iff_ne.2 hk0
                  have k0n : (kd != 0) = true := by rw [bne, k0]; rfl
                  clear hs0 hs5 hk0
                  go_wp2_with fail
                  go_ret
                  exact ⟨by rw [← HVD.out]; unfold oneD; simp [s0, s5, k0], HB2.out⟩
          · have e2 : (p5 == 2) = false := beq_eq_false_iff_ne.2 he2
            have e2n : (p5 != 2) = true := by rw [bne, e2]; rfl
            by_cases he3 : p5 = 3
            · subst he3
              by_cases hs0 : p6 < 0
              · have s0 : decide (p6 < 0) = true := decide_eq_true hs0
                clear hs0
                go_wp2_with fail
                go_ret
                exact ⟨by rw [← HVD.out]; unfold oneD; simp [s0], HB2.out⟩
              · have s0 : decide (p6 < 0) = false := decide_eq_false hs0
                by_cases hs5 : p6 ≥ 5
                · have s5 : decide (p6 ≥ 5) = true := decide_eq_true hs5
                  clear hs0 hs5
                  go_wp2_with fail
                  go_ret
                  exact ⟨by rw [← HVD.out]; unfold oneD; simp [s0, s5], HB2.out⟩
                · have s5 : decide (p6 ≥ 5) = false := decide_eq_false hs5
                  by_cases hk0 : kd = 0
                  · have k0 : (kd == 0) = true := beq_iff_eq.2 hk0
                    have k0n : (kd != 0) = false := by rw [bne, k0]; rfl
                    clear hs0 hs5 hk0
                    go_wp2_with fail
                    go_ret
                    exact ⟨by rw [← HVD.out]; unfold oneD; simp [s0, s5, k0], HB2.out⟩
                  · have k0 : (kd == 0) = false := beq_eq_false_iff_ne.2 hk0
                    have k0n : (kd != 0) = true := by rw [bne, k0]; rfl
                    by_cases ht1 : p0 = -1
                    · have t1 : (p0 == -1) = true := beq_iff_eq.2 ht1
                      have t1n : (p0 != -1) = false := by rw [bne, t1]; rfl
                      clear hs0 hs5 hk0 ht1
                      go_wp2_with fail
                      go_ret
                      exact ⟨by rw [← HVD.out]; unfold oneD; simp [s0, s5, k0, t1], HB2.out⟩
                    · have t1 : (p0 == -1) = false := beq_eq_false_iff_ne.2 ht1
                      have t1n : (p0 != -1) = true := by rw [bne, t1]; rfl
                      clear hs0 hs5 hk0 ht1
                      go_wp2_with fail
                      go_ret
                      exact ⟨by rw [← HVD.out]; unfold oneD; simp [s0, s5, k0, t1], HB2.out⟩
            · have e3 : (p5 == 3) = false := beq_eq_false_iff_ne.2 he3
              have e3n : (p5 != 3) = true := by rw [bne, e3]; rfl
              by_cases he6 : p5 = 6
              · subst he6
                by_cases hz0 : p6 = 0
                · have z0 : (p6 == 0) = true := beq_iff_eq.2 hz0
                  have z0n : (p6 != 0) = false := by rw [bne, z0]; rfl
                  by_cases hk0 : kd = 0
                  · have k0 : (kd == 0) = true := beq_iff_eq.2 hk0
                    have k0n : (kd != 0) = false := by rw [bne, k0]; rfl
                    by_cases ht1 : p0 = -1
                    · have t1 : (p0 == -1) = true := beq_iff_eq.2 ht1
                      have t1n : (p0 != -1) = false := by rw [bne, t1]; rfl
                      clear hz0 hk0 ht1
                      go_wp2_with fail
                      go_ret
                      exact ⟨by rw [← HVD.out]; unfold oneD; simp [z0, k0, t1], HB2.out⟩
                    · have t1 : (p0 == -1) = false := beq_eq_false_iff_ne.2 ht1
                      have t1n : (p0 != -1) = true := by rw [bne, t1]; rfl
                      clear hz0 hk0 ht1
                      go_wp2_with fail
                      go_ret
                      exact ⟨by rw [← HVD.out]; unfold oneD; simp [z0, k0, t1], HB2.out⟩
                  · have k0 : (kd == 0) = false := beq_eq_false_iff_ne.2 hk0
                    have k0n : (kd != 0) = true := by rw [bne, k0]; rfl
                    clear hz0 hk0
                    go_wp2_with fail
                    go_ret
                    exact ⟨by rw [← HVD.out]; unfold oneD; simp [z0, k0], HB2.out⟩
                · have z0 : (p6 == 0) = false := beq_eq_false_iff_ne.2 hz0
                  have z0n : (p6 != 0) = true := by rw [bne, z0]; rfl
                  clear hz0
                  go_wp2_with fail
                  go_ret
                  exact ⟨by rw [← HVD.out]; unfold oneD; simp [z0], HB2.out⟩
              · have e6 : (p5 == 6) = false := beq_eq_false_iff_ne.2 he6
                have e6n : (p5 != 6) = true := by rw [bne, e6]; rfl
                by_cases he7 : p5 = 7
                · subst he7
                  by_cases hz0 : p6 = 0
                  · have z0 : (p6 == 0) = true := beq_iff_eq.2 hz0
                    have z0n : (p6 != 0) = false := by rw [bne, z0]; rfl
                    by_cases ht1 : p0 = -1
                    · have t1 : (p0 == -1) = true := beq_iff_eq.2 ht1
                      have t1n : (p0 != -1) = false := by rw [bne, t1]; rfl
                      clear hz0 ht1
                      go_wp2_with fail
                      go_ret
                      exact ⟨by rw [← HVD.out]; unfold oneD; simp [z0, t1], HB2.out⟩
                    · have t1 : (p0 == -1) = false := beq_eq_false_iff_ne.2 ht1
                      have t1n : (p0 != -1) = true := by rw [bne, t1]; rfl
                      clear hz0 ht1
                      go_wp2_with fail
                      go_ret
                      exact ⟨by rw [← HVD.out]; unfold oneD; simp [z0, t1], HB2.out⟩
                  · have z0 : (p6 == 0) = false := beq_eq_false_iff_ne.2 hz0
                    have z0n : (p6 != 0) = true := by rw [bne, z0]; rfl
                    clear hz0
                    go_wp2_with fail
                    go_ret
                    exact ⟨by rw [← HVD.out]; unfold oneD; simp [z0], HB2.out⟩
                · have e7 : (p5 == 7) = false := beq_eq_false_iff_ne.2 he7
                  have e7n : (p5 != 7) = true := by rw [bne, e7]; rfl
                  by_cases ht1 : p0 = -1
                  · have t1 : (p0 == -1) = true := beq_iff_eq.2 ht1
                    have t1n : (p0 != -1) = false := by rw [bne, t1]; rfl
                    clear he2 he3 he6 he7 ht1
                    go_wp2_with fail
                    go_ret
                    exact ⟨by rw [← HVD.out]; unfold oneD; simp [e2, e3, e6, e7, t1], HB2.out⟩
                  · have t1 : (p0 == -1) = false := beq_eq_false_iff_ne.2 ht1
                    have t1n : (p0 != -1) = true := by rw [bne, t1]; rfl
                    clear he2 he3 he6 he7 ht1
                    go_wp2_with fail
                    go_ret
                    exact ⟨by rw [← HVD.out]; unfold oneD; simp [e2, e3, e6, e7, t1], HB2.out⟩
end Go.Proofs.Ytlldpdhajddmiaa.Bmay
end
section
/- Whether a table may be: what board.May reckons is what the document says, in plain lists. -/
namespace Go.Proofs.Ytlldpdhajddmiaa.Bmay
open Go Go.RowKit Go.Proofs.Ytlldpdhajddmiaa.Base Go.Proofs.Ytlldpdhajddmiaa.Pmga Go.Proofs.YtlldpdhajddmiaaW.PrintWords
def kindV (l0 : List S97) (p : PS) : Int := if 0 ≤ p.f0 ∧ p.f0 < l0.length then (rd_T97 l0 p.f0).f1 else 0
def badP (l0 : List S97) (p : PS) : Bool := badB l0.length (standsB p (kindV l0 p)) p
def okP (l0 : List S97) (p : PS) : Bool := oneB l0.length p (kindV l0 p)
def sharedP (z : Int) : Prop := z = 2 ∨ z = 3 ∨ z = 6
theorem shared_iff (z : Int) : sharedB z = true ↔ sharedP z := by unfold sharedB; exact decide_eq_true_iff
theorem within_iff (a b : Int) : withinB a b = true ↔ 0 ≤ a ∧ a ≤ b := by unfold withinB; exact decide_eq_true_iff
theorem bad_iff (l0 : List S97) (p : PS) : badP l0 p = false ↔ okP l0 p = true ∧ (¬ sharedP p.f5 → p.f5 ≠ 7 → 0 ≤ p.f6) := by
  have hk : p.f0 = -1 → kindV l0 p = 0 := by
    intro h
    unfold kindV
    rw [if_neg (by omega)]
  unfold badP okP
  generalize kindV l0 p = kd at hk ⊢
  have h1 : badB l0.length (standsB p kd) p = false ↔ (-1 ≤ p.f0 ∧ p.f0 < l0.length ∧ p.f3 ≤ 1 ∧ p.f4 ≤ 1 ∧ (p.f3 = p.f4 ∨ sharedP p.f5) ∧ (0 ≤ p.f1 ∧ p.f1 ≤ 99999) ∧ (0 ≤ p.f2 ∧ p.f2 ≤ 99999) ∧ standsB p kd = true) := by
    unfold badB
    simp only [Bool.not_eq_false', Bool.and_eq_true, Bool.or_eq_true, decide_eq_true_eq, beq_iff_eq, shared_iff, within_iff]
    constructor
    · rintro ⟨⟨⟨⟨⟨⟨⟨a, b⟩, c⟩, d⟩, e⟩, f⟩, g⟩, h⟩
      exact ⟨by omega, by omega, by omega, by omega, e, f, g, h⟩
    · rintro ⟨a, b, c, d, e, f, g, h⟩
      exact ⟨⟨⟨⟨⟨⟨⟨by omega, by omega⟩, by omega⟩, by omega⟩, e⟩, f⟩, g⟩, h⟩
  have h2 : oneB l0.length p kd = true ↔ (-1 ≤ p.f0 ∧ p.f0 < l0.length ∧ p.f3 ≤ 1 ∧ p.f4 ≤ 1 ∧ p.f5 ≤ 7 ∧ (p.f3 = p.f4 ∨ sharedP p.f5) ∧ (0 ≤ p.f1 ∧ p.f1 ≤ 99999) ∧ (0 ≤ p.f2 ∧ p.f2 ≤ 99999) ∧ oneD p kd = true) := by
    unfold oneB oneA oneC
    have hs : (!(p.f3 == p.f4) && !sharedB p.f5) = false ↔ (p.f3 = p.f4 ∨ sharedP p.f5) := by
      rw [← shared_iff, ← beq_iff_eq (a := p.f3)]
      cases p.f3 == p.f4 <;> cases sharedB p.f5 <;> simp
    simp only [Bool.and_eq_true, Bool.not_eq_true', Bool.or_eq_false_iff, decide_eq_false_iff_not, hs]
    constructor
    · rintro ⟨⟨⟨⟨⟨⟨⟨a, b⟩, c⟩, d⟩, e⟩, f⟩, ⟨⟨g1, g2⟩, g3⟩, g4⟩, h⟩
      exact ⟨by omega, by omega, by omega, by omega, by omega, f, ⟨by omega, by omega⟩, ⟨by omega, by omega⟩, h⟩
    · rintro ⟨a, b, c, d, e, f, ⟨g1, g2⟩, ⟨g3, g4⟩, h⟩
      exact ⟨⟨⟨⟨⟨⟨⟨by omega, by omega⟩, by omega⟩, by omega⟩, by omega⟩, f⟩, ⟨⟨by omega, by omega⟩, by omega⟩, by omega⟩, h⟩
  have h3 : (standsB p kd = true) ↔ (oneD p kd = true ∧ p.f5 ≤ 7 ∧ (¬ sharedP p.f5 → p.f5 ≠ 7 → 0 ≤ p.f6)) := by
    unfold standsB oneD sharedP
    by_cases z2 : p.f5 = 2
    · simp [z2, within_iff]
      omega
    by_cases z3 : p.f5 = 3
    · simp [z3, within_iff]
      omega
    by_cases z6 : p.f5 = 6
    · simp [z6]
      omega
    by_cases z7 : p.f5 = 7
    · simp [z7]
      omega
    · simp [z2, z3, z6, z7]
      omega
  rw [h1, h2, h3]
  constructor
  · rintro ⟨a, b, c, d, e, f, g, h, i, j⟩
    exact ⟨⟨a, b, c, d, i, e, f, g, h⟩, j⟩
  · rintro ⟨⟨a, b, c, d, i, e, f, g, h⟩, j⟩
    exact ⟨a, b, c, d, e, f, g, h, i, j⟩
/-! What the maps hold. -/
theorem getI_put (l : ML) (x y : Spot) (v : Int) : getI (putI l x v) y = if x = y then v else getI l y := by
  induction l with
  | nil => by_cases h : x = y <;> simp [putI, getI, h]
  | cons p r ih =>
    obtain ⟨q, u⟩ := p
    by_cases hq : q = x
    · subst hq
      by_cases hy : q = y <;> simp [putI, getI, hy]
    · by_cases hy : q = y
      · subst hy
        simp [putI, getI, hq, Ne.symm hq]
      · simp [putI, getI, hq, hy, ih]
theorem mem_put {l : ML} (hn : (l.map (·.1)).Nodup) (x y : Spot) (v u : Int) : (y, u) ∈ putI l x v ↔ (y = x ∧ u = v) ∨ (y ≠ x ∧ (y, u) ∈ l) := by
  induction l with
  | nil => simp [putI]
  | cons p r ih =>
    obtain ⟨q, t⟩ := p
    simp only [List.map_cons, List.nodup_cons] at hn
    by_cases hq : q = x
    · subst hq
      simp only [putI, if_true, List.mem_cons, Prod.mk.injEq]
      constructor
      · rintro (h | h)
        · exact .inl h
        · exact .inr ⟨fun e => hn.1 (List.mem_map.2 ⟨(y, u), h, e⟩), .inr h⟩
      · rintro (h | ⟨h1, h2⟩)
        · exact .inl h
        · rcases h2 with h2 | h2
          · exact absurd h2.1 h1
          · exact .inr h2
    · simp only [putI, hq, if_false, List.mem_cons, Prod.mk.injEq, ih hn.2]
      constructor
      · rintro (⟨h1, h2⟩ | h | ⟨h1, h2⟩)
        · exact .inr ⟨by rw [h1]; exact hq, .inl ⟨h1, h2⟩⟩
        · exact .inl h
        · exact .inr ⟨h1, .inr h2⟩
      · rintro (h | ⟨h1, h2 | h2⟩)
        · exact .inr (.inl h)
        · exact .inl h2
        · exact .inr (.inr ⟨h1, h2⟩)
theorem keys_put (l : ML) (x : Spot) (v : Int) : (putI l x v).map (·.1) = if x ∈ l.map (·.1) then l.map (·.1) else l.map (·.1) ++ [x] := by
  induction l with
  | nil => simp [putI]
  | cons p r ih =>
    obtain ⟨q, t⟩ := p
    by_cases hq : q = x
    · simp [putI, hq]
    · have hx : ¬ x = q := fun e => hq e.symm
      simp only [putI, hq, if_false, List.map_cons, ih, List.mem_cons, hx, false_or]
      split <;> simp
theorem nodup_put {l : ML} (hn : (l.map (·.1)).Nodup) (x : Spot) (v : Int) : ((putI l x v).map (·.1)).Nodup := by
  rw [keys_put]
  split
  · exact hn
  · rename_i h
    exact List.nodup_append.2 ⟨hn, by simp, fun a ha b hb e => h (by rw [List.mem_singleton.1 hb] at e; rw [← e]; exact ha)⟩
theorem getI_mem {l : ML} (hn : (l.map (·.1)).Nodup) {x : Spot} {v : Int} (h : (x, v) ∈ l) : getI l x = v := by
  induction l with
  | nil => simp at h
  | cons p r ih =>
    obtain ⟨q, t⟩ := p
    simp only [List.map_cons, List.nodup_cons] at hn
    rcases List.mem_cons.1 h with h | h
    · cases h; simp [getI]
    · have hq : q ≠ x := fun e => hn.1 (List.mem_map.2 ⟨(x, v), h, e.symm⟩)
      simp [getI, hq, ih hn.2 h]
theorem getI_not {l : ML} {x : Spot} (h : ∀ v, (x, v) ∉ l) : getI l x = 0 := by
  induction l with
  | nil => rfl
  | cons p r ih =>
    obtain ⟨q, t⟩ := p
    have hq : q ≠ x := fun e => h t (by simp [e])
    simp [getI, hq, ih fun v hv => h v (List.mem_cons_of_mem _ hv)]
def inRoom (x : Spot) (p : PS) : Bool := !(p.f5 == 7) && !sharedB p.f5 && decide (roomOf p = x)
def maxR (x : Spot) (m : Int) (ps : List PS) : Int := ps.foldl (fun m p => if inRoom x p = true then mx m p.f6 else m) m
structure InvT (pre : List PS) (s : TS) : Prop where
  tk : ∀ x, (getI s.tk x = 1 ∧ ∃ p ∈ pre, p.f5 ≠ 7 ∧ spotOf p = x) ∨ (getI s.tk x = 0 ∧ ¬ ∃ p ∈ pre, p.f5 ≠ 7 ∧ spotOf p = x)
  mn : ∀ x, getI s.mn x = (pre.countP (inRoom x) : Nat)
  ms : ∀ x v, (x, v) ∈ s.ms ↔ 0 < pre.countP (inRoom x) ∧ v = maxR x 0 pre
  nd : (s.ms.map (·.1)).Nodup
theorem inv_nil : InvT [] ⟨[], [], []⟩ := ⟨fun x => .inr ⟨rfl, by simp⟩, fun x => rfl, fun x v => by simp, by simp⟩
theorem InvT.same {pre : List PS} {s : TS} (h : InvT pre s) {p : PS} (h7 : p.f5 = 7) : InvT (pre ++ [p]) s := by
  have hr : ∀ x, inRoom x p = false := fun x => by unfold inRoom; simp [h7]
  refine ⟨fun x => ?_, fun x => ?_, fun x v => ?_, h.nd⟩
  · rcases h.tk x with ⟨a, q, hq, b⟩ | ⟨a, b⟩
    · exact .inl ⟨a, q, List.mem_append_left _ hq, b⟩
    · refine .inr ⟨a, ?_⟩
      rintro ⟨q, hq, c, e⟩
      rcases List.mem_append.1 hq with hq | hq
      · exact b ⟨q, hq, c, e⟩
      · rw [List.mem_singleton.1 hq] at c; exact c h7
  · rw [h.mn, List.countP_append]; simp [hr]
  · rw [h.ms, List.countP_append]; unfold maxR; simp [hr]
theorem InvT.step {pre : List PS} {s : TS} (h : InvT pre s) (hlen : pre.length ≤ 1000) {p : PS} (h7 : p.f5 ≠ 7) (h0 : getI s.tk (spotOf p) = 0) :
    InvT (pre ++ [p]) (if sharedB p.f5 = true then ⟨putI s.tk (spotOf p) (wrap64 (getI s.tk (spotOf p) + 1)), s.ms, s.mn⟩ else
      ⟨putI s.tk (spotOf p) (wrap64 (getI s.tk (spotOf p) + 1)), putI s.ms (roomOf p) (mx (getI s.ms (roomOf p)) p.f6), putI s.mn (roomOf p) (wrap64 (getI s.mn (roomOf p) + 1))⟩) := by
  have e1 : wrap64 (getI s.tk (spotOf p) + 1) = 1 := by rw [h0]; unfold wrap64; omega
  have htk : ∀ x, (getI (putI s.tk (spotOf p) 1) x = 1 ∧ ∃ q ∈ pre ++ [p], q.f5 ≠ 7 ∧ spotOf q = x) ∨ (getI (putI s.tk (spotOf p) 1) x = 0 ∧ ¬ ∃ q ∈ pre ++ [p], q.f5 ≠ 7 ∧ spotOf q = x) := by
    intro x
    rw [getI_put]
    by_cases hx : spotOf p = x
    · rw [if_pos hx]; exact .inl ⟨rfl, p, by simp, h7, hx⟩
    · rw [if_neg hx]
      rcases h.tk x with ⟨a, q, hq, b⟩ | ⟨a, b⟩
      · exact .inl ⟨a, q, List.mem_append_left _ hq, b⟩
      · refine .inr ⟨a, ?_⟩
        rintro ⟨q, hq, c, e⟩
        rcases List.mem_append.1 hq with hq | hq
        · exact b ⟨q, hq, c, e⟩
        · rw [List.mem_singleton.1 hq] at e; exact hx e
  rw [e1]
  by_cases hs : sharedB p.f5 = true
  · rw [if_pos hs]
    have hr : ∀ x, inRoom x p = false := fun x => by unfold inRoom; simp [hs]
    refine ⟨htk, fun x => ?_, fun x v => ?_, h.nd⟩
    · show getI s.mn x = _
      rw [h.mn, List.countP_append]; simp [hr]
    · show (x, v) ∈ s.ms ↔ _
      rw [h.ms, List.countP_append]; unfold maxR; simp [hr]
  · rw [if_neg hs]
    have hr : ∀ x, inRoom x p = decide (roomOf p = x) := fun x => by unfold inRoom; simp [hs, h7]
    have hmn : getI s.mn (roomOf p) = (pre.countP (inRoom (roomOf p)) : Nat) := h.mn _
    have hle : pre.countP (inRoom (roomOf p)) ≤ pre.length := List.countP_le_length
    have e2 : wrap64 (getI s.mn (roomOf p) + 1) = (pre.countP (inRoom (roomOf p)) + 1 : Nat) := by rw [hmn]; unfold wrap64; omega
    have e3 : getI s.ms (roomOf p) = maxR (roomOf p) 0 pre := by
      by_cases hc : 0 < pre.countP (inRoom (roomOf p))
      · exact getI_mem h.nd ((h.ms _ _).2 ⟨hc, rfl⟩)
      · rw [getI_not fun v hv => hc ((h.ms _ _).1 hv).1]
        have hz : ∀ q ∈ pre, ¬ inRoom (roomOf p) q = true := List.countP_eq_zero.1 (by omega)
        have : ∀ (l : List PS) (m : Int), (∀ q ∈ l, ¬ inRoom (roomOf p) q = true) → maxR (roomOf p) m l = m := by
          intro l
          induction l with
          | nil => intro m _; rfl
          | cons q r ih =>
            intro m hq
            unfold maxR
            rw [List.foldl_cons, if_neg (hq q (by simp))]
            exact ih m fun q' h' => hq q' (List.mem_cons_of_mem _ h')
        exact (this pre 0 hz).symm
    rw [e2, e3]
    refine ⟨htk, fun x => ?_, fun x v => ?_, nodup_put h.nd _ _⟩
    · show getI (putI s.mn (roomOf p) _) x = _
      rw [getI_put, List.countP_append]
      by_cases hx : roomOf p = x
      · subst hx; rw [if_pos rfl]; simp [hr]
      · rw [if_neg hx, h.mn]; simp [hr, hx]
    · show (x, v) ∈ putI s.ms (roomOf p) _ ↔ _
      rw [mem_put h.nd, List.countP_append]
      have hm : ∀ x, maxR x 0 (pre ++ [p]) = if roomOf p = x then mx (maxR x 0 pre) p.f6 else maxR x 0 pre := by
        intro x
        unfold maxR
        rw [List.foldl_append]
        simp [hr]
      rw [hm]
      by_cases hx : roomOf p = x
      · subst hx
        simp [hr]
      · have hx2 : ¬ x = roomOf p := fun e => hx e.symm
        rw [h.ms]
        simp [hr, hx, hx2]
def runL (l0 : List S97) : List PS → TS → Option TS
  | [], s => some s
  | p :: r, s => (stepM (badP l0 p) (sharedB p.f5) p s).bind (runL l0 r)
theorem runM_drop (l0 : List S97) (bad sh : Nat → Bool) (ps : List PS) (hb : ∀ i : Nat, bad i = badP l0 (rd_T35 ps (i : Int))) (hs : ∀ i : Nat, sh i = sharedB (rd_T35 ps (i : Int)).f5) :
    ∀ (d k : Nat) (s : TS), d + k = ps.length → runM bad sh ps d k s = runL l0 (ps.drop k) s
  | 0, k, s, h => by rw [List.drop_eq_nil_of_le (by omega)]; rfl
  | d + 1, k, s, h => by
    have hk : k < ps.length := by omega
    have hrd : rd_T35 ps (k : Int) = ps[k] := by
      unfold rd_T35
      rw [Int.toNat_natCast, List.getD_eq_getElem?_getD, List.getElem?_eq_getElem hk]
      rfl
    rw [List.drop_eq_getElem_cons hk]
    unfold runM runL
    rw [hb, hs, hrd]
    congr 1
    funext s'
    exact runM_drop l0 bad sh ps hb hs d (k + 1) s' (by omega)
/-- Which lists pass. -/
def Passes (l0 : List S97) (pre r : List PS) : Prop :=
  (∀ p ∈ r, badP l0 p = false) ∧ r.Pairwise (fun p q => p.f5 ≠ 7 → q.f5 ≠ 7 → spotOf p ≠ spotOf q) ∧ ∀ p ∈ pre, ∀ q ∈ r, p.f5 ≠ 7 → q.f5 ≠ 7 → spotOf p ≠ spotOf q
theorem run_iff (l0 : List S97) : ∀ (r pre : List PS) (s : TS), InvT pre s → pre.length + r.length ≤ 1000 →
    (Passes l0 pre r ∧ ∃ s', runL l0 r s = some s' ∧ InvT (pre ++ r) s') ∨ (¬ Passes l0 pre r ∧ runL l0 r s = none)
  | [], pre, s, h, _ => .inl ⟨⟨by simp, List.Pairwise.nil, by simp⟩, s, rfl, by rw [List.append_nil]; exact h⟩
  | p :: r, pre, s, h, hl => by
    simp only [List.length_cons] at hl
    by_cases hb : badP l0 p = true
    · refine .inr ⟨fun hp => ?_, ?_⟩
      · have := hp.1 p (by simp); rw [hb] at this; cases this
      · unfold runL stepM; rw [if_pos hb]; rfl
    have hb' : badP l0 p = false := by cases h1 : badP l0 p <;> simp_all
    have split_ : (p.f5 ≠ 7 → ∀ q ∈ pre, q.f5 ≠ 7 → spotOf q ≠ spotOf p) → (Passes l0 pre (p :: r) ↔ Passes l0 (pre ++ [p]) r) := by
      intro hpre
      unfold Passes
      constructor
      · rintro ⟨h1, h2, h3⟩
        rw [List.pairwise_cons] at h2
        refine ⟨fun q hq => h1 q (List.mem_cons_of_mem _ hq), h2.2, fun a ha q hq => ?_⟩
        rcases List.mem_append.1 ha with ha | ha
        · exact h3 a ha q (List.mem_cons_of_mem _ hq)
        · rw [List.mem_singleton.1 ha]; exact h2.1 q hq
      · rintro ⟨h1, h2, h3⟩
        refine ⟨fun q hq => ?_, List.pairwise_cons.2 ⟨fun q hq => h3 p (by simp) q hq, h2⟩, fun a ha q hq => ?_⟩
        · rcases List.mem_cons.1 hq with e | hq
          · rw [e]; exact hb'
          · exact h1 q hq
        · rcases List.mem_cons.1 hq with e | hq
          · intro a7 q7
            rw [e] at q7 ⊢
            exact hpre q7 a ha a7
          · exact h3 a (List.mem_append_left _ ha) q hq
    by_cases h7 : p.f5 = 7
    · have ih := run_iff l0 r (pre ++ [p]) s (h.same h7) (by simp; omega)
      have e : runL l0 (p :: r) s = runL l0 r s := by
        conv => lhs; unfold runL
        unfold stepM
        rw [if_neg hb, if_pos h7]
        rfl
      rw [e, split_ (fun h' => absurd h7 h'), show pre ++ p :: r = pre ++ [p] ++ r by simp]
      exact ih
    · by_cases h0 : getI s.tk (spotOf p) > 0
      · rcases h.tk (spotOf p) with ⟨_, q, hq, q7, e⟩ | ⟨a, _⟩
        · refine .inr ⟨fun hp => hp.2.2 q hq p (by simp) q7 h7 e, ?_⟩
          unfold runL stepM
          rw [if_neg hb, if_neg h7, if_pos h0]
          rfl
        · omega
      · rcases h.tk (spotOf p) with ⟨a, _⟩ | ⟨a, hno⟩
        · omega
        have ih := run_iff l0 r (pre ++ [p]) _ (h.step (by omega) h7 a) (by simp; omega)
        rw [split_ (fun _ q hq q7 e => hno ⟨q, hq, q7, e⟩), show pre ++ p :: r = pre ++ [p] ++ r by simp]
        have e : runL l0 (p :: r) s = runL l0 r (if sharedB p.f5 = true then ⟨putI s.tk (spotOf p) (wrap64 (getI s.tk (spotOf p) + 1)), s.ms, s.mn⟩ else
            ⟨putI s.tk (spotOf p) (wrap64 (getI s.tk (spotOf p) + 1)), putI s.ms (roomOf p) (mx (getI s.ms (roomOf p)) p.f6), putI s.mn (roomOf p) (wrap64 (getI s.mn (roomOf p) + 1))⟩) := by
          conv => lhs; unfold runL
          unfold stepM
          rw [if_neg hb, if_neg h7, if_neg h0]
          split <;> rfl
        rw [e]
        exact ih
theorem max_lt (x : Spot) (N : Int) : ∀ (ps : List PS) (m : Int), maxR x m ps < N ↔ m < N ∧ ∀ p ∈ ps, inRoom x p = true → p.f6 < N
  | [], m => by simp [maxR]
  | p :: r, m => by
    have ih := max_lt x N r
    have e : maxR x m (p :: r) = maxR x (if inRoom x p = true then mx m p.f6 else m) r := rfl
    rw [e, ih]
    by_cases h : inRoom x p = true
    · rw [if_pos h]
      have hm : mx m p.f6 < N ↔ m < N ∧ p.f6 < N := by unfold mx; split <;> omega
      rw [hm]
      constructor
      · rintro ⟨⟨a, b⟩, c⟩
        exact ⟨a, fun q hq hr => by rcases List.mem_cons.1 hq with e | hq; · rw [e]; exact b
                                    · exact c q hq hr⟩
      · rintro ⟨a, c⟩
        exact ⟨⟨a, c p (by simp) h⟩, fun q hq => c q (List.mem_cons_of_mem _ hq)⟩
    · rw [if_neg h]
      constructor
      · rintro ⟨a, c⟩
        exact ⟨a, fun q hq hr => by rcases List.mem_cons.1 hq with e | hq; · rw [e] at hr; exact absurd hr h
                                    · exact c q hq hr⟩
      · rintro ⟨a, c⟩
        exact ⟨a, fun q hq => c q (List.mem_cons_of_mem _ hq)⟩
theorem last_iff {ps : List PS} {s : TS} (h : InvT ps s) : lastM s = true ↔ ∀ p ∈ ps, p.f5 ≠ 7 → ¬ sharedP p.f5 → p.f6 < (ps.countP (inRoom (roomOf p)) : Nat) := by
  unfold lastM
  rw [List.all_eq_true]
  constructor
  · intro ha p hp h7 hs
    have hin : inRoom (roomOf p) p = true := by
      have : sharedB p.f5 = false := by cases e : sharedB p.f5; · rfl
                                        · exact absurd ((shared_iff _).1 e) hs
      unfold inRoom; simp [h7, this]
    have hc : 0 < ps.countP (inRoom (roomOf p)) := List.countP_pos_iff.2 ⟨p, hp, hin⟩
    have h1 := ha (roomOf p, maxR (roomOf p) 0 ps) ((h.ms _ _).2 ⟨hc, rfl⟩)
    have h2 := of_decide_eq_true h1
    rw [h.mn] at h2
    exact ((max_lt _ _ _ _).1 h2).2 p hp hin
  · rintro ha ⟨x, v⟩ hx
    obtain ⟨hc, hv⟩ := (h.ms x v).1 hx
    refine decide_eq_true ?_
    show v < getI s.mn x
    rw [hv, h.mn]
    refine (max_lt _ _ _ _).2 ⟨by omega, fun p hp hin => ?_⟩
    unfold inRoom at hin
    simp only [Bool.and_eq_true, Bool.not_eq_true', beq_eq_false_iff_ne, decide_eq_true_eq] at hin
    obtain ⟨⟨h7, hs⟩, hx⟩ := hin
    have := ha p hp h7 (fun e => by rw [(shared_iff _).2 e] at hs; cases hs)
    rw [hx] at this
    exact this
/-- What the program reckons. -/
def mayB (l0 : List S97) (l1 : List PS) (a2 a3 a4 a5 : Int) : Bool :=
  headB a2 a3 a4 a5 l1.length && mayM (fun i : Nat => badB l0.length (standsB (rd_T35 l1 (i : Int)) (kindV l0 (rd_T35 l1 (i : Int)))) (rd_T35 l1 (i : Int))) (fun i : Nat => sharedB (rd_T35 l1 (i : Int)).f5) l1
def allC (ps : List PS) (who zone : Int) : Nat := ps.countP (fun q => q.f5 == zone && q.f4 == who)
def thereC (ps : List PS) (who zone x : Int) : Nat := ps.countP (fun q => q.f5 == zone && q.f4 == who && q.f6 == x)
/-- What the document says. -/
def pieceB (l0 : List S97) (ps : List PS) (p : PS) : Bool :=
  okP l0 p && (p.f5 == 6 || p.f5 == 7 || (thereC ps p.f4 p.f5 p.f6 == 1 && (sharedB p.f5 || (decide (0 ≤ p.f6) && decide (p.f6 < (allC ps p.f4 p.f5 : Nat))))))
def refB (l0 : List S97) (l1 : List PS) (a2 a3 a4 a5 : Int) : Bool :=
  headB a2 a3 a4 a5 l1.length && l1.all (pieceB l0 l1) && decide (l1.countP (fun p => p.f5 == 6) ≤ 1)
theorem count_le_one {P : PS → Bool} : ∀ {l : List PS}, l.countP P ≤ 1 ↔ l.Pairwise (fun p q => ¬ (P p = true ∧ P q = true))
  | [] => by simp
  | p :: r => by
    rw [List.pairwise_cons, List.countP_cons]
    by_cases h : P p = true
    · rw [if_pos h]
      constructor
      · intro hc
        have h0 : r.countP P = 0 := by omega
        have hz := List.countP_eq_zero.1 h0
        exact ⟨fun q hq hh => hz q hq hh.2, count_le_one.1 (by omega)⟩
      · rintro ⟨h1, h2⟩
        have h0 : r.countP P = 0 := List.countP_eq_zero.2 fun q hq hh => h1 q hq ⟨h, hh⟩
        omega
    · rw [if_neg h]
      constructor
      · intro hc
        exact ⟨fun q hq hh => h hh.1, count_le_one.1 (by omega)⟩
      · rintro ⟨h1, h2⟩
        have := count_le_one.2 h2
        omega
theorem okP_facts {l0 : List S97} {p : PS} (h : okP l0 p = true) : (p.f5 = 6 → p.f6 = 0) := by
  intro h6
  unfold okP oneB oneD at h
  simp [h6] at h
  exact h.2.1.1
theorem room_all (ps : List PS) (p : PS) (h7 : p.f5 ≠ 7) (hs : ¬ sharedP p.f5) : ps.countP (inRoom (roomOf p)) = allC ps p.f4 p.f5 := by
  unfold allC
  refine List.countP_congr fun q _ => ?_
  unfold inRoom roomOf
  have hsb : sharedB p.f5 = false := by
    cases e : sharedB p.f5
    · rfl
    · exact absurd ((shared_iff _).1 e) hs
  simp only [Bool.and_eq_true, Bool.not_eq_true', beq_eq_false_iff_ne, decide_eq_true_eq, Prod.mk.injEq, and_true, beq_iff_eq]
  constructor
  · rintro ⟨_, a, b⟩
    exact ⟨b, a⟩
  · rintro ⟨a, b⟩
    rw [a]
    exact ⟨⟨h7, hsb⟩, b, rfl⟩
theorem may_ref (l0 : List S97) (l1 : List PS) (a2 a3 a4 a5 : Int) : mayB l0 l1 a2 a3 a4 a5 = refB l0 l1 a2 a3 a4 a5 := by
  unfold mayB refB
  by_cases hh : headB a2 a3 a4 a5 l1.length = true
  rotate_left
  · have : headB a2 a3 a4 a5 l1.length = false := by cases e : headB a2 a3 a4 a5 l1.length <;> simp_all
    rw [this]; rfl
  rw [hh, Bool.true_and, Bool.true_and]
  have hlen : l1.length ≤ 144 := by
    unfold headB at hh
    simp only [Bool.and_eq_true, decide_eq_true_eq] at hh
    omega
  have hdrop := runM_drop l0 (fun i : Nat => badB l0.length (standsB (rd_T35 l1 (i : Int)) (kindV l0 (rd_T35 l1 (i : Int)))) (rd_T35 l1 (i : Int))) (fun i : Nat => sharedB (rd_T35 l1 (i : Int)).f5) l1 (fun i => rfl) (fun i => rfl) l1.length 0 ⟨[], [], []⟩ (by omega)
  rw [mayM_fin, hdrop, List.drop_zero]
  rw [Bool.eq_iff_iff, Bool.and_eq_true, List.all_eq_true, decide_eq_true_eq]
  have hP : Passes l0 [] l1 ↔ ((∀ p ∈ l1, badP l0 p = false) ∧ l1.Pairwise (fun p q => p.f5 ≠ 7 → q.f5 ≠ 7 → spotOf p ≠ spotOf q)) := by
    unfold Passes
    simp
  rcases run_iff l0 l1 [] ⟨[], [], []⟩ inv_nil (by simp; omega) with ⟨hp, s', hs', hinv⟩ | ⟨hp, hn⟩
  · rw [hs']
    rw [List.nil_append] at hinv
    show lastM s' = true ↔ _
    rw [last_iff hinv]
    obtain ⟨hb, hd⟩ := hP.1 hp
    constructor
    · intro hr
      refine ⟨fun p hpm => ?_, ?_⟩
      · have hbp := (bad_iff l0 p).1 (hb p hpm)
        unfold pieceB
        rw [hbp.1, Bool.true_and]
        by_cases h6 : p.f5 = 6
        · simp [h6]
        by_cases h7 : p.f5 = 7
        · simp [h7]
        have hth : thereC l1 p.f4 p.f5 p.f6 = 1 := by
          have hle : thereC l1 p.f4 p.f5 p.f6 ≤ 1 := by
            unfold thereC
            refine count_le_one.2 (hd.imp fun {a b} hab => ?_)
            rintro ⟨ha, hb2⟩
            simp only [Bool.and_eq_true, beq_iff_eq] at ha hb2
            refine hab (by rw [ha.1.1]; exact h7) (by rw [hb2.1.1]; exact h7) ?_
            unfold spotOf
            rw [ha.1.1, hb2.1.1, ha.1.2, hb2.1.2, ha.2, hb2.2]
          have hpos : 0 < thereC l1 p.f4 p.f5 p.f6 := List.countP_pos_iff.2 ⟨p, hpm, by simp⟩
          omega
        by_cases hsh : sharedP p.f5
        · simp [hth, (shared_iff _).2 hsh]
        · have h1 := hr p hpm h7 hsh
          rw [room_all l1 p h7 hsh] at h1
          have h2 := hbp.2 hsh h7
          simp [hth, h1, h2]
      · refine count_le_one.2 ?_
        rw [List.pairwise_iff_getElem] at hd ⊢
        rintro i j hi hj hij ⟨ha, hb2⟩
        simp only [beq_iff_eq] at ha hb2
        refine hd i j hi hj hij (by omega) (by omega) ?_
        have hA := okP_facts ((bad_iff l0 _).1 (hb _ (List.getElem_mem hi))).1 ha
        have hB := okP_facts ((bad_iff l0 _).1 (hb _ (List.getElem_mem hj))).1 hb2
        unfold spotOf
        rw [if_pos ha, if_pos hb2, ha, hb2, hA, hB]
    · rintro ⟨hall, hlim⟩ p hpm h7 hs
      rw [room_all l1 p h7 hs]
      have h1 := hall p hpm
      unfold pieceB at h1
      have hsb : sharedB p.f5 = false := by
        cases e : sharedB p.f5
        · rfl
        · exact absurd ((shared_iff _).1 e) hs
      have h6 : p.f5 ≠ 6 := fun e => hs (.inr (.inr e))
      simp [hsb, h6, h7] at h1
      exact h1.2.2.2
  · rw [hn]
    refine ⟨fun h => (by cases h), ?_⟩
    rintro ⟨hall, hlim⟩
    refine absurd (hP.2 ⟨fun p hpm => ?_, ?_⟩) hp
    · rw [bad_iff]
      have h1 := hall p hpm
      unfold pieceB at h1
      rw [Bool.and_eq_true] at h1
      refine ⟨h1.1, fun hs h7 => ?_⟩
      have hsb : sharedB p.f5 = false := by
        cases e : sharedB p.f5
        · rfl
        · exact absurd ((shared_iff _).1 e) hs
      have h6 : p.f5 ≠ 6 := fun e => hs (.inr (.inr e))
      have h2 := h1.2
      simp [hsb, h6, h7] at h2
      exact h2.2.1
    · rw [List.pairwise_iff_getElem]
      intro i j hi hj hij a7 b7 he
      unfold spotOf at he
      simp only [Prod.mk.injEq] at he
      obtain ⟨e1, e2, e3⟩ := he
      by_cases h6 : l1[i].f5 = 6
      · have hc := count_le_one.1 hlim
        rw [List.pairwise_iff_getElem] at hc
        exact hc i j hi hj hij ⟨by simp [h6], by simp [← e2, h6]⟩
      · rw [if_neg h6, if_neg (by rw [← e2]; exact h6)] at e1
        have h1 := hall l1[i] (List.getElem_mem hi)
        unfold pieceB at h1
        rw [Bool.and_eq_true] at h1
        have h2 := h1.2
        have hth : thereC l1 l1[i].f4 l1[i].f5 l1[i].f6 = 1 := by
          simp [h6, a7] at h2
          exact h2.1
        have hc := count_le_one.1 (Nat.le_of_eq hth)
        rw [List.pairwise_iff_getElem] at hc
        exact hc i j hi hj hij ⟨by simp, by simp [← e1, ← e2, ← e3]⟩
end Go.Proofs.Ytlldpdhajddmiaa.Bmay
end
section
/- Whether a table may be, and a piece by itself: contracts as the prints take them. -/
namespace Go.Proofs.Ytlldpdhajddmiaa.Base
open Go Go.RowKit Go.Proofs.Ytlldpdhajddmiaa.Pmga Go.Proofs.Ytlldpdhajddmiaa.Bmay Go.Proofs.YtlldpdhajddmiaaW.PrintWords
def wfP (p : PS) : Bool := (Lit.int .u8 p.f3).wf && (Lit.int .u8 p.f4).wf && (Lit.int .u8 p.f5).wf && (Lit.int .i64 p.f6).wf
theorem wfP_ok {p : PS} (h : wfP p = true) : okS (spotOf p) ∧ okS (roomOf p) ∧ 0 ≤ p.f4 ∧ 0 ≤ p.f3 := by
  unfold wfP at h
  simp only [Bool.and_eq_true] at h
  obtain ⟨⟨⟨h3, h4⟩, h5⟩, h6⟩ := h
  have g3 := h3
  have g4 := h4
  simp only [Lit.wf, IntKind.min, IntKind.max, IntKind.signed, IntKind.bits, Bool.and_eq_true] at g3 g4
  refine ⟨⟨?_, h5, h6⟩, ⟨h4, h5, (by show (Lit.int .i64 0).wf = true; decide)⟩, by simpa using g4.1, by simpa using g3.1⟩
  show (Lit.int .u8 (if p.f5 = 6 then 0 else p.f4)).wf = true
  split
  · decide
  · exact h4
theorem kind_f (l0 : List S97) (l1 : List PS) (a2 a3 a4 a5 a6 : Int) (l7 : List S58) (a8 a9 : Bool) (i : Nat) (hi : i < l1.length) :
    board_Kind.f 1 l0 l1 a2 a3 a4 a5 a6 l7 a8 a9 (i : Int) = some (kindV l0 (rd_T35 l1 (i : Int))) := by
  unfold board_Kind.f kindV
  have h1 : decide ((i : Int) ≥ (l1.length : Int)) = false := decide_eq_false (by omega)
  rw [if_neg (show ¬ (i : Int) < 0 by omega), h1]
  unfold board_Kind.j0
  dsimp only
  rw [if_neg (by decide : ¬ (false = true)), if_pos (show (0 : Int) ≤ (i : Int) by omega), if_pos (show (i : Int) < (l1.length : Int) by omega)]
  generalize rd_T35 l1 (i : Int) = p
  by_cases h2 : p.f0 ≥ 0
  · rw [if_pos h2]
    by_cases h3 : p.f0 < (l0.length : Int)
    · rw [if_pos h3, if_pos h2, if_pos ⟨h2, h3⟩]
    · rw [if_neg h3, if_neg (fun h => h3 h.2)]
  · rw [if_neg h2, if_neg (fun h => h2 h.1)]
theorem rkind_f (l0 : List S97) (l1 : List PS) (a2 a3 a4 a5 a6 : Int) (l7 : List S58) (a8 a9 : Bool) (i : Nat) (hi : i < l1.length) :
    joustref06_Kind.f 1 l0 l1 a2 a3 a4 a5 a6 l7 a8 a9 (i : Int) = some (kindV l0 (rd_T35 l1 (i : Int))) := by
  unfold joustref06_Kind.f kindV
  have h1 : decide ((i : Int) ≥ (l1.length : Int)) = false := decide_eq_false (by omega)
  rw [if_neg (show ¬ (i : Int) < 0 by omega), h1]
  unfold joustref06_Kind.j0
  dsimp only
  rw [if_neg (by decide : ¬ (false = true)), if_pos (show (0 : Int) ≤ (i : Int) by omega), if_pos (show (i : Int) < (l1.length : Int) by omega)]
  generalize rd_T35 l1 (i : Int) = p
  by_cases h2 : p.f0 < 0
  · rw [if_pos h2, if_neg (fun h => by omega)]
  · rw [if_neg h2]
    by_cases h3 : p.f0 ≥ (l0.length : Int)
    · rw [if_pos h3, if_neg (fun h => by omega)]
    · rw [if_neg h3, if_pos (by omega), if_pos (by omega), if_pos ⟨by omega, by omega⟩]
def board_May.f (_k : Nat) (l0_0 : List (S97)) (l0_1 : List (S35)) (a0_2 : Int) (a0_3 : Int) (a0_4 : Int) (a0_5 : Int) (_a0_6 : Int) (_l0_7 : List (S58)) (_a0_8 : Bool) (_a0_9 : Bool) : Option (Bool) :=
  if l0_1.all wfP = true then some (mayB l0_0 l0_1 a0_2 a0_3 a0_4 a0_5) else none
theorem board_May.mono : ∀ a0 a1 a2 a3 a4 a5 a6 a7 a8 a9 k, LeO (board_May.f k a0 a1 a2 a3 a4 a5 a6 a7 a8 a9) (board_May.f (k + 1) a0 a1 a2 a3 a4 a5 a6 a7 a8 a9) := fun _ _ _ _ _ _ _ _ _ _ _ _ h => h
theorem board_May.calls (k : Nat) (A0_0 : Option Addr) (c0_0 : Nat) (l0_0 : List (S97)) (A0_1 : Option Addr) (c0_1 : Nat) (l0_1 : List (S35)) (a0_2 : Int) (a0_3 : Int) (a0_4 : Int) (a0_5 : Int) (a0_6 : Int) (A0_7 : Option Addr) (c0_7 : Nat) (l0_7 : List (S58)) (a0_8 : Bool) (a0_9 : Bool) (r : Bool) (w : World) (hr0_0 : Kd.C k97 w A0_0 l0_0.length l0_0) (hc0_0 : l0_0.length ≤ c0_0) (hr0_1 : Kd.C k35 w A0_1 l0_1.length l0_1) (hc0_1 : l0_1.length ≤ c0_1) (hr0_7 : Kd.C k58 w A0_7 l0_7.length l0_7) (hc0_7 : l0_7.length ≤ c0_7) (h : board_May.f k l0_0 l0_1 a0_2 a0_3 a0_4 a0_5 a0_6 l0_7 a0_8 a0_9 = some r) :
    Calls Try.prog 41 #[.agg #[.slice A0_0 l0_0.length c0_0, .slice A0_1 l0_1.length c0_1, .int .i64 a0_2, .int .i64 a0_3, .int .i64 a0_4, .int .u8 a0_5, .int .i64 a0_6, .slice A0_7 l0_7.length c0_7, .bool a0_8, .bool a0_9]] w fun e w' => e = .returned (.bool r) ∧ Below w.heap.size w w' := by
  unfold board_May.f at h
  split at h
  · rename_i hwf
    obtain rfl := (Option.some.inj h).symm
    unfold mayB
    by_cases hh : headB a0_2 a0_3 a0_4 a0_5 l0_1.length = true
    · rw [hh, Bool.true_and]
      refine may_main A0_0 c0_0 l0_0 A0_1 c0_1 l0_1 a0_2 a0_3 a0_4 a0_5 a0_6 A0_7 l0_7.length c0_7 a0_8 a0_9 w hr0_1 (fun p hp => wfP_ok (List.all_eq_true.1 hwf p hp)) (fun i : Nat => standsB (rd_T35 l0_1 (i : Int)) (kindV l0_0 (rd_T35 l0_1 (i : Int)))) (fun i hi w' hb => ?_) hh
      refine stands_walk A0_0 c0_0 l0_0 A0_1 c0_1 l0_1 a0_2 a0_3 a0_4 a0_5 a0_6 A0_7 l0_7.length c0_7 a0_8 a0_9 i w' (Kd.C_below hr0_1 hb) hi _ (fun w'' hb2 => ?_)
      have hb3 := bstep hb hb2
      exact board_Kind.calls 1 A0_0 c0_0 l0_0 A0_1 c0_1 l0_1 a0_2 a0_3 a0_4 a0_5 a0_6 A0_7 c0_7 l0_7 a0_8 a0_9 (i : Int) _ w'' (Kd.C_below hr0_0 hb3) hc0_0 (Kd.C_below hr0_1 hb3) hc0_1 (Kd.C_below hr0_7 hb3) hc0_7 (kind_f _ _ _ _ _ _ _ _ _ _ i hi)
    · have hf : headB a0_2 a0_3 a0_4 a0_5 l0_1.length = false := by cases e : headB a0_2 a0_3 a0_4 a0_5 l0_1.length <;> simp_all
      rw [hf, Bool.false_and]
      exact may_head A0_0 c0_0 l0_0 A0_1 c0_1 l0_1 a0_2 a0_3 a0_4 a0_5 a0_6 A0_7 l0_7.length c0_7 a0_8 a0_9 w hf
  · cases h
def joustref06_one.f (_k : Nat) (l0_0 : List (S97)) (l0_1 : List (S35)) (_a0_2 : Int) (_a0_3 : Int) (_a0_4 : Int) (_a0_5 : Int) (_a0_6 : Int) (_l0_7 : List (S58)) (_a0_8 : Bool) (_a0_9 : Bool) (a1 : Int) : Option (Bool) :=
  if 0 ≤ a1 ∧ a1 < (l0_1.length : Int) then some (okP l0_0 (rd_T35 l0_1 a1)) else none
theorem joustref06_one.mono : ∀ a0 a1 a2 a3 a4 a5 a6 a7 a8 a9 a10 k, LeO (joustref06_one.f k a0 a1 a2 a3 a4 a5 a6 a7 a8 a9 a10) (joustref06_one.f (k + 1) a0 a1 a2 a3 a4 a5 a6 a7 a8 a9 a10) := fun _ _ _ _ _ _ _ _ _ _ _ _ _ h => h
theorem joustref06_one.calls (k : Nat) (A0_0 : Option Addr) (c0_0 : Nat) (l0_0 : List (S97)) (A0_1 : Option Addr) (c0_1 : Nat) (l0_1 : List (S35)) (a0_2 : Int) (a0_3 : Int) (a0_4 : Int) (a0_5 : Int) (a0_6 : Int) (A0_7 : Option Addr) (c0_7 : Nat) (l0_7 : List (S58)) (a0_8 : Bool) (a0_9 : Bool) (a1 : Int) (r : Bool) (w : World) (hr0_0 : Kd.C k97 w A0_0 l0_0.length l0_0) (hc0_0 : l0_0.length ≤ c0_0) (hr0_1 : Kd.C k35 w A0_1 l0_1.length l0_1) (hc0_1 : l0_1.length ≤ c0_1) (hr0_7 : Kd.C k58 w A0_7 l0_7.length l0_7) (hc0_7 : l0_7.length ≤ c0_7) (h : joustref06_one.f k l0_0 l0_1 a0_2 a0_3 a0_4 a0_5 a0_6 l0_7 a0_8 a0_9 a1 = some r) :
    Calls Try.prog 67 #[.agg #[.slice A0_0 l0_0.length c0_0, .slice A0_1 l0_1.length c0_1, .int .i64 a0_2, .int .i64 a0_3, .int .i64 a0_4, .int .u8 a0_5, .int .i64 a0_6, .slice A0_7 l0_7.length c0_7, .bool a0_8, .bool a0_9], .int .i64 a1] w fun e w' => e = .returned (.bool r) ∧ Below w.heap.size w w' := by
  unfold joustref06_one.f at h
  split at h
  · rename_i hx
    obtain ⟨i, rfl⟩ : ∃ i : Nat, a1 = (i : Int) := ⟨a1.toNat, by omega⟩
    have hi : i < l0_1.length := by omega
    obtain rfl := (Option.some.inj h).symm
    unfold okP
    refine one_walk A0_0 c0_0 l0_0 A0_1 c0_1 l0_1 a0_2 a0_3 a0_4 a0_5 a0_6 A0_7 l0_7.length c0_7 a0_8 a0_9 i w hr0_1 hi _ (fun w'' hb => ?_)
    exact joustref06_Kind.calls 1 A0_0 c0_0 l0_0 A0_1 c0_1 l0_1 a0_2 a0_3 a0_4 a0_5 a0_6 A0_7 c0_7 l0_7 a0_8 a0_9 (i : Int) _ w'' (Kd.C_below hr0_0 hb) hc0_0 (Kd.C_below hr0_1 hb) hc0_1 (Kd.C_below hr0_7 hb) hc0_7 (rkind_f _ _ _ _ _ _ _ _ _ _ i hi)
  · cases h
end Go.Proofs.Ytlldpdhajddmiaa.Base
end
section
/- One of a Sel (might.of): walked. -/
namespace Go.Proofs.Ytlldpdhajddmiaa.Bmay
open Go Go.RowKit Go.Proofs.Ytlldpdhajddmiaa.Base Go.Proofs.Ytlldpdhajddmiaa.Pmga Go.Proofs.YtlldpdhajddmiaaW.PrintWords Go.Proofs.YtlldpdhajddmiaaW.PrintLast Go.Proofs.YtlldpdhajddmiaaW.PrintMore
def sideB (p : PS) (who frm s0 id : Int) : Bool := if s0 == 0 then p.f4 == who else if s0 == 1 then !(p.f4 == who) else if s0 == 2 then true else if s0 == 3 then frm == id else false
def seenB (p : PS) : Bool := p.f7 || (!(p.f5 == 2) && !(p.f5 == 3))
def ofB (p : PS) (kd who frm s0 s1 s2 id : Int) : Bool := sideB p who frm s0 id && p.f5 == s1 && (s2 == 0 || (seenB p && kd == IntKind.u8.wrap (s2 - 1)))
set_option linter.unusedSimpArgs false
set_option linter.unusedVariables false
set_option maxRecDepth 100000
set_option maxHeartbeats 8000000
theorem of_walk (A0 : Option Addr) (c0 : Nat) (l0 : List S97) (A1 : Option Addr) (c1 : Nat) (l1 : List S35) (a2 a3 a4 a5 a6 : Int) (A7 : Option Addr) (n7 c7 : Nat) (a8 a9 : Bool) (who frm s0 s1 s2 : Int) (i : Nat) (w : World) (hr : Kd.C k35 w A1 l1.length l1) (hi : i < l1.length) (kd : Int)
    (hk : ∀ w', Below w.heap.size w w' → Calls Try.prog 120 #[.agg #[.slice A0 l0.length c0, .slice A1 l1.length c1, .int .i64 a2, .int .i64 a3, .int .i64 a4, .int .u8 a5, .int .i64 a6, .slice A7 n7 c7, .bool a8, .bool a9], .int .i64 (i : Int)] w' fun e w'' => e = .returned (.int .u8 kd) ∧ Below w'.heap.size w' w'') :
    Calls Try.prog 66 #[.agg #[.slice A0 l0.length c0, .slice A1 l1.length c1, .int .i64 a2, .int .i64 a3, .int .i64 a4, .int .u8 a5, .int .i64 a6, .slice A7 n7 c7, .bool a8, .bool a9], .int .u8 who, .int .i64 frm, .agg #[.int .u8 s0, .int .u8 s1, .int .u8 s2], .int .i64 (i : Int)] w fun e w' => e = .returned (.bool (ofB (rd_T35 l1 (i : Int)) kd who frm s0 s1 s2 (i : Int))) ∧ Below w.heap.size w w' := by
  obtain ⟨v, hv⟩ : ∃ v, ofB (rd_T35 l1 (i : Int)) kd who frm s0 s1 s2 (i : Int) = v := ⟨_, rfl⟩
  rw [hv]
  obtain ⟨p, hp⟩ : ∃ p, rd_T35 l1 (i : Int) = p := ⟨_, rfl⟩
  rw [hp] at hv
  have HPP := Lib.hid hp
  have HV := Lib.hid hv
  have HK := Lib.hid hk
  have HR := Lib.hid hr
  clear hk hr hv hp
  go_enter Try.func66, Try.ntmps66
  go_upto_region 1 with (fail)
  have hB0 : Below w.heap.size w ((w.alloc (.cells #[.slice A0 l0.length c0, .slice A1 l1.length c1, .int .i64 a2, .int .i64 a3, .int .i64 a4, .int .u8 a5, .int .i64 a6, .slice A7 n7 c7, .bool a8, .bool a9] 28)).alloc (.cells #[.int .u8 s0, .int .u8 s1, .int .u8 s2] 33)) := balloc (balloc (Below.refl _ _) _) _
  have hT0 := (Blk.new w 28 #[.slice A0 l0.length c0, .slice A1 l1.length c1, .int .i64 a2, .int .i64 a3, .int .i64 a4, .int .u8 a5, .int .i64 a6, .slice A7 n7 c7, .bool a8, .bool a9]).alloc (.cells #[.int .u8 s0, .int .u8 s1, .int .u8 s2] 33)
  have hS0 := Blk.new (w.alloc (.cells #[.slice A0 l0.length c0, .slice A1 l1.length c1, .int .i64 a2, .int .i64 a3, .int .i64 a4, .int .u8 a5, .int .i64 a6, .slice A7 n7 c7, .bool a8, .bool a9] 28)) 33 #[.int .u8 s0, .int .u8 s1, .int .u8 s2]
  rw [World.size_alloc] at hS0
  obtain ⟨g, hg⟩ : ∃ g, w.heap.size = g := ⟨_, rfl⟩
  rw [hg] at hT0 hS0 ⊢
  obtain ⟨W0, hW0⟩ : ∃ W, (w.alloc (.cells #[.slice A0 l0.length c0, .slice A1 l1.length c1, .int .i64 a2, .int .i64 a3, .int .i64 a4, .int .u8 a5, .int .i64 a6, .slice A7 n7 c7, .bool a8, .bool a9] 28)).alloc (.cells #[.int .u8 s0, .int .u8 s1, .int .u8 s2] 33) = W := ⟨_, rfl⟩
  rw [hW0] at hT0 hS0 hB0 ⊢
  have HG := Lib.hid hg
  clear hW0 hg
  have e1 : (i < l1.length) = True := eq_true hi
  have hk0 : (0 : Int) ≤ (i : Int) := Int.natCast_nonneg _
  obtain ⟨ad, hA1, d0, d1, d2, d3, d4, d5, d6, d7, d8, d9, d10, d11, d12, d13⟩ := at_T35 (Kd.C_below HR.out hB0) (i : Int) hk0 (Int.ofNat_lt.2 hi)
  simp only [Int.toNat_natCast] at d0 d1 d2 d3 d4 d5 d6 d7 d8 d9 d10 d11 d12 d13
  rw [HPP.out] at d0 d1 d2 d3 d4 d5 d6 d7 d8 d9 d10 d11 d12 d13
  have HI := Lib.hid hi
  have HA1 := Lib.hid hA1
  clear hi HPP
  obtain ⟨p0, p1, p2, p3, p4, p5, p6, p7, p8, p9, p10, p11, p12, p13⟩ := p
  dsimp only at d0 d1 d2 d3 d4 d5 d6 d7 d8 d9 d10 d11 d12 d13
  subst hA1
  have c_c := hT0.cell
  go_upto_region 2 with (fail)
  have hT1 := hT0.alloc (.cells #[.int .i64 p0, .int .i64 p1, .int .i64 p2, .int .u8 p3, .int .u8 p4, .int .u8 p5, .int .i64 p6, .bool p7, .bool p8, .int .i64 p9, .int .u8 p10, .bool p11, .bool p12, .int .i64 p13] 35)
  have hS1 := hS0.alloc (.cells #[.int .i64 p0, .int .i64 p1, .int .i64 p2, .int .u8 p3, .int .u8 p4, .int .u8 p5, .int .i64 p6, .bool p7, .bool p8, .int .i64 p9, .int .u8 p10, .bool p11, .bool p12, .int .i64 p13] 35)
  have hP1 := Blk.new W0 35 #[.int .i64 p0, .int .i64 p1, .int .i64 p2, .int .u8 p3, .int .u8 p4, .int .u8 p5, .int .i64 p6, .bool p7, .bool p8, .int .i64 p9, .int .u8 p10, .bool p11, .bool p12, .int .i64 p13]
  have hB1 := balloc hB0 (.cells #[.int .i64 p0, .int .i64 p1, .int .i64 p2, .int .u8 p3, .int .u8 p4, .int .u8 p5, .int .i64 p6, .bool p7, .bool p8, .int .i64 p9, .int .u8 p10, .bool p11, .bool p12, .int .i64 p13] 35)
  obtain ⟨b, hb⟩ : ∃ b, W0.heap.size = b := ⟨_, rfl⟩
  rw [hb] at hP1 ⊢
  obtain ⟨W1, hW1⟩ : ∃ W, W0.alloc (.cells #[.int .i64 p0, .int .i64 p1, .int .i64 p2, .int .u8 p3, .int .u8 p4, .int .u8 p5, .int .i64 p6, .bool p7, .bool p8, .int .i64 p9, .int .u8 p10, .bool p11, .bool p12, .int .i64 p13] 35) = W := ⟨_, rfl⟩
  rw [hW1] at hT1 hS1 hP1 hB1 ⊢
  have HT1 := Lib.hid hT1
  have HS1 := Lib.hid hS1
  have HP1 := Lib.hid hP1
  have HB1 := Lib.hid hB1
  clear d0 d1 d2 d3 d4 d5 d6 d7 d8 d9 d10 d11 d12 d13 hT1 hS1 hP1 hB1 hW1 hb hT0 hS0 hB0 c_c HR
  have t_c := HS1.out.cell
  go_upto_block 0 with (fail)
  clear t_c
  go_cut [12] (fun v12 wc => v12 = .bool (sideB (⟨p0, p1, p2, p3, p4, p5, p6, p7, p8, p9, p10, p11, p12, p13⟩ : PS) who frm s0 i) ∧ wc = W1)
  case first =>
    have q_c := HP1.out.cell
    have t_c := HS1.out.cell
    by_cases he0 : s0 = 0
    · have e0 : (s0 == 0) = true := beq_iff_eq.2 he0
      have e0n : (s0 != 0) = false := by rw [bne, e0]; rfl
      by_cases hpw : p4 = who
      · have pw : (p4 == who) = true := beq_iff_eq.2 hpw
        have pwn : (p4 != who) = false := by rw [bne, pw]; rfl
        clear he0 hpw
        go_wp2_with fail
        go_meet
        case rel => exact ⟨by unfold sideB; simp [e0, pw], rfl⟩
      · have pw : (p4 == who) = false := beq_eq_false_iff_ne.2 hpw
        have pwn : (p4 != who) = true := by rw [bne, pw]; rfl
        clear he0 hpw
        go_wp2_with fail
        go_meet
        case rel => exact ⟨by unfold sideB; simp [e0, pw], rfl⟩
    · have e0 : (s0 == 0) = false := beq_eq_false_iff_ne.2 he0
      have e0n : (s0 != 0) = true := by rw [bne, e0]; rfl
      by_cases he1 : s0 = 1
      · have e1 : (s0 == 1) = true := beq_iff_eq.2 he1
        have e1n : (s0 != 1) = false := by rw [bne, e1]; rfl
        by_cases hpw : p4 = who
        · have pw : (p4 == who) = true := beq_iff_eq.2 hpw
          have pwn : (p4 != who) = false := by rw [bne, pw]; rfl
          clear he0 he1 hpw
          go_wp2_with fail
          go_meet
          case rel => exact ⟨by unfold sideB; simp [e0, e1, pw], rfl⟩
        · have pw : (p4 == who) = false := beq_eq_false_iff_ne.2 hpw
          have pwn : (p4 != who) = true := by rw [bne, pw]; rfl
          clear he0 he1 hpw
          go_wp2_with fail
          go_meet
          case rel => exact ⟨by unfold sideB; simp [e0, e1, pw], rfl⟩
      · have e1 : (s0 == 1) = false := beq_eq_false_iff_ne.2 he1
        have e1n : (s0 != 1) = true := by rw [bne, e1]; rfl
        by_cases he2 : s0 = 2
        · have e2 : (s0 == 2) = true := beq_iff_eq.2 he2
          have e2n : (s0 != 2) = false := by rw [bne, e2]; rfl
          clear he0 he1 he2
          go_wp2_with fail
          go_meet
          case rel => exact ⟨by unfold sideB; simp [e0, e1, e2], rfl⟩
        · have e2 : (s0 == 2) = false := beq_eq_false_iff_ne.2 he2
          have e2n : (s0 != 2) = true := by rw [bne, e2]; rfl
          by_cases he3 : s0 = 3
          · have e3 : (s0 == 3) = true := beq_iff_eq.2 he3
            have e3n : (s0 != 3) = false := by rw [bne, e3]; rfl
            by_cases hfi : frm = (i : Int)
            · have fi : (frm == (i : Int)) = true := beq_iff_eq.2 hfi
              have fin : (frm != (i : Int)) = false := by rw [bne, fi]; rfl
              clear he0 he1 he2 he3 hfi
              go_wp2_with fail
              go_meet
              case rel => exact ⟨by unfold sideB; simp [e0, e1, e2, e3, fi], rfl⟩
            · have fi : (frm == (i : Int)) = false := beq_eq_false_iff_ne.2 hfi
              have fin : (frm != (i : Int)) = true := by rw [bne, fi]; rfl
              clear he0 he1 he2 he3 hfi
              go_wp2_with fail
              go_meet
              case rel => exact ⟨by unfold sideB; simp [e0, e1, e2, e3, fi], rfl⟩
          · have e3 : (s0 == 3) = false := beq_eq_false_iff_ne.2 he3
            have e3n : (s0 != 3) = true := by rw [bne, e3]; rfl
            clear he0 he1 he2 he3
            go_wp2_with fail
            go_meet
            case rel => exact ⟨by unfold sideB; simp [e0, e1, e2, e3], rfl⟩
  case rest =>
    obtain ⟨rfl, rfl⟩ := hcut
    have q_c := HP1.out.cell
    go_upto_region 12 with (fail)
    clear q_c
    go_cut [13] (fun v13 wd => v13 = .bool (seenB (⟨p0, p1, p2, p3, p4, p5, p6, p7, p8, p9, p10, p11, p12, p13⟩ : PS)) ∧ wd = wc)
    case first =>
      have q_c := HP1.out.cell
      cases p7 with
      | true =>
        go_wp2_with fail
        go_meet
        case rel => exact ⟨rfl, rfl⟩
      | false =>
        by_cases hf2 : p5 = 2
        · have f2 : (p5 == 2) = true := beq_iff_eq.2 hf2
          have f2n : (p5 != 2) = false := by rw [bne, f2]; rfl
          clear hf2
          go_wp2_with fail
          go_meet
          case rel => exact ⟨by unfold seenB; simp [f2], rfl⟩
        · have f2 : (p5 == 2) = false := beq_eq_false_iff_ne.2 hf2
          have f2n : (p5 != 2) = true := by rw [bne, f2]; rfl
          by_cases hf3 : p5 = 3
          · have f3 : (p5 == 3) = true := beq_iff_eq.2 hf3
            have f3n : (p5 != 3) = false := by rw [bne, f3]; rfl
            clear hf2 hf3
            go_wp2_with fail
            go_meet
            case rel => exact ⟨by unfold seenB; simp [f2, f3], rfl⟩
          · have f3 : (p5 == 3) = false := beq_eq_false_iff_ne.2 hf3
            have f3n : (p5 != 3) = true := by rw [bne, f3]; rfl
            clear hf2 hf3
            go_wp2_with fail
            go_meet
            case rel => exact ⟨by unfold seenB; simp [f2, f3], rfl⟩
    case rest =>
      obtain ⟨rfl, rfl⟩ := hcut
      obtain ⟨sd, hsd⟩ : ∃ b, sideB (⟨p0, p1, p2, p3, p4, p5, p6, p7, p8, p9, p10, p11, p12, p13⟩ : PS) who frm s0 i = b := ⟨_, rfl⟩
      obtain ⟨sn, hsn⟩ : ∃ b, seenB (⟨p0, p1, p2, p3, p4, p5, p6, p7, p8, p9, p10, p11, p12, p13⟩ : PS) = b := ⟨_, rfl⟩
      have hv : (sd && p5 == s1 && (s2 == 0 || (sn && kd == IntKind.u8.wrap (s2 - 1)))) = v := by rw [← hsd, ← hsn]; exact HV.out
      rw [hsd, hsn]
      go_upto_region 13 with (fail)
      have HV := Lib.hid hv
      clear hv hsd hsn
      cases sd with
      | false =>
        have hv := HV.out
        simp only [Bool.false_and, Bool.true_and, Bool.and_false, Bool.and_true, Bool.or_false, Bool.or_true, Bool.false_or, Bool.true_or] at hv
        subst hv
        have q_c := HP1.out.cell
        have t_c := HS1.out.cell
        go_quiet (fail)
        go_wp2_with fail
        go_ret
        exact ⟨rfl, by repeat (first | exact HB1.out | refine bdrewN ?_ _)⟩
      | true =>
        by_cases hf1 : p5 = s1
        · have f1 : (p5 == s1) = true := beq_iff_eq.2 hf1
          have f1n : (p5 != s1) = false := by rw [bne, f1]; rfl
          by_cases hf0 : s2 = 0
          · have f0 : (s2 == 0) = true := beq_iff_eq.2 hf0
            have f0n : (s2 != 0) = false := by rw [bne, f0]; rfl
            clear hf1 hf0
            have hv := HV.out
            simp only [f1, f0, Bool.false_and, Bool.true_and, Bool.and_false, Bool.and_true, Bool.or_false, Bool.or_true, Bool.false_or, Bool.true_or] at hv
            subst hv
            have q_c := HP1.out.cell
            have t_c := HS1.out.cell
            go_quiet (fail)
            go_wp2_with fail
            go_ret
            exact ⟨rfl, by repeat (first | exact HB1.out | refine bdrewN ?_ _)⟩
          · have f0 : (s2 == 0) = false := beq_eq_false_iff_ne.2 hf0
            have f0n : (s2 != 0) = true := by rw [bne, f0]; rfl
            cases sn with
            | false =>
              clear hf1 hf0
              have hv := HV.out
              simp only [f1, f0, Bool.false_and, Bool.true_and, Bool.and_false, Bool.and_true, Bool.or_false, Bool.or_true, Bool.false_or, Bool.true_or] at hv
              subst hv
              have q_c := HP1.out.cell
              have t_c := HS1.out.cell
              go_quiet (fail)
              go_wp2_with fail
              go_ret
              exact ⟨rfl, by repeat (first | exact HB1.out | refine bdrewN ?_ _)⟩
            | true =>
              clear hf1 hf0
              have hv := HV.out
              simp only [f1, f0, Bool.false_and, Bool.true_and, Bool.and_false, Bool.and_true, Bool.or_false, Bool.or_true, Bool.false_or, Bool.true_or] at hv
              subst hv
              refine start_ (n := 26) (S := (fun w' => Blk w' g 28 #[.slice A0 l0.length c0, .slice (some ad) l1.length c1, .int .i64 a2, .int .i64 a3, .int .i64 a4, .int .u8 a5, .int .i64 a6, .slice A7 n7 c7, .bool a8, .bool a9] ∧ Blk w' (g + 1) 33 #[.int .u8 s0, .int .u8 s1, .int .u8 s2] ∧ Blk w' b 35 #[.int .i64 p0, .int .i64 p1, .int .i64 p2, .int .u8 p3, .int .u8 p4, .int .u8 p5, .int .i64 p6, .bool p7, .bool p8, .int .i64 p9, .int .u8 p10, .bool p11, .bool p12, .int .i64 p13])) (ds := []) #[false, false, false, false, false, false, false, false, false, false, false, false, false, false, false, false, false, false, false, false, false, false, false, false, false, false] (by kernel_rfl) rfl (by kernel_rfl) ⟨HT1.out.drew, HS1.out.drew, HP1.out.drew⟩ (fun hHeld => ?_)
              refine pure_ (i := 0) (N := some 52) (v := ?_) (a' := ?_) #[true, false, false, false, false, false, false, false, false, false, false, false, false, false, false, false, false, false, false, false, false, false, false, false, false, false] rfl rfl (by kernel_rfl) (fun _ _ _ h => h) (Or.inl ⟨by rfl, ?_⟩) ?_ ?_
              rotate_left
              · intro w'
                go_simp
                with_reducible rfl
              rotate_left
              · simp only [Act.put, List.setIfInBounds_toArray, List.set_cons_zero, List.set_cons_succ]
                rfl
              refine pure_ (i := 1) (N := some 53) (v := ?_) (a' := ?_) #[true, true, false, false, false, false, false, false, false, false, false, false, false, false, false, false, false, false, false, false, false, false, false, false, false, false] rfl rfl (by kernel_rfl) (fun _ _ _ h => h) (Or.inl ⟨by rfl, ?_⟩) ?_ ?_
              rotate_left
              · intro w'
                go_simp
                with_reducible rfl
              rotate_left
              · simp only [Act.put, List.setIfInBounds_toArray, List.set_cons_zero, List.set_cons_succ]
                rfl
              refine pure_ (i := 2) (N := some 54) (v := ?_) (a' := ?_) #[true, true, true, false, false, false, false, false, false, false, false, false, false, false, false, false, false, false, false, false, false, false, false, false, false, false] rfl rfl (by kernel_rfl) (fun _ _ _ h => h) (Or.inl ⟨by rfl, ?_⟩) ?_ ?_
              rotate_left
              · intro w'
                go_simp
                with_reducible rfl
              rotate_left
              · simp only [Act.put, List.setIfInBounds_toArray, List.set_cons_zero, List.set_cons_succ]
                rfl
              refine take_ (i := 3) (N := some 55) (v := ?_) (a' := ?_) #[true, true, true, true, false, false, false, false, false, false, false, false, false, false, false, false, false, false, false, false, false, false, false, false, false, false] rfl rfl (by kernel_rfl) (fun _ _ _ h => h) (Or.inl ⟨by rfl, ?_⟩) hHeld ?_ ?_
              rotate_left
              · rintro w' ⟨h0, h1, h2⟩
                have P_0 := h2.cell 0
                have P_1 := h2.cell 1
                have P_2 := h2.cell 2
                have P_3 := h2.cell 3
                have P_4 := h2.cell 4
                have P_5 := h2.cell 5
                have P_6 := h2.cell 6
                have P_7 := h2.cell 7
                have P_8 := h2.cell 8
                have P_9 := h2.cell 9
                have P_10 := h2.cell 10
                have P_11 := h2.cell 11
                have P_12 := h2.cell 12
                have P_13 := h2.cell 13
                simp only [List.getElem?_toArray, List.getElem?_cons_zero, List.getElem?_cons_succ] at P_0 P_1 P_2 P_3 P_4 P_5 P_6 P_7 P_8 P_9 P_10 P_11 P_12 P_13
                go_simp
                with_reducible rfl
              rotate_left
              · simp only [Act.put, List.setIfInBounds_toArray, List.set_cons_zero, List.set_cons_succ]
                rfl
              refine pure_ (i := 4) (N := some 56) (v := ?_) (a' := ?_) #[true, true, true, true, true, false, false, false, false, false, false, false, false, false, false, false, false, false, false, false, false, false, false, false, false, false] rfl rfl (by kernel_rfl) (fun _ _ _ h => h) (Or.inl ⟨by rfl, ?_⟩) ?_ ?_
              rotate_left
              · intro w'
                go_simp
                with_reducible rfl
              rotate_left
              · simp only [Act.put, List.setIfInBounds_toArray, List.set_cons_zero, List.set_cons_succ]
                rfl
              refine take_ (i := 5) (N := some 57) (v := ?_) (a' := ?_) #[true, true, true, true, true, true, false, false, false, false, false, false, false, false, false, false, false, false, false, false, false, false, false, false, false, false] rfl rfl (by kernel_rfl) (fun _ _ _ h => h) (Or.inl ⟨by rfl, ?_⟩) hHeld ?_ ?_
              rotate_left
              · rintro w' ⟨h0, h1, h2⟩
                have S_0 := h1.cell 0
                have S_1 := h1.cell 1
                have S_2 := h1.cell 2
                simp only [List.getElem?_toArray, List.getElem?_cons_zero, List.getElem?_cons_succ] at S_0 S_1 S_2
                go_simp
                with_reducible rfl
              rotate_left
              · simp only [Act.put, List.setIfInBounds_toArray, List.set_cons_zero, List.set_cons_succ]
                rfl
              refine pure_ (i := 6) (N := some 58) (v := ?_) (a' := ?_) #[true, true, true, true, true, true, true, false, false, false, false, false, false, false, false, false, false, false, false, false, false, false, false, false, false, false] rfl rfl (by kernel_rfl) (fun _ _ _ h => h) (Or.inl ⟨by rfl, ?_⟩) ?_ ?_
              rotate_left
              · intro w'
                go_simp
                with_reducible rfl
              rotate_left
              · simp only [Act.put, List.setIfInBounds_toArray, List.set_cons_zero, List.set_cons_succ]
                rfl
              refine pure_ (i := 7) (N := some 59) (v := ?_) (a' := ?_) #[true, true, true, true, true, true, true, true, false, false, false, false, false, false, false, false, false, false, false, false, false, false, false, false, false, false] rfl rfl (by kernel_rfl) (fun _ _ _ h => h) (Or.inl ⟨by rfl, ?_⟩) ?_ ?_
              rotate_left
              · intro w'
                go_simp
                with_reducible rfl
              rotate_left
              · simp only [Act.put, List.setIfInBounds_toArray, List.set_cons_zero, List.set_cons_succ]
                rfl
              refine pure_ (i := 8) (N := some 60) (v := ?_) (a' := ?_) #[true, true, true, true, true, true, true, true, true, false, false, false, false, false, false, false, false, false, false, false, false, false, false, false, false, false] rfl rfl (by kernel_rfl) (fun _ _ _ h => h) (Or.inl ⟨by rfl, ?_⟩) ?_ ?_
              rotate_left
              · intro w'
                go_simp
                with_reducible rfl
              rotate_left
              · simp only [Act.put, List.setIfInBounds_toArray, List.set_cons_zero, List.set_cons_succ]
                rfl
              refine pure_ (i := 9) (N := some 61) (v := ?_) (a' := ?_) #[true, true, true, true, true, true, true, true, true, true, false, false, false, false, false, false, false, false, false, false, false, false, false, false, false, false] rfl rfl (by kernel_rfl) (fun _ _ _ h => h) (Or.inl ⟨by rfl, ?_⟩) ?_ ?_
              rotate_left
              · intro w'
                go_simp
                with_reducible rfl
              rotate_left
              · simp only [Act.put, List.setIfInBounds_toArray, List.set_cons_zero, List.set_cons_succ]
                rfl
              refine take_ (i := 10) (N := some 62) (v := ?_) (a' := ?_) #[true, true, true, true, true, true, true, true, true, true, true, false, false, false, false, false, false, false, false, false, false, false, false, false, false, false] rfl rfl (by kernel_rfl) (fun _ _ _ h => h) (Or.inl ⟨by rfl, ?_⟩) hHeld ?_ ?_
              rotate_left
              · rintro w' ⟨h0, h1, h2⟩
                have S_0 := h1.cell 0
                have S_1 := h1.cell 1
                have S_2 := h1.cell 2
                simp only [List.getElem?_toArray, List.getElem?_cons_zero, List.getElem?_cons_succ] at S_0 S_1 S_2
                go_simp
                with_reducible rfl
              rotate_left
              · simp only [Act.put, List.setIfInBounds_toArray, List.set_cons_zero, List.set_cons_succ]
                rfl
              refine pure_ (i := 11) (N := some 63) (v := ?_) (a' := ?_) #[true, true, true, true, true, true, true, true, true, true, true, true, false, false, false, false, false, false, false, false, false, false, false, false, false, false] rfl rfl (by kernel_rfl) (fun _ _ _ h => h) (Or.inl ⟨by rfl, ?_⟩) ?_ ?_
              rotate_left
              · intro w'
                go_simp
                with_reducible rfl
              rotate_left
              · simp only [Act.put, List.setIfInBounds_toArray, List.set_cons_zero, List.set_cons_succ]
                rfl
              refine pure_ (i := 12) (N := some 64) (v := ?_) (a' := ?_) #[true, true, true, true, true, true, true, true, true, true, true, true, true, false, false, false, false, false, false, false, false, false, false, false, false, false] rfl rfl (by kernel_rfl) (fun _ _ _ h => h) (Or.inl ⟨by rfl, ?_⟩) ?_ ?_
              rotate_left
              · intro w'
                go_simp
                with_reducible rfl
              rotate_left
              · simp only [Act.put, List.setIfInBounds_toArray, List.set_cons_zero, List.set_cons_succ]
                rfl
              refine pure_ (i := 13) (N := some 65) (v := ?_) (a' := ?_) #[true, true, true, true, true, true, true, true, true, true, true, true, true, true, false, false, false, false, false, false, false, false, false, false, false, false] rfl rfl (by kernel_rfl) (fun _ _ _ h => h) (Or.inl ⟨by rfl, ?_⟩) ?_ ?_
              rotate_left
              · intro w'
                go_simp
                with_reducible rfl
              rotate_left
              · simp only [Act.put, List.setIfInBounds_toArray, List.set_cons_zero, List.set_cons_succ]
                rfl
              refine pure_ (i := 14) (N := some 66) (v := ?_) (a' := ?_) #[true, true, true, true, true, true, true, true, true, true, true, true, true, true, true, false, false, false, false, false, false, false, false, false, false, false] rfl rfl (by kernel_rfl) (fun _ _ _ h => h) (Or.inl ⟨by rfl, ?_⟩) ?_ ?_
              rotate_left
              · intro w'
                go_simp
                with_reducible rfl
              rotate_left
              · simp only [Act.put, List.setIfInBounds_toArray, List.set_cons_zero, List.set_cons_succ]
                rfl
              refine take_ (i := 15) (N := some 67) (v := ?_) (a' := ?_) #[true, true, true, true, true, true, true, true, true, true, true, true, true, true, true, true, false, false, false, false, false, false, false, false, false, false] rfl rfl (by kernel_rfl) (fun _ _ _ h => h) (Or.inl ⟨by rfl, ?_⟩) hHeld ?_ ?_
              rotate_left
              · rintro w' ⟨h0, h1, h2⟩
                have T_0 := h0.cell 0
                have T_1 := h0.cell 1
                have T_2 := h0.cell 2
                have T_3 := h0.cell 3
                have T_4 := h0.cell 4
                have T_5 := h0.cell 5
                have T_6 := h0.cell 6
                have T_7 := h0.cell 7
                have T_8 := h0.cell 8
                have T_9 := h0.cell 9
                simp only [List.getElem?_toArray, List.getElem?_cons_zero, List.getElem?_cons_succ] at T_0 T_1 T_2 T_3 T_4 T_5 T_6 T_7 T_8 T_9
                go_simp
                with_reducible rfl
              rotate_left
              · simp only [Act.put, List.setIfInBounds_toArray, List.set_cons_zero, List.set_cons_succ]
                rfl
              refine pure_ (i := 16) (N := some 68) (v := ?_) (a' := ?_) #[true, true, true, true, true, true, true, true, true, true, true, true, true, true, true, true, true, false, false, false, false, false, false, false, false, false] rfl rfl (by kernel_rfl) (fun _ _ _ h => h) (Or.inl ⟨by rfl, ?_⟩) ?_ ?_
              rotate_left
              · intro w'
                go_simp
                with_reducible rfl
              rotate_left
              · simp only [Act.put, List.setIfInBounds_toArray, List.set_cons_zero, List.set_cons_succ]
                rfl
              refine pure_ (i := 18) (N := some 70) (v := ?_) (a' := ?_) #[true, true, true, true, true, true, true, true, true, true, true, true, true, true, true, true, true, false, true, false, false, false, false, false, false, false] rfl rfl (by kernel_rfl) (fun _ _ _ h => h) (Or.inl ⟨by rfl, ?_⟩) ?_ ?_
              rotate_left
              · intro w'
                go_simp
                with_reducible rfl
              rotate_left
              · simp only [Act.put, List.setIfInBounds_toArray, List.set_cons_zero, List.set_cons_succ]
                rfl
              refine take_ (i := 19) (N := some 71) (v := ?_) (a' := ?_) #[true, true, true, true, true, true, true, true, true, true, true, true, true, true, true, true, true, false, true, true, false, false, false, false, false, false] rfl rfl (by kernel_rfl) (fun _ _ _ h => h) (Or.inl ⟨by rfl, ?_⟩) hHeld ?_ ?_
              rotate_left
              · rintro w' ⟨h0, h1, h2⟩
                have S_0 := h1.cell 0
                have S_1 := h1.cell 1
                have S_2 := h1.cell 2
                simp only [List.getElem?_toArray, List.getElem?_cons_zero, List.getElem?_cons_succ] at S_0 S_1 S_2
                go_simp
                with_reducible rfl
              rotate_left
              · simp only [Act.put, List.setIfInBounds_toArray, List.set_cons_zero, List.set_cons_succ]
                rfl
              refine pure_ (i := 20) (N := some 72) (v := ?_) (a' := ?_) #[true, true, true, true, true, true, true, true, true, true, true, true, true, true, true, true, true, false, true, true, true, false, false, false, false, false] rfl rfl (by kernel_rfl) (fun _ _ _ h => h) (Or.inl ⟨by rfl, ?_⟩) ?_ ?_
              rotate_left
              · intro w'
                go_simp
                with_reducible rfl
              rotate_left
              · simp only [Act.put, List.setIfInBounds_toArray, List.set_cons_zero, List.set_cons_succ]
                rfl
              refine one_ (i := 17) (N := some 69) #[true, true, true, true, true, true, true, true, true, true, true, true, true, true, true, true, true, true, true, true, true, false, false, false, false, false] rfl rfl (by kernel_rfl) (by simp) (fun K hK => ?_)
              rw [if_pos (by rfl)]
              go_simp
              refine (HK.out _ (bdrew HB1.out)).mono ?_
              rintro e w2 ⟨rfl, hbk⟩
              dsimp only
              refine hK.out _ _ ⟨HT1.out.drew.after hbk, HS1.out.drew.after hbk, HP1.out.drew.after hbk⟩ (fun hHeld => ?_)
              have HB2 := Lib.hid (bstep (bdrew HB1.out) hbk)
              clear hK K hHeld hbk
              refine pure_ (i := 21) (N := some 73) (v := ?_) (a' := ?_) #[true, true, true, true, true, true, true, true, true, true, true, true, true, true, true, true, true, true, true, true, true, true, false, false, false, false] rfl rfl (by kernel_rfl) (fun _ _ _ h => h) (Or.inl ⟨by rfl, ?_⟩) ?_ ?_
              rotate_left
              · intro w'
                go_simp
                with_reducible rfl
              rotate_left
              · simp only [Act.put, List.setIfInBounds_toArray, List.set_cons_zero, List.set_cons_succ]
                rfl
              refine pure_ (i := 22) (N := some 74) (v := ?_) (a' := ?_) #[true, true, true, true, true, true, true, true, true, true, true, true, true, true, true, true, true, true, true, true, true, true, true, false, false, false] rfl rfl (by kernel_rfl) (fun _ _ _ h => h) (Or.inl ⟨by rfl, ?_⟩) ?_ ?_
              rotate_left
              · intro w'
                go_simp
                with_reducible rfl
              rotate_left
              · simp only [Act.put, List.setIfInBounds_toArray, List.set_cons_zero, List.set_cons_succ]
                rfl
              refine pure_ (i := 23) (N := some 75) (v := ?_) (a' := ?_) #[true, true, true, true, true, true, true, true, true, true, true, true, true, true, true, true, true, true, true, true, true, true, true, true, false, false] rfl rfl (by kernel_rfl) (fun _ _ _ h => h) (Or.inl ⟨by rfl, ?_⟩) ?_ ?_
              rotate_left
              · intro w'
                go_simp
                with_reducible rfl
              rotate_left
              · simp only [Act.put, List.setIfInBounds_toArray, List.set_cons_zero, List.set_cons_succ]
                rfl
              refine pure_ (i := 24) (N := some 76) (v := ?_) (a' := ?_) #[true, true, true, true, true, true, true, true, true, true, true, true, true, true, true, true, true, true, true, true, true, true, true, true, true, false] rfl rfl (by kernel_rfl) (fun _ _ _ h => h) (Or.inl ⟨by rfl, ?_⟩) ?_ ?_
              rotate_left
              · intro w'
                go_simp
                with_reducible rfl
              rotate_left
              · simp only [Act.put, List.setIfInBounds_toArray, List.set_cons_zero, List.set_cons_succ]
                rfl
              refine pure_ (i := 25) (N := some 10) (v := ?_) (a' := ?_) #[true, true, true, true, true, true, true, true, true, true, true, true, true, true, true, true, true, true, true, true, true, true, true, true, true, true] rfl rfl (by kernel_rfl) (fun _ _ _ h => h) (Or.inl ⟨by rfl, ?_⟩) ?_ ?_
              rotate_left
              · intro w'
                go_simp
                with_reducible rfl
              rotate_left
              · simp only [Act.put, List.setIfInBounds_toArray, List.set_cons_zero, List.set_cons_succ]
                rfl
              refine done_ (by kernel_rfl) ?_
              go_wp2_with fail
              go_ret
              exact ⟨rfl, by repeat (first | exact HB2.out | refine bdrewN ?_ _)⟩
        · have f1 : (p5 == s1) = false := beq_eq_false_iff_ne.2 hf1
          have f1n : (p5 != s1) = true := by rw [bne, f1]; rfl
          clear hf1
          have hv := HV.out
          simp only [f1, Bool.false_and, Bool.true_and, Bool.and_false, Bool.and_true, Bool.or_false, Bool.or_true, Bool.false_or, Bool.true_or] at hv
          subst hv
          have q_c := HP1.out.cell
          have t_c := HS1.out.cell
          go_quiet (fail)
          go_wp2_with fail
          go_ret
          exact ⟨rfl, by repeat (first | exact HB1.out | refine bdrewN ?_ _)⟩
end Go.Proofs.Ytlldpdhajddmiaa.Bmay
end
section
/- One of a Sel, by the document (joustref07.Of): walked. -/
namespace Go.Proofs.Ytlldpdhajddmiaa.Bmay
open Go Go.RowKit Go.Proofs.Ytlldpdhajddmiaa.Base Go.Proofs.Ytlldpdhajddmiaa.Pmga Go.Proofs.YtlldpdhajddmiaaW.PrintWords Go.Proofs.YtlldpdhajddmiaaW.PrintLast Go.Proofs.YtlldpdhajddmiaaW.PrintMore
set_option linter.unusedSimpArgs false
set_option linter.unusedVariables false
set_option maxRecDepth 100000
set_option maxHeartbeats 8000000
end Go.Proofs.Ytlldpdhajddmiaa.Bmay
end
section
/- How arguments of struct types read: for the rows. -/
namespace Go.Proofs.Ytlldpdhajddmiaa.Opens
open Go.ChangeShapes Go.WideShapes Go.Deep Go.RowKit Go.Proofs.YtlldpdhajddmiaaW.PrintWords Go.Proofs.Ytlldpdhajddmiaa.Pmga
set_option maxRecDepth 100000
def ok33 (x : S33) : Prop := ((Lit.int .u8 x.f0).wf = true) ∧ ((Lit.int .u8 x.f1).wf = true) ∧ ((Lit.int .u8 x.f2).wf = true)
theorem opens33 : Opens Try.prog 33 k33 ok33 := by
  have h : Opens Try.prog 33 (Kd.iso _ (fun x : S33 => (x.f0, x.f1, x.f2))) _ := Opens.struct Try.underlying33 (by kernel_rfl) (fun x : S33 => (x.f0, x.f1, x.f2)) (fun p => ⟨p.1, p.2.1, p.2.2⟩) (fun _ => rfl) (fun m => (fs_cons ((Opens.int Try.underlying5) m) (by rfl) (by kernel_rfl) (by kernel_rfl) (fs_cons ((Opens.int Try.underlying5) m) (by rfl) (by kernel_rfl) (by kernel_rfl) (fs_last ((Opens.int Try.underlying5) m) (by rfl) (by kernel_rfl)))))
  exact h
inductive ok70 : S70 → Prop
  | mk (x : S70) (h0 : ((Lit.int .u8 x.f0).wf = true)) (h1 : ((Lit.int .i64 x.f1).wf = true)) (h2 : ((Lit.int .u8 x.f2).wf = true)) (h3 : ok33 x.f3) (h4a : x.f4.length * Try.prog.bytesOf 70 ≤ reachBytes) (h4b : x.f4.length ≤ maxLen) (h4c : ∀ y ∈ x.f4, ok70 y) : ok70 x
theorem opens70 : Opens Try.prog 70 k70 ok70 := by
  intro n
  induction n using Nat.strongRecOn with
  | ind n ih =>
    have h0 : OpensAt n Try.prog 70 (Kd.iso _ (fun x : S70 => (x.f0, x.f1, x.f2, x.f3, x.f4))) _ := OpensAt.struct Try.underlying70 (by kernel_rfl) (fun x : S70 => (x.f0, x.f1, x.f2, x.f3, x.f4)) (fun p => ⟨p.1, p.2.1, p.2.2.1, p.2.2.2.1, p.2.2.2.2⟩) (fun _ => rfl) (fun m hm => (fs_cons ((Opens.int Try.underlying5) m) (by rfl) (by kernel_rfl) (by kernel_rfl) (fs_cons ((Opens.int Try.underlying3) m) (by rfl) (by kernel_rfl) (by kernel_rfl) (fs_cons ((Opens.int Try.underlying5) m) (by rfl) (by kernel_rfl) (by kernel_rfl) (fs_cons (opens33 m) (by rfl) (by kernel_rfl) (by kernel_rfl) (fs_last (OpensAt.slice Try.underlying68 (by kernel_rfl) (fun m' hm' => ih m' (by omega))) (by rfl) (by kernel_rfl)))))))
    intro H enc w base spare held cs x hx hw
    obtain ⟨a, h, hok⟩ := h0 enc w base spare held cs x hx hw
    obtain ⟨h0, h1, h2, h3, ⟨h4a, h4b, h4c⟩⟩ := hok
    refine ⟨a, ?_, ok70.mk a h0 h1 h2 h3 h4a h4b h4c⟩
    obtain ⟨_, _, rfl, rfl, ⟨_, _, rfl, rfl, ⟨_, _, rfl, rfl, ⟨_, _, rfl, s3, ⟨A6, c6, rfl, l6, g6⟩⟩⟩⟩⟩ := h
    obtain rfl := k33_open s3
    exact k70_mk w a l6 g6
def ok107 (x : S107) : Prop := ((Lit.int .u8 x.f0).wf = true) ∧ ((Lit.int .u8 x.f1).wf = true) ∧ ok70 x.f2 ∧ True ∧ ok33 x.f4
theorem opens107 : Opens Try.prog 107 k107 ok107 := by
  have h : Opens Try.prog 107 (Kd.iso _ (fun x : S107 => (x.f0, x.f1, x.f2, x.f3, x.f4))) _ := Opens.struct Try.underlying107 (by kernel_rfl) (fun x : S107 => (x.f0, x.f1, x.f2, x.f3, x.f4)) (fun p => ⟨p.1, p.2.1, p.2.2.1, p.2.2.2.1, p.2.2.2.2⟩) (fun _ => rfl) (fun m => (fs_cons ((Opens.int Try.underlying5) m) (by rfl) (by kernel_rfl) (by kernel_rfl) (fs_cons ((Opens.int Try.underlying5) m) (by rfl) (by kernel_rfl) (by kernel_rfl) (fs_cons (opens70 m) (by rfl) (by kernel_rfl) (by kernel_rfl) (fs_cons ((Opens.bool Try.underlying4) m) (by rfl) (by kernel_rfl) (by kernel_rfl) (fs_last (opens33 m) (by rfl) (by kernel_rfl)))))))
  exact h
def ok88 (x : S88) : Prop := ((Lit.int .u8 x.f0).wf = true) ∧ ((Lit.int .u8 x.f1).wf = true) ∧ ((Lit.int .u8 x.f2).wf = true) ∧ (x.f3.length * Try.prog.bytesOf 70 ≤ reachBytes ∧ x.f3.length ≤ maxLen ∧ ∀ y ∈ x.f3, ok70 y) ∧ ((Lit.int .i64 x.f4).wf = true) ∧ ((Lit.int .i64 x.f5).wf = true) ∧ True ∧ ((Lit.int .i64 x.f7).wf = true) ∧ ok33 x.f8 ∧ (x.f9.length * Try.prog.bytesOf 107 ≤ reachBytes ∧ x.f9.length ≤ maxLen ∧ ∀ y ∈ x.f9, ok107 y)
theorem opens88 : Opens Try.prog 88 k88 ok88 := by
  have h : Opens Try.prog 88 (Kd.iso _ (fun x : S88 => (x.f0, x.f1, x.f2, x.f3, x.f4, x.f5, x.f6, x.f7, x.f8, x.f9))) _ := Opens.struct Try.underlying88 (by kernel_rfl) (fun x : S88 => (x.f0, x.f1, x.f2, x.f3, x.f4, x.f5, x.f6, x.f7, x.f8, x.f9)) (fun p => ⟨p.1, p.2.1, p.2.2.1, p.2.2.2.1, p.2.2.2.2.1, p.2.2.2.2.2.1, p.2.2.2.2.2.2.1, p.2.2.2.2.2.2.2.1, p.2.2.2.2.2.2.2.2.1, p.2.2.2.2.2.2.2.2.2⟩) (fun _ => rfl) (fun m => (fs_cons ((Opens.int Try.underlying5) m) (by rfl) (by kernel_rfl) (by kernel_rfl) (fs_cons ((Opens.int Try.underlying5) m) (by rfl) (by kernel_rfl) (by kernel_rfl) (fs_cons ((Opens.int Try.underlying5) m) (by rfl) (by kernel_rfl) (by kernel_rfl) (fs_cons ((Opens.slice Try.underlying68 (by kernel_rfl) opens70) m) (by rfl) (by kernel_rfl) (by kernel_rfl) (fs_cons ((Opens.int Try.underlying3) m) (by rfl) (by kernel_rfl) (by kernel_rfl) (fs_cons ((Opens.int Try.underlying3) m) (by rfl) (by kernel_rfl) (by kernel_rfl) (fs_cons ((Opens.bool Try.underlying4) m) (by rfl) (by kernel_rfl) (by kernel_rfl) (fs_cons ((Opens.int Try.underlying3) m) (by rfl) (by kernel_rfl) (by kernel_rfl) (fs_cons (opens33 m) (by rfl) (by kernel_rfl) (by kernel_rfl) (fs_last ((Opens.slice Try.underlying86 (by kernel_rfl) opens107) m) (by rfl) (by kernel_rfl))))))))))))
  exact h
def ok97 (x : S97) : Prop := (x.f0.size ≤ reachBytes) ∧ ((Lit.int .u8 x.f1).wf = true) ∧ ((Lit.int .i64 x.f2).wf = true) ∧ ((Lit.int .i64 x.f3).wf = true) ∧ ((Lit.int .i64 x.f4).wf = true) ∧ (x.f5.length * Try.prog.bytesOf 88 ≤ reachBytes ∧ x.f5.length ≤ maxLen ∧ ∀ y ∈ x.f5, ok88 y)
theorem opens97 : Opens Try.prog 97 k97 ok97 := by
  have h : Opens Try.prog 97 (Kd.iso _ (fun x : S97 => (x.f0, x.f1, x.f2, x.f3, x.f4, x.f5))) _ := Opens.struct Try.underlying97 (by kernel_rfl) (fun x : S97 => (x.f0, x.f1, x.f2, x.f3, x.f4, x.f5)) (fun p => ⟨p.1, p.2.1, p.2.2.1, p.2.2.2.1, p.2.2.2.2.1, p.2.2.2.2.2⟩) (fun _ => rfl) (fun m => (fs_cons ((Opens.string Try.underlying9) m) (by rfl) (by kernel_rfl) (by kernel_rfl) (fs_cons ((Opens.int Try.underlying5) m) (by rfl) (by kernel_rfl) (by kernel_rfl) (fs_cons ((Opens.int Try.underlying3) m) (by rfl) (by kernel_rfl) (by kernel_rfl) (fs_cons ((Opens.int Try.underlying3) m) (by rfl) (by kernel_rfl) (by kernel_rfl) (fs_cons ((Opens.int Try.underlying3) m) (by rfl) (by kernel_rfl) (by kernel_rfl) (fs_last ((Opens.slice Try.underlying95 (by kernel_rfl) opens88) m) (by rfl) (by kernel_rfl))))))))
  exact h
def ok35 (x : S35) : Prop := ((Lit.int .i64 x.f0).wf = true) ∧ ((Lit.int .i64 x.f1).wf = true) ∧ ((Lit.int .i64 x.f2).wf = true) ∧ ((Lit.int .u8 x.f3).wf = true) ∧ ((Lit.int .u8 x.f4).wf = true) ∧ ((Lit.int .u8 x.f5).wf = true) ∧ ((Lit.int .i64 x.f6).wf = true) ∧ True ∧ True ∧ ((Lit.int .i64 x.f9).wf = true) ∧ ((Lit.int .u8 x.f10).wf = true) ∧ True ∧ True ∧ ((Lit.int .i64 x.f13).wf = true)
theorem opens35 : Opens Try.prog 35 k35 ok35 := by
  have h : Opens Try.prog 35 (Kd.iso _ (fun x : S35 => (x.f0, x.f1, x.f2, x.f3, x.f4, x.f5, x.f6, x.f7, x.f8, x.f9, x.f10, x.f11, x.f12, x.f13))) _ := Opens.struct Try.underlying35 (by kernel_rfl) (fun x : S35 => (x.f0, x.f1, x.f2, x.f3, x.f4, x.f5, x.f6, x.f7, x.f8, x.f9, x.f10, x.f11, x.f12, x.f13)) (fun p => ⟨p.1, p.2.1, p.2.2.1, p.2.2.2.1, p.2.2.2.2.1, p.2.2.2.2.2.1, p.2.2.2.2.2.2.1, p.2.2.2.2.2.2.2.1, p.2.2.2.2.2.2.2.2.1, p.2.2.2.2.2.2.2.2.2.1, p.2.2.2.2.2.2.2.2.2.2.1, p.2.2.2.2.2.2.2.2.2.2.2.1, p.2.2.2.2.2.2.2.2.2.2.2.2.1, p.2.2.2.2.2.2.2.2.2.2.2.2.2⟩) (fun _ => rfl) (fun m => (fs_cons ((Opens.int Try.underlying3) m) (by rfl) (by kernel_rfl) (by kernel_rfl) (fs_cons ((Opens.int Try.underlying3) m) (by rfl) (by kernel_rfl) (by kernel_rfl) (fs_cons ((Opens.int Try.underlying3) m) (by rfl) (by kernel_rfl) (by kernel_rfl) (fs_cons ((Opens.int Try.underlying5) m) (by rfl) (by kernel_rfl) (by kernel_rfl) (fs_cons ((Opens.int Try.underlying5) m) (by rfl) (by kernel_rfl) (by kernel_rfl) (fs_cons ((Opens.int Try.underlying5) m) (by rfl) (by kernel_rfl) (by kernel_rfl) (fs_cons ((Opens.int Try.underlying3) m) (by rfl) (by kernel_rfl) (by kernel_rfl) (fs_cons ((Opens.bool Try.underlying4) m) (by rfl) (by kernel_rfl) (by kernel_rfl) (fs_cons ((Opens.bool Try.underlying4) m) (by rfl) (by kernel_rfl) (by kernel_rfl) (fs_cons ((Opens.int Try.underlying3) m) (by rfl) (by kernel_rfl) (by kernel_rfl) (fs_cons ((Opens.int Try.underlying5) m) (by rfl) (by kernel_rfl) (by kernel_rfl) (fs_cons ((Opens.bool Try.underlying4) m) (by rfl) (by kernel_rfl) (by kernel_rfl) (fs_cons ((Opens.bool Try.underlying4) m) (by rfl) (by kernel_rfl) (by kernel_rfl) (fs_last ((Opens.int Try.underlying3) m) (by rfl) (by kernel_rfl))))))))))))))))
  exact h
def ok58 (x : S58) : Prop := ((Lit.int .u8 x.f0).wf = true) ∧ ((Lit.int .i64 x.f1).wf = true) ∧ ((Lit.int .i64 x.f2).wf = true) ∧ ((Lit.int .u8 x.f3).wf = true)
theorem opens58 : Opens Try.prog 58 k58 ok58 := by
  have h : Opens Try.prog 58 (Kd.iso _ (fun x : S58 => (x.f0, x.f1, x.f2, x.f3))) _ := Opens.struct Try.underlying58 (by kernel_rfl) (fun x : S58 => (x.f0, x.f1, x.f2, x.f3)) (fun p => ⟨p.1, p.2.1, p.2.2.1, p.2.2.2⟩) (fun _ => rfl) (fun m => (fs_cons ((Opens.int Try.underlying5) m) (by rfl) (by kernel_rfl) (by kernel_rfl) (fs_cons ((Opens.int Try.underlying3) m) (by rfl) (by kernel_rfl) (by kernel_rfl) (fs_cons ((Opens.int Try.underlying3) m) (by rfl) (by kernel_rfl) (by kernel_rfl) (fs_last ((Opens.int Try.underlying5) m) (by rfl) (by kernel_rfl))))))
  exact h
end Go.Proofs.Ytlldpdhajddmiaa.Opens
end
