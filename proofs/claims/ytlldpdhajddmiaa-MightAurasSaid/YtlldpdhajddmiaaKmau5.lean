/- Joined by a program of this session (pack.py) out of: Squeeze -/
import Derived.Test.YtlldpdhajddmiaaKmau1
import Derived.Test.YtlldpdhajddmiaaKmau3
section
/- Short words for what printed walks say again and again: a block's fact through draws, new blocks and stores; what stays below; a block's cells. -/
namespace Go.Proofs.Ytlldpdhajddmiaa.Base
open Go.RowKit Go.Proofs.YtlldpdhajddmiaaW.PrintWords
inductive Lies : World → Nat → Obj → Prop
  | drewN {w : World} {g : Nat} {o : Obj} (n : Nat) (h : Lies w g o) : Lies (w.drewN n) g o
  | drew {w : World} {g : Nat} {o : Obj} (h : Lies w g o) : Lies w.drew g o
  | alloc {w : World} {g : Nat} {o : Obj} (o' : Obj) (h : Lies w g o) : Lies (w.alloc o') g o
  | put {w : World} {g : Nat} {t : TypeId} {cs cs' : Array Value} {i : Nat} {u : Value} (h : Lies w g (.cells cs t (0, 0))) (e : cs.setIfInBounds i u = cs') : Lies (w.setCell ⟨g, i, none⟩ u) g (.cells cs' t (0, 0))
  | far {w : World} {g : Nat} {t : TypeId} {cs : Array Value} {p : Addr} {u : Value} (hn : Aside0 (g ≠ p.block)) (h : Lies w g (.cells cs t (0, 0))) : Lies (w.setCell p u) g (.cells cs t (0, 0))
  | base {w : World} {g : Nat} {o : Obj} (h : Aside0 (w.heap[g]? = some o)) : Lies w g o
theorem lies_out {w : World} {g : Nat} {o : Obj} (h : Lies w g o) : w.heap[g]? = some o := by
  induction h with
  | drewN n _ ih => exact blk_drewN ih n
  | drew _ ih => exact blk_drew ih
  | alloc o' _ ih => exact blk_alloc ih o'
  | put _ e ih => exact blk_put ih _ _ e
  | far hn _ ih => exact blk_far ih hn.out _
  | base h => exact h.out
theorem of_lies {w : World} {g : Nat} {o : Obj} (h : Lies w g o := by repeat (first | assumption | with_reducible constructor | rfl)) : w.heap[g]? = some o := lies_out h
inductive Steps (b : Nat) (W0 : World) : World → Prop
  | base : Steps b W0 W0
  | drewN {W : World} (n : Nat) (h : Steps b W0 W) : Steps b W0 (W.drewN n)
  | drew {W : World} (h : Steps b W0 W) : Steps b W0 W.drew
  | alloc {W : World} (o' : Obj) (h : Steps b W0 W) : Steps b W0 (W.alloc o')
  | set {W : World} {g i : Nat} {u : Value} (hg : Aside0 (b ≤ g)) (h : Steps b W0 W) : Steps b W0 (W.setCell ⟨g, i, none⟩ u)
theorem low {w W0 W : World} (hb : Aside0 (Below w.heap.size w W0)) (h : Steps w.heap.size W0 W := by repeat (first | assumption | with_reducible constructor)) : Below w.heap.size w W := by
  induction h with
  | base => exact hb.out
  | drewN n _ ih => exact pw_below_drewN ih n
  | drew _ ih => exact below_drew1 ih
  | alloc o' _ ih => exact below_alloc ih o'
  | set hg _ ih => exact below_set ih hg.out
section
variable {w : World} {g : Nat} {t : TypeId} {a b c d e f p q : Value}
theorem cells3 (h : w.heap[g]? = some (.cells #[a, b, c] t (0, 0))) : w.cell? ⟨g, 0, none⟩ = some a ∧ w.cell? ⟨g, 1, none⟩ = some b ∧ w.cell? ⟨g, 2, none⟩ = some c ∧ w.frozen? ⟨g, 0, none⟩ = false ∧ w.frozen? ⟨g, 1, none⟩ = false ∧ w.frozen? ⟨g, 2, none⟩ = false :=
  ⟨(blk_cell h 0).trans rfl, (blk_cell h 1).trans rfl, (blk_cell h 2).trans rfl, blk_frozen h 0, blk_frozen h 1, blk_frozen h 2⟩
end
theorem Az {p : Prop} (h : p) : Aside0 p := ⟨h⟩
end Go.Proofs.Ytlldpdhajddmiaa.Base
end
