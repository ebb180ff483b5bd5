/- Joined by a program of this session (pack.py) out of: Squeeze -/
import Derived.Test.YtcdcpnhlmgmnkaaKpnm1
import Derived.Test.YtcdcpnhlmgmnkaaKpnm3
section
/- Short words for what printed walks say again and again: a block's fact through draws, new blocks and stores; what stays below; a block's cells. -/
namespace Go.Proofs.Ytcdcpnhlmgmnkaa.Base
open Go.RowKit Go.Proofs.YtcdcpnhlmgmnkaaW.PrintWords
inductive Lies : World → Nat → Obj → Prop
  | drewN {w : World} {g : Nat} {o : Obj} (n : Nat) (h : Lies w g o) : Lies (w.drewN n) g o
  | drew {w : World} {g : Nat} {o : Obj} (h : Lies w g o) : Lies w.drew g o
  | alloc {w : World} {g : Nat} {o : Obj} (o' : Obj) (h : Lies w g o) : Lies (w.alloc o') g o
  | put {w : World} {g : Nat} {t : TypeId} {cs cs' : Array Value} {i : Nat} {u : Value} (h : Lies w g (.cells cs t (0, 0))) (e : cs.setIfInBounds i u = cs') : Lies (w.setCell ⟨g, i, none⟩ u) g (.cells cs' t (0, 0))
  | far {w : World} {g : Nat} {t : TypeId} {cs : Array Value} {p : Addr} {u : Value} (hn : Aside0 (g ≠ p.block)) (h : Lies w g (.cells cs t (0, 0))) : Lies (w.setCell p u) g (.cells cs t (0, 0))
  | base {w : World} {g : Nat} {o : Obj} (h : Aside0 (w.heap[g]? = some o)) : Lies w g o
inductive Steps (b : Nat) (W0 : World) : World → Prop
  | base : Steps b W0 W0
  | drewN {W : World} (n : Nat) (h : Steps b W0 W) : Steps b W0 (W.drewN n)
  | drew {W : World} (h : Steps b W0 W) : Steps b W0 W.drew
  | alloc {W : World} (o' : Obj) (h : Steps b W0 W) : Steps b W0 (W.alloc o')
  | set {W : World} {g i : Nat} {u : Value} (hg : Aside0 (b ≤ g)) (h : Steps b W0 W) : Steps b W0 (W.setCell ⟨g, i, none⟩ u)
section
variable {w : World} {g : Nat} {t : TypeId} {a b c d e f p q : Value}
end
theorem Az {p : Prop} (h : p) : Aside0 p := ⟨h⟩
end Go.Proofs.Ytcdcpnhlmgmnkaa.Base
end
