/- A world in which the library's table of powers of ten stands, and stays as long as nothing old is written; strconv.Itoa by the shelf's contract. -/
import Derived.Test.YtcdcpnhlmgmnkaaDoorBase
import Derived.Test.YtcdcpnhlmgmnkaaDoorShelf
import Derived.Lib.AppendIntMem
import Derived.Below
namespace Go.Proofs.YtcdcpnhlmgmnkaaDoor.Base
open Go.RowKit

def tabName : String := "internal/strconv.uint64pow10"
structure GoodW (w : World) : Prop where mk :: (out : Lib.TabBelow Tryd.prog w.heap.size w "internal/strconv.uint64pow10" .u64 Lib.pow10Tab)
theorem GoodW.below {w w1 : World} (h : GoodW w) (hb : Below w.heap.size w w1) : GoodW w1 :=
  ⟨fun w2 h2 => h.out w2 (hb.trans ⟨h2.os, h2.tape, h2.output, h2.size, fun i hi => h2.block i (Nat.lt_of_lt_of_le hi hb.size)⟩)⟩
theorem GoodW.alloc {w : World} (h : GoodW w) (o : Obj) : GoodW (w.alloc o) := h.below ((Below.refl _ _).alloc (Nat.le_refl _) o)
theorem GoodW.drew {w : World} (h : GoodW w) : GoodW w.drew := h.below (Below.refl _ _).drew
theorem GoodW.drewN {w : World} (h : GoodW w) (n : Nat) : GoodW (w.drewN n) := by
  induction n with
  | zero => exact h
  | succ n ih => rw [← World.drew_drewN]; exact ih.drew
theorem GoodW.mk' {w : World} (h : Lib.TabIs Tryd.prog w "internal/strconv.uint64pow10" .u64 Lib.pow10Tab) : GoodW w := ⟨Lib.tabBelow_of_tabIs h⟩
theorem GoodW.tab {w : World} (h : GoodW w) : Lib.TabIs Tryd.prog w "internal/strconv.uint64pow10" .u64 Lib.pow10Tab := h.out.here

def strconv_Itoa.f (a0 : Int) : Option ByteArray := if -9223372036854775808 ≤ a0 ∧ a0 ≤ 9223372036854775807 then some ⟨(Lib.itoa a0).toArray⟩ else none
theorem strconv_Itoa.calls (a0 : Int) (r : ByteArray) (w : World) (hg_ : GoodW w) (h : strconv_Itoa.f a0 = some r) :
    Calls Tryd.prog 74 #[.int .i64 a0] w fun e w' => e = .returned (.string r) ∧ Below w.heap.size w w' := by
  unfold strconv_Itoa.f at h
  split at h
  · rename_i hb
    simp only [Option.some.injEq] at h
    subst h
    refine (Tryd.strconv_Itoa a0 hb.1 hb.2 w hg_.tab).mono ?_
    rintro e w' ⟨rfl, k, os, rfl⟩
    exact ⟨rfl, Lib.below_grow _ _ (Nat.le_refl _) _ _⟩
  · cases h
end Go.Proofs.YtcdcpnhlmgmnkaaDoor.Base
