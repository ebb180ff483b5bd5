/- Joined by a program of this session (pack.py) out of: Mat BaseMt Ev -/
import Derived.KernelRfl
import Derived.Laws.Bits64
import Derived.Lib.Hide
import Derived.RowKit3
import Derived.Test.YtnceobnglofnmaaProg
import Derived.WideLaws
import Derived.Test.YtnceobnglofnmaaKmtg1
import Derived.Test.YtnceobnglofnmaaKmtg3
section
/- match.side: an array of functions, one of them called. -/
namespace Go.Proofs.Ytnceobnglofnmaa.Mat
open Go Go.RowKit Go.Proofs.Ytnceobnglofnmaa.Base

@[go_sem] theorem run_store_func {P : Program} {w : World} {a : Addr} {m : Mode} (f : Fn) (x c : Array Value) : (store a (.func f x c) m).run P w = stored P w a (.func f x c) m := run_store P w a _ m rfl
theorem makes (fn : Fn) (first cap : Array Value) (w : World) : (Instr.makeFunc fn first cap).run Try.prog w = .ok (.func fn first cap) w := rfl
theorem ret_bool {a b : Bool} (h : a = b) : Ending.returned (.bool a) = .returned (.bool b) := by rw [h]

section
set_option maxRecDepth 100000
set_option maxHeartbeats 2000000
theorem side_0 (who of : Int) (self : Bool) (w : World) (h : who < 2) :
    Calls Try.prog 58 #[.int .u8 0, .int .u8 who, .int .u8 of, .bool self] w fun e w' => e = .returned (.bool (of == who)) ∧ Below w.heap.size w w' := by
  have hmf := makes
  have hix : ∀ (a_ : Addr) (W_ : World), (Instr.indexAt 139 (.pointer (some a_)) (.int .u8 0)).run Try.prog W_ = .ok (.pointer (some (a_.add 0))) W_ := fun _ _ => by kernel_rfl
  go_enter Try.func58, Try.ntmps58
  go_wp2
  go_ret
  exact ⟨rfl, balloc (balloc (balloc (balloc (Below.refl _ _) _) _) _) _⟩
theorem side_1 (who of : Int) (self : Bool) (w : World) (h0 : 0 ≤ who) (h : who < 2) :
    Calls Try.prog 58 #[.int .u8 1, .int .u8 who, .int .u8 of, .bool self] w fun e w' => e = .returned (.bool (of == 1 - who)) ∧ Below w.heap.size w w' := by
  have hmf := makes
  have hix : ∀ (a_ : Addr) (W_ : World), (Instr.indexAt 139 (.pointer (some a_)) (.int .u8 1)).run Try.prog W_ = .ok (.pointer (some (a_.add 1))) W_ := fun _ _ => by kernel_rfl
  go_enter Try.func58, Try.ntmps58
  go_wp2
  go_ret
  exact ⟨rfl, balloc (balloc (balloc (balloc (Below.refl _ _) _) _) _) _⟩
theorem side_2 (who of : Int) (self : Bool) (w : World) (h : who < 2) :
    Calls Try.prog 58 #[.int .u8 2, .int .u8 who, .int .u8 of, .bool self] w fun e w' => e = .returned (.bool true) ∧ Below w.heap.size w w' := by
  have hmf := makes
  have hix : ∀ (a_ : Addr) (W_ : World), (Instr.indexAt 139 (.pointer (some a_)) (.int .u8 2)).run Try.prog W_ = .ok (.pointer (some (a_.add 2))) W_ := fun _ _ => by kernel_rfl
  go_enter Try.func58, Try.ntmps58
  go_wp2
  go_ret
  exact ⟨rfl, balloc (balloc (balloc (balloc (Below.refl _ _) _) _) _) _⟩
theorem side_3 (who of : Int) (self : Bool) (w : World) (h : who < 2) :
    Calls Try.prog 58 #[.int .u8 3, .int .u8 who, .int .u8 of, .bool self] w fun e w' => e = .returned (.bool self) ∧ Below w.heap.size w w' := by
  have hmf := makes
  have hix : ∀ (a_ : Addr) (W_ : World), (Instr.indexAt 139 (.pointer (some a_)) (.int .u8 3)).run Try.prog W_ = .ok (.pointer (some (a_.add 3))) W_ := fun _ _ => by kernel_rfl
  go_enter Try.func58, Try.ntmps58
  go_wp2
  go_ret
  exact ⟨rfl, balloc (balloc (balloc (balloc (Below.refl _ _) _) _) _) _⟩
theorem side_4 (n who of : Int) (self : Bool) (w : World) (hn : 4 ≤ n) (hm : n ≤ 255) (h : who < 2) :
    Calls Try.prog 58 #[.int .u8 n, .int .u8 who, .int .u8 of, .bool self] w fun e w' => e = .returned (.bool false) ∧ Below w.heap.size w w' := by
  have hmf := makes
  go_enter Try.func58, Try.ntmps58
  go_wp2
  go_ret
  exact ⟨rfl, balloc (balloc (balloc (balloc (Below.refl _ _) _) _) _) _⟩
theorem side_no (n who of : Int) (self : Bool) (w : World) (h : 2 ≤ who) :
    Calls Try.prog 58 #[.int .u8 n, .int .u8 who, .int .u8 of, .bool self] w fun e w' => e = .returned (.bool false) ∧ Below w.heap.size w w' := by
  have hmf := makes
  go_enter Try.func58, Try.ntmps58
  go_wp2
  go_ret
  exact ⟨rfl, balloc (balloc (balloc (balloc (Below.refl _ _) _) _) _) _⟩
end
end Go.Proofs.Ytnceobnglofnmaa.Mat
namespace Go.Proofs.Ytnceobnglofnmaa.Base
open Go Go.RowKit Go.Proofs.Ytnceobnglofnmaa.Mat
def match_side.f (a0 a1 a2 : Int) (a3 : Bool) : Option Bool :=
  if a0 < 0 then none else if 255 < a0 then none else if a1 < 0 then none else
  if 2 ≤ a1 then some false else if a0 = 0 then some (a2 == a1) else if a0 = 1 then some (a2 == 1 - a1) else if a0 = 2 then some true else if a0 = 3 then some a3 else some false
theorem match_side.calls (a0 a1 a2 : Int) (a3 : Bool) (r : Bool) (w : World) (h : match_side.f a0 a1 a2 a3 = some r) :
    Calls Try.prog 58 #[.int .u8 a0, .int .u8 a1, .int .u8 a2, .bool a3] w fun e w' => e = .returned (.bool r) ∧ Below w.heap.size w w' := by
  unfold match_side.f at h
  split at h
  · cases h
  split at h
  · cases h
  split at h
  · cases h
  split at h
  · cases h; exact side_no _ _ _ _ _ (by assumption)
  split at h
  · cases h; subst_vars; exact side_0 _ _ _ _ (by omega)
  split at h
  · cases h; subst_vars; exact side_1 _ _ _ _ (by omega) (by omega)
  split at h
  · cases h; subst_vars; exact side_2 _ _ _ _ (by omega)
  split at h
  · cases h; subst_vars; exact side_3 _ _ _ _ (by omega)
  · cases h; exact side_4 _ _ _ _ _ (by omega) (by omega) (by omega)
end Go.Proofs.Ytnceobnglofnmaa.Base
end
section
/- What the prints of match take as given. -/
end
section
/- Plain words for printed functions: 'with rounds enough it tells v' (Tells), and what follows of parts. -/
namespace Go.Proofs.Ytnceobnglofnmaa.Base
open Go.RowKit Go.Proofs.YtnceobnglofnmaaW.PrintWords

/-- from some number of rounds on it tells v -/
def Tells {α : Type} (f : Nat → Option α) (v : α) : Prop := ∃ k0, ∀ k, k0 ≤ k → f k = some v
theorem Tells.of {α : Type} {f : Nat → Option α} {v : α} (h : ∀ k, f k = some v) : Tells f v := ⟨0, fun k _ => h k⟩
theorem Tells.bind {α β : Type} {f : Nat → Option α} {g : α → Nat → Option β} {a : α} {v : β} (h : Tells f a) (h' : Tells (g a) v) : Tells (fun k => (f k).bind fun x => g x k) v := by
  obtain ⟨k1, h1⟩ := h
  obtain ⟨k2, h2⟩ := h'
  exact ⟨k1 + k2, fun k hk => by simp only [h1 k (by omega), Option.bind_some, h2 k (by omega)]⟩
theorem Tells.succ {α : Type} {f g : Nat → Option α} {v : α} (hg : ∀ k, f (k + 1) = g k) (h : Tells g v) : Tells f v := by
  obtain ⟨k0, h⟩ := h
  refine ⟨k0 + 1, fun k hk => ?_⟩
  obtain ⟨j, rfl⟩ : ∃ j, k = j + 1 := ⟨k - 1, by omega⟩
  rw [hg, h j (by omega)]
theorem Tells.congr {α : Type} {f g : Nat → Option α} {v : α} (hg : ∀ k, f k = g k) (h : Tells g v) : Tells f v := by
  obtain ⟨k0, h⟩ := h
  exact ⟨k0, fun k hk => by rw [hg, h k hk]⟩
theorem Tells.mono {α : Type} {f : Nat → Option α} {v : α} (hm : ∀ k, LeO (f k) (f (k + 1))) {k0 : Nat} (h : f k0 = some v) : Tells f v := by
  refine ⟨k0, fun k hk => ?_⟩
  obtain ⟨d, rfl⟩ : ∃ d, k = k0 + d := ⟨k - k0, by omega⟩
  clear hk
  induction d with
  | zero => exact h
  | succ d ih => exact hm _ _ ih
end Go.Proofs.Ytnceobnglofnmaa.Base
end
