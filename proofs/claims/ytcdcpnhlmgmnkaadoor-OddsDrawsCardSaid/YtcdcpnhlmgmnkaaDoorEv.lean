/- Plain words for printed functions: 'with rounds enough it tells v' (Tells), and what follows of parts. -/
import Derived.Test.YtcdcpnhlmgmnkaaDoorWMore
import Derived.Test.YtcdcpnhlmgmnkaaDoorWWords
import Derived.Laws.Bits64
namespace Go.Proofs.YtcdcpnhlmgmnkaaDoor.Base
open Go.RowKit Go.Proofs.YtcdcpnhlmgmnkaaDoorW.PrintWords

/-- from some number of rounds on it tells v -/
def Tells {α : Type} (f : Nat → Option α) (v : α) : Prop := ∃ k0, ∀ k, k0 ≤ k → f k = some v
theorem Tells.const {α : Type} (v : α) : Tells (fun _ => some v) v := ⟨0, fun _ _ => rfl⟩
theorem Tells.of {α : Type} {f : Nat → Option α} {v : α} (h : ∀ k, f k = some v) : Tells f v := ⟨0, fun k _ => h k⟩
theorem Tells.exists {α : Type} {f : Nat → Option α} {v : α} (h : Tells f v) : ∃ k, f k = some v := by obtain ⟨k, h⟩ := h; exact ⟨k, h k (Nat.le_refl _)⟩
theorem Tells.bind {α β : Type} {f : Nat → Option α} {g : α → Nat → Option β} {a : α} {v : β} (h : Tells f a) (h' : Tells (g a) v) : Tells (fun k => (f k).bind fun x => g x k) v := by
  obtain ⟨k1, h1⟩ := h
  obtain ⟨k2, h2⟩ := h'
  exact ⟨k1 + k2, fun k hk => by simp only [h1 k (by omega), Option.bind_some, h2 k (by omega)]⟩
theorem Tells.succ {α : Type} {f g : Nat → Option α} {v : α} (hg : ∀ k, f (k + 1) = g k) (h : Tells g v) : Tells f v := by
  obtain ⟨k0, h⟩ := h
  refine ⟨k0 + 1, fun k hk => ?_⟩
  obtain ⟨j, rfl⟩ : ∃ j, k = j + 1 := ⟨k - 1, by omega⟩
  rw [hg, h j (by omega)]
theorem Tells.congr {α : Type} {f g : Nat → Option α} {v : α} (hg : ∀ k, f k = g k) (h : Tells g v) : Tells f v := by
  obtain ⟨k0, h⟩ := h
  exact ⟨k0, fun k hk => by rw [hg, h k hk]⟩
theorem Tells.mono {α : Type} {f : Nat → Option α} {v : α} (hm : ∀ k, LeO (f k) (f (k + 1))) {k0 : Nat} (h : f k0 = some v) : Tells f v := by
  refine ⟨k0, fun k hk => ?_⟩
  obtain ⟨d, rfl⟩ : ∃ d, k = k0 + d := ⟨k - k0, by omega⟩
  clear hk
  induction d with
  | zero => exact h
  | succ d ih => exact hm _ _ ih
theorem Tells.pos {α : Type} {p : Prop} [Decidable p] {f g : Nat → Option α} {v : α} (hp : p) (h : Tells f v) : Tells (fun k => if p then f k else g k) v := Tells.congr (fun _ => if_pos hp) h
theorem Tells.neg {α : Type} {p : Prop} [Decidable p] {f g : Nat → Option α} {v : α} (hp : ¬ p) (h : Tells g v) : Tells (fun k => if p then f k else g k) v := Tells.congr (fun _ => if_neg hp) h
theorem tells_unique {α : Type} {f : Nat → Option α} {v u : α} (h : Tells f v) (h' : Tells f u) : v = u := by
  obtain ⟨k1, h1⟩ := h
  obtain ⟨k2, h2⟩ := h'
  have := (h1 (k1 + k2) (by omega)).symm.trans (h2 (k1 + k2) (by omega))
  exact Option.some.inj this
theorem wrap_i {a : Int} (h0 : -9223372036854775808 ≤ a) (h1 : a ≤ 9223372036854775807) : wrap64 a = a := by unfold wrap64; omega
theorem wrap_u {a : Int} (h0 : 0 ≤ a) (h1 : a < 18446744073709551616) : IntKind.u64.wrap a = a := by rw [IntKind.wrap_u64]; omega
end Go.Proofs.YtcdcpnhlmgmnkaaDoor.Base
