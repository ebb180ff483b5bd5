/- Sums of numbers of sets: draws from two heaps, and from three with one of each of two. -/
import Derived.Test.YtcdcpnhlmgmnkaaDoorOdm
namespace Go.Proofs.YtcdcpnhlmgmnkaaDoor.Odd

/-- the sum of the first n -/
def sm (f : Nat → Nat) : Nat → Nat
  | 0 => 0
  | n + 1 => sm f n + f n
theorem sm_congr {f g : Nat → Nat} : ∀ n, (∀ i, i < n → f i = g i) → sm f n = sm g n
  | 0, _ => rfl
  | n + 1, h => by simp only [sm]; rw [sm_congr n (fun i hi => h i (by omega)), h n (by omega)]
theorem sm_add (f g : Nat → Nat) : ∀ n, sm (fun i => f i + g i) n = sm f n + sm g n
  | 0 => rfl
  | n + 1 => by simp only [sm]; rw [sm_add f g n]; omega
theorem sm_mul (c : Nat) (f : Nat → Nat) : ∀ n, sm (fun i => c * f i) n = c * sm f n
  | 0 => rfl
  | n + 1 => by simp only [sm]; rw [sm_mul c f n, Nat.mul_add]
theorem sm_front (f : Nat → Nat) : ∀ n, sm f (n + 1) = f 0 + sm (fun i => f (i + 1)) n
  | 0 => by simp [sm]
  | n + 1 => by
    rw [show sm f (n + 1 + 1) = sm f (n + 1) + f (n + 1) from rfl, sm_front f n]
    simp only [sm]
    omega
theorem sm_zero (f : Nat → Nat) : ∀ n, (∀ i, i < n → f i = 0) → sm f n = 0
  | 0, _ => rfl
  | n + 1, h => by simp only [sm]; rw [sm_zero f n (fun i hi => h i (by omega)), h n (by omega)]
theorem sm_le {f : Nat → Nat} : ∀ {n m : Nat}, n ≤ m → sm f n ≤ sm f m
  | n, 0, h => by rw [Nat.le_zero.1 h]; exact Nat.le_refl _
  | n, m + 1, h => by
    by_cases c : n = m + 1
    · subst c; exact Nat.le_refl _
    · have := sm_le (f := f) (show n ≤ m by omega)
      simp only [sm]
      omega
/-- drawn from two heaps -/
theorem vand (b : Nat) : ∀ (a d : Nat), sm (fun i => C a i * C b (d - i)) (d + 1) = C (a + b) d
  | 0, d => by
    rw [sm_front, sm_zero _ d (fun i _ => by simp [C])]
    simp [C_zero]
  | a + 1, 0 => by simp [sm, C_zero]
  | a + 1, d + 1 => by
    rw [sm_front]
    have e : sm (fun i => C (a + 1) (i + 1) * C b (d + 1 - (i + 1))) (d + 1) = sm (fun i => C a i * C b (d - i)) (d + 1) + sm (fun i => C a (i + 1) * C b (d + 1 - (i + 1))) (d + 1) := by
      rw [← sm_add]
      refine sm_congr _ (fun i hi => ?_)
      rw [show d + 1 - (i + 1) = d - i by omega]
      simp only [C]
      exact Nat.add_mul _ _ _
    have h2 := vand b a (d + 1)
    rw [sm_front] at h2
    rw [e, vand b a d, show a + 1 + b = (a + b) + 1 by omega]
    simp only [C, C_zero] at h2 ⊢
    omega
/-- drawn with one of each of two heaps, of three -/
def both (a b c d : Nat) : Nat := sm (fun i => sm (fun j => C a (i + 1) * C b (j + 1) * C c (d - (i + 1) - (j + 1))) (d - (i + 1))) d
theorem both_eq (a b c d : Nat) : both a b c d + C (b + c) d + C (a + c) d = C (a + b + c) d + C c d := by
  have h1 := vand (b + c) a d
  rw [sm_front] at h1
  have h2 : sm (fun i => C a (i + 1) * C (b + c) (d - (i + 1))) d = sm (fun i => C a (i + 1) * C c (d - (i + 1))) d + both a b c d := by
    unfold both
    rw [← sm_add]
    refine sm_congr _ (fun i hi => ?_)
    have h3 := vand c b (d - (i + 1))
    rw [sm_front] at h3
    rw [← h3, Nat.mul_add, ← sm_mul]
    simp only [C_zero, Nat.one_mul, Nat.sub_zero, Nat.mul_assoc]
  have h4 := vand c a d
  rw [sm_front] at h4
  simp only [C_zero, Nat.one_mul, Nat.sub_zero] at h1 h4
  rw [show a + (b + c) = a + b + c by omega] at h1
  omega
end Go.Proofs.YtcdcpnhlmgmnkaaDoor.Odd
