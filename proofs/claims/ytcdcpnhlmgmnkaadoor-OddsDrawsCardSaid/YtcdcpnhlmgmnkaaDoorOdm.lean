/- How many sets there are: the plain number, and that both the code and the document tell it. -/
import Derived.Test.YtcdcpnhlmgmnkaaDoorEv
import Derived.Test.YtcdcpnhlmgmnkaaDoorPoddx2
import Derived.Test.YtcdcpnhlmgmnkaaDoorPodrx1
namespace Go.Proofs.YtcdcpnhlmgmnkaaDoor.Odd
open Go.RowKit Go.Proofs.YtcdcpnhlmgmnkaaDoor.Base Go.Proofs.YtcdcpnhlmgmnkaaDoor.Podd Go.Proofs.YtcdcpnhlmgmnkaaDoor.Podr Go.Proofs.YtcdcpnhlmgmnkaaDoorW.PrintWords Go.Proofs.YtcdcpnhlmgmnkaaDoorW.PrintLast

/-- how many sets of k of n -/
def C : Nat → Nat → Nat
  | _, 0 => 1
  | 0, _ + 1 => 0
  | n + 1, k + 1 => C n k + C n (k + 1)
theorem C_zero (n : Nat) : C n 0 = 1 := by cases n <;> rfl
theorem C_gt : ∀ (n k : Nat), n < k → C n k = 0
  | 0, k + 1, _ => rfl
  | n + 1, k + 1, h => by simp [C, C_gt n k (by omega), C_gt n (k + 1) (by omega)]
theorem C_self : ∀ n : Nat, C n n = 1
  | 0 => rfl
  | n + 1 => by simp [C, C_self n, C_gt n (n + 1) (by omega)]
theorem C_le : ∀ (n k : Nat), C n k ≤ 2 ^ n
  | n, 0 => by rw [C_zero]; exact Nat.one_le_two_pow
  | 0, _ + 1 => by simp [C]
  | n + 1, k + 1 => by
    have h1 := C_le n k
    have h2 := C_le n (k + 1)
    simp only [C, Nat.pow_succ]
    omega
theorem C_le60 {n : Nat} (h : n ≤ 60) (k : Nat) : C n k ≤ 1152921504606846976 :=
  Nat.le_trans (C_le n k) (Nat.le_trans (Nat.pow_le_pow_right (by decide) h) (by decide))
theorem C_pos : ∀ (n k : Nat), k ≤ n → 0 < C n k
  | n, 0, _ => by rw [C_zero]; decide
  | n + 1, k + 1, h => by
    have := C_pos n k (by omega)
    simp only [C]
    omega

set_option maxRecDepth 1000000 in
theorem sets_one : ((List.range 61).all fun n => odds_sets.f 40 (n : Int) 0 == some 1) = true := by kernel_rfl
set_option maxRecDepth 1000000 in
theorem sets_two : ((List.range 60).all fun n => (List.range (n + 1)).all fun j => odds_sets.f 40 ((n + 1 : Nat) : Int) ((j + 1 : Nat) : Int) ==
    (odds_sets.f 40 (n : Int) (j : Int)).bind fun a => (odds_sets.f 40 (n : Int) ((j + 1 : Nat) : Int)).bind fun b => some (a + b)) = true := by kernel_rfl
theorem sets_out (j : Nat) (n k : Int) (h : k < 0 ∨ n < k) : odds_sets.f (j + 1) n k = some 0 := by
  unfold odds_sets.f
  by_cases c : k < 0
  · rw [if_pos c]; rfl
  · rw [if_neg c, show decide (k > n) = true by simp; omega]; rfl
theorem sets_40 : ∀ (n : Nat), n ≤ 60 → ∀ j : Nat, odds_sets.f 40 (n : Int) (j : Int) = some ((C n j : Nat) : Int)
  | n, hn, 0 => by
    rw [C_zero]
    exact eq_of_beq (List.all_eq_true.1 sets_one n (List.mem_range.2 (by omega)))
  | 0, _, j + 1 => sets_out 39 _ _ (Or.inr (by omega))
  | n + 1, hn, j + 1 => by
    by_cases hj : j ≤ n
    · have h := List.all_eq_true.1 (List.all_eq_true.1 sets_two n (List.mem_range.2 (by omega))) j (List.mem_range.2 (by omega))
      rw [eq_of_beq h, sets_40 n (by omega) j, sets_40 n (by omega) (j + 1)]
      simp [C]
    · rw [C_gt _ _ (by omega)]
      exact sets_out 39 _ _ (Or.inr (by omega))
/-- of whole numbers -/
def Cz (n k : Int) : Int := if k < 0 then 0 else ((C n.toNat k.toNat : Nat) : Int)
theorem Cz_nat (n k : Nat) : Cz n k = ((C n k : Nat) : Int) := by unfold Cz; rw [if_neg (by omega)]; simp
theorem Cz_neg {n k : Int} (h : k < 0) : Cz n k = 0 := if_pos h
theorem Cz_bd {n : Int} (h : n ≤ 60) (k : Int) : 0 ≤ Cz n k ∧ Cz n k ≤ 1152921504606846976 := by
  unfold Cz
  split
  · omega
  · have := C_le60 (n := n.toNat) (by omega) k.toNat
    omega
theorem odds_sets_ev {n : Int} (h0 : 0 ≤ n) (h1 : n ≤ 60) (k : Int) : Tells (fun f => odds_sets.f f n k) (Cz n k) := by
  obtain ⟨n, rfl⟩ := Int.eq_ofNat_of_zero_le h0
  by_cases c : k < 0
  · rw [Cz_neg c]
    exact Tells.succ (g := fun _ => some 0) (fun j => sets_out j _ _ (Or.inl c)) (Tells.const 0)
  · obtain ⟨k, rfl⟩ := Int.eq_ofNat_of_zero_le (show 0 ≤ k by omega)
    rw [Cz_nat]
    exact Tells.mono (fun j => odds_sets.mono _ _ j) (sets_40 n (by omega) k)

/-! ### the document's: row by row -/
def row (i m : Nat) : List Int := (List.range m).map fun j => ((C i j : Nat) : Int)
theorem row_len (i m : Nat) : (row i m).length = m := by simp [row]
theorem row_rd (i m j : Nat) (h : j < m) : rd (row i m) (j : Int) = ((C i j : Nat) : Int) := by simp [rd, row, h]
theorem row_snoc (i m : Nat) : row i m ++ [((C i m : Nat) : Int)] = row i (m + 1) := by simp [row, List.range_succ]
theorem ref_l1 (n k : Int) (v : Int) (i : Nat) (hi : 1 ≤ i) (hi60 : i ≤ 60) (hl : Tells (fun f => joustref32_sets.l0 f n k (row i (i + 1)) ((i : Int) + 1)) v) : ∀ (d m : Nat), m + d = i → 1 ≤ m →
    Tells (fun f => joustref32_sets.l1 f n k (row (i - 1) i) (i : Int) (row i m) (m : Int)) v
  | 0, m, hm, _ => by
    obtain rfl : m = i := by omega
    refine Tells.succ (g := fun f => joustref32_sets.l0 f n k (row m (m + 1)) ((m : Int) + 1)) (fun f => ?_) hl
    simp only [joustref32_sets.l1, Int.lt_irrefl, if_false, row_len, show m < 17592186044416 by omega, if_true, wrap_i (show -9223372036854775808 ≤ (m : Int) + 1 by omega) (by omega)]
    rw [← row_snoc, C_self]
    rfl
  | d + 1, m, hm, h1 => by
    have ih := ref_l1 n k v i hi hi60 hl d (m + 1) (by omega) (by omega)
    refine Tells.succ (fun f => ?_) ih
    have e1 : wrap64 ((m : Int) - 1) = ((m - 1 : Nat) : Int) := by rw [wrap_i (by omega) (by omega)]; omega
    have e2 : wrap64 ((m : Int) + 1) = ((m + 1 : Nat) : Int) := by rw [wrap_i (by omega) (by omega)]; omega
    have b1 := C_le60 (n := i - 1) (by omega) (m - 1)
    have b2 := C_le60 (n := i - 1) (by omega) m
    have e3 : IntKind.u64.wrap (((C (i - 1) (m - 1) : Nat) : Int) + ((C (i - 1) m : Nat) : Int)) = ((C i m : Nat) : Int) := by
      rw [wrap_u (by omega) (by omega)]
      obtain ⟨i', rfl⟩ : ∃ i', i = i' + 1 := ⟨i - 1, by omega⟩
      obtain ⟨m', rfl⟩ : ∃ m', m = m' + 1 := ⟨m - 1, by omega⟩
      simp [C]
    simp only [joustref32_sets.l1, e1, e2, row_len, row_rd (i - 1) i (m - 1) (by omega), row_rd (i - 1) i m (by omega), e3, row_snoc]
    rw [if_pos (by omega), if_pos (by omega), if_pos (by omega), if_pos (by omega), if_pos (by omega), if_pos (by omega)]
theorem ref_l0 (n k : Nat) (hn : n ≤ 60) (hk : k ≤ n) : ∀ (d i : Nat), i + d = n →
    Tells (fun f => joustref32_sets.l0 f (n : Int) (k : Int) (row i (i + 1)) ((i : Int) + 1)) ((C n k : Nat) : Int)
  | 0, i, hi => by
    obtain rfl : i = n := by omega
    refine Tells.succ (g := fun _ => some ((C i k : Nat) : Int)) (fun f => ?_) (Tells.const _)
    simp only [joustref32_sets.l0, row_len, row_rd i (i + 1) k (by omega)]
    rw [if_neg (by omega), if_pos (by omega), if_pos (by omega)]
  | d + 1, i, hi => by
    have ih := ref_l0 n k hn hk d (i + 1) (by omega)
    have h := ref_l1 n k _ (i + 1) (by omega) (by omega) ih i 1 (by omega) (by omega)
    refine Tells.succ (fun f => ?_) h
    simp only [joustref32_sets.l0]
    rw [if_pos (by omega)]
    simp [row, C_zero]
theorem ref_sets_ev {n : Int} (h0 : 0 ≤ n) (h1 : n ≤ 60) (k : Int) : Tells (fun f => joustref32_sets.f f n k) (Cz n k) := by
  obtain ⟨n, rfl⟩ := Int.eq_ofNat_of_zero_le h0
  by_cases c : k < 0
  · rw [Cz_neg c]
    refine Tells.succ (g := fun _ => some 0) (fun f => ?_) (Tells.const 0)
    unfold joustref32_sets.f
    rw [if_pos c]
    rfl
  · obtain ⟨k, rfl⟩ := Int.eq_ofNat_of_zero_le (show 0 ≤ k by omega)
    rw [Cz_nat]
    by_cases d : n < k
    · rw [C_gt _ _ d]
      refine Tells.succ (g := fun _ => some 0) (fun f => ?_) (Tells.const 0)
      unfold joustref32_sets.f
      rw [if_neg c, show decide ((k : Int) > (n : Int)) = true by simp; omega]
      rfl
    · refine Tells.succ (fun f => ?_) (ref_l0 n k (by omega) (by omega) n 0 (by omega))
      unfold joustref32_sets.f
      rw [if_neg c, show decide ((k : Int) > (n : Int)) = false by simp; omega]
      simp [joustref32_sets.j0, row, C_zero]
end Go.Proofs.YtcdcpnhlmgmnkaaDoor.Odd
