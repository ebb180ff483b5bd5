/- What the chances' calls tell, in plain words: divisor, Make, Exactly, Least, of the code and of the document. -/
import Derived.Test.YtcdcpnhlmgmnkaaDoorOdv
import Derived.Test.YtcdcpnhlmgmnkaaDoorPoddx4
import Derived.Test.YtcdcpnhlmgmnkaaDoorPodrx2
namespace Go.Proofs.YtcdcpnhlmgmnkaaDoor.Odd
open Go.RowKit Go.Proofs.YtcdcpnhlmgmnkaaDoor.Base Go.Proofs.YtcdcpnhlmgmnkaaDoor.Podd Go.Proofs.YtcdcpnhlmgmnkaaDoor.Podr Go.Proofs.YtcdcpnhlmgmnkaaDoorW.PrintWords Go.Proofs.YtcdcpnhlmgmnkaaDoorW.PrintLast Go.Proofs.YtcdcpnhlmgmnkaaDoorW.PrintMore
set_option linter.unusedSimpArgs false
set_option linter.unusedVariables false

theorem tmod_nat (a b : Nat) : Int.tmod (a : Int) (b : Int) = ((a % b : Nat) : Int) := by
  rw [Int.tmod_eq_emod_of_nonneg (by omega)]; rfl
theorem tdiv_nat (a b : Nat) : Int.tdiv (a : Int) (b : Int) = ((a / b : Nat) : Int) := by
  rw [Int.tdiv_eq_ediv_of_nonneg (by omega)]; rfl
theorem gcd_step (a b : Nat) : Nat.gcd b (a % b) = Nat.gcd a b := by
  rw [Nat.gcd_comm a b, Nat.gcd_rec b a, Nat.gcd_comm]
theorem odds_divisor_ev : ∀ (b a : Nat), Tells (fun k => odds_divisor.f k (a : Int) (b : Int)) ((Nat.gcd a b : Nat) : Int) := by
  intro b
  induction b using Nat.strongRecOn with
  | _ b ih =>
    intro a
    by_cases hb : b = 0
    · subst hb
      refine Tells.succ (g := fun _ => some (a : Int)) (fun k => ?_) (by rw [Nat.gcd_zero_right]; exact Tells.const _)
      simp [odds_divisor.f, odds_divisor.l0]
    · have h := ih (a % b) (Nat.mod_lt _ (by omega)) b
      rw [gcd_step] at h
      refine Tells.succ (fun k => ?_) h
      simp only [odds_divisor.f, odds_divisor.l0, tmod_nat]
      rw [if_neg (by omega)]
theorem ref_divisor_ev : ∀ (b a : Nat), Tells (fun k => joustref32_divisor.f k (a : Int) (b : Int)) ((Nat.gcd a b : Nat) : Int) := by
  intro b
  induction b using Nat.strongRecOn with
  | _ b ih =>
    intro a
    by_cases hb : b = 0
    · subst hb
      refine Tells.succ (g := fun _ => some (a : Int)) (fun k => ?_) (by rw [Nat.gcd_zero_right]; exact Tells.const _)
      simp [joustref32_divisor.f, joustref32_divisor.l0]
    · have h := ih (a % b) (Nat.mod_lt _ (by omega)) b
      rw [gcd_step] at h
      refine Tells.succ (fun k => ?_) h
      simp only [joustref32_divisor.f, joustref32_divisor.l0, tmod_nat]
      rw [if_pos (by omega), if_neg (by omega)]
/-- a chance of num of den -/
def makeV (num den : Int) : Int × Int × Int :=
  if den = 0 then (0, 0, 2) else if num > den then (0, 0, 2) else (((num.toNat / Nat.gcd num.toNat den.toNat : Nat) : Int), ((den.toNat / Nat.gcd num.toNat den.toNat : Nat) : Int), 0)
theorem make_aux {num den : Nat} (h : den ≠ 0) : ((Nat.gcd num den : Nat) : Int) ≠ 0 := by
  have : 0 < Nat.gcd num den := Nat.gcd_pos_of_pos_right _ (by omega)
  omega
theorem odds_Make_ev {num den : Int} (h0 : 0 ≤ num) (h1 : 0 ≤ den) (h2 : den < 18446744073709551616) : Tells (fun k => odds_Make.f k num den) (makeV num den) := by
  obtain ⟨num, rfl⟩ := Int.eq_ofNat_of_zero_le h0
  obtain ⟨den, rfl⟩ := Int.eq_ofNat_of_zero_le h1
  unfold makeV
  by_cases c : (den : Int) = 0
  · rw [if_pos c]; exact Tells.of fun k => by unfold odds_Make.f; rw [if_pos c]
  · rw [if_neg c]
    by_cases d : (num : Int) > (den : Int)
    · rw [if_pos d]; exact Tells.of fun k => by unfold odds_Make.f; rw [if_neg c, if_pos d]
    · rw [if_neg d]
      refine Tells.congr (fun k => by unfold odds_Make.f; rw [if_neg c, if_neg d]) (Tells.bind (odds_divisor_ev den num) (Tells.of fun k => ?_))
      have b1 : num / Nat.gcd num den ≤ num := Nat.div_le_self _ _
      have b2 : den / Nat.gcd num den ≤ den := Nat.div_le_self _ _
      rw [if_neg (make_aux (by omega)), tdiv_nat, tdiv_nat, wrap_u (Int.natCast_nonneg _) (Int.lt_of_le_of_lt (Int.ofNat_le.2 b1) (by omega)), wrap_u (Int.natCast_nonneg _) (Int.lt_of_le_of_lt (Int.ofNat_le.2 b2) h2)]
      simp
theorem ref_Make_ev {num den : Int} (h0 : 0 ≤ num) (h1 : 0 ≤ den) (h2 : den < 18446744073709551616) : Tells (fun k => joustref32_Make.f k num den) (makeV num den) := by
  obtain ⟨num, rfl⟩ := Int.eq_ofNat_of_zero_le h0
  obtain ⟨den, rfl⟩ := Int.eq_ofNat_of_zero_le h1
  unfold makeV
  by_cases c : (den : Int) = 0
  · rw [if_pos c]; exact Tells.of fun k => by unfold joustref32_Make.f; rw [if_pos c]
  · rw [if_neg c]
    by_cases d : (num : Int) > (den : Int)
    · rw [if_pos d]; exact Tells.of fun k => by unfold joustref32_Make.f; rw [if_neg c, if_pos d]
    · rw [if_neg d]
      refine Tells.congr (fun k => by unfold joustref32_Make.f; rw [if_neg c, if_neg d]) (Tells.bind (ref_divisor_ev den num) (Tells.of fun k => ?_))
      have b1 : num / Nat.gcd num den ≤ num := Nat.div_le_self _ _
      have b2 : den / Nat.gcd num den ≤ den := Nat.div_le_self _ _
      rw [if_neg (make_aux (by omega)), tdiv_nat, tdiv_nat, wrap_u (Int.natCast_nonneg _) (Int.lt_of_le_of_lt (Int.ofNat_le.2 b1) (by omega)), wrap_u (Int.natCast_nonneg _) (Int.lt_of_le_of_lt (Int.ofNat_le.2 b2) h2)]
      simp

/-- may so many be of all -/
def Of (all n : Int) : Prop := (0 ≤ all ∧ all ≤ 60) ∧ 0 ≤ n ∧ n ≤ all
instance (all n : Int) : Decidable (Of all n) := by unfold Of; infer_instance
theorem asked_f (all n : Int) : joustref32_asked.f all n = some (decide (Of all n)) := by
  unfold joustref32_asked.f Of
  by_cases a : 0 ≤ all <;> by_cases b : all ≤ 60 <;> by_cases c : 0 ≤ n <;> by_cases d : n ≤ all <;> simp [a, b, c, d] <;> omega
theorem may2_ev (all g d : Int) : Tells (fun k => odds_may.f k all [g, d]) (decide (Of all g ∧ Of all d)) := by
  refine Tells.mono (fun j => odds_may.mono _ _ j) (k0 := 4) ?_
  have e0 : wrap64 1 = 1 := by kernel_rfl
  have e1 : wrap64 2 = 2 := by kernel_rfl
  unfold Of
  by_cases a : 0 ≤ all
  · by_cases b : all ≤ 60
    · by_cases c1 : 0 ≤ g <;> by_cases c2 : g ≤ all <;> by_cases c3 : 0 ≤ d <;> by_cases c4 : d ≤ all <;>
        simp [odds_may.f, odds_may.j0, odds_may.l0, rd, a, b, c1, c2, c3, c4, e0, e1]
    · simp [odds_may.f, odds_may.j0, odds_may.l0, rd, a, b, e0, e1]
  · simp [odds_may.f, odds_may.j0, odds_may.l0, rd, a, e0, e1]
theorem may3_ev (all g d e : Int) : Tells (fun k => odds_may.f k all [g, d, e]) (decide (Of all g ∧ Of all d ∧ Of all e)) := by
  refine Tells.mono (fun j => odds_may.mono _ _ j) (k0 := 5) ?_
  have e0 : wrap64 1 = 1 := by kernel_rfl
  have e1 : wrap64 2 = 2 := by kernel_rfl
  have e2 : wrap64 3 = 3 := by kernel_rfl
  unfold Of
  by_cases a : 0 ≤ all
  · by_cases b : all ≤ 60
    · by_cases c1 : 0 ≤ g <;> by_cases c2 : g ≤ all <;> by_cases c3 : 0 ≤ d <;> by_cases c4 : d ≤ all <;> by_cases c5 : 0 ≤ e <;> by_cases c6 : e ≤ all <;>
        simp [odds_may.f, odds_may.j0, odds_may.l0, rd, a, b, c1, c2, c3, c4, c5, c6, e0, e1, e2]
    · simp [odds_may.f, odds_may.j0, odds_may.l0, rd, a, b, e0, e1, e2]
  · simp [odds_may.f, odds_may.j0, odds_may.l0, rd, a, e0, e1, e2]
end Go.Proofs.YtcdcpnhlmgmnkaaDoor.Odd
