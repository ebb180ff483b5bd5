/- Joined by a program of this session (pack.py) out of: Ods BaseOs -/
import Derived.Test.YtcdcpnhlmgmnkaaDoorKot4
import Derived.Test.YtcdcpnhlmgmnkaaDoorKot6
import Derived.Test.YtcdcpnhlmgmnkaaDoorKot7
section
/- What Compare, Not and the parts of Sum tell, in plain numbers. -/
namespace Go.Proofs.YtcdcpnhlmgmnkaaDoor.Odd
open Go.RowKit Go.Proofs.YtcdcpnhlmgmnkaaDoor.Base Go.Proofs.YtcdcpnhlmgmnkaaDoor.Podd Go.Proofs.YtcdcpnhlmgmnkaaDoorW.PrintWords Go.Proofs.YtcdcpnhlmgmnkaaDoorW.PrintLast Go.Proofs.YtcdcpnhlmgmnkaaDoorW.PrintMore
set_option linter.unusedSimpArgs false
set_option linter.unusedVariables false
/-- a chance that may be -/
def MayQ (n d : Nat) : Prop := 0 < d ∧ n ≤ d ∧ Nat.gcd n d = 1
instance (n d : Nat) : Decidable (MayQ n d) := by unfold MayQ; infer_instance
theorem may_ev (n d : Nat) : Tells (fun k => odds_May.f k (n : Int) (d : Int)) (decide (MayQ n d)) := by
  unfold odds_May.f
  by_cases h1 : 0 < d
  · refine Tells.pos (by omega) ?_
    by_cases h2 : n ≤ d
    · refine Tells.pos (by omega) (Tells.bind (odds_divisor_ev d n) (Tells.of fun _ => ?_))
      by_cases h3 : Nat.gcd n d = 1
      · rw [decide_eq_true (show MayQ n d from ⟨h1, h2, h3⟩), h3]
        rfl
      · rw [decide_eq_false (show ¬ MayQ n d from fun h => h3 h.2.2)]
        exact congrArg some (beq_eq_false_iff_ne.mpr (by omega))
    · rw [decide_eq_false (show ¬ MayQ n d from fun h => h2 h.2.1)]
      exact Tells.neg (by omega) (Tells.const _)
  · rw [decide_eq_false (show ¬ MayQ n d from fun h => h1 h.1)]
    exact Tells.neg (by omega) (Tells.const _)
/-- which of two is more -/
def cmpV (X Y : Nat) : Int := if X < Y then -1 else if Y < X then 1 else 0
theorem cmp_f (a b : Int) : cmp_Compare_uint64.f a b = some (if a < b then -1 else if a > b then 1 else 0) := by
  unfold cmp_Compare_uint64.f cmp_isNaN_uint64.f
  simp only [bne_self_eq_false, Option.bind_some, Bool.false_eq_true, if_false]
  split
  · rfl
  · split <;> rfl
theorem or_ev (x y : Int) : Tells (fun k => cmp_Or_int.f k [x, y]) (if x = 0 then y else x) := by
  have e0 : wrap64 1 = 1 := by kernel_rfl
  have e1 : wrap64 2 = 2 := by kernel_rfl
  by_cases h : x = 0
  · subst h
    by_cases h2 : y = 0
    · subst h2
      exact Tells.mono (fun j => cmp_Or_int.mono _ j) (k0 := 4) (by simp [cmp_Or_int.f, cmp_Or_int.l0, rd, e0, e1])
    · exact Tells.mono (fun j => cmp_Or_int.mono _ j) (k0 := 4) (by simp [cmp_Or_int.f, cmp_Or_int.l0, rd, e0, e1, h2])
  · exact Tells.mono (fun j => cmp_Or_int.mono _ j) (k0 := 4) (by simp [cmp_Or_int.f, cmp_Or_int.l0, rd, e0, e1, h])
theorem wcmp_ev (X Y : Nat) : Tells (fun k => odds_wide_compare.f k ((X / 18446744073709551616 : Nat) : Int) ((X % 18446744073709551616 : Nat) : Int) ((Y / 18446744073709551616 : Nat) : Int) ((Y % 18446744073709551616 : Nat) : Int)) (cmpV X Y) := by
  unfold odds_wide_compare.f
  simp only [cmp_f, Option.bind_some]
  have h := Tells.bind (g := fun t _ => some t) (or_ev (if ((X / 18446744073709551616 : Nat) : Int) < ((Y / 18446744073709551616 : Nat) : Int) then -1 else if ((X / 18446744073709551616 : Nat) : Int) > ((Y / 18446744073709551616 : Nat) : Int) then 1 else 0) (if ((X % 18446744073709551616 : Nat) : Int) < ((Y % 18446744073709551616 : Nat) : Int) then -1 else if ((X % 18446744073709551616 : Nat) : Int) > ((Y % 18446744073709551616 : Nat) : Int) then 1 else 0)) (Tells.const _)
  have e : (if (if ((X / 18446744073709551616 : Nat) : Int) < ((Y / 18446744073709551616 : Nat) : Int) then (-1 : Int) else if ((X / 18446744073709551616 : Nat) : Int) > ((Y / 18446744073709551616 : Nat) : Int) then 1 else 0) = 0 then (if ((X % 18446744073709551616 : Nat) : Int) < ((Y % 18446744073709551616 : Nat) : Int) then (-1 : Int) else if ((X % 18446744073709551616 : Nat) : Int) > ((Y % 18446744073709551616 : Nat) : Int) then 1 else 0) else (if ((X / 18446744073709551616 : Nat) : Int) < ((Y / 18446744073709551616 : Nat) : Int) then (-1 : Int) else if ((X / 18446744073709551616 : Nat) : Int) > ((Y / 18446744073709551616 : Nat) : Int) then 1 else 0)) = cmpV X Y := by
    unfold cmpV
    by_cases h1 : X / 18446744073709551616 < Y / 18446744073709551616
    · rw [if_pos (show ((X / 18446744073709551616 : Nat) : Int) < ((Y / 18446744073709551616 : Nat) : Int) by omega), if_neg (by decide), if_pos (show X < Y by omega)]
    · by_cases h2 : Y / 18446744073709551616 < X / 18446744073709551616
      · rw [if_neg (show ¬ ((X / 18446744073709551616 : Nat) : Int) < ((Y / 18446744073709551616 : Nat) : Int) by omega), if_pos (show ((X / 18446744073709551616 : Nat) : Int) > ((Y / 18446744073709551616 : Nat) : Int) by omega), if_neg (by decide), if_neg (show ¬ X < Y by omega), if_pos (show Y < X by omega)]
      · rw [if_neg (show ¬ ((X / 18446744073709551616 : Nat) : Int) < ((Y / 18446744073709551616 : Nat) : Int) by omega), if_neg (show ¬ ((X / 18446744073709551616 : Nat) : Int) > ((Y / 18446744073709551616 : Nat) : Int) by omega), if_pos rfl]
        by_cases h3 : X < Y
        · rw [if_pos (by omega), if_pos h3]
        · rw [if_neg (by omega), if_neg h3]
          by_cases h4 : Y < X
          · rw [if_pos (by omega), if_pos h4]
          · rw [if_neg (by omega), if_neg h4]
  rw [e] at h
  exact h
theorem times_f {a b : Nat} (ha : a < 18446744073709551616) (hb : b < 18446744073709551616) : odds_times.f (a : Int) (b : Int) = some (((a * b / 18446744073709551616 : Nat) : Int), ((a * b % 18446744073709551616 : Nat) : Int)) := by
  unfold odds_times.f bits_Mul64.f
  rw [if_pos ⟨⟨by omega, by omega⟩, by omega, by omega⟩]
  simp
theorem hi_lo (A B : Nat) (h : B < 18446744073709551616) : (A * 18446744073709551616 + B) / 18446744073709551616 = A ∧ (A * 18446744073709551616 + B) % 18446744073709551616 = B := by omega
theorem by_ev {X n : Nat} (hX : X < 340282366920938463463374607431768211456) (hn : 0 < n) (hn64 : n < 18446744073709551616) :
    Tells (fun k => odds_wide_by.f k ((X / 18446744073709551616 : Nat) : Int) ((X % 18446744073709551616 : Nat) : Int) (n : Int)) (((X / n / 18446744073709551616 : Nat) : Int), ((X / n % 18446744073709551616 : Nat) : Int), ((X % n : Nat) : Int)) := by
  have hm := Nat.mod_lt (X / 18446744073709551616) hn
  have hh : X / 18446744073709551616 < 18446744073709551616 := by omega
  have h := div64_ev (X / 18446744073709551616 % n) (X % 18446744073709551616) n hm (Nat.mod_lt _ (by omega)) hn64
  have hd := Nat.div_add_mod (X / 18446744073709551616) n
  have hx : X = n * (X / 18446744073709551616 / n * 18446744073709551616) + (X / 18446744073709551616 % n * 18446744073709551616 + X % 18446744073709551616) := by
    rw [← Nat.mul_assoc]
    generalize n * (X / 18446744073709551616 / n) = P at *
    omega
  have q1 : X / n = X / 18446744073709551616 / n * 18446744073709551616 + (X / 18446744073709551616 % n * 18446744073709551616 + X % 18446744073709551616) / n := by
    conv => lhs; rw [hx]
    rw [Nat.mul_add_div hn]
  have q2 : X % n = (X / 18446744073709551616 % n * 18446744073709551616 + X % 18446744073709551616) % n := by
    conv => lhs; rw [hx]
    rw [Nat.mul_add_mod]
  have q3 : (X / 18446744073709551616 % n * 18446744073709551616 + X % 18446744073709551616) / n < 18446744073709551616 := by
    rw [Nat.div_lt_iff_lt_mul hn, Nat.mul_comm]
    omega
  have q4 : X / n / 18446744073709551616 = X / 18446744073709551616 / n := by rw [q1]; exact (hi_lo _ _ q3).1
  have q5 : X / n % 18446744073709551616 = (X / 18446744073709551616 % n * 18446744073709551616 + X % 18446744073709551616) / n := by rw [q1]; exact (hi_lo _ _ q3).2
  have hdl := Nat.div_le_self (X / 18446744073709551616) n
  unfold odds_wide_by.f
  refine Tells.neg (by omega) ?_
  rw [tmod_nat, tdiv_nat, q4, q5, q2]
  refine Tells.bind h (Tells.of fun _ => ?_)
  rw [wrap_u (Int.natCast_nonneg _) (by omega)]
end Go.Proofs.YtcdcpnhlmgmnkaaDoor.Odd
end
section
/- What the prints of Sum take as given. -/
end
