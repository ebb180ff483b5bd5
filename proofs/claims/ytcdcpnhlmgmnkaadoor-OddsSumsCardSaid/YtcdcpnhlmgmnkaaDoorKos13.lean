/- Joined by a program of this session (pack.py) out of: PureOddsSums -/
import Derived.Test.YtcdcpnhlmgmnkaaDoorKos6
import Derived.Test.YtcdcpnhlmgmnkaaDoorKos11
import Derived.Test.YtcdcpnhlmgmnkaaDoorKos12
section
/- OddsSums, the plain law. -/
namespace Go.Proofs.YtcdcpnhlmgmnkaaDoor.Pure
open Go.RowKit Go.Proofs.YtcdcpnhlmgmnkaaDoor.Base Go.Proofs.YtcdcpnhlmgmnkaaDoor.Odd Go.Proofs.YtcdcpnhlmgmnkaaDoor.Podu Go.Proofs.YtcdcpnhlmgmnkaaDoorW.PrintWords Go.Proofs.YtcdcpnhlmgmnkaaDoorW.PrintLast Go.Proofs.YtcdcpnhlmgmnkaaDoorW.PrintMore
set_option linter.unusedVariables false
set_option linter.unusedSimpArgs false
theorem sum_n {an ad bn bd : Nat} (h1 : an < 18446744073709551616) (h2 : ad < 18446744073709551616) (h3 : bn < 18446744073709551616) (h4 : bd < 18446744073709551616) : Pods2.odds_Sum.f (an : Int) (ad : Int) (bn : Int) (bd : Int) = some (sumV an ad bn bd) := by
  unfold Pods2.odds_Sum.f
  rw [if_pos ⟨⟨⟨by omega, by omega⟩, by omega, by omega⟩, ⟨by omega, by omega⟩, by omega, by omega⟩]
  simp only [Int.toNat_natCast]
theorem sm_split (f : Nat → Nat) (a : Nat) : ∀ b, sm f (a + b) = sm f a + sm (fun t => f (a + t)) b
  | 0 => rfl
  | b + 1 => by rw [← Nat.add_assoc]; simp only [sm]; rw [sm_split f a b]; omega
/-- that just j are good: of all draws -/
def Tn (all good draw j : Nat) : Nat := C good j * C (all - good) (draw - j)
section
variable {all good draw : Nat} (H : all ≤ 60 ∧ good ≤ all ∧ draw ≤ all)
include H
theorem T_sum : sm (Tn all good draw) (draw + 1) = C all draw := by
  have ⟨h60, hg, hd⟩ := H
  have := vand (all - good) good draw
  rw [show good + (all - good) = all by omega] at this
  exact this
theorem S_bd : 0 < C all draw ∧ C all draw ≤ 1152921504606846976 := ⟨C_pos _ _ H.2.2, C_le60 H.1 _⟩
theorem T_le {j : Nat} (h : j ≤ draw) : Tn all good draw j ≤ C all draw := by
  have ⟨h60, hg, hd⟩ := H
  rw [← T_sum H]
  exact sm_ge _ (by omega)
theorem of_ok : Of (all : Int) (good : Int) ∧ Of (all : Int) (draw : Int) := by
  have ⟨h60, hg, hd⟩ := H
  exact ⟨⟨⟨by omega, by omega⟩, by omega, by omega⟩, ⟨by omega, by omega⟩, by omega, by omega⟩
theorem Cz_T {j : Nat} (h : j ≤ draw) : Cz (good : Int) (j : Int) * Cz ((all : Int) - (good : Int)) ((draw : Int) - (j : Int)) = ((Tn all good draw j : Nat) : Int) := by
  have ⟨h60, hg, hd⟩ := H
  rw [show (all : Int) - (good : Int) = ((all - good : Nat) : Int) by omega, show (draw : Int) - (j : Int) = ((draw - j : Nat) : Int) by omega, Cz_nat, Cz_nat]
  exact (Int.natCast_mul _ _).symm
theorem exN_in {j : Nat} (h : j ≤ draw) : exN (all : Int) (good : Int) (draw : Int) (j : Int) = ((Tn all good draw j : Nat) : Int) := by
  have ⟨h60, hg, hd⟩ := H
  have b1 := T_le H h
  have b2 := S_bd H
  unfold exN
  rw [if_neg (by omega), Cz_T H h, wrap_u (Int.natCast_nonneg _) (by omega)]
theorem exV_fr {k : Int} {t : Nat} (ht : t ≤ C all draw) (h : exN (all : Int) (good : Int) (draw : Int) k = (t : Int)) : exV (all : Int) (good : Int) (draw : Int) k = ((frN t (C all draw) : Int), (frD t (C all draw) : Int), 0) := by
  have ⟨h60, hg, hd⟩ := H
  unfold exV
  rw [if_pos (of_ok H), h, Cz_nat]
  exact fr_make (S_bd H).1 ht
theorem leN_is : ∀ (n acc j : Nat), j + n = draw + 1 → acc + sm (fun t => Tn all good draw (j + t)) n ≤ C all draw →
    leN (all : Int) (good : Int) (draw : Int) n (acc : Int) (j : Int) = ((acc + sm (fun t => Tn all good draw (j + t)) n : Nat) : Int)
  | 0, acc, j, _, _ => by simp [leN, sm]
  | n + 1, acc, j, hj, hb => by
    have ⟨h60, hg, hd⟩ := H
    have b2 := S_bd H
    rw [sm_front] at hb ⊢
    rw [sm_congr (f := fun t => Tn all good draw (j + (t + 1))) (g := fun t => Tn all good draw (j + 1 + t)) n (fun t _ => by rw [show j + (t + 1) = j + 1 + t by omega])] at hb ⊢
    simp only [Nat.add_zero] at hb ⊢
    have ih := leN_is n (acc + Tn all good draw j) (j + 1) (by omega) (by omega)
    simp only [leN]
    rw [Cz_T H (by omega), wrap_u (a := ((Tn all good draw j : Nat) : Int)) (by omega) (by omega), wrap_u (by omega) (by omega)]
    rw [show (acc : Int) + ((Tn all good draw j : Nat) : Int) = ((acc + Tn all good draw j : Nat) : Int) by omega, show (j : Int) + 1 = ((j + 1 : Nat) : Int) by omega, ih]
    congr 1
    omega
/-- that j at least are good -/
def Ln (all good draw j : Nat) : Nat := sm (fun t => Tn all good draw (j + t)) (draw + 1 - j)
theorem L_le {j : Nat} (h : j ≤ draw + 1) : sm (Tn all good draw) j + Ln all good draw j = C all draw := by
  have ⟨h60, hg, hd⟩ := H
  have := sm_split (Tn all good draw) j (draw + 1 - j)
  rw [show j + (draw + 1 - j) = draw + 1 by omega, T_sum H] at this
  exact this.symm
theorem L_step {j : Nat} (h : j ≤ draw) : Ln all good draw j = Tn all good draw j + Ln all good draw (j + 1) := by
  have ⟨h60, hg, hd⟩ := H
  have h1 := L_le H (j := j) (by omega)
  have h2 := L_le H (j := j + 1) (by omega)
  simp only [sm] at h2
  omega
theorem leV_fr {k : Int} {j : Nat} (hj : j ≤ draw + 1) (h : (mx k 0 = (j : Int)) ∨ (j = draw + 1 ∧ (draw : Int) < mx k 0)) : leV (all : Int) (good : Int) (draw : Int) k = ((frN (Ln all good draw j) (C all draw) : Int), (frD (Ln all good draw j) (C all draw) : Int), 0) := by
  have ⟨h60, hg, hd⟩ := H
  have hL := L_le H hj
  unfold leV
  rw [if_pos (of_ok H), Cz_nat]
  have e : leN (all : Int) (good : Int) (draw : Int) ((draw : Int) + 1 - mx k 0).toNat 0 (mx k 0) = ((Ln all good draw j : Nat) : Int) := by
    rcases h with h | ⟨h1, h2⟩
    · rw [h, show ((draw : Int) + 1 - (j : Int)).toNat = draw + 1 - j by omega]
      have := leN_is H (draw + 1 - j) 0 j (by omega) (by rw [Nat.zero_add]; show Ln all good draw j ≤ _; omega)
      rw [Nat.zero_add] at this
      exact this
    · rw [show ((draw : Int) + 1 - mx k 0).toNat = 0 by omega, h1]
      unfold Ln
      rw [Nat.sub_self]
      rfl
  rw [e]
  exact fr_make (S_bd H).1 (by omega)
/-- that just k are good, for any k -/
def tt (all good draw : Nat) (k : Int) : Nat := if k < 0 ∨ k > (draw : Int) then 0 else Tn all good draw k.toNat
theorem tt_is (k : Int) : exN (all : Int) (good : Int) (draw : Int) k = ((tt all good draw k : Nat) : Int) ∧ tt all good draw k ≤ C all draw := by
  have ⟨h60, hg, hd⟩ := H
  unfold tt
  by_cases c : k < 0 ∨ k > (draw : Int)
  · rw [if_pos c]
    exact ⟨by unfold exN; rw [if_pos c]; rfl, by omega⟩
  · rw [if_neg c]
    obtain ⟨j, rfl⟩ := Int.eq_ofNat_of_zero_le (show 0 ≤ k by omega)
    rw [Int.toNat_natCast]
    exact ⟨exN_in H (by omega), T_le H (by omega)⟩
theorem exV_tt (k : Int) : exV (all : Int) (good : Int) (draw : Int) k = ((frN (tt all good draw k) (C all draw) : Int), (frD (tt all good draw k) (C all draw) : Int), 0) :=
  exV_fr H (tt_is H k).2 (tt_is H k).1
theorem turned (k : Int) : exV (all : Int) (good : Int) (draw : Int) k = exV (all : Int) (draw : Int) (good : Int) k := by
  have ⟨h60, hg, hd⟩ := H
  have H' : all ≤ 60 ∧ draw ≤ all ∧ good ≤ all := ⟨h60, hd, hg⟩
  have e : tt all good draw k * C all good = tt all draw good k * C all draw := by
    unfold tt
    by_cases c : k < 0
    · rw [if_pos (Or.inl c), if_pos (Or.inl c)]; simp
    · obtain ⟨j, rfl⟩ := Int.eq_ofNat_of_zero_le (show 0 ≤ k by omega)
      rw [Int.toNat_natCast]
      by_cases c1 : j ≤ draw
      · by_cases c2 : j ≤ good
        · rw [if_neg (by omega), if_neg (by omega)]
          exact turn_about hg hd c1 c2
        · rw [if_neg (by omega), if_pos (by omega)]
          unfold Tn
          rw [C_gt good j (by omega)]; simp
      · by_cases c2 : j ≤ good
        · rw [if_pos (by omega), if_neg (by omega)]
          unfold Tn
          rw [C_gt draw j (by omega)]; simp
        · rw [if_pos (by omega), if_pos (by omega)]; simp
  obtain ⟨e1, e2⟩ := fr_same (S_bd H).1 (S_bd H').1 (tt_is H k).2 (tt_is H' k).2 e
  rw [exV_tt H k, exV_tt H' k, e1, e2]
theorem frb (x : Nat) (h : x ≤ C all draw) : frN x (C all draw) < 18446744073709551616 ∧ frD x (C all draw) < 18446744073709551616 := by
  have hb := (S_bd H).2
  have h1 : frN x (C all draw) ≤ x := Nat.div_le_self _ _
  have h2 : frD x (C all draw) ≤ C all draw := Nat.div_le_self _ _
  omega
theorem sum_step {x y : Nat} (h : x + y ≤ C all draw) : Pods2.odds_Sum.f (frN x (C all draw) : Int) (frD x (C all draw) : Int) (frN y (C all draw) : Int) (frD y (C all draw) : Int) = some ((frN (x + y) (C all draw) : Int), (frD (x + y) (C all draw) : Int), 0) := by
  have b1 := frb H x (by omega)
  have b2 := frb H y (by omega)
  rw [sum_n b1.1 b1.2 b2.1 b2.2, sum_fr (S_bd H).1 (S_bd H).2 h]
theorem loop_ev : ∀ (n j : Nat), j + n = draw + 1 → Tells (fun k => joustlaw32_OddsSums.l0 k (all : Int) (good : Int) (draw : Int) (j : Int) (frN (sm (Tn all good draw) j) (C all draw) : Int) (frD (sm (Tn all good draw) j) (C all draw) : Int)) true
  | 0, j, hj => by
    have ⟨h60, hg, hd⟩ := H
    have hlives : Tells (fun _ => (Podd.lives.f).bind fun t => some t) true := Tells.const _
    obtain rfl : j = draw + 1 := by omega
    refine Tells.succ (fun k => by simp only [joustlaw32_OddsSums.l0]; rw [if_neg (by omega)]) (Tells.pos ?_ hlives)
    rw [T_sum H]
    have hS := (S_bd H).1
    unfold frN frD
    rw [Nat.gcd_self, Nat.div_self hS]
    rfl
  | n + 1, j, hj => by
    have ⟨h60, hg, hd⟩ := H
    have ih := loop_ev n (j + 1) (by omega)
    have w : wrap64 ((j : Int) + 1) = ((j + 1 : Nat) : Int) := by rw [wrap_i (by omega) (by omega)]; omega
    have he := exactly_ev (all : Int) (good : Int) (draw : Int) (j : Int)
    rw [exV_fr H (T_le H (j := j) (by omega)) (exN_in H (by omega))] at he
    have hle : sm (Tn all good draw) j + Tn all good draw j ≤ C all draw := by
      rw [← T_sum H]
      exact sm_le (n := j + 1) (by omega)
    refine Tells.succ (fun k => by simp only [joustlaw32_OddsSums.l0, w]; rw [if_pos (by omega)]) ?_
    exact Tells.bind he (Tells.bind (Tells.of fun _ => sum_step H hle) (Tells.pos rfl (Tells.pos rfl ih)))
theorem sums_in (k : Int) (hk : -9223372036854775808 ≤ k) : Tells (fun f => joustlaw32_OddsSums.f f (all : Int) (good : Int) (draw : Int) k) true := by
  have ⟨h60, hg, hd⟩ := H
  obtain ⟨j, hj, hm⟩ : ∃ j : Nat, j ≤ draw + 1 ∧ ((mx k 0 = (j : Int)) ∨ (j = draw + 1 ∧ (draw : Int) < mx k 0)) := by
    have := mx_nn k
    by_cases c : mx k 0 ≤ (draw : Int)
    · exact ⟨(mx k 0).toNat, by omega, Or.inl (by omega)⟩
    · exact ⟨draw + 1, by omega, Or.inr ⟨rfl, by omega⟩⟩
  have hL := least_ev (all : Int) (good : Int) (draw : Int) k
  rw [leV_fr H hj hm] at hL
  have hE := exactly_ev (all : Int) (good : Int) (draw : Int) k
  have hE' := exactly_ev (all : Int) (draw : Int) (good : Int) k
  rw [← turned H, exV_tt H k] at hE'
  rw [exV_tt H k] at hE
  have hl : Tells (fun f => joustlaw32_OddsSums.j1 f (all : Int) (good : Int) (draw : Int)) true := by
    refine Tells.succ (fun f => by simp only [joustlaw32_OddsSums.j1]; rfl) ?_
    have := loop_ev H (draw + 1) 0 (by omega)
    have hS := (S_bd H).1
    rw [show frN (sm (Tn all good draw) 0) (C all draw) = 0 by unfold frN; simp [sm], show frD (sm (Tn all good draw) 0) (C all draw) = 1 by unfold frD; simp only [sm, Nat.gcd_zero_left]; exact Nat.div_self hS] at this
    exact this
  unfold joustlaw32_OddsSums.f
  refine Tells.bind hL (Tells.pos rfl (Tells.bind hE (Tells.bind hE' (Tells.pos rfl (Tells.pos rfl ?_)))))
  rw [show (!((frN (tt all good draw k) (C all draw) : Int) == (frN (tt all good draw k) (C all draw) : Int)) || (!((frD (tt all good draw k) (C all draw) : Int) == (frD (tt all good draw k) (C all draw) : Int)))) = false by simp]
  refine Tells.succ (fun f => by simp only [joustlaw32_OddsSums.j0]; rw [if_neg (by decide)]) ?_
  by_cases c : k < 1048576
  · refine Tells.pos c ?_
    rw [wrap_i (show -9223372036854775808 ≤ k + 1 by omega) (by omega)]
    obtain ⟨j2, hj2, hm2, hsum⟩ : ∃ j2 : Nat, j2 ≤ draw + 1 ∧ ((mx (k + 1) 0 = (j2 : Int)) ∨ (j2 = draw + 1 ∧ (draw : Int) < mx (k + 1) 0)) ∧ tt all good draw k + Ln all good draw j2 = Ln all good draw j := by
      unfold mx at hm ⊢
      by_cases k0 : k < 0
      · rw [if_pos k0] at hm
        have hj0 : j = 0 := by omega
        refine ⟨0, by omega, Or.inl (by split <;> omega), ?_⟩
        unfold tt
        rw [if_pos (Or.inl k0), hj0, Nat.zero_add]
      · rw [if_neg k0] at hm
        rw [if_neg (by omega)]
        by_cases k1 : k ≤ (draw : Int)
        · have hjk : k = (j : Int) := by omega
          refine ⟨j + 1, by omega, Or.inl (by omega), ?_⟩
          unfold tt
          rw [if_neg (by omega), hjk, Int.toNat_natCast]
          exact (L_step H (by omega)).symm
        · have hjd : j = draw + 1 := by omega
          refine ⟨draw + 1, by omega, Or.inr ⟨rfl, by omega⟩, ?_⟩
          unfold tt
          rw [if_pos (by omega), hjd, Nat.zero_add]
    have hL2 := least_ev (all : Int) (good : Int) (draw : Int) (k + 1)
    rw [leV_fr H hj2 hm2] at hL2
    have hb := L_le H hj
    have hs := sum_step H (x := tt all good draw k) (y := Ln all good draw j2) (by omega)
    rw [hsum] at hs
    exact Tells.bind hL2 (Tells.bind (Tells.of fun _ => hs) (Tells.pos rfl (Tells.pos rfl (Tells.neg (by simp) hl))))
  · exact Tells.neg c hl
end
theorem OddsSums_tells (a0 a1 a2 a3 : Int) (hk : -9223372036854775808 ≤ a3) : Tells (fun f => joustlaw32_OddsSums.f f a0 a1 a2 a3) true := by
  by_cases h : Of a0 a1 ∧ Of a0 a2
  · obtain ⟨⟨⟨x0, x1⟩, y0, y1⟩, -, z0, z1⟩ := h
    obtain ⟨all, rfl⟩ := Int.eq_ofNat_of_zero_le x0
    obtain ⟨good, rfl⟩ := Int.eq_ofNat_of_zero_le y0
    obtain ⟨draw, rfl⟩ := Int.eq_ofNat_of_zero_le z0
    exact sums_in ⟨by omega, by omega, by omega⟩ a3 hk
  · have hL := least_ev a0 a1 a2 a3
    unfold leV at hL
    rw [if_neg h] at hL
    have hlives : Tells (fun _ => (Podd.lives.f).bind fun t => some t) true := Tells.const _
    unfold Of at h
    unfold joustlaw32_OddsSums.f
    refine Tells.bind hL (Tells.neg (by decide) ?_)
    by_cases c1 : a0 < 0
    · exact Tells.pos c1 hlives
    · refine Tells.neg c1 ?_
      by_cases c2 : a0 > 60
      · exact Tells.pos c2 hlives
      · refine Tells.neg c2 ?_
        by_cases c3 : a1 < 0
        · exact Tells.pos c3 hlives
        · refine Tells.neg c3 ?_
          by_cases c4 : a1 > a0
          · exact Tells.pos c4 hlives
          · refine Tells.neg c4 ?_
            by_cases c5 : a2 < 0
            · exact Tells.pos c5 hlives
            · refine Tells.neg c5 (Tells.pos ?_ hlives)
              omega
theorem OddsSums_walk (a0 a1 a2 a3 : Int) (w : World) (_w0 : (Lit.int .i64 a0).wf = true) (_w1 : (Lit.int .i64 a1).wf = true) (_w2 : (Lit.int .i64 a2).wf = true) (w3 : (Lit.int .i64 a3).wf = true) (hg_ : GoodW w) :
    Calls Tryd.prog 9 #[.int .i64 a0, .int .i64 a1, .int .i64 a2, .int .i64 a3] w fun e w' => e = .returned (.bool true) ∧ Below w.heap.size w w' := by
  have hb : -9223372036854775808 ≤ a3 ∧ a3 ≤ 9223372036854775807 := by simpa [Lit.wf, IntKind.min, IntKind.max, IntKind.bits, IntKind.signed] using w3
  obtain ⟨k, h⟩ := (OddsSums_tells a0 a1 a2 a3 hb.1).exists
  exact joustlaw32_OddsSums.calls k a0 a1 a2 a3 true w hg_ h
end Go.Proofs.YtcdcpnhlmgmnkaaDoor.Pure
end
