/- What is drawn: Exactly, Least and Both tell the same in the code and in the document. -/
import Derived.Test.YtcdcpnhlmgmnkaaDoorOdn
namespace Go.Proofs.YtcdcpnhlmgmnkaaDoor.Odd
open Go.RowKit Go.Proofs.YtcdcpnhlmgmnkaaDoor.Base Go.Proofs.YtcdcpnhlmgmnkaaDoor.Podd Go.Proofs.YtcdcpnhlmgmnkaaDoor.Podr Go.Proofs.YtcdcpnhlmgmnkaaDoorW.PrintWords Go.Proofs.YtcdcpnhlmgmnkaaDoorW.PrintLast Go.Proofs.YtcdcpnhlmgmnkaaDoorW.PrintMore
set_option linter.unusedSimpArgs false
set_option linter.unusedVariables false
theorem makeV_zero {den : Int} (h : 0 < den) : makeV 0 den = (0, 1, 0) := by
  unfold makeV
  rw [if_neg (by omega), if_neg (by omega)]
  simp only [Int.toNat_zero, Nat.gcd_zero_left, Nat.zero_div]
  rw [Nat.div_self (by omega)]
  rfl
theorem Cz_pos {all d : Int} (h : Of all d) : 0 < Cz all d := by
  obtain ⟨⟨h0, h1⟩, h2, h3⟩ := h
  unfold Cz
  rw [if_neg (by omega)]
  have := C_pos all.toNat d.toNat (by omega)
  omega
theorem wrap_u_bd (a : Int) : 0 ≤ IntKind.u64.wrap a ∧ IntKind.u64.wrap a < 18446744073709551616 := by rw [IntKind.wrap_u64]; omega
def exN (all good draw k : Int) : Int := if k < 0 ∨ k > draw then 0 else IntKind.u64.wrap (Cz good k * Cz (all - good) (draw - k))
def exV (all good draw k : Int) : Int × Int × Int := if Of all good ∧ Of all draw then makeV (exN all good draw k) (Cz all draw) else (0, 0, 2)
theorem exactly_ev (all good draw k : Int) : Tells (fun f => odds_Exactly.f f all good draw k) (exV all good draw k) := by
  unfold exV
  have hm := may2_ev all good draw
  by_cases h : Of all good ∧ Of all draw
  · rw [if_pos h]
    rw [decide_eq_true h] at hm
    obtain ⟨h1, h2⟩ := h
    have hp := Cz_pos h2
    have hb := Cz_bd (n := all) h1.1.2 draw
    unfold odds_Exactly.f
    refine Tells.bind hm (Tells.pos rfl ?_)
    by_cases c : k < 0 ∨ k > draw
    · have hq : Tells (fun f => odds_Exactly.j0 f all good draw k true) (makeV 0 1) :=
        Tells.succ (fun f => by simp only [odds_Exactly.j0, if_true]; rfl) (Tells.bind (odds_Make_ev (num := 0) (den := 1) (by omega) (by omega) (by omega)) (Tells.of fun _ => rfl))
      have ee : makeV (exN all good draw k) (Cz all draw) = makeV 0 1 := by unfold exN; rw [if_pos c, makeV_zero hp, makeV_zero (by omega)]
      rw [ee]
      by_cases c1 : k < 0
      · exact Tells.pos c1 hq
      · refine Tells.neg c1 ?_
        rw [show decide (k > draw) = true by simp; omega]
        exact hq
    · have c1 : ¬ k < 0 := by omega
      refine Tells.neg c1 ?_
      rw [show decide (k > draw) = false by simp; omega]
      obtain ⟨⟨a0, a1⟩, b0, b1⟩ := h1
      obtain ⟨-, d0, d1⟩ := h2
      have w1 : wrap64 (all - good) = all - good := wrap_i (by omega) (by omega)
      have w2 : wrap64 (draw - k) = draw - k := wrap_i (by omega) (by omega)
      refine Tells.succ (fun f => by simp only [odds_Exactly.j0, w1, w2]; rw [if_neg (by decide)]) ?_
      refine Tells.bind (odds_sets_ev b0 (by omega) k) (Tells.bind (odds_sets_ev (by omega) (by omega) (draw - k)) (Tells.bind (odds_sets_ev a0 a1 draw) ?_))
      have en : exN all good draw k = IntKind.u64.wrap (Cz good k * Cz (all - good) (draw - k)) := if_neg c
      rw [en]
      exact Tells.bind (odds_Make_ev (wrap_u_bd _).1 hb.1 (by omega)) (Tells.of fun _ => rfl)
  · rw [if_neg h]
    rw [decide_eq_false h] at hm
    unfold odds_Exactly.f
    exact Tells.bind hm (Tells.neg (by decide) (Tells.const _))
theorem ref_exactly_ev (all good draw k : Int) : Tells (fun f => joustref32_Exactly.f f all good draw k) (exV all good draw k) := by
  unfold exV joustref32_Exactly.f
  by_cases h1 : Of all good
  · refine Tells.bind (Tells.of fun _ => asked_f all good) ?_
    rw [decide_eq_true h1]
    refine Tells.pos rfl (Tells.bind (Tells.of fun _ => asked_f all draw) ?_)
    by_cases h2 : Of all draw
    · rw [if_pos ⟨h1, h2⟩, decide_eq_true h2]
      have hb := Cz_bd (n := all) h1.1.2 draw
      refine Tells.succ (fun f => by simp only [joustref32_Exactly.j0]; rw [if_neg (by decide)]) ?_
      obtain ⟨⟨a0, a1⟩, b0, b1⟩ := h1
      obtain ⟨-, d0, d1⟩ := h2
      by_cases c : k < 0 ∨ k > draw
      · have hq : Tells (fun f => joustref32_Exactly.j1 f all good draw k 0 false) (makeV 0 (Cz all draw)) :=
          Tells.succ (fun f => by simp only [joustref32_Exactly.j1]; rw [if_neg (by decide)]) (Tells.bind (ref_sets_ev a0 a1 draw) (Tells.bind (ref_Make_ev (num := 0) (by omega) hb.1 (by omega)) (Tells.of fun _ => rfl)))
        rw [show exN all good draw k = 0 from if_pos c]
        by_cases c1 : k ≥ 0
        · refine Tells.pos c1 ?_
          rw [show decide (k ≤ draw) = false by simp; omega]
          exact hq
        · exact Tells.neg c1 hq
      · have c1 : k ≥ 0 := by omega
        refine Tells.pos c1 ?_
        rw [show decide (k ≤ draw) = true by simp; omega]
        have w1 : wrap64 (all - good) = all - good := wrap_i (by omega) (by omega)
        have w2 : wrap64 (draw - k) = draw - k := wrap_i (by omega) (by omega)
        refine Tells.succ (fun f => by simp only [joustref32_Exactly.j1, w1, w2, if_true]; rfl) ?_
        have en : exN all good draw k = IntKind.u64.wrap (Cz good k * Cz (all - good) (draw - k)) := if_neg c
        rw [en]
        refine Tells.bind (ref_sets_ev b0 (by omega) k) (Tells.bind (ref_sets_ev (by omega) (by omega) (draw - k)) (Tells.bind (ref_sets_ev a0 a1 draw) ?_))
        exact Tells.bind (ref_Make_ev (wrap_u_bd _).1 hb.1 (by omega)) (Tells.of fun _ => rfl)
    · rw [if_neg (fun h => h2 h.2), decide_eq_false h2]
      exact Tells.succ (g := fun _ => some (0, 0, 2)) (fun f => by simp only [joustref32_Exactly.j0]; rfl) (Tells.const _)
  · rw [if_neg (fun h => h1 h.1)]
    refine Tells.bind (Tells.of fun _ => asked_f all good) ?_
    rw [decide_eq_false h1]
    exact Tells.neg (by decide) (Tells.succ (g := fun _ => some (0, 0, 2)) (fun f => by simp only [joustref32_Exactly.j0]; rfl) (Tells.const _))

/-! ### Least -/
/-- what is added up from j on, in n steps -/
def leN (all good draw : Int) : Nat → Int → Int → Int
  | 0, acc, _ => acc
  | n + 1, acc, j => leN all good draw n (IntKind.u64.wrap (acc + IntKind.u64.wrap (Cz good j * Cz (all - good) (draw - j)))) (j + 1)
theorem leN_bd (all good draw : Int) : ∀ (n : Nat) (acc j : Int), 0 ≤ acc ∧ acc < 18446744073709551616 → 0 ≤ leN all good draw n acc j ∧ leN all good draw n acc j < 18446744073709551616
  | 0, _, _, h => h
  | n + 1, _, _, _ => leN_bd all good draw n _ _ (wrap_u_bd _)
section
variable {all good draw : Int} (h1 : Of all good) (h2 : Of all draw)
include h1 h2
theorem least_l0 : ∀ (n : Nat) (acc j : Int), 0 ≤ j → j + n = draw + 1 ∨ n = 0 ∧ draw < j → 0 ≤ acc ∧ acc < 18446744073709551616 →
    Tells (fun f => odds_Least.l0 f all good draw acc j) (makeV (leN all good draw n acc j) (Cz all draw))
  | 0, acc, j, hj, hn, ha => by
    have hb := Cz_bd (n := all) h1.1.2 draw
    refine Tells.succ (fun f => by simp only [odds_Least.l0]; rw [if_neg (by omega)]) ?_
    exact Tells.bind (odds_sets_ev h1.1.1 h1.1.2 draw) (Tells.bind (odds_Make_ev ha.1 hb.1 (by omega)) (Tells.of fun _ => rfl))
  | n + 1, acc, j, hj, hn, ha => by
    have ih := least_l0 n (IntKind.u64.wrap (acc + IntKind.u64.wrap (Cz good j * Cz (all - good) (draw - j)))) (j + 1) (by omega) (by omega) (wrap_u_bd _)
    have h1' := h1
    have h2' := h2
    obtain ⟨⟨a0, a1⟩, b0, b1⟩ := h1'
    obtain ⟨-, d0, d1⟩ := h2'
    have w1 : wrap64 (all - good) = all - good := wrap_i (by omega) (by omega)
    have w2 : wrap64 (draw - j) = draw - j := wrap_i (by omega) (by omega)
    have w3 : wrap64 (j + 1) = j + 1 := wrap_i (by omega) (by omega)
    refine Tells.succ (fun f => by simp only [odds_Least.l0, w1, w2, w3]; rw [if_pos (by omega)]) ?_
    exact Tells.bind (odds_sets_ev b0 (by omega) j) (Tells.bind (odds_sets_ev (by omega) (by omega) (draw - j)) ih)
theorem ref_least_l0 : ∀ (n : Nat) (acc j : Int), 0 ≤ j → j + n = draw + 1 ∨ n = 0 ∧ draw < j → 0 ≤ acc ∧ acc < 18446744073709551616 →
    Tells (fun f => joustref32_Least.l0 f all good draw acc j) (makeV (leN all good draw n acc j) (Cz all draw))
  | 0, acc, j, hj, hn, ha => by
    have hb := Cz_bd (n := all) h1.1.2 draw
    refine Tells.succ (fun f => by simp only [joustref32_Least.l0]; rw [if_neg (by omega)]) ?_
    exact Tells.bind (ref_sets_ev h1.1.1 h1.1.2 draw) (Tells.bind (ref_Make_ev ha.1 hb.1 (by omega)) (Tells.of fun _ => rfl))
  | n + 1, acc, j, hj, hn, ha => by
    have ih := ref_least_l0 n (IntKind.u64.wrap (acc + IntKind.u64.wrap (Cz good j * Cz (all - good) (draw - j)))) (j + 1) (by omega) (by omega) (wrap_u_bd _)
    have h1' := h1
    have h2' := h2
    obtain ⟨⟨a0, a1⟩, b0, b1⟩ := h1'
    obtain ⟨-, d0, d1⟩ := h2'
    have w1 : wrap64 (all - good) = all - good := wrap_i (by omega) (by omega)
    have w2 : wrap64 (draw - j) = draw - j := wrap_i (by omega) (by omega)
    have w3 : wrap64 (j + 1) = j + 1 := wrap_i (by omega) (by omega)
    refine Tells.succ (fun f => by simp only [joustref32_Least.l0, w1, w2, w3]; rw [if_pos (by omega)]) ?_
    exact Tells.bind (ref_sets_ev b0 (by omega) j) (Tells.bind (ref_sets_ev (by omega) (by omega) (draw - j)) ih)
end
def leV (all good draw k : Int) : Int × Int × Int := if Of all good ∧ Of all draw then makeV (leN all good draw (draw + 1 - mx k 0).toNat 0 (mx k 0)) (Cz all draw) else (0, 0, 2)
theorem mx_nn (k : Int) : 0 ≤ mx k 0 := by unfold mx; split <;> omega
theorem least_ev (all good draw k : Int) : Tells (fun f => odds_Least.f f all good draw k) (leV all good draw k) := by
  unfold leV odds_Least.f
  have hm := may2_ev all good draw
  by_cases h : Of all good ∧ Of all draw
  · rw [if_pos h]
    rw [decide_eq_true h] at hm
    refine Tells.bind hm (Tells.pos rfl (least_l0 h.1 h.2 _ _ _ (mx_nn k) ?_ ⟨by omega, by omega⟩))
    have := mx_nn k
    omega
  · rw [if_neg h]
    rw [decide_eq_false h] at hm
    exact Tells.bind hm (Tells.neg (by decide) (Tells.const _))
theorem ref_least_ev (all good draw k : Int) : Tells (fun f => joustref32_Least.f f all good draw k) (leV all good draw k) := by
  unfold leV joustref32_Least.f
  by_cases h1 : Of all good
  · refine Tells.bind (Tells.of fun _ => asked_f all good) ?_
    rw [decide_eq_true h1]
    refine Tells.pos rfl (Tells.bind (Tells.of fun _ => asked_f all draw) ?_)
    by_cases h2 : Of all draw
    · rw [if_pos ⟨h1, h2⟩, decide_eq_true h2]
      refine Tells.succ (fun f => by simp only [joustref32_Least.j0]; rw [if_neg (by decide)]) ?_
      refine ref_least_l0 h1 h2 _ _ _ (mx_nn k) ?_ ⟨by omega, by omega⟩
      have := mx_nn k
      omega
    · rw [if_neg (fun h => h2 h.2), decide_eq_false h2]
      exact Tells.succ (g := fun _ => some (0, 0, 2)) (fun f => by simp only [joustref32_Least.j0]; rfl) (Tells.const _)
  · rw [if_neg (fun h => h1 h.1)]
    refine Tells.bind (Tells.of fun _ => asked_f all good) ?_
    rw [decide_eq_false h1]
    exact Tells.neg (by decide) (Tells.succ (g := fun _ => some (0, 0, 2)) (fun f => by simp only [joustref32_Least.j0]; rfl) (Tells.const _))
end Go.Proofs.YtcdcpnhlmgmnkaaDoor.Odd
