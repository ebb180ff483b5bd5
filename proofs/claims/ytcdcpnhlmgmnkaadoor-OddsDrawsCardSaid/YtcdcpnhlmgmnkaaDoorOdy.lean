/- One of each: Both tells the same in the code and in the document. -/
import Derived.Test.YtcdcpnhlmgmnkaaDoorOdx
namespace Go.Proofs.YtcdcpnhlmgmnkaaDoor.Odd
open Go.RowKit Go.Proofs.YtcdcpnhlmgmnkaaDoor.Base Go.Proofs.YtcdcpnhlmgmnkaaDoor.Podd Go.Proofs.YtcdcpnhlmgmnkaaDoor.Podr Go.Proofs.YtcdcpnhlmgmnkaaDoorW.PrintWords Go.Proofs.YtcdcpnhlmgmnkaaDoorW.PrintLast Go.Proofs.YtcdcpnhlmgmnkaaDoorW.PrintMore
set_option linter.unusedSimpArgs false
set_option linter.unusedVariables false
theorem wrap_step (X p q r : Nat) : IntKind.u64.wrap (((X % 18446744073709551616 : Nat) : Int) + IntKind.u64.wrap (IntKind.u64.wrap ((p : Int) * (q : Int)) * (r : Int))) = (((X + p * q * r) % 18446744073709551616 : Nat) : Int) := by
  simp only [IntKind.wrap_u64]
  rw [← Int.natCast_mul, show (18446744073709551616 : Int) = ((18446744073709551616 : Nat) : Int) from rfl]
  rw [← Int.natCast_emod, ← Int.natCast_mul, ← Int.natCast_emod, ← Int.natCast_add, ← Int.natCast_emod]
  congr 1
  rw [Nat.add_mod, Nat.mod_mod, Nat.mod_mod, Nat.mul_mod, Nat.mod_mod, ← Nat.mul_mod, ← Nat.add_mod]
def G (a b c d i j : Nat) : Nat := C a i * C b j * C c (d - i - j)
section
variable {all a b d : Nat} (ha : all ≤ 60) (hab : a + b ≤ all) (hd : d ≤ all)
include ha hab hd
theorem both_l1 (i : Nat) (hi1 : 1 ≤ i) (hi : i ≤ d) (v : Nat → Int × Int × Int)
    (hl : ∀ X : Nat, Tells (fun f => joustref32_Both.l0 f (all : Int) (a : Int) (b : Int) (d : Int) ((X % 18446744073709551616 : Nat) : Int) ((i + 1 : Nat) : Int)) (v X)) :
    ∀ (n j X : Nat), 1 ≤ j → j + n = d - i + 1 →
      Tells (fun f => joustref32_Both.l1 f (all : Int) (a : Int) (b : Int) (d : Int) ((X % 18446744073709551616 : Nat) : Int) (i : Int) (j : Int)) (v (X + sm (fun t => G a b (all - a - b) d i (j + t)) n))
  | 0, j, X, hj1, hj => by
    have w1 : wrap64 ((i : Int) + (j : Int)) = (i : Int) + (j : Int) := wrap_i (by omega) (by omega)
    have w2 : wrap64 ((i : Int) + 1) = ((i + 1 : Nat) : Int) := by rw [wrap_i (by omega) (by omega)]; omega
    refine Tells.succ (fun f => by simp only [joustref32_Both.l1, w1, w2]; rw [if_neg (by omega)]) ?_
    simpa [sm] using hl X
  | n + 1, j, X, hj1, hj => by
    have ih := both_l1 i hi1 hi v hl n (j + 1) (X + G a b (all - a - b) d i j) (by omega) (by omega)
    have w1 : wrap64 ((i : Int) + (j : Int)) = (i : Int) + (j : Int) := wrap_i (by omega) (by omega)
    have w2 : wrap64 ((j : Int) + 1) = ((j + 1 : Nat) : Int) := by rw [wrap_i (by omega) (by omega)]; omega
    have w3 : wrap64 ((all : Int) - (a : Int)) = ((all - a : Nat) : Int) := by rw [wrap_i (by omega) (by omega)]; omega
    have w4 : wrap64 (((all - a : Nat) : Int) - (b : Int)) = ((all - a - b : Nat) : Int) := by rw [wrap_i (by omega) (by omega)]; omega
    have w5 : wrap64 ((d : Int) - (i : Int)) = ((d - i : Nat) : Int) := by rw [wrap_i (by omega) (by omega)]; omega
    have w6 : wrap64 (((d - i : Nat) : Int) - (j : Int)) = ((d - i - j : Nat) : Int) := by rw [wrap_i (by omega) (by omega)]; omega
    have hs1 := ref_sets_ev (n := (a : Int)) (by omega) (by omega) (i : Int)
    have hs2 := ref_sets_ev (n := (b : Int)) (by omega) (by omega) (j : Int)
    have hs3 := ref_sets_ev (n := ((all - a - b : Nat) : Int)) (by omega) (by omega) ((d - i - j : Nat) : Int)
    rw [Cz_nat] at hs1 hs2 hs3
    rw [sm_front, Nat.add_zero, ← Nat.add_assoc]
    rw [sm_congr (f := fun t => G a b (all - a - b) d i (j + (t + 1))) (g := fun t => G a b (all - a - b) d i (j + 1 + t)) n (fun t _ => by rw [show j + (t + 1) = j + 1 + t by omega])]
    refine Tells.succ (fun f => by simp only [joustref32_Both.l1, w1, w2, w3, w4, w5, w6]; rw [if_pos (by omega)]) ?_
    refine Tells.bind hs1 (Tells.bind hs2 (Tells.bind hs3 ?_))
    refine Tells.congr (fun f => ?_) ih
    rw [wrap_step]
    rfl
theorem both_l0 : ∀ (n i X : Nat), 1 ≤ i → i + n = d + 1 →
      Tells (fun f => joustref32_Both.l0 f (all : Int) (a : Int) (b : Int) (d : Int) ((X % 18446744073709551616 : Nat) : Int) (i : Int))
        (makeV (((X + sm (fun t => sm (fun u => G a b (all - a - b) d (i + t) (1 + u)) (d - (i + t))) n) % 18446744073709551616 : Nat) : Int) (Cz (all : Int) (d : Int)))
  | 0, i, X, hi1, hi => by
    have hb := Cz_bd (n := (all : Int)) (by omega) (d : Int)
    refine Tells.succ (fun f => by simp only [joustref32_Both.l0]; rw [if_neg (by omega)]) ?_
    refine Tells.bind (ref_sets_ev (by omega) (by omega) (d : Int)) (Tells.bind (ref_Make_ev (num := ((X % 18446744073709551616 : Nat) : Int)) (Int.natCast_nonneg _) hb.1 (by omega)) (Tells.of fun _ => ?_))
    simp [sm]
  | n + 1, i, X, hi1, hi => by
    have h := both_l1 ha hab hd i hi1 (by omega) _ (fun X => both_l0 n (i + 1) X (by omega) (by omega)) (d - i) 1 X (by omega) (by omega)
    rw [sm_front, Nat.add_zero, ← Nat.add_assoc]
    rw [sm_congr (f := fun t => sm (fun u => G a b (all - a - b) d (i + (t + 1)) (1 + u)) (d - (i + (t + 1)))) (g := fun t => sm (fun u => G a b (all - a - b) d (i + 1 + t) (1 + u)) (d - (i + 1 + t))) n (fun t _ => by rw [show i + (t + 1) = i + 1 + t by omega])]
    exact Tells.succ (fun f => by simp only [joustref32_Both.l0]; rw [if_pos (by omega)]; rfl) h
end
theorem both_bd {all a b d : Nat} (ha : all ≤ 60) (hab : a + b ≤ all) : both a b (all - a - b) d < 18446744073709551616 := by
  have h := both_eq a b (all - a - b) d
  have h1 := C_le60 (n := a + b + (all - a - b)) (by omega) d
  have h2 := C_le60 (n := all - a - b) (by omega) d
  omega
def bothV (all a b draw : Int) : Int × Int × Int :=
  if (Of all a ∧ Of all b ∧ Of all draw) ∧ a + b ≤ all then makeV ((both a.toNat b.toNat (all.toNat - a.toNat - b.toNat) draw.toNat : Nat) : Int) (Cz all draw) else (0, 0, 2)
theorem ref_both_ev (all a b draw : Int) : Tells (fun f => joustref32_Both.f f all a b draw) (bothV all a b draw) := by
  unfold joustref32_Both.f bothV
  have hno : Tells (fun f => joustref32_Both.j0 f all a b draw true) (0, 0, 2) := Tells.succ (g := fun _ => some (0, 0, 2)) (fun f => by simp only [joustref32_Both.j0]; rfl) (Tells.const _)
  by_cases h1 : Of all a
  · refine Tells.bind (Tells.of fun _ => asked_f all a) ?_
    rw [decide_eq_true h1]
    refine Tells.pos rfl (Tells.bind (Tells.of fun _ => asked_f all b) ?_)
    by_cases h2 : Of all b
    · rw [decide_eq_true h2]
      refine Tells.pos rfl (Tells.bind (Tells.of fun _ => asked_f all draw) ?_)
      by_cases h3 : Of all draw
      · rw [decide_eq_true h3]
        refine Tells.pos rfl ?_
        obtain ⟨⟨a0, a1⟩, b0, b1⟩ := h1
        obtain ⟨-, c0, c1⟩ := h2
        obtain ⟨-, d0, d1⟩ := h3
        have w : wrap64 (a + b) = a + b := wrap_i (by omega) (by omega)
        rw [w]
        by_cases h4 : a + b ≤ all
        · rw [if_pos ⟨⟨⟨⟨a0, a1⟩, b0, b1⟩, ⟨⟨a0, a1⟩, c0, c1⟩, ⟨a0, a1⟩, d0, d1⟩, h4⟩, show decide (a + b > all) = false by simp; omega]
          obtain ⟨all, rfl⟩ := Int.eq_ofNat_of_zero_le a0
          obtain ⟨a, rfl⟩ := Int.eq_ofNat_of_zero_le b0
          obtain ⟨b, rfl⟩ := Int.eq_ofNat_of_zero_le c0
          obtain ⟨d, rfl⟩ := Int.eq_ofNat_of_zero_le d0
          have h := both_l0 (all := all) (a := a) (b := b) (d := d) (by omega) (by omega) (by omega) d 1 0 (by omega) (by omega)
          have e : (0 + sm (fun t => sm (fun u => G a b (all - a - b) d (1 + t) (1 + u)) (d - (1 + t))) d) = both a b (all - a - b) d := by
            unfold both G
            rw [Nat.zero_add]
            refine sm_congr _ (fun t _ => ?_)
            rw [Nat.add_comm 1 t]
            refine sm_congr _ (fun u _ => ?_)
            rw [Nat.add_comm 1 u]
          rw [e, Nat.mod_eq_of_lt (both_bd (by omega) (by omega))] at h
          exact Tells.succ (fun f => by simp only [joustref32_Both.j0]; rw [if_neg (by decide)]; rfl) h
        · rw [if_neg (fun h => h4 h.2), show decide (a + b > all) = true by simp; omega]
          exact hno
      · rw [decide_eq_false h3, if_neg (fun h => h3 h.1.2.2)]
        exact Tells.neg (by decide) hno
    · rw [decide_eq_false h2, if_neg (fun h => h2 h.1.2.1)]
      exact Tells.neg (by decide) hno
  · refine Tells.bind (Tells.of fun _ => asked_f all a) ?_
    rw [decide_eq_false h1, if_neg (fun h => h1 h.1.1)]
    exact Tells.neg (by decide) hno
theorem both_ev (all a b draw : Int) : Tells (fun f => odds_Both.f f all a b draw) (bothV all a b draw) := by
  unfold odds_Both.f bothV
  have hm := may3_ev all a b draw
  by_cases h : Of all a ∧ Of all b ∧ Of all draw
  · rw [decide_eq_true h] at hm
    refine Tells.bind hm (Tells.pos rfl ?_)
    have h' := h
    obtain ⟨⟨⟨a0, a1⟩, b0, b1⟩, ⟨-, c0, c1⟩, ⟨-, d0, d1⟩⟩ := h'
    have w : wrap64 (a + b) = a + b := wrap_i (by omega) (by omega)
    rw [w]
    by_cases h4 : a + b ≤ all
    · rw [if_pos ⟨h, h4⟩, show decide (a + b > all) = false by simp; omega]
      clear h hm w
      obtain ⟨all, rfl⟩ := Int.eq_ofNat_of_zero_le a0
      obtain ⟨a, rfl⟩ := Int.eq_ofNat_of_zero_le b0
      obtain ⟨b, rfl⟩ := Int.eq_ofNat_of_zero_le c0
      obtain ⟨d, rfl⟩ := Int.eq_ofNat_of_zero_le d0
      have w3 : wrap64 ((all : Int) - (a : Int)) = ((all - a : Nat) : Int) := by rw [wrap_i (by omega) (by omega)]; omega
      have w4 : wrap64 (((all - a : Nat) : Int) - (b : Int)) = ((all - a - b : Nat) : Int) := by rw [wrap_i (by omega) (by omega)]; omega
      have w5 : wrap64 ((all : Int) - (b : Int)) = ((all - b : Nat) : Int) := by rw [wrap_i (by omega) (by omega)]; omega
      have hs1 := odds_sets_ev (n := (all : Int)) (by omega) (by omega) (d : Int)
      have hs2 := odds_sets_ev (n := ((all - a - b : Nat) : Int)) (by omega) (by omega) (d : Int)
      have hs3 := odds_sets_ev (n := ((all - a : Nat) : Int)) (by omega) (by omega) (d : Int)
      have hs4 := odds_sets_ev (n := ((all - b : Nat) : Int)) (by omega) (by omega) (d : Int)
      have heq := both_eq a b (all - a - b) d
      rw [show b + (all - a - b) = all - a by omega, show a + (all - a - b) = all - b by omega, show a + b + (all - a - b) = all by omega] at heq
      have k1 := C_le60 (n := all) (by omega) d
      have k2 := C_le60 (n := all - a - b) (by omega) d
      have hb := Cz_bd (n := (all : Int)) (by omega) (d : Int)
      refine Tells.succ (fun f => by simp only [odds_Both.j0, w3, w4, w5]; rw [if_neg (by decide)]) ?_
      refine Tells.bind hs1 (Tells.bind hs2 (Tells.bind hs3 (Tells.bind hs4 (Tells.bind hs1 ?_))))
      simp only [Int.toNat_natCast]
      have en : IntKind.u64.wrap (IntKind.u64.wrap (IntKind.u64.wrap (Cz (all : Int) (d : Int) + Cz ((all - a - b : Nat) : Int) (d : Int)) - Cz ((all - a : Nat) : Int) (d : Int)) - Cz ((all - b : Nat) : Int) (d : Int)) = ((both a b (all - a - b) d : Nat) : Int) := by
        simp only [Cz_nat]
        rw [wrap_u (a := ((C all d : Nat) : Int) + _) (by omega) (by omega), wrap_u (a := ((C all d : Nat) : Int) + _ - _) (by omega) (by omega), wrap_u (by omega) (by omega)]
        omega
      simp only [en]
      exact Tells.bind (odds_Make_ev (Int.natCast_nonneg _) hb.1 (by omega)) (Tells.of fun _ => rfl)
    · rw [if_neg (fun h => h4 h.2), show decide (a + b > all) = true by simp; omega]
      exact Tells.succ (g := fun _ => some (0, 0, 2)) (fun f => by simp only [odds_Both.j0]; rfl) (Tells.const _)
  · rw [decide_eq_false h] at hm
    rw [if_neg (fun k => h k.1)]
    exact Tells.bind hm (Tells.neg (by decide) (Tells.succ (g := fun _ => some (0, 0, 2)) (fun f => by simp only [odds_Both.j0]; rfl) (Tells.const _)))
end Go.Proofs.YtcdcpnhlmgmnkaaDoor.Odd
