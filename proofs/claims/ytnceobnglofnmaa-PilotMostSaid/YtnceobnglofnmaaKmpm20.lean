/- Joined by a program of this session (pack.py) out of: PurePilotMost WalkPilotMost -/
import Derived.Test.YtnceobnglofnmaaKmpm4
import Derived.Test.YtnceobnglofnmaaKmpm12
import Derived.Test.YtnceobnglofnmaaKmpm19
section
/- The brave one's choice is worth as much as any, and more than each ahead of it; the first one is the first, the last one the last: the plain law. -/
namespace Go.Proofs.Ytnceobnglofnmaa.Pure
open Go.RowKit Go.Proofs.Ytnceobnglofnmaa.Base Go.Proofs.Ytnceobnglofnmaa.Ppia Go.Proofs.Ytnceobnglofnmaa.Ppic Go.Proofs.Ytnceobnglofnmaa.Ppim Go.Proofs.Ytnceobnglofnmaa.Pil Go.Proofs.YtnceobnglofnmaaW.PrintWords Go.Proofs.YtnceobnglofnmaaW.PrintLast
theorem lives33m : Tells (fun k => Ppil.joustlaw33_lives.f k) true := Tells.mono Ppil.joustlaw33_lives.mono (k0 := 8) (by kernel_rfl)
theorem lives33m_bind : Tells (fun k => (Ppil.joustlaw33_lives.f k).bind fun t => some t) true := Tells.bind (g := fun t _ => some t) lives33m (Tells.const true)
def near (x : Int) : Prop := -1099511627776 ≤ x ∧ x ≤ 1099511627776
section
variable (L : List S123) (p1 p2 p3 p4 p5 p6 : Int) (O : List S133)
theorem line_near (hL : ∀ i : Nat, i < L.length → near (rd_T123 L i).f6) (a : Int) : ∃ x0 x1 x2 x3 x4 x5 x6 x7 x8, pilot_line.f L p1 p2 p3 p4 p5 p6 O a = some (x0, x1, x2, x3, x4, x5, x6, x7, x8) ∧ near x6 := by
  unfold pilot_line.f
  by_cases h0 : a < 0
  · rw [if_pos h0]; exact ⟨_, _, _, _, _, _, _, _, _, rfl, by decide, by decide⟩
  by_cases h1 : a ≥ (L.length : Int)
  · rw [if_neg h0, if_pos h1]; exact ⟨_, _, _, _, _, _, _, _, _, rfl, by decide, by decide⟩
  obtain ⟨n, rfl⟩ := Int.eq_ofNat_of_zero_le (show 0 ≤ a by omega)
  rw [if_neg h0, if_neg h1, if_pos (by omega), if_pos (by omega)]
  exact ⟨_, _, _, _, _, _, _, _, _, rfl, hL n (by omega)⟩
theorem card_near (hl : L.length ≤ 200) (d : Nat) : ∀ (i : Nat) (x : Int), i + d = L.length → 0 ≤ x → x ≤ 12000 + 1000 * (i : Int) → ∃ v, pilot_card.l0 (d + 1) x L (L.length : Int) (i : Int) L p1 p2 p3 p4 p5 p6 O = some v ∧ 0 ≤ v := by
  induction d with
  | zero =>
    intro i x h h0 h1
    exact ⟨x, by rw [pilot_card.l0, if_neg (by omega)], h0⟩
  | succ d ih =>
    intro i x h h0 h1
    have hw : wrap64 ((i : Int) + 1) = ((i + 1 : Nat) : Int) := by rw [wrap_i] <;> omega
    have hx : wrap64 (x + 1000) = x + 1000 := wrap_i (by omega) (by omega)
    obtain ⟨v1, e1, g1⟩ := ih (i + 1) x (by omega) h0 (by omega)
    obtain ⟨v2, e2, g2⟩ := ih (i + 1) (x + 1000) (by omega) (by omega) (by omega)
    rw [pilot_card.l0, if_pos (by omega), if_pos (by omega), if_pos (by omega), hw, hx, e1, e2]
    split
    · split
      · split
        · exact ⟨v1, rfl, g1⟩
        · exact ⟨v2, rfl, g2⟩
      · exact ⟨v1, rfl, g1⟩
    · exact ⟨v1, rfl, g1⟩
theorem plain_near (a : Int) : ∃ v, pilot_plain.f a = some v ∧ 0 ≤ v := by
  unfold pilot_plain.f
  repeat' split
  all_goals exact ⟨_, rfl, by decide⟩
theorem worth_near (hL : ∀ i : Nat, i < L.length → near (rd_T123 L i).f6) (hl : L.length ≤ 200) (i : Nat) (hi : i < O.length) :
    ∃ v, pilot_Worth.f L p1 p2 p3 p4 p5 p6 O (i : Int) = some (v, true) ∧ -4611686018427387904 < v := by
  unfold pilot_Worth.f
  rw [if_neg (by omega), if_neg (by omega)]
  by_cases h8 : (rd_T133 O (i : Int)).f0 = 8
  · rw [if_pos h8]
    unfold pilot_attack.f
    obtain ⟨x0, x1, x2, x3, x4, x5, x6, x7, x8, hx, hx1, hx2⟩ := line_near L p1 p2 p3 p4 p5 p6 O hL (rd_T133 O (i : Int)).f1
    obtain ⟨y0, y1, y2, y3, y4, y5, y6, y7, y8, hy, hy1, hy2⟩ := line_near L p1 p2 p3 p4 p5 p6 O hL (rd_T133 O (i : Int)).f2
    rw [hx, hy]
    refine ⟨_, rfl, ?_⟩
    have w1 : wrap64 (40000 + x6) = 40000 + x6 := wrap_i (by omega) (by omega)
    have w2 : wrap64 (30000 + x6) = 30000 + x6 := wrap_i (by omega) (by omega)
    have w3 : wrap64 (30000 + x6 - y6) = 30000 + x6 - y6 := wrap_i (by omega) (by omega)
    unfold attackV
    dsimp only
    rw [w1, w2, w3]
    repeat' split
    all_goals omega
  rw [if_neg h8]
  by_cases h1 : (rd_T133 O (i : Int)).f0 = 1
  · rw [if_pos h1]
    obtain ⟨v, hv, hv0⟩ := card_near L p1 p2 p3 p4 p5 p6 O hl L.length 0 12000 (by omega) (by omega) (by omega)
    unfold pilot_card.f
    rw [show (0 : Int) = ((0 : Nat) : Int) from rfl, hv]
    exact ⟨v, rfl, by omega⟩
  rw [if_neg h1]
  by_cases h11 : (rd_T133 O (i : Int)).f0 = 11
  · rw [if_pos h11]
    unfold pilot_drop.f
    obtain ⟨x0, x1, x2, x3, x4, x5, x6, x7, x8, hx, hx1, hx2⟩ := line_near L p1 p2 p3 p4 p5 p6 O hL (rd_T133 O (i : Int)).f1
    rw [hx]
    refine ⟨_, rfl, ?_⟩
    have w1 : wrap64 (9000 - x6) = 9000 - x6 := wrap_i (by omega) (by omega)
    dsimp only
    rw [w1]
    unfold mx
    split <;> omega
  rw [if_neg h11]
  by_cases h2 : (rd_T133 O (i : Int)).f0 = 2
  · rw [if_pos h2]
    unfold pilot_summon.f
    obtain ⟨x0, x1, x2, x3, x4, x5, x6, x7, x8, hx, hx1, hx2⟩ := line_near L p1 p2 p3 p4 p5 p6 O hL (rd_T133 O (i : Int)).f1
    obtain ⟨y0, y1, y2, y3, y4, y5, y6, y7, y8, hy, hy1, hy2⟩ := line_near L p1 p2 p3 p4 p5 p6 O hL (rd_T133 O (i : Int)).f2
    rw [hx, hy]
    refine ⟨_, rfl, ?_⟩
    have w2 : wrap64 (20000 + x6) = 20000 + x6 := wrap_i (by omega) (by omega)
    have w3 : wrap64 (20000 + x6 - y6) = 20000 + x6 - y6 := wrap_i (by omega) (by omega)
    dsimp only
    rw [w2, w3]
    omega
  rw [if_neg h2]
  obtain ⟨v, hv, hv0⟩ := plain_near (rd_T133 O (i : Int)).f0
  rw [hv]
  exact ⟨v, rfl, by omega⟩
theorem within_tells (hl : L.length ≤ 200) (d : Nat) : ∀ i : Nat, i + d = L.length → ∃ b, Tells (fun k => joustlaw33_within.l0 k (L.length : Int) (i : Int) L p1 p2 p3 p4 p5 p6 O) b ∧ (b = true → ∀ j : Nat, i ≤ j → j < L.length → near (rd_T123 L j).f6) := by
  induction d with
  | zero =>
    intro i h
    exact ⟨true, Tells.succ (fun k => by rw [joustlaw33_within.l0]) (Tells.neg (by omega) (Tells.const _)), fun _ j h1 h2 => by omega⟩
  | succ d ih =>
    intro i h
    have hw : wrap64 ((i : Int) + 1) = ((i + 1 : Nat) : Int) := by rw [wrap_i] <;> omega
    obtain ⟨b, hb, hb2⟩ := ih (i + 1) (by omega)
    by_cases h1 : (rd_T123 L (i : Int)).f6 > 1099511627776
    · exact ⟨false, Tells.succ (fun k => by rw [joustlaw33_within.l0]) (Tells.pos (by omega) (Tells.pos (by omega) (Tells.pos (by omega) (Tells.pos h1 (Tells.const _))))), fun e => by cases e⟩
    by_cases h2 : (rd_T123 L (i : Int)).f6 < -1099511627776
    · exact ⟨false, Tells.succ (fun k => by rw [joustlaw33_within.l0]) (Tells.pos (by omega) (Tells.pos (by omega) (Tells.pos (by omega) (Tells.neg h1 (Tells.pos h2 (Tells.const _)))))), fun e => by cases e⟩
    refine ⟨b, Tells.succ (fun k => by rw [joustlaw33_within.l0, hw]) (Tells.pos (by omega) (Tells.pos (by omega) (Tells.pos (by omega) (Tells.neg h1 (Tells.neg h2 hb))))), fun e j hj hj2 => ?_⟩
    by_cases hji : j = i
    · subst hji; exact ⟨by omega, by omega⟩
    · exact hb2 e j (by omega) hj2
variable (W : Nat → Int)
def Best (n : Nat) : Prop := n < O.length ∧ ∀ j : Nat, j < O.length → W j ≤ W n ∧ (j < n → W j < W n)
theorem brave_tells (hW : ∀ i : Nat, i < O.length → pilot_Worth.f L p1 p2 p3 p4 p5 p6 O (i : Int) = some (W i, true)) (hlow : ∀ i : Nat, i < O.length → -4611686018427387904 < W i) (hO : O.length ≤ 300) (h0 : O.length ≠ 0) (s : Int) (d : Nat) :
    ∀ (i b : Nat) (m : Int), i + d = O.length → ((i = 0 ∧ b = 0 ∧ m = -4611686018427387904) ∨ (b < i ∧ m = W b ∧ ∀ j : Nat, j < i → W j ≤ W b ∧ (j < b → W j < W b))) →
      ∃ n : Nat, Best O W n ∧ Tells (fun k => pilot_brave_choose.l0 k s (b : Int) m (O.length : Int) (i : Int) L p1 p2 p3 p4 p5 p6 O) ((n : Int), s) := by
  induction d with
  | zero =>
    intro i b m h hI
    rcases hI with ⟨h1, _⟩ | ⟨h1, h2, h3⟩
    · omega
    · refine ⟨b, ⟨by omega, fun j hj => h3 j (by omega)⟩, Tells.succ (fun k => by rw [pilot_brave_choose.l0]) (Tells.neg (by omega) (Tells.const _))⟩
  | succ d ih =>
    intro i b m h hI
    have hw : wrap64 ((i : Int) + 1) = ((i + 1 : Nat) : Int) := by rw [wrap_i] <;> omega
    have hi := hW i (by omega)
    have hlo := hlow i (by omega)
    by_cases hg : W i > m
    · obtain ⟨n, hn, ht⟩ := ih (i + 1) i (W i) (by omega) (.inr ⟨by omega, rfl, fun j hj => by
        rcases hI with ⟨h1, _⟩ | ⟨h1, h2, h3⟩
        · have : j = i := by omega
          subst this; exact ⟨Int.le_refl _, fun h => by omega⟩
        · by_cases hji : j = i
          · subst hji; exact ⟨Int.le_refl _, fun h => by omega⟩
          · have := (h3 j (by omega)).1
            exact ⟨by omega, fun _ => by omega⟩⟩)
      refine ⟨n, hn, Tells.succ (fun k => by rw [pilot_brave_choose.l0, hi, Option.bind_some, hw]) (Tells.pos (by omega) (Tells.pos hg ht))⟩
    · rcases hI with ⟨h1, h2, h3⟩ | ⟨h1, h2, h3⟩
      · omega
      obtain ⟨n, hn, ht⟩ := ih (i + 1) b m (by omega) (.inr ⟨by omega, h2, fun j hj => by
        by_cases hji : j = i
        · subst hji; exact ⟨by omega, fun h => by omega⟩
        · exact h3 j (by omega)⟩)
      refine ⟨n, hn, Tells.succ (fun k => by rw [pilot_brave_choose.l0, hi, Option.bind_some, hw]) (Tells.pos (by omega) (Tells.neg hg ht))⟩
theorem choose_three (s : Int) (h0 : O.length ≠ 0) (n : Int) (h : Tells (fun k => pilot_brave_choose.l0 k s 0 (-4611686018427387904) (O.length : Int) 0 L p1 p2 p3 p4 p5 p6 O) (n, s)) :
    Tells (fun k => pilot_Choose.f k 3 s L p1 p2 p3 p4 p5 p6 O) (n, 3, s, 0) := by
  refine Tells.congr (g := fun k => (pilot_brave_choose.l0 k s 0 (-4611686018427387904) (O.length : Int) 0 L p1 p2 p3 p4 p5 p6 O).bind fun t => some (t.1, 3, t.2, 0)) (fun k => by unfold pilot_Choose.f pilot_brave_choose.f; rw [if_neg h0, if_neg (by decide), if_neg (by decide), if_neg (by decide), if_pos rfl]) ?_
  exact Tells.bind (g := fun (t : Int × Int) _ => some (t.1, (3 : Int), t.2, (0 : Int))) h (Tells.const _)
theorem choose_first (s : Int) (h0 : O.length ≠ 0) (k : Nat) : pilot_Choose.f k 0 s L p1 p2 p3 p4 p5 p6 O = some (0, 0, s, 0) := by
  unfold pilot_Choose.f pilot_first_choose.f
  rw [if_neg h0, if_pos rfl]; rfl
theorem choose_last (s : Int) (h0 : O.length ≠ 0) (k : Nat) : pilot_Choose.f k 1 s L p1 p2 p3 p4 p5 p6 O = some (wrap64 ((O.length : Int) - 1), 1, s, 0) := by
  unfold pilot_Choose.f pilot_last_choose.f
  rw [if_neg h0, if_neg (by decide), if_pos rfl]; rfl
theorem test_tells (hW : ∀ i : Nat, i < O.length → pilot_Worth.f L p1 p2 p3 p4 p5 p6 O (i : Int) = some (W i, true)) (hO : O.length ≤ 300) (h0 : O.length ≠ 0) (s : Int) (n : Nat) (hn : Best O W n) (d : Nat) :
    ∀ i : Nat, i + d = O.length → Tells (fun k => joustlaw33_PilotMost.l0 k s (n : Int) (W n) (O.length : Int) (i : Int) L p1 p2 p3 p4 p5 p6 O) true := by
  induction d with
  | zero =>
    intro i h
    refine Tells.succ (fun k => by rw [joustlaw33_PilotMost.l0, choose_first L p1 p2 p3 p4 p5 p6 O s h0 k, choose_last L p1 p2 p3 p4 p5 p6 O s h0 k, Option.bind_some, Option.bind_some]) (Tells.neg (by omega) ?_)
    exact Tells.pos rfl (Tells.pos rfl (Tells.pos rfl (Tells.pos rfl lives33m_bind)))
  | succ d ih =>
    intro i h
    have hw : wrap64 ((i : Int) + 1) = ((i + 1 : Nat) : Int) := by rw [wrap_i] <;> omega
    have hb := hn.2 i (by omega)
    have ht := ih (i + 1) (by omega)
    refine Tells.succ (fun k => by rw [joustlaw33_PilotMost.l0, hW i (by omega), Option.bind_some, hw]) (Tells.pos (by omega) (Tells.pos rfl (Tells.neg (by omega) ?_)))
    by_cases hin : i < n
    · have := hb.2 hin
      exact Tells.pos (by omega) (Tells.neg (by omega) ht)
    · exact Tells.neg (by omega) ht
theorem PilotMost_tells (s : Int) : Tells (fun k => joustlaw33_PilotMost.f k L p1 p2 p3 p4 p5 p6 O s) true := by
  have skip : Tells (fun k => joustlaw33_PilotMost.j0 k s true L p1 p2 p3 p4 p5 p6 O) true :=
    Tells.succ (fun k => by rw [joustlaw33_PilotMost.j0]) (Tells.pos rfl lives33m_bind)
  unfold joustlaw33_PilotMost.f Ppia.joustlaw33_great.f
  by_cases hl : (L.length : Int) > 200
  · rw [if_pos hl]; exact skip
  rw [if_neg hl]
  simp only [Option.bind_some]
  by_cases hO : (O.length : Int) > 300
  · rw [decide_eq_true hO]; exact Tells.pos rfl skip
  rw [decide_eq_false hO]
  refine Tells.neg (by decide) ?_
  obtain ⟨b, hb, hb2⟩ := within_tells L p1 p2 p3 p4 p5 p6 O (by omega) L.length 0 (by omega)
  refine Tells.bind (f := fun k => Ppia.joustlaw33_within.f k L p1 p2 p3 p4 p5 p6 O) (g := fun bt k => _) hb ?_
  cases b with
  | false => exact Tells.neg (by decide) skip
  | true =>
    refine Tells.pos rfl ?_
    by_cases h0 : O.length = 0
    · rw [show ((O.length : Int) == 0) = true by rw [h0]; rfl]; exact skip
    rw [show ((O.length : Int) == 0) = false from beq_eq_false_iff_ne.2 (by omega)]
    have hL : ∀ i : Nat, i < L.length → near (rd_T123 L i).f6 := fun i hi => hb2 rfl i (by omega) hi
    have hex : ∃ W : Nat → Int, ∀ i : Nat, i < O.length → pilot_Worth.f L p1 p2 p3 p4 p5 p6 O (i : Int) = some (W i, true) ∧ -4611686018427387904 < W i := by
      refine ⟨fun i => ((pilot_Worth.f L p1 p2 p3 p4 p5 p6 O (i : Int)).getD (0, true)).1, fun i hi => ?_⟩
      obtain ⟨v, hv, hv2⟩ := worth_near L p1 p2 p3 p4 p5 p6 O hL (by omega) i hi
      have e : ((pilot_Worth.f L p1 p2 p3 p4 p5 p6 O (i : Int)).getD (0, true)).1 = v := by rw [hv]; rfl
      show _ = some (((pilot_Worth.f L p1 p2 p3 p4 p5 p6 O (i : Int)).getD (0, true)).1, true) ∧ _ < ((pilot_Worth.f L p1 p2 p3 p4 p5 p6 O (i : Int)).getD (0, true)).1
      rw [e]
      exact ⟨hv, hv2⟩
    obtain ⟨W, hW⟩ := hex
    have hW1 := fun i hi => (hW i hi).1
    obtain ⟨n, hn, ht⟩ := brave_tells L p1 p2 p3 p4 p5 p6 O W hW1 (fun i hi => (hW i hi).2) (by omega) h0 s O.length 0 0 (-4611686018427387904) (by omega) (.inl ⟨rfl, rfl, rfl⟩)
    have hn1 := hn.1
    refine Tells.succ (fun k => by rw [joustlaw33_PilotMost.j0]) (Tells.neg (by decide) ?_)
    refine Tells.bind (f := fun k => pilot_Choose.f k 3 s L p1 p2 p3 p4 p5 p6 O) (g := fun bt k => _) (choose_three L p1 p2 p3 p4 p5 p6 O s h0 (n : Int) ht) ?_
    refine Tells.pos rfl (Tells.pos rfl (Tells.pos rfl (Tells.neg (by omega) ?_)))
    rw [show decide ((n : Int) ≥ (O.length : Int)) = false from decide_eq_false (by omega)]
    refine Tells.succ (fun k => by rw [joustlaw33_PilotMost.j1, hW1 n hn1, Option.bind_some]) (Tells.neg (by decide) ?_)
    exact test_tells L p1 p2 p3 p4 p5 p6 O W hW1 (by omega) h0 s n hn O.length 0 (by omega)
end
end Go.Proofs.Ytnceobnglofnmaa.Pure
end
section
/- PilotMost: the walk out of the printed contract. -/
namespace Go.Proofs.Ytnceobnglofnmaa.Pure
open Go.RowKit Go.Proofs.Ytnceobnglofnmaa.Base Go.Proofs.YtnceobnglofnmaaW.PrintWords Go.Proofs.YtnceobnglofnmaaW.PrintLast Go.Proofs.Ytnceobnglofnmaa.Ppia Go.Proofs.Ytnceobnglofnmaa.Ppim
set_option linter.unusedVariables false
theorem PilotMost_walk (A0_0 : Option Addr) (c0_0 : Nat) (l0_0 : List (S123)) (a0_1_0 : Int) (a0_1_1 : Int) (a0_2 : Int) (a0_3 : Int) (a0_4 : Int) (a0_5 : Int) (A0_6 : Option Addr) (c0_6 : Nat) (l0_6 : List (S133)) (a1 : Int) (w : World)
    (hc0_0 : l0_0.length ≤ c0_0) (hr0_0 : Kd.C (k123) w A0_0 l0_0.length l0_0) (hw0_0 : (l0_0.length * Try.prog.bytesOf 123 ≤ reachBytes ∧ l0_0.length ≤ maxLen ∧ ∀ y ∈ l0_0, Opens.ok123 y)) (hw0_1_0 : (Lit.int .i64 a0_1_0).wf = true) (hw0_1_1 : (Lit.int .i64 a0_1_1).wf = true) (hw0_2 : (Lit.int .u8 a0_2).wf = true) (hw0_3 : (Lit.int .i64 a0_3).wf = true) (hw0_4 : (Lit.int .u8 a0_4).wf = true) (hw0_5 : (Lit.int .u8 a0_5).wf = true) (hc0_6 : l0_6.length ≤ c0_6) (hr0_6 : Kd.C (k133) w A0_6 l0_6.length l0_6) (hw0_6 : (l0_6.length * Try.prog.bytesOf 133 ≤ reachBytes ∧ l0_6.length ≤ maxLen ∧ ∀ y ∈ l0_6, Opens.ok133 y)) (hw1 : (Lit.int .u64 a1).wf = true) :
    Calls Try.prog 13 #[.agg #[.slice A0_0 l0_0.length c0_0, .int .i64 a0_1_0, .int .i64 a0_1_1, .int .u8 a0_2, .int .i64 a0_3, .int .u8 a0_4, .int .u8 a0_5, .slice A0_6 l0_6.length c0_6], .int .u64 a1] w fun e w' => e = .returned (.bool true) ∧ Below w.heap.size w w' := by
  obtain ⟨k, h⟩ := (PilotMost_tells l0_0 a0_1_0 a0_1_1 a0_2 a0_3 a0_4 a0_5 l0_6 a1 ).exists
  exact Ppim.joustlaw33_PilotMost.calls k A0_0 c0_0 l0_0 a0_1_0 a0_1_1 a0_2 a0_3 a0_4 a0_5 A0_6 c0_6 l0_6 a1 true w hr0_0 hc0_0 hr0_6 hc0_6 h
end Go.Proofs.Ytnceobnglofnmaa.Pure
end
