/- Joined by a program of this session (pack.py) out of: Clke Clkf BaseCt -/
import Derived.Test.YtcdcpnhlmgmnkaaDoorKctl5
import Derived.Test.YtcdcpnhlmgmnkaaDoorKctl8
import Derived.Test.YtcdcpnhlmgmnkaaDoorKctl12
section
/- The clock and its document agree, function by function: the plain law. -/
namespace Go.Proofs.YtcdcpnhlmgmnkaaDoor.Clk
open Go.RowKit Go.Proofs.YtcdcpnhlmgmnkaaDoor.Base Go.Proofs.YtcdcpnhlmgmnkaaDoor.Pclk Go.Proofs.YtcdcpnhlmgmnkaaDoor.Pcrf Go.Proofs.YtcdcpnhlmgmnkaaDoor.Pcrt Go.Proofs.YtcdcpnhlmgmnkaaDoorW.PrintWords Go.Proofs.YtcdcpnhlmgmnkaaDoorW.PrintLast
theorem rwithin_f (a : Int) : joustref28_within.f a = some (decide (0 ≤ a ∧ a ≤ 1073741824)) := by
  unfold joustref28_within.f
  split <;> simp <;> omega
section
variable (l0 l1 more cap who : Int) (on : Bool) (since fell : Int)
theorem rmay_f (j : Nat) (h0 : 0 ≤ fell) (h1 : fell ≤ 255) :
    joustref28_May.f (j + 3) l0 l1 more cap who on since fell = some (decide (MayP l0 l1 more cap who on since fell)) := by
  have hw : wrap64 fell = fell := wrap_small (by omega) (by omega)
  have e1 : wrap64 (0 + 1) = 1 := by kernel_rfl
  have e2 : wrap64 (1 + 1) = 2 := by kernel_rfl
  have e3 : (who ≤ 1) = (who < 2) := propext (by omega)
  have e4 : (fell ≤ 2) = (fell = 2 ∨ fell < 2) := propext (by omega)
  simp only [joustref28_May.f, joustref28_May.l0, rwithin_f, Option.bind_some, hw, e1, e2, e3, e4, decide_eq_true_eq, beq_iff]
  unfold MayP
  by_cases c1 : 0 ≤ l0 ∧ l0 ≤ 1073741824
  · by_cases c2 : (l0 = 0 ↔ fell = 0)
    · by_cases c3 : 0 ≤ l1 ∧ l1 ≤ 1073741824
      · by_cases c4 : (l1 = 0 ↔ fell = 1)
        · simp only [c1, c2, c3, c4]
          by_cases c5 : 0 ≤ more ∧ more ≤ 1073741824 <;> by_cases c6 : 0 ≤ cap ∧ cap ≤ 1073741824 <;> by_cases c7 : 0 ≤ since ∧ since ≤ 1073741824 <;> by_cases c8 : who < 2 <;> by_cases c9 : fell = 2 <;> by_cases c10 : fell < 2 <;> cases on <;> simp [c5, c6, c7, c8, c9, c10]
        · simp [c1, c2, c3, c4]
      · simp [c1, c2, c3]
    · simp [c1, c2]
  · simp [c1]
theorem rasked_f (j : Nat) (now : Int) (h0 : 0 ≤ fell) (h1 : fell ≤ 255) :
    joustref28_asked.f (j + 3) l0 l1 more cap who on since fell now = some (decide (MayP l0 l1 more cap who on since fell ∧ (0 ≤ now ∧ now ≤ 1073741824) ∧ since ≤ now)) := by
  unfold joustref28_asked.f
  rw [rmay_f l0 l1 more cap who on since fell j h0 h1]
  by_cases c : MayP l0 l1 more cap who on since fell <;> by_cases d : 0 ≤ now ∧ now ≤ 1073741824 <;> simp [c, d, rwithin_f]
theorem may_same (j : Nat) (h0 : 0 ≤ fell) (h1 : fell ≤ 255) : ∃ b, clock_May.f (j + 3) l0 l1 more cap who on since fell = some b ∧ joustref28_May.f (j + 3) l0 l1 more cap who on since fell = some b :=
  ⟨_, may_f j l0 l1 more cap who on since fell h0 h1, rmay_f l0 l1 more cap who on since fell j h0 h1⟩
theorem new_same (j : Nat) (a b c : Int) : ∃ v, clock_New.f (j + 3) a b c = some v ∧ joustref28_New.f a b c = some v := by
  have hM : MayP a a b c 0 false 0 2 ↔ (¬ a < 1 ∧ (0 ≤ a ∧ a ≤ 1073741824) ∧ (0 ≤ b ∧ b ≤ 1073741824) ∧ (0 ≤ c ∧ c ≤ 1073741824)) := by
    unfold MayP
    simp
    omega
  unfold clock_New.f joustref28_New.f
  rw [may_f _ _ _ _ _ _ _ _ _ (by omega) (by omega)]
  simp only [rwithin_f, Option.bind_some, decide_eq_true_eq, hM]
  by_cases h1 : a < 1
  · simp [h1]
  · by_cases h2 : 0 ≤ a ∧ a ≤ 1073741824 <;> by_cases h3 : 0 ≤ b ∧ b ≤ 1073741824 <;> by_cases h4 : 0 ≤ c ∧ c ≤ 1073741824 <;> simp [h1, h2, h3, h4]
theorem start_same (j : Nat) (w now : Int) (h0 : 0 ≤ fell) (h1 : fell ≤ 255) :
    ∃ v, clock_Start.f (j + 3) l0 l1 more cap who on since fell w now = some v ∧ joustref28_Start.f (j + 3) l0 l1 more cap who on since fell w now = some v := by
  by_cases C : MayP l0 l1 more cap who on since fell ∧ (0 ≤ now ∧ now ≤ 1073741824) ∧ since ≤ now
  · by_cases hw : 2 ≤ w
    · refine ⟨_, start_arg j l0 l1 more cap who on since fell w now h0 h1 (.inr hw), ?_⟩
      unfold joustref28_Start.f
      rw [rasked_f l0 l1 more cap who on since fell j now h0 h1]
      simp [C, joustref28_Start.j0, show 1 < w by omega]
    · by_cases hs : on = true ∨ fell ≠ 2
      · refine ⟨_, start_state j l0 l1 more cap who on since fell w now h0 h1 C (by omega) hs, ?_⟩
        unfold joustref28_Start.f
        rw [rasked_f l0 l1 more cap who on since fell j now h0 h1]
        have hf : on = false → fell < 2 := fun ho => by
          rcases hs with h | h
          · rw [ho] at h; cases h
          · rcases C.1.2.2.2.2.2.2.2.2 with h2 | h2
            · exact absurd h2 h
            · exact h2.1
        cases ho : on with
        | true => rw [ho] at C; simp [C, joustref28_Start.j0, show ¬ 1 < w by omega]
        | false =>
          have := hf ho
          rw [ho] at C
          simp [C, joustref28_Start.j0, show ¬ 1 < w by omega, this]
      · have ho : on = false := by cases on <;> simp_all
        have hf : fell = 2 := by
          by_cases h : fell = 2
          · exact h
          · exact absurd (.inr h) hs
        subst ho hf
        refine ⟨_, start_ok j l0 l1 more cap who since w now C (by omega), ?_⟩
        unfold joustref28_Start.f
        rw [rasked_f l0 l1 more cap who false since 2 j now h0 h1]
        simp [C, joustref28_Start.j0, show ¬ 1 < w by omega]
  · refine ⟨_, start_arg j l0 l1 more cap who on since fell w now h0 h1 (.inl C), ?_⟩
    unfold joustref28_Start.f
    rw [rasked_f l0 l1 more cap who on since fell j now h0 h1]
    simp [C, joustref28_Start.j0]
theorem falls_same (now : Int) (hn : who = 0 ∨ who = 1) : ∃ b, clock_falls.f l0 l1 more cap who on since fell now = some b ∧ joustref28_falls.f l0 l1 more cap who on since fell now = some b := by
  unfold clock_falls.f joustref28_falls.f
  cases on with
  | false => exact ⟨false, by rw [if_neg (by decide)], by rw [if_neg (by decide)]⟩
  | true =>
    rw [if_pos rfl, if_pos rfl, room_f l0 l1 more cap who true since fell hn]
    generalize wrap64 (now - since) = u
    refine ⟨decide (u > roomI (ofWho l0 l1 who) cap), rfl, ?_⟩
    unfold roomI ofWho
    rcases hn with rfl | rfl
    · simp only [if_true]
      by_cases h1 : u > l0 <;> by_cases h2 : cap > 0 <;> by_cases h3 : l0 < cap <;> by_cases h4 : u > cap <;> simp [h1, h2, h3, h4] <;> omega
    · simp only [show ¬ (1 : Int) = 0 by omega, if_false, if_true]
      by_cases h1 : u > l1 <;> by_cases h2 : cap > 0 <;> by_cases h3 : l1 < cap <;> by_cases h4 : u > cap <;> simp [h1, h2, h3, h4] <;> omega
theorem who_of (now : Int) (hw0 : 0 ≤ who) (C : MayP l0 l1 more cap who on since fell ∧ (0 ≤ now ∧ now ≤ 1073741824) ∧ since ≤ now) : who = 0 ∨ who = 1 := by
  have := C.1.2.2.2.2.2.2.2.1
  omega
theorem look_same (j : Nat) (now : Int) (h0 : 0 ≤ fell) (h1 : fell ≤ 255) (hw0 : 0 ≤ who) :
    ∃ a b f e, clock_Look.f (j + 3) l0 l1 more cap who on since fell now = some (a, b, f, e) ∧ joustref28_Look.f (j + 3) l0 l1 more cap who on since fell now = some (a, b, f, e) ∧ (e = 0 → (0 ≤ a ∧ a ≤ 1073741824) ∧ (0 ≤ b ∧ b ≤ 1073741824)) := by
  unfold clock_Look.f joustref28_Look.f
  rw [cmay_f j l0 l1 more cap who on since fell now h0 h1, rasked_f l0 l1 more cap who on since fell j now h0 h1]
  by_cases C : MayP l0 l1 more cap who on since fell ∧ (0 ≤ now ∧ now ≤ 1073741824) ∧ since ≤ now
  · have hn := who_of l0 l1 more cap who on since fell now hw0 C
    obtain ⟨b, e1, e2⟩ := falls_same l0 l1 more cap who on since fell now hn
    obtain ⟨⟨m1, m2⟩, -, ⟨m3, m4⟩, -, -, -, ⟨m5, m6⟩, -, -⟩ := C.1
    have hC := C
    have hu : wrap64 (now - since) = now - since := wrap_small (by omega) (by omega)
    have hu0 : wrap64 (l0 - (now - since)) = l0 - (now - since) := wrap_small (by omega) (by omega)
    have hu1 : wrap64 (l1 - (now - since)) = l1 - (now - since) := wrap_small (by omega) (by omega)
    have bd : ∀ x : Int, x ≤ 1073741824 → 0 ≤ mx x 0 ∧ mx x 0 ≤ 1073741824 := fun x hx => by unfold mx; split <;> omega
    rw [decide_eq_true C, Option.bind_some, Option.bind_some, if_pos rfl, if_pos rfl, e1, e2]
    simp only [Option.bind_some]
    cases on with
    | false => exact ⟨l0, l1, b, 0, by rw [if_neg (by decide)], by rw [if_neg (by decide)], fun _ => ⟨⟨m1, m2⟩, m3, m4⟩⟩
    | true =>
      rw [if_pos rfl, hu, hu0, hu1]
      rcases hn with rfl | rfl
      · exact ⟨_, l1, b, 0, by rw [if_pos rfl], by rw [if_pos rfl], fun _ => ⟨bd _ (by omega), m3, m4⟩⟩
      · exact ⟨l0, _, b, 0, by rw [if_neg (by decide), if_pos rfl], by rw [if_neg (by decide), if_pos rfl], fun _ => ⟨⟨m1, m2⟩, bd _ (by omega)⟩⟩
  · rw [decide_eq_false C]
    exact ⟨0, 0, false, 2, rfl, rfl, fun h => absurd h (by decide)⟩
theorem stop_same (j : Nat) (now : Int) (h0 : 0 ≤ fell) (h1 : fell ≤ 255) (hw0 : 0 ≤ who) :
    ∃ v, clock_Stop.f (j + 3) l0 l1 more cap who on since fell now = some v ∧ joustref28_Stop.f (j + 3) l0 l1 more cap who on since fell now = some v := by
  unfold clock_Stop.f joustref28_Stop.f
  rw [cmay_f j l0 l1 more cap who on since fell now h0 h1, rasked_f l0 l1 more cap who on since fell j now h0 h1]
  by_cases C : MayP l0 l1 more cap who on since fell ∧ (0 ≤ now ∧ now ≤ 1073741824) ∧ since ≤ now
  · have hn := who_of l0 l1 more cap who on since fell now hw0 C
    obtain ⟨b, e1, e2⟩ := falls_same l0 l1 more cap who on since fell now hn
    have hmm : ∀ x : Int, mx (mn x 1073741824) 1 = mn (mx x 1) 1073741824 := fun x => by unfold mx mn; repeat' split <;> omega
    rw [decide_eq_true C, Option.bind_some, Option.bind_some, if_pos rfl, if_pos rfl, e1, e2]
    simp only [Option.bind_some, hmm]
    cases on with
    | false => exact ⟨_, by rw [if_neg (by decide)], by rw [if_neg (by decide)]⟩
    | true =>
      rw [if_pos rfl]
      rcases hn with rfl | rfl
      · cases b
        · exact ⟨_, by rw [if_pos rfl, if_neg (by decide)], by rw [if_pos rfl, if_neg (by decide)]⟩
        · exact ⟨_, by rw [if_pos rfl, if_pos rfl], by rw [if_pos rfl, if_pos rfl]⟩
      · cases b
        · exact ⟨_, by rw [if_neg (by decide), if_pos rfl, if_neg (by decide)], by rw [if_neg (by decide), if_pos rfl, if_neg (by decide)]⟩
        · exact ⟨_, by rw [if_neg (by decide), if_pos rfl, if_pos rfl], by rw [if_neg (by decide), if_pos rfl, if_pos rfl]⟩
  · rw [decide_eq_false C]
    exact ⟨_, rfl, rfl⟩
theorem when_same (j : Nat) (h0 : 0 ≤ fell) (h1 : fell ≤ 255) (hw0 : 0 ≤ who) :
    ∃ v, clock_When.f (j + 4) l0 l1 more cap who on since fell = some v ∧ joustref28_When.f (j + 4) l0 l1 more cap who on since fell = some v := by
  by_cases C : MayP l0 l1 more cap who on since fell ∧ on = true
  · obtain ⟨C, rfl⟩ := C
    unfold clock_When.f joustref28_When.f
    rw [show j + 4 = (j + 1) + 3 by omega, may_f (j + 1) l0 l1 more cap who true since fell h0 h1, rmay_f l0 l1 more cap who true since fell (j + 1) h0 h1, decide_eq_true C, Option.bind_some, Option.bind_some, if_pos rfl, if_pos rfl, clock_When.j0, joustref28_When.j0, if_neg (by decide), if_neg (by decide)]
    have hn : who = 0 ∨ who = 1 := by have := C.2.2.2.2.2.2.2.1; omega
    obtain ⟨⟨m1, m2⟩, -, ⟨m3, m4⟩, -, -, ⟨m7, m8⟩, ⟨m5, m6⟩, -, -⟩ := C
    rw [room_f l0 l1 more cap who true since fell hn, Option.bind_some]
    have key : ∀ r : Int, 0 ≤ r → r ≤ 1073741824 → (clock_within.f (wrap64 ((wrap64 (since + r)) + 1))).bind (fun t140 => (if t140 = true then (some (wrap64 ((wrap64 (since + r)) + 1), true)) else (some (0, false)))) = if (wrap64 ((wrap64 (since + r)) + 1)) > 1073741824 then (some (0, false)) else (some (wrap64 ((wrap64 (since + r)) + 1), true)) := by
      intro r r0 r1
      have w1 : wrap64 (since + r) = since + r := wrap_small (by omega) (by omega)
      have w2 : wrap64 (since + r + 1) = since + r + 1 := wrap_small (by omega) (by omega)
      rw [w1, w2, within_f]
      by_cases h : since + r + 1 > 1073741824
      · rw [if_pos h, decide_eq_false (by omega)]; rfl
      · rw [if_neg h, decide_eq_true (by omega)]; rfl
    have mb : ∀ a b : Int, 0 ≤ a → a ≤ 1073741824 → 0 < b → 0 ≤ mn a b ∧ mn a b ≤ 1073741824 := fun a b _ _ _ => by unfold mn; split <;> omega
    have rm : ∀ l : Int, roomI l cap = if cap > 0 then mn l cap else l := fun l => by
      unfold roomI
      split
      · rw [mn_is]
      · rfl
    have fin : ∀ r : Int, ∃ v, (if (wrap64 ((wrap64 (since + r)) + 1)) > 1073741824 then (some ((0 : Int), false)) else (some (wrap64 ((wrap64 (since + r)) + 1), true))) = some v := fun r => by split <;> exact ⟨_, rfl⟩
    rcases hn with rfl | rfl
    · rw [show ofWho l0 l1 0 = l0 from rfl, rm, if_pos rfl]
      by_cases hc : cap > 0
      · rw [if_pos hc, if_pos hc]
        obtain ⟨b1, b2⟩ := mb l0 cap m1 m2 hc
        rw [key _ b1 b2]
        obtain ⟨v, hv⟩ := fin (mn l0 cap)
        exact ⟨v, hv, hv⟩
      · rw [if_neg hc, if_neg hc, key _ m1 m2]
        obtain ⟨v, hv⟩ := fin l0
        exact ⟨v, hv, hv⟩
    · rw [show ofWho l0 l1 1 = l1 from rfl, rm, if_neg (show ¬ (1 : Int) = 0 by decide), if_pos rfl]
      by_cases hc : cap > 0
      · rw [if_pos hc, if_pos hc]
        obtain ⟨b1, b2⟩ := mb l1 cap m3 m4 hc
        rw [key _ b1 b2]
        obtain ⟨v, hv⟩ := fin (mn l1 cap)
        exact ⟨v, hv, hv⟩
      · rw [if_neg hc, if_neg hc, key _ m3 m4]
        obtain ⟨v, hv⟩ := fin l1
        exact ⟨v, hv, hv⟩
  · refine ⟨_, when_off j l0 l1 more cap who on since fell h0 h1 C, ?_⟩
    unfold joustref28_When.f
    rw [show j + 4 = (j + 1) + 3 by omega, rmay_f l0 l1 more cap who on since fell (j + 1) h0 h1, Option.bind_some]
    by_cases D : MayP l0 l1 more cap who on since fell
    · have ho : on = false := by
        cases h : on
        · rfl
        · exact absurd ⟨D, h⟩ C
      rw [decide_eq_true D, if_pos rfl, ho, joustref28_When.j0, if_pos (by decide)]
    · rw [decide_eq_false D, if_neg (by decide), joustref28_When.j0, if_pos rfl]
end
end Go.Proofs.YtcdcpnhlmgmnkaaDoor.Clk
end
section
/- The clock's text is the document's: the plain law. -/
namespace Go.Proofs.YtcdcpnhlmgmnkaaDoor.Clk
open Go Go.RowKit Go.Proofs.YtcdcpnhlmgmnkaaDoor.Base Go.Proofs.YtcdcpnhlmgmnkaaDoor.Pclk Go.Proofs.YtcdcpnhlmgmnkaaDoor.Pcrf Go.Proofs.YtcdcpnhlmgmnkaaDoor.Pcrt Go.Proofs.YtcdcpnhlmgmnkaaDoorW.PrintWords Go.Proofs.YtcdcpnhlmgmnkaaDoorW.PrintLast
/-- Ticks as a text. -/
def tickT (n : Int) : ByteArray := (decB (n / 60).toNat ++ (⟨#[58]⟩ : ByteArray)) ++ (decB (100 + n % 60).toNat).extract 1 (decB (100 + n % 60).toNat).size
theorem dec_pos (n : Nat) : 1 ≤ (decB n).size := by
  show 1 ≤ (Lib.decDigits n).toArray.size
  rw [List.size_toArray, Lib.decDigits_length]
  by_cases h : n < 10
  · rw [Lib.nDigits_small h]; exact Nat.le_refl _
  · rw [Lib.nDigits_big h]; omega
theorem parts (n : Int) (h0 : 0 ≤ n) (h1 : n ≤ 1073741824) : wrap64 (Int.tdiv n 60) = n / 60 ∧ wrap64 (100 + Int.tmod n 60) = 100 + n % 60 ∧ 0 ≤ n / 60 ∧ n / 60 ≤ 1073741824 ∧ 0 ≤ n % 60 ∧ n % 60 < 60 := by
  have e1 : Int.tdiv n 60 = n / 60 := Int.tdiv_eq_ediv_of_nonneg h0
  have e2 : Int.tmod n 60 = n % 60 := Int.tmod_eq_emod_of_nonneg h0
  rw [e1, e2]
  refine ⟨wrap_small (by omega) (by omega), wrap_small (by omega) (by omega), by omega, by omega, by omega, by omega⟩
theorem dec_size (n : Nat) (h : n ≤ 1073741924) : (decB n).size ≤ 64 := dec_len n (by omega)
theorem itoa_dec (m : Int) (h0 : 0 ≤ m) (h1 : m ≤ 1073741924) : strconv_Itoa.f m = some (decB m.toNat) := by
  unfold strconv_Itoa.f
  rw [if_pos ⟨by omega, by omega⟩]
  obtain ⟨u, rfl⟩ := Int.eq_ofNat_of_zero_le h0
  rw [Lib.itoa_nonneg]
  rfl
theorem digits_dec (m : Int) (h0 : 0 ≤ m) (h1 : m ≤ 1073741924) : joustref28_digits.f m = some (decB m.toNat) := by
  unfold joustref28_digits.f
  rw [if_pos ⟨h0, by omega⟩]
theorem sz1 (n : Int) (h0 : 0 ≤ n) (h1 : n ≤ 1073741824) : (decB (n / 60).toNat).size ≤ 64 ∧ (decB (100 + n % 60).toNat).size ≤ 64 ∧ 1 ≤ (decB (100 + n % 60).toNat).size :=
  ⟨dec_size _ (by omega), dec_size _ (by omega), dec_pos _⟩
theorem tick_size (n : Int) (h0 : 0 ≤ n) (h1 : n ≤ 1073741824) : (tickT n).size ≤ 129 := by
  obtain ⟨a, b, c⟩ := sz1 n h0 h1
  unfold tickT
  rw [ByteArray.size_append, ByteArray.size_append, ByteArray.size_extract]
  have : (⟨#[58]⟩ : ByteArray).size = 1 := rfl
  omega
theorem told_f (n : Int) (h0 : 0 ≤ n) (h1 : n ≤ 1073741824) : clock_told.f n = some (tickT n) := by
  obtain ⟨p1, p2, q1, q2, q3, q4⟩ := parts n h0 h1
  obtain ⟨a, b, c⟩ := sz1 n h0 h1
  unfold clock_told.f
  rw [p1, p2, itoa_dec _ q1 (by omega), itoa_dec _ (by omega) (by omega), Option.bind_some, Option.bind_some, if_pos (by omega), if_pos (by omega), if_pos]
  · rfl
  · have := tick_size n h0 h1
    unfold tickT at this
    rw [ByteArray.size_append] at this
    omega
/-- What stands behind a player's ticks. -/
def addM (s : ByteArray) (on falls : Bool) (who fell i : Int) : ByteArray :=
  if fell = i then s ++ (⟨#[32, 102, 101, 108, 108]⟩ : ByteArray) else if (on && who == i) = true then (if falls = true then s ++ (⟨#[32, 102, 101, 108, 108]⟩ : ByteArray) else s ++ (⟨#[42]⟩ : ByteArray)) else s
theorem add_size (s : ByteArray) (on falls : Bool) (who fell i : Int) : (addM s on falls who fell i).size ≤ s.size + 5 := by
  unfold addM
  repeat' split
  all_goals first | (rw [ByteArray.size_append]; have : (⟨#[32, 102, 101, 108, 108]⟩ : ByteArray).size = 5 := rfl; have : (⟨#[42]⟩ : ByteArray).size = 1 := rfl; omega) | omega
section
variable (l0 l1 more cap who : Int) (on : Bool) (since fell : Int)
theorem c_first (k : Nat) (fa : Bool) (a b : Int) (a0 : 0 ≤ a) (a1 : a ≤ 1073741824) (hw : 0 ≤ who ∧ who ≤ 255) (hf : 0 ≤ fell ∧ fell ≤ 255) :
    clock_Text.l0 (k + 4) (⟨#[]⟩ : ByteArray) fa 0 a b l0 l1 more cap who on since fell = clock_Text.l0 k (addM ((⟨#[]⟩ : ByteArray) ++ tickT a) on fa who fell 0) fa 1 a b l0 l1 more cap who on since fell := by
  have e1 : wrap64 ((0 : Int) + 1) = 1 := wrap_small (by decide) (by decide)
  have w1 : wrap64 who = who := wrap_small (by omega) (by omega)
  have x0 : wrap64 0 = 0 := wrap_small (by decide) (by decide)
  have x1 : wrap64 1 = 1 := wrap_small (by decide) (by decide)
  have x2 : wrap64 2 = 2 := wrap_small (by decide) (by decide)
  have w2 : wrap64 fell = fell := wrap_small (by omega) (by omega)
  have ht := tick_size a a0 a1
  have hz : (⟨#[]⟩ : ByteArray).size = 0 := rfl
  have hs : ((⟨#[]⟩ : ByteArray) ++ tickT a).size ≤ 129 := by rw [ByteArray.size_append]; omega
  have s1 : ((⟨#[]⟩ : ByteArray) ++ tickT a).size ≤ 9223372036854775802 := by omega
  have s2 : ((⟨#[]⟩ : ByteArray) ++ tickT a).size ≤ 9223372036854775806 := by omega
  rw [clock_Text.l0, if_pos (by decide), if_pos rfl, if_neg (by decide), clock_Text.j1, told_f a a0 a1, Option.bind_some, if_pos (by omega)]
  generalize (⟨#[]⟩ : ByteArray) ++ tickT a = S at s1 s2 ⊢
  unfold addM
  by_cases c1 : fell = 0 <;> cases on <;> by_cases c2 : who = 0 <;> cases fa <;> simp [clock_Text.j2, clock_Text.j3, w1, w2, e1, c1, c2, s1, s2, x0, x1, x2]
theorem c_second (k : Nat) (fa : Bool) (s : ByteArray) (hS : s.size ≤ 1000) (a b : Int) (a0 : 0 ≤ b) (a1 : b ≤ 1073741824) (hw : 0 ≤ who ∧ who ≤ 255) (hf : 0 ≤ fell ∧ fell ≤ 255) :
    clock_Text.l0 (k + 5) s fa 1 a b l0 l1 more cap who on since fell = some (addM ((s ++ (⟨#[32]⟩ : ByteArray)) ++ tickT b) on fa who fell 1) := by
  have e1 : wrap64 ((1 : Int) + 1) = 2 := wrap_small (by decide) (by decide)
  have w1 : wrap64 who = who := wrap_small (by omega) (by omega)
  have x0 : wrap64 0 = 0 := wrap_small (by decide) (by decide)
  have x1 : wrap64 1 = 1 := wrap_small (by decide) (by decide)
  have x2 : wrap64 2 = 2 := wrap_small (by decide) (by decide)
  have w2 : wrap64 fell = fell := wrap_small (by omega) (by omega)
  have ht := tick_size b a0 a1
  have hz : (⟨#[32]⟩ : ByteArray).size = 1 := rfl
  have hs0 : (s ++ (⟨#[32]⟩ : ByteArray)).size ≤ 1001 := by rw [ByteArray.size_append]; omega
  have hs : ((s ++ (⟨#[32]⟩ : ByteArray)) ++ tickT b).size ≤ 1130 := by rw [ByteArray.size_append]; omega
  have s1 : ((s ++ (⟨#[32]⟩ : ByteArray)) ++ tickT b).size ≤ 9223372036854775802 := by omega
  have s2 : ((s ++ (⟨#[32]⟩ : ByteArray)) ++ tickT b).size ≤ 9223372036854775806 := by omega
  rw [clock_Text.l0, if_pos (by decide), if_neg (by decide), if_pos rfl, if_pos (by decide), if_pos (by omega), clock_Text.j4, told_f b a0 a1, Option.bind_some, if_pos (by omega)]
  generalize (s ++ (⟨#[32]⟩ : ByteArray)) ++ tickT b = S at s1 s2 ⊢
  unfold addM
  by_cases c1 : fell = 1 <;> cases on <;> by_cases c2 : who = 1 <;> cases fa <;> simp [clock_Text.j5, clock_Text.j6, clock_Text.l0, w1, w2, e1, c1, c2, s1, s2, x0, x1, x2]
theorem r_first (k : Nat) (fa : Bool) (a b : Int) (a0 : 0 ≤ a) (a1 : a ≤ 1073741824) (hw : 0 ≤ who ∧ who ≤ 255) (hf : 0 ≤ fell ∧ fell ≤ 255) :
    joustref28_Text.l0 (k + 4) fa (⟨#[]⟩ : ByteArray) 0 l0 l1 more cap who on since fell a b = joustref28_Text.l0 k fa (addM ((⟨#[]⟩ : ByteArray) ++ tickT a) on fa who fell 0) 1 l0 l1 more cap who on since fell a b := by
  have e1 : wrap64 ((0 : Int) + 1) = 1 := wrap_small (by decide) (by decide)
  have w1 : wrap64 who = who := wrap_small (by omega) (by omega)
  have x0 : wrap64 0 = 0 := wrap_small (by decide) (by decide)
  have x1 : wrap64 1 = 1 := wrap_small (by decide) (by decide)
  have x2 : wrap64 2 = 2 := wrap_small (by decide) (by decide)
  have w2 : wrap64 fell = fell := wrap_small (by omega) (by omega)
  have ht := tick_size a a0 a1
  have hz : (⟨#[]⟩ : ByteArray).size = 0 := rfl
  have hs : ((⟨#[]⟩ : ByteArray) ++ tickT a).size ≤ 129 := by rw [ByteArray.size_append]; omega
  have s1 : ((⟨#[]⟩ : ByteArray) ++ tickT a).size ≤ 9223372036854775802 := by omega
  have s2 : ((⟨#[]⟩ : ByteArray) ++ tickT a).size ≤ 9223372036854775806 := by omega
  obtain ⟨p1, p2, q1, q2, q3, q4⟩ := parts a a0 a1
  obtain ⟨z1, z2, z3⟩ := sz1 a a0 a1
  have z4 : (decB (a / 60).toNat ++ (⟨#[58]⟩ : ByteArray)).size + ((decB (100 + a % 60).toNat).extract 1 (decB (100 + a % 60).toNat).size).size ≤ 9223372036854775807 := by
    have := ht
    unfold tickT at this
    rw [ByteArray.size_append] at this
    omega
  rw [joustref28_Text.l0, if_pos (by decide), if_neg (by decide), joustref28_Text.j1, if_pos rfl, p1, p2, digits_dec _ q1 (by omega), digits_dec _ (by omega) (by omega), Option.bind_some, Option.bind_some, if_pos (by omega), if_pos (by omega), if_pos z4]
  rw [show (decB (a / 60).toNat ++ (⟨#[58]⟩ : ByteArray)) ++ (decB (100 + a % 60).toNat).extract 1 (decB (100 + a % 60).toNat).size = tickT a from rfl, if_pos (by omega)]
  generalize (⟨#[]⟩ : ByteArray) ++ tickT a = S at s1 s2 ⊢
  unfold addM
  by_cases c1 : fell = 0 <;> cases on <;> by_cases c2 : who = 0 <;> cases fa <;> simp [joustref28_Text.j2, joustref28_Text.j3, w1, w2, e1, c1, c2, s1, s2, x0, x1, x2]
theorem r_second (k : Nat) (fa : Bool) (s : ByteArray) (hS : s.size ≤ 1000) (a b : Int) (a0 : 0 ≤ b) (a1 : b ≤ 1073741824) (hw : 0 ≤ who ∧ who ≤ 255) (hf : 0 ≤ fell ∧ fell ≤ 255) :
    joustref28_Text.l0 (k + 5) fa s 1 l0 l1 more cap who on since fell a b = some (addM ((s ++ (⟨#[32]⟩ : ByteArray)) ++ tickT b) on fa who fell 1) := by
  have e1 : wrap64 ((1 : Int) + 1) = 2 := wrap_small (by decide) (by decide)
  have w1 : wrap64 who = who := wrap_small (by omega) (by omega)
  have x0 : wrap64 0 = 0 := wrap_small (by decide) (by decide)
  have x1 : wrap64 1 = 1 := wrap_small (by decide) (by decide)
  have x2 : wrap64 2 = 2 := wrap_small (by decide) (by decide)
  have w2 : wrap64 fell = fell := wrap_small (by omega) (by omega)
  have ht := tick_size b a0 a1
  have hz : (⟨#[32]⟩ : ByteArray).size = 1 := rfl
  have hs0 : (s ++ (⟨#[32]⟩ : ByteArray)).size ≤ 1001 := by rw [ByteArray.size_append]; omega
  have hs : ((s ++ (⟨#[32]⟩ : ByteArray)) ++ tickT b).size ≤ 1130 := by rw [ByteArray.size_append]; omega
  have s1 : ((s ++ (⟨#[32]⟩ : ByteArray)) ++ tickT b).size ≤ 9223372036854775802 := by omega
  have s2 : ((s ++ (⟨#[32]⟩ : ByteArray)) ++ tickT b).size ≤ 9223372036854775806 := by omega
  obtain ⟨p1, p2, q1, q2, q3, q4⟩ := parts b a0 a1
  obtain ⟨z1, z2, z3⟩ := sz1 b a0 a1
  have z4 : (decB (b / 60).toNat ++ (⟨#[58]⟩ : ByteArray)).size + ((decB (100 + b % 60).toNat).extract 1 (decB (100 + b % 60).toNat).size).size ≤ 9223372036854775807 := by
    have := ht
    unfold tickT at this
    rw [ByteArray.size_append] at this
    omega
  rw [joustref28_Text.l0, if_pos (by decide), if_pos rfl, if_pos (by omega), joustref28_Text.j1, if_neg (by decide), if_pos rfl, p1, p2, digits_dec _ q1 (by omega), digits_dec _ (by omega) (by omega), Option.bind_some, Option.bind_some, if_pos (by omega), if_pos (by omega), if_pos z4]
  rw [show (decB (b / 60).toNat ++ (⟨#[58]⟩ : ByteArray)) ++ (decB (100 + b % 60).toNat).extract 1 (decB (100 + b % 60).toNat).size = tickT b from rfl, if_pos (by omega)]
  generalize (s ++ (⟨#[32]⟩ : ByteArray)) ++ tickT b = S at s1 s2 ⊢
  unfold addM
  by_cases c1 : fell = 1 <;> cases on <;> by_cases c2 : who = 1 <;> cases fa <;> simp [joustref28_Text.j4, joustref28_Text.j5, joustref28_Text.l0, w1, w2, e1, c1, c2, s1, s2, x0, x1, x2]
theorem text_same (j : Nat) (now : Int) (hw : 0 ≤ who ∧ who ≤ 255) (hf : 0 ≤ fell ∧ fell ≤ 255) :
    ∃ s, clock_Text.f (j + 9) l0 l1 more cap who on since fell now = some s ∧ joustref28_Text.f (j + 9) l0 l1 more cap who on since fell now = some s := by
  obtain ⟨a, b, f, e, h1, h2, h3⟩ := look_same l0 l1 more cap who on since fell (j + 6) now hf.1 hf.2 hw.1
  unfold clock_Text.f joustref28_Text.f
  rw [show j + 9 = j + 6 + 3 by omega, h1, h2]
  simp only [Option.bind_some]
  by_cases he : e = 0
  · obtain ⟨⟨a0, a1⟩, b0, b1⟩ := h3 he
    rw [if_pos he, if_pos he]
    refine ⟨_, (c_first l0 l1 more cap who on since fell (j + 5) f a b a0 a1 hw hf).trans (c_second l0 l1 more cap who on since fell j f _ ?_ a b b0 b1 hw hf), (r_first l0 l1 more cap who on since fell (j + 5) f a b a0 a1 hw hf).trans (r_second l0 l1 more cap who on since fell j f _ ?_ a b b0 b1 hw hf)⟩
    all_goals
      have h4 := add_size ((⟨#[]⟩ : ByteArray) ++ tickT a) on f who fell 0
      have h5 := tick_size a a0 a1
      have h6 : ((⟨#[]⟩ : ByteArray) ++ tickT a).size = (⟨#[]⟩ : ByteArray).size + (tickT a).size := ByteArray.size_append
      have h7 : (⟨#[]⟩ : ByteArray).size = 0 := rfl
      omega
  · rw [if_neg he, if_neg he]
    exact ⟨_, rfl, rfl⟩
end
end Go.Proofs.YtcdcpnhlmgmnkaaDoor.Clk
end
section
/- What the statements of the clock take as given: the clock's own functions, the reference's, the examples. -/
namespace Go.Proofs.YtcdcpnhlmgmnkaaDoor.Base
open Go.RowKit
def clk_lives.f : Option Bool := some true
theorem clk_lives.calls (r : Bool) (w : World) (hg_ : GoodW w) (h : clk_lives.f = some r) : Calls Tryd.prog 27 #[] w fun e w' => e = .returned (.bool r) ∧ Below w.heap.size w w' := by
  obtain rfl := Option.some.inj h
  exact Clk.lives_calls w hg_
end Go.Proofs.YtcdcpnhlmgmnkaaDoor.Base
end
