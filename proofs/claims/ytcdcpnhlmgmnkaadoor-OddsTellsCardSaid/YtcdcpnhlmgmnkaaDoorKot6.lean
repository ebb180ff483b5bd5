/- Joined by a program of this session (pack.py) out of: OddA BaseOl Ev Div Odm Odv Odn -/
import Derived.Laws.Bits64
import Derived.Laws.BitsLemmas
import Derived.Lib.BitFns
import Derived.Test.YtcdcpnhlmgmnkaaDoorKot1
import Derived.Test.YtcdcpnhlmgmnkaaDoorKot5
section
/- The chances that the document tells of: lives answers true. -/
namespace Go.Proofs.YtcdcpnhlmgmnkaaDoor.Odd
open Go.RowKit Go.Proofs.YtcdcpnhlmgmnkaaDoor.Base Go.Proofs.YtcdcpnhlmgmnkaaDoor.Podd Go.Proofs.YtcdcpnhlmgmnkaaDoorW.PrintWords Go.Proofs.YtcdcpnhlmgmnkaaDoorW.PrintLast
attribute [local go_sem high] eqA47
theorem e1 : odds_Exactly.f 200 40 3 5 0 = some (1309, 1976, 0) := by kernel_rfl
theorem e2 : odds_Least.f 200 40 3 5 1 = some (667, 1976, 0) := by kernel_rfl
theorem e3 : odds_Both.f 200 4 1 1 2 = some (1, 6, 0) := by kernel_rfl
theorem e4 : odds_Choose.f 200 60 30 = some (118264581564861424, 0) := by kernel_rfl
theorem e5 : odds_Make.f 200 6 4 = some (0, 0, 2) := by kernel_rfl
theorem e6 : joustlaw32_of.f 1309 1976 0 1309 1976 = some true := by kernel_rfl
theorem e7 : joustlaw32_of.f 667 1976 0 667 1976 = some true := by kernel_rfl
theorem e8 : odds_Text.f 200 667 1976 = some ⟨#[51, 51, 46, 55, 53, 37]⟩ := by kernel_rfl
theorem e9 : joustlaw32_of.f 1 6 0 1 6 = some true := by kernel_rfl
set_option maxHeartbeats 1000000 in
set_option maxRecDepth 100000 in
theorem lives_calls (w : World) (hg_ : GoodW w) : Calls Tryd.prog 34 #[] w fun e w' => e = .returned (.bool true) ∧ Below w.heap.size w w' := by
  have HG0 := Aside0.mk hg_
  clear hg_
  have HB0 := Aside0.mk (Below.refl w.heap.size w)
  go_enter Tryd.func34, Tryd.ntmps34
  go_wp2_with fail
  refine (odds_Exactly.calls 200 40 3 5 0 _ _ _ _ e1).mono ?_
  rintro e w1 ⟨rfl, hb⟩
  have HB1 := Aside0.mk (bstep (HB0.out) hb)
  have HG1 := Aside0.mk ((HG0.out).below hb)
  clear hb
  go_wp2_with fail
  refine (odds_Least.calls 200 40 3 5 1 _ _ _ _ e2).mono ?_
  rintro e w2 ⟨rfl, hb⟩
  have HB2 := Aside0.mk (bstep (balloc (HB1.out) _) hb)
  have HG2 := Aside0.mk (((HG1.out).alloc _).below hb)
  have Ba2 := Aside0.mk (((Blk.new _ 47 #[.int .u64 1309, .int .u64 1976]).to (show _ = #[.int .u64 1309, .int .u64 1976] from rfl)).after hb)
  have NG_g_a := Aside0.mk (show w.heap.size ≤ w1.heap.size from Nat.le_trans (HB1.out.size) (by omega))
  clear hb
  obtain ⟨g_a, hg_a⟩ : ∃ g_, w1.heap.size = g_ := ⟨_, rfl⟩
  rw [hg_a] at Ba2 NG_g_a ⊢
  clear hg_a
  have c_a := Ba2.out.cell
  have f_a := Ba2.out.frozen
  have q_a := Ba2.out.lt
  go_wp2_with fail
  refine (odds_Both.calls 200 4 1 1 2 _ _ _ _ e3).mono ?_
  rintro e w3 ⟨rfl, hb⟩
  have HB3 := Aside0.mk (bstep (balloc (HB2.out) _) hb)
  have HG3 := Aside0.mk (((HG2.out).alloc _).below hb)
  have Ba3 := Aside0.mk ((((Ba2.out).alloc _).to (show _ = #[.int .u64 1309, .int .u64 1976] from rfl)).after hb)
  have Bb3 := Aside0.mk (((Blk.new _ 47 #[.int .u64 667, .int .u64 1976]).to (show _ = #[.int .u64 667, .int .u64 1976] from rfl)).after hb)
  have NG_g_b := Aside0.mk (show w.heap.size ≤ w2.heap.size from Nat.le_trans (HB2.out.size) (by omega))
  have NE_g_a_g_b := Aside0.mk (show g_a ≠ w2.heap.size from Nat.ne_of_lt (Nat.lt_of_lt_of_le Ba2.out.lt (by omega)))
  have NE_g_b_g_a := Aside0.mk (show w2.heap.size ≠ g_a from Nat.ne_of_gt (Nat.lt_of_lt_of_le Ba2.out.lt (by omega)))
  clear hb Ba2 c_a f_a q_a
  obtain ⟨g_b, hg_b⟩ : ∃ g_, w2.heap.size = g_ := ⟨_, rfl⟩
  rw [hg_b] at Bb3 NG_g_b NE_g_a_g_b NE_g_b_g_a ⊢
  clear hg_b
  have c_a := Ba3.out.cell
  have f_a := Ba3.out.frozen
  have q_a := Ba3.out.lt
  have c_b := Bb3.out.cell
  have f_b := Bb3.out.frozen
  have q_b := Bb3.out.lt
  go_wp2_with fail
  refine (odds_Choose.calls 200 60 30 _ _ _ e4).mono ?_
  rintro e w4 ⟨rfl, hb⟩
  have HB4 := Aside0.mk (bstep (balloc (HB3.out) _) hb)
  have HG4 := Aside0.mk (((HG3.out).alloc _).below hb)
  have Ba4 := Aside0.mk ((((Ba3.out).alloc _).to (show _ = #[.int .u64 1309, .int .u64 1976] from rfl)).after hb)
  have Bb4 := Aside0.mk ((((Bb3.out).alloc _).to (show _ = #[.int .u64 667, .int .u64 1976] from rfl)).after hb)
  have Bc4 := Aside0.mk (((Blk.new _ 47 #[.int .u64 1, .int .u64 6]).to (show _ = #[.int .u64 1, .int .u64 6] from rfl)).after hb)
  have NG_g_c := Aside0.mk (show w.heap.size ≤ w3.heap.size from Nat.le_trans (HB3.out.size) (by omega))
  have NE_g_a_g_c := Aside0.mk (show g_a ≠ w3.heap.size from Nat.ne_of_lt (Nat.lt_of_lt_of_le Ba3.out.lt (by omega)))
  have NE_g_c_g_a := Aside0.mk (show w3.heap.size ≠ g_a from Nat.ne_of_gt (Nat.lt_of_lt_of_le Ba3.out.lt (by omega)))
  have NE_g_b_g_c := Aside0.mk (show g_b ≠ w3.heap.size from Nat.ne_of_lt (Nat.lt_of_lt_of_le Bb3.out.lt (by omega)))
  have NE_g_c_g_b := Aside0.mk (show w3.heap.size ≠ g_b from Nat.ne_of_gt (Nat.lt_of_lt_of_le Bb3.out.lt (by omega)))
  clear hb Ba3 Bb3 c_a f_a q_a c_b f_b q_b
  obtain ⟨g_c, hg_c⟩ : ∃ g_, w3.heap.size = g_ := ⟨_, rfl⟩
  rw [hg_c] at Bc4 NG_g_c NE_g_a_g_c NE_g_b_g_c NE_g_c_g_a NE_g_c_g_b ⊢
  clear hg_c
  have c_a := Ba4.out.cell
  have f_a := Ba4.out.frozen
  have q_a := Ba4.out.lt
  have c_b := Bb4.out.cell
  have f_b := Bb4.out.frozen
  have q_b := Bb4.out.lt
  have c_c := Bc4.out.cell
  have f_c := Bc4.out.frozen
  have q_c := Bc4.out.lt
  go_wp2_with fail
  refine (odds_Make.calls 200 6 4 _ _ _ _ e5).mono ?_
  rintro e w5 ⟨rfl, hb⟩
  have HB5 := Aside0.mk (bstep (HB4.out) hb)
  have HG5 := Aside0.mk ((HG4.out).below hb)
  have Ba5 := Aside0.mk (((Ba4.out).to (show _ = #[.int .u64 1309, .int .u64 1976] from rfl)).after hb)
  have Bb5 := Aside0.mk (((Bb4.out).to (show _ = #[.int .u64 667, .int .u64 1976] from rfl)).after hb)
  have Bc5 := Aside0.mk (((Bc4.out).to (show _ = #[.int .u64 1, .int .u64 6] from rfl)).after hb)
  clear hb Ba4 Bb4 Bc4 c_a f_a q_a c_b f_b q_b c_c f_c q_c
  have c_a := Ba5.out.cell
  have f_a := Ba5.out.frozen
  have q_a := Ba5.out.lt
  have c_b := Bb5.out.cell
  have f_b := Bb5.out.frozen
  have q_b := Bb5.out.lt
  have c_c := Bc5.out.cell
  have f_c := Bc5.out.frozen
  have q_c := Bc5.out.lt
  go_wp2_with fail
  refine (joustlaw32_of.calls 1309 1976 0 1309 1976 _ _ e6).mono ?_
  rintro e w6 ⟨rfl, hb⟩
  have HB6 := Aside0.mk (bstep (balloc (HB5.out) _) hb)
  have HG6 := Aside0.mk (((HG5.out).alloc _).below hb)
  have Ba6 := Aside0.mk ((((Ba5.out).alloc _).to (show _ = #[.int .u64 1309, .int .u64 1976] from rfl)).after hb)
  have Bb6 := Aside0.mk ((((Bb5.out).alloc _).to (show _ = #[.int .u64 667, .int .u64 1976] from rfl)).after hb)
  have Bc6 := Aside0.mk ((((Bc5.out).alloc _).to (show _ = #[.int .u64 1, .int .u64 6] from rfl)).after hb)
  have Bd6 := Aside0.mk (((Blk.new _ 47 #[.int .u64 0, .int .u64 0]).to (show _ = #[.int .u64 0, .int .u64 0] from rfl)).after hb)
  have NG_g_d := Aside0.mk (show w.heap.size ≤ w5.heap.size from Nat.le_trans (HB5.out.size) (by omega))
  have NE_g_a_g_d := Aside0.mk (show g_a ≠ w5.heap.size from Nat.ne_of_lt (Nat.lt_of_lt_of_le Ba5.out.lt (by omega)))
  have NE_g_d_g_a := Aside0.mk (show w5.heap.size ≠ g_a from Nat.ne_of_gt (Nat.lt_of_lt_of_le Ba5.out.lt (by omega)))
  have NE_g_b_g_d := Aside0.mk (show g_b ≠ w5.heap.size from Nat.ne_of_lt (Nat.lt_of_lt_of_le Bb5.out.lt (by omega)))
  have NE_g_d_g_b := Aside0.mk (show w5.heap.size ≠ g_b from Nat.ne_of_gt (Nat.lt_of_lt_of_le Bb5.out.lt (by omega)))
  have NE_g_c_g_d := Aside0.mk (show g_c ≠ w5.heap.size from Nat.ne_of_lt (Nat.lt_of_lt_of_le Bc5.out.lt (by omega)))
  have NE_g_d_g_c := Aside0.mk (show w5.heap.size ≠ g_c from Nat.ne_of_gt (Nat.lt_of_lt_of_le Bc5.out.lt (by omega)))
  clear hb Ba5 Bb5 Bc5 c_a f_a q_a c_b f_b q_b c_c f_c q_c
  obtain ⟨g_d, hg_d⟩ : ∃ g_, w5.heap.size = g_ := ⟨_, rfl⟩
  rw [hg_d] at Bd6 NG_g_d NE_g_a_g_d NE_g_b_g_d NE_g_c_g_d NE_g_d_g_a NE_g_d_g_b NE_g_d_g_c ⊢
  clear hg_d
  have c_a := Ba6.out.cell
  have f_a := Ba6.out.frozen
  have q_a := Ba6.out.lt
  have c_b := Bb6.out.cell
  have f_b := Bb6.out.frozen
  have q_b := Bb6.out.lt
  have c_c := Bc6.out.cell
  have f_c := Bc6.out.frozen
  have q_c := Bc6.out.lt
  have c_d := Bd6.out.cell
  have f_d := Bd6.out.frozen
  have q_d := Bd6.out.lt
  go_wp2_with fail
  refine (joustlaw32_of.calls 667 1976 0 667 1976 _ _ e7).mono ?_
  rintro e w7 ⟨rfl, hb⟩
  have HB7 := Aside0.mk (bstep (HB6.out) hb)
  have HG7 := Aside0.mk ((HG6.out).below hb)
  have Ba7 := Aside0.mk (((Ba6.out).to (show _ = #[.int .u64 1309, .int .u64 1976] from rfl)).after hb)
  have Bb7 := Aside0.mk (((Bb6.out).to (show _ = #[.int .u64 667, .int .u64 1976] from rfl)).after hb)
  have Bc7 := Aside0.mk (((Bc6.out).to (show _ = #[.int .u64 1, .int .u64 6] from rfl)).after hb)
  have Bd7 := Aside0.mk (((Bd6.out).to (show _ = #[.int .u64 0, .int .u64 0] from rfl)).after hb)
  clear hb Ba6 Bb6 Bc6 Bd6 c_a f_a q_a c_b f_b q_b c_c f_c q_c c_d f_d q_d
  have c_a := Ba7.out.cell
  have f_a := Ba7.out.frozen
  have q_a := Ba7.out.lt
  have c_b := Bb7.out.cell
  have f_b := Bb7.out.frozen
  have q_b := Bb7.out.lt
  have c_c := Bc7.out.cell
  have f_c := Bc7.out.frozen
  have q_c := Bc7.out.lt
  have c_d := Bd7.out.cell
  have f_d := Bd7.out.frozen
  have q_d := Bd7.out.lt
  go_wp2_with fail
  refine (odds_Text.calls 200 667 1976 _ _ (HG7.out) e8).mono ?_
  rintro e w8 ⟨rfl, hb⟩
  have HB8 := Aside0.mk (bstep (HB7.out) hb)
  have HG8 := Aside0.mk ((HG7.out).below hb)
  have Ba8 := Aside0.mk (((Ba7.out).to (show _ = #[.int .u64 1309, .int .u64 1976] from rfl)).after hb)
  have Bb8 := Aside0.mk (((Bb7.out).to (show _ = #[.int .u64 667, .int .u64 1976] from rfl)).after hb)
  have Bc8 := Aside0.mk (((Bc7.out).to (show _ = #[.int .u64 1, .int .u64 6] from rfl)).after hb)
  have Bd8 := Aside0.mk (((Bd7.out).to (show _ = #[.int .u64 0, .int .u64 0] from rfl)).after hb)
  clear hb Ba7 Bb7 Bc7 Bd7 c_a f_a q_a c_b f_b q_b c_c f_c q_c c_d f_d q_d
  have c_a := Ba8.out.cell
  have f_a := Ba8.out.frozen
  have q_a := Ba8.out.lt
  have c_b := Bb8.out.cell
  have f_b := Bb8.out.frozen
  have q_b := Bb8.out.lt
  have c_c := Bc8.out.cell
  have f_c := Bc8.out.frozen
  have q_c := Bc8.out.lt
  have c_d := Bd8.out.cell
  have f_d := Bd8.out.frozen
  have q_d := Bd8.out.lt
  go_wp2_with fail
  refine (joustlaw32_of.calls 1 6 0 1 6 _ _ e9).mono ?_
  rintro e w9 ⟨rfl, hb⟩
  have HB9 := Aside0.mk (bstep (HB8.out) hb)
  have Ba9 := Aside0.mk (((Ba8.out).to (show _ = #[.int .u64 1309, .int .u64 1976] from rfl)).after hb)
  have Bb9 := Aside0.mk (((Bb8.out).to (show _ = #[.int .u64 667, .int .u64 1976] from rfl)).after hb)
  have Bc9 := Aside0.mk (((Bc8.out).to (show _ = #[.int .u64 1, .int .u64 6] from rfl)).after hb)
  have Bd9 := Aside0.mk (((Bd8.out).to (show _ = #[.int .u64 0, .int .u64 0] from rfl)).after hb)
  clear hb Ba8 Bb8 Bc8 Bd8 c_a f_a q_a c_b f_b q_b c_c f_c q_c c_d f_d q_d
  have c_a := Ba9.out.cell
  have f_a := Ba9.out.frozen
  have q_a := Ba9.out.lt
  have c_b := Bb9.out.cell
  have f_b := Bb9.out.frozen
  have q_b := Bb9.out.lt
  have c_c := Bc9.out.cell
  have f_c := Bc9.out.frozen
  have q_c := Bc9.out.lt
  have c_d := Bd9.out.cell
  have f_d := Bd9.out.frozen
  have q_d := Bd9.out.lt
  go_wp2_with fail
  go_ret
  exact ⟨rfl, HB9.out⟩
end Go.Proofs.YtcdcpnhlmgmnkaaDoor.Odd
end
section
/- What the statements' prints take as given: the chances' calls (printed) and lives (walked). -/
namespace Go.Proofs.YtcdcpnhlmgmnkaaDoor.Podd
open Go.RowKit Go.Proofs.YtcdcpnhlmgmnkaaDoor.Base
def lives.f : Option Bool := some true
theorem lives.calls (r : Bool) (w : World) (hg_ : GoodW w) (h : lives.f = some r) :
    Calls Tryd.prog 34 #[] w fun e w' => e = .returned (.bool r) ∧ Below w.heap.size w w' := by
  cases h; exact Odd.lives_calls w hg_
end Go.Proofs.YtcdcpnhlmgmnkaaDoor.Podd
end
section
/- Plain words for printed functions: 'with rounds enough it tells v' (Tells), and what follows of parts. -/
namespace Go.Proofs.YtcdcpnhlmgmnkaaDoor.Base
open Go.RowKit Go.Proofs.YtcdcpnhlmgmnkaaDoorW.PrintWords

/-- from some number of rounds on it tells v -/
def Tells {α : Type} (f : Nat → Option α) (v : α) : Prop := ∃ k0, ∀ k, k0 ≤ k → f k = some v
theorem Tells.const {α : Type} (v : α) : Tells (fun _ => some v) v := ⟨0, fun _ _ => rfl⟩
theorem Tells.of {α : Type} {f : Nat → Option α} {v : α} (h : ∀ k, f k = some v) : Tells f v := ⟨0, fun k _ => h k⟩
theorem Tells.exists {α : Type} {f : Nat → Option α} {v : α} (h : Tells f v) : ∃ k, f k = some v := by obtain ⟨k, h⟩ := h; exact ⟨k, h k (Nat.le_refl _)⟩
theorem Tells.bind {α β : Type} {f : Nat → Option α} {g : α → Nat → Option β} {a : α} {v : β} (h : Tells f a) (h' : Tells (g a) v) : Tells (fun k => (f k).bind fun x => g x k) v := by
  obtain ⟨k1, h1⟩ := h
  obtain ⟨k2, h2⟩ := h'
  exact ⟨k1 + k2, fun k hk => by simp only [h1 k (by omega), Option.bind_some, h2 k (by omega)]⟩
theorem Tells.succ {α : Type} {f g : Nat → Option α} {v : α} (hg : ∀ k, f (k + 1) = g k) (h : Tells g v) : Tells f v := by
  obtain ⟨k0, h⟩ := h
  refine ⟨k0 + 1, fun k hk => ?_⟩
  obtain ⟨j, rfl⟩ : ∃ j, k = j + 1 := ⟨k - 1, by omega⟩
  rw [hg, h j (by omega)]
theorem Tells.congr {α : Type} {f g : Nat → Option α} {v : α} (hg : ∀ k, f k = g k) (h : Tells g v) : Tells f v := by
  obtain ⟨k0, h⟩ := h
  exact ⟨k0, fun k hk => by rw [hg, h k hk]⟩
theorem Tells.mono {α : Type} {f : Nat → Option α} {v : α} (hm : ∀ k, LeO (f k) (f (k + 1))) {k0 : Nat} (h : f k0 = some v) : Tells f v := by
  refine ⟨k0, fun k hk => ?_⟩
  obtain ⟨d, rfl⟩ : ∃ d, k = k0 + d := ⟨k - k0, by omega⟩
  clear hk
  induction d with
  | zero => exact h
  | succ d ih => exact hm _ _ ih
theorem Tells.pos {α : Type} {p : Prop} [Decidable p] {f g : Nat → Option α} {v : α} (hp : p) (h : Tells f v) : Tells (fun k => if p then f k else g k) v := Tells.congr (fun _ => if_pos hp) h
theorem Tells.neg {α : Type} {p : Prop} [Decidable p] {f g : Nat → Option α} {v : α} (hp : ¬ p) (h : Tells g v) : Tells (fun k => if p then f k else g k) v := Tells.congr (fun _ => if_neg hp) h
theorem wrap_i {a : Int} (h0 : -9223372036854775808 ≤ a) (h1 : a ≤ 9223372036854775807) : wrap64 a = a := by unfold wrap64; omega
theorem wrap_u {a : Int} (h0 : 0 ≤ a) (h1 : a < 18446744073709551616) : IntKind.u64.wrap a = a := by rw [IntKind.wrap_u64]; omega
end Go.Proofs.YtcdcpnhlmgmnkaaDoor.Base
end
section
/- Div64, the library's division of two words by one: quotient and rest (digit by digit, after Knuth). -/
namespace Go.Proofs.YtcdcpnhlmgmnkaaDoor.Odd
open Go.RowKit Go.Proofs.YtcdcpnhlmgmnkaaDoor.Base Go.Proofs.YtcdcpnhlmgmnkaaDoor.Podd Go.Proofs.YtcdcpnhlmgmnkaaDoorW.PrintWords Go.Proofs.YtcdcpnhlmgmnkaaDoorW.PrintLast Go.Proofs.YtcdcpnhlmgmnkaaDoorW.PrintMore
set_option linter.unusedSimpArgs false
set_option linter.unusedVariables false

/-! ### the plain numbers -/
section
variable {Y y1 y0 u d q rh : Nat}
theorem kn_iff (hY : Y = y1 * 4294967296 + y0) (hA : q * y1 + rh = u) : q * Y ≤ u * 4294967296 + d ↔ q * y0 ≤ rh * 4294967296 + d := by
  have e : q * Y = q * y1 * 4294967296 + q * y0 := by rw [hY, Nat.mul_add, Nat.mul_assoc]
  rw [e]
  omega
theorem kn_le (hp : 0 < Y) : q ≤ (u * 4294967296 + d) / Y ↔ q * Y ≤ u * 4294967296 + d := Nat.le_div_iff_mul_le hp
theorem kn_lt (hu : u < Y) (hd : d < 4294967296) : (u * 4294967296 + d) / Y < 4294967296 := by
  rw [Nat.div_lt_iff_lt_mul (by omega), Nat.mul_comm 4294967296 Y]
  omega
/-- the digit is too great: one less, and where the rest has no room it is the digit -/
theorem kn_break (hY : Y = y1 * 4294967296 + y0) (h0 : y0 < 4294967296) (hu : u < Y) (hd : d < 4294967296) (hA : q * y1 + rh = u) (hQ : (u * 4294967296 + d) / Y ≤ q) (hr : 4294967296 ≤ rh) : q = (u * 4294967296 + d) / Y := by
  have hq : q < 4294967296 := by
    have h : q * y1 < 4294967296 * y1 := by rw [Nat.mul_comm 4294967296 y1]; omega
    exact Nat.lt_of_mul_lt_mul_right h
  have hb : q * y0 ≤ 4294967295 * 4294967295 := Nat.mul_le_mul (by omega) (by omega)
  refine Nat.le_antisymm ?_ hQ
  rw [kn_le (by omega), kn_iff hY hA]
  omega
end

theorem wr_cond {y0 : Nat} (h0 : y0 < 4294967296) {q rh d : Nat} (hq : q < 4294967296) (hr : rh < 4294967296) (hd : d < 4294967296) :
    (IntKind.u64.wrap ((q : Int) * (y0 : Int)) > IntKind.u64.wrap (IntKind.u64.wrap (4294967296 * (rh : Int)) + (d : Int))) ↔ rh * 4294967296 + d < q * y0 := by
  have hb : q * y0 ≤ 4294967295 * 4294967295 := Nat.mul_le_mul (by omega) (by omega)
  have e : (q : Int) * (y0 : Int) = ((q * y0 : Nat) : Int) := (Int.natCast_mul _ _).symm
  rw [e, wrap_u (a := ((q * y0 : Nat) : Int)) (by omega) (by omega), wrap_u (a := 4294967296 * (rh : Int)) (by omega) (by omega), wrap_u (by omega) (by omega)]
  omega
/-! ### the loops -/
section
variable {Y y1 y0 s : Nat} (hY : Y = y1 * 4294967296 + y0) (h1 : 2147483648 ≤ y1) (h1' : y1 < 4294967296) (h0 : y0 < 4294967296)
include hY h1 h1' h0
theorem div_l0 {u d d0 : Nat} (hu : u < Y) (hd : d < 4294967296) {v : Int × Int}
    (hv : Tells (fun k => bits_Div64.j2 k (Y : Int) (s : Int) (y1 : Int) (y0 : Int) (u : Int) (d : Int) (d0 : Int) (((u * 4294967296 + d) / Y : Nat) : Int)) v) :
    ∀ (q rh : Nat), q * y1 + rh = u → (u * 4294967296 + d) / Y ≤ q → rh < 4294967296 → q < 18446744073709551616 →
      Tells (fun k => bits_Div64.l0 k (Y : Int) (s : Int) (y1 : Int) (y0 : Int) (u : Int) (d : Int) (d0 : Int) (q : Int) (rh : Int)) v := by
  intro q
  induction q with
  | zero =>
    intro rh hA hQ hr hq64
    have hz : (u * 4294967296 + d) / Y = 0 := Nat.le_zero.1 hQ
    rw [hz] at hv
    refine Tells.succ (fun k => by simp only [bits_Div64.l0]; rw [if_neg (by omega)]) ?_
    rw [decide_eq_false (fun h => by have := (wr_cond h0 (q := 0) (by omega) hr hd).1 h; omega)]
    exact Tells.succ (fun k => by simp only [bits_Div64.j1]; rw [if_neg (by decide)]) hv
  | succ q ih =>
    intro rh hA hQ hr hq64
    have e1 : IntKind.u64.wrap (((q + 1 : Nat) : Int) - 1) = (q : Int) := by rw [wrap_u (by omega) (by omega)]; omega
    have e2 : IntKind.u64.wrap ((rh : Int) + (y1 : Int)) = ((rh + y1 : Nat) : Int) := by rw [wrap_u (by omega) (by omega)]; omega
    have hA' : q * y1 + (rh + y1) = u := by rw [← hA, Nat.add_mul]; omega
    have hbig : (u * 4294967296 + d) / Y < q + 1 → Tells (fun k => bits_Div64.j1 k (Y : Int) (s : Int) (y1 : Int) (y0 : Int) (u : Int) (d : Int) (d0 : Int) ((q + 1 : Nat) : Int) (rh : Int) true) v := by
      intro hlt
      refine Tells.succ (fun k => by simp only [bits_Div64.j1, if_true, e1, e2]; rfl) ?_
      by_cases hb : 4294967296 ≤ rh + y1
      · refine Tells.pos (by omega) ?_
        have := kn_break (q := q) hY h0 hu hd hA' (by omega) hb
        rw [← this] at hv
        exact hv
      · exact Tells.neg (by omega) (ih (rh + y1) hA' (by omega) (by omega) (by omega))
    by_cases hq : 4294967296 ≤ q + 1
    · have hlt := kn_lt hu hd
      exact Tells.succ (fun k => by simp only [bits_Div64.l0]; rw [if_pos (by omega)]) (hbig (by omega))
    · refine Tells.succ (fun k => by simp only [bits_Div64.l0]; rw [if_neg (by omega)]) ?_
      by_cases hc : rh * 4294967296 + d < (q + 1) * y0
      · rw [decide_eq_true ((wr_cond h0 (by omega) hr hd).2 hc)]
        refine hbig ?_
        rcases Nat.lt_or_ge ((u * 4294967296 + d) / Y) (q + 1) with h | h
        · exact h
        · have := (kn_iff (d := d) hY hA).1 ((kn_le (by omega)).1 h)
          omega
      · rw [decide_eq_false (fun h => hc ((wr_cond h0 (by omega) hr hd).1 h))]
        have hle := (kn_le (u := u) (d := d) (show 0 < Y by omega)).2 ((kn_iff (d := d) hY hA).2 (by omega))
        have heq : q + 1 = (u * 4294967296 + d) / Y := by omega
        rw [← heq] at hv
        exact Tells.succ (fun k => by simp only [bits_Div64.j1]; rw [if_neg (by decide)]) hv
/-- the second digit: what it tells -/
def divR (Y s q1 U : Nat) : Int × Int := (((q1 * 4294967296 + U / Y : Nat) : Int), ((U % Y / 2 ^ s : Nat) : Int))
theorem div_end (k : Nat) {q1 r d0 : Nat} (hs : s ≤ 63) (hq1 : q1 < 4294967296) (hr : r < Y) (hd : d0 < 4294967296) :
    some (IntKind.u64.wrap (IntKind.u64.wrap ((q1 : Int) * 4294967296) + (((r * 4294967296 + d0) / Y : Nat) : Int)), shr .u64 (IntKind.u64.wrap (IntKind.u64.wrap (IntKind.u64.wrap ((r : Int) * 4294967296) + (d0 : Int)) - IntKind.u64.wrap ((((r * 4294967296 + d0) / Y : Nat) : Int) * (Y : Int)))) (s : Int)) =
      some (divR Y s q1 (r * 4294967296 + d0)) := by
  have hQ := kn_lt hr hd
  have hm := Nat.div_add_mod (r * 4294967296 + d0) Y
  have hl := Nat.mod_lt (r * 4294967296 + d0) (show 0 < Y by omega)
  have hY64 : Y < 18446744073709551616 := by omega
  unfold divR shr
  generalize hq : (r * 4294967296 + d0) / Y = Q at *
  generalize hrr : (r * 4294967296 + d0) % Y = R at *
  have e1 : (Q : Int) * (Y : Int) = ((Q * Y : Nat) : Int) := (Int.natCast_mul _ _).symm
  have e2 : Y * Q = Q * Y := Nat.mul_comm _ _
  rw [e2] at hm
  generalize hP : Q * Y = P at *
  have e3 : IntKind.u64.wrap (IntKind.u64.wrap (IntKind.u64.wrap ((r : Int) * 4294967296) + (d0 : Int)) - IntKind.u64.wrap ((Q : Int) * (Y : Int))) = (R : Int) := by
    rw [e1]
    simp only [IntKind.wrap_u64]
    omega
  have e4 : IntKind.u64.wrap (IntKind.u64.wrap ((q1 : Int) * 4294967296) + (Q : Int)) = ((q1 * 4294967296 + Q : Nat) : Int) := by
    rw [wrap_u (a := (q1 : Int) * 4294967296) (by omega) (by omega), wrap_u (by omega) (by omega)]
    omega
  have e5 : min (s : Int).toNat IntKind.u64.bits = s := by
    rw [Int.toNat_natCast]
    exact Nat.min_eq_left (Nat.le_trans hs (by decide))
  rw [e3, e4, e5]
  simp
theorem div_l1 (hs : s ≤ 63) {q1 r d0 : Nat} (hq1 : q1 < 4294967296) (hr : r < Y) (hd : d0 < 4294967296) :
    ∀ (q rh : Nat), q * y1 + rh = r → (r * 4294967296 + d0) / Y ≤ q → rh < 4294967296 → q < 18446744073709551616 →
      Tells (fun k => bits_Div64.l1 k (Y : Int) (s : Int) (y1 : Int) (y0 : Int) (d0 : Int) (q1 : Int) (rh : Int) (r : Int) (q : Int)) (divR Y s q1 (r * 4294967296 + d0)) := by
  intro q
  induction q with
  | zero =>
    intro rh hA hQ hrh hq64
    have hz : (r * 4294967296 + d0) / Y = 0 := Nat.le_zero.1 hQ
    refine Tells.succ (fun k => by simp only [bits_Div64.l1]; rw [if_neg (by omega)]) ?_
    rw [decide_eq_false (fun h => by have := (wr_cond h0 (q := 0) (by omega) hrh hd).1 h; omega)]
    refine Tells.succ (g := fun _ => some (divR Y s q1 (r * 4294967296 + d0))) (fun k => ?_) (Tells.const _)
    simp only [bits_Div64.j4]
    rw [if_neg (by decide), if_pos (by omega), ← div_end hY h1 h1' h0 k hs hq1 hr hd, hz]
  | succ q ih =>
    intro rh hA hQ hrh hq64
    have e1 : IntKind.u64.wrap (((q + 1 : Nat) : Int) - 1) = (q : Int) := by rw [wrap_u (by omega) (by omega)]; omega
    have e2 : IntKind.u64.wrap ((rh : Int) + (y1 : Int)) = ((rh + y1 : Nat) : Int) := by rw [wrap_u (by omega) (by omega)]; omega
    have hA' : q * y1 + (rh + y1) = r := by rw [← hA, Nat.add_mul]; omega
    have hbig : (r * 4294967296 + d0) / Y < q + 1 → Tells (fun k => bits_Div64.j4 k (Y : Int) (s : Int) (y1 : Int) (y0 : Int) (d0 : Int) (q1 : Int) (rh : Int) (r : Int) ((q + 1 : Nat) : Int) true) (divR Y s q1 (r * 4294967296 + d0)) := by
      intro hlt
      by_cases hb : 4294967296 ≤ rh + y1
      · have := kn_break (q := q) hY h0 hr hd hA' (by omega) hb
        refine Tells.succ (g := fun _ => some (divR Y s q1 (r * 4294967296 + d0))) (fun k => ?_) (Tells.const _)
        simp only [bits_Div64.j4, if_true, e1, e2]
        rw [if_pos (by omega), if_pos (by omega), ← div_end hY h1 h1' h0 k hs hq1 hr hd, ← this]
      · refine Tells.succ (fun k => ?_) (ih (rh + y1) hA' (by omega) (by omega) (by omega))
        simp only [bits_Div64.j4, if_true, e1, e2]
        rw [if_neg (by omega)]
    by_cases hq : 4294967296 ≤ q + 1
    · have hlt := kn_lt hr hd
      exact Tells.succ (fun k => by simp only [bits_Div64.l1]; rw [if_pos (by omega)]) (hbig (by omega))
    · refine Tells.succ (fun k => by simp only [bits_Div64.l1]; rw [if_neg (by omega)]) ?_
      by_cases hc : rh * 4294967296 + d0 < (q + 1) * y0
      · rw [decide_eq_true ((wr_cond h0 (by omega) hrh hd).2 hc)]
        refine hbig ?_
        rcases Nat.lt_or_ge ((r * 4294967296 + d0) / Y) (q + 1) with h | h
        · exact h
        · have := (kn_iff (d := d0) hY hA).1 ((kn_le (by omega)).1 h)
          omega
      · rw [decide_eq_false (fun h => hc ((wr_cond h0 (by omega) hrh hd).1 h))]
        have hle := (kn_le (u := r) (d := d0) (show 0 < Y by omega)).2 ((kn_iff (d := d0) hY hA).2 (by omega))
        have heq : q + 1 = (r * 4294967296 + d0) / Y := by omega
        refine Tells.succ (g := fun _ => some (divR Y s q1 (r * 4294967296 + d0))) (fun k => ?_) (Tells.const _)
        simp only [bits_Div64.j4]
        rw [if_neg (by decide), if_pos (by omega), ← div_end hY h1 h1' h0 k hs hq1 hr hd, ← heq]
theorem div_j2 (hs : s ≤ 63) {u d d0 : Nat} (hu : u < Y) (hd : d < 4294967296) (hd0 : d0 < 4294967296) :
    Tells (fun k => bits_Div64.j2 k (Y : Int) (s : Int) (y1 : Int) (y0 : Int) (u : Int) (d : Int) (d0 : Int) (((u * 4294967296 + d) / Y : Nat) : Int))
      (divR Y s ((u * 4294967296 + d) / Y) ((u * 4294967296 + d) % Y * 4294967296 + d0)) := by
  have hQ := kn_lt hu hd
  have hm := Nat.div_add_mod (u * 4294967296 + d) Y
  have hl := Nat.mod_lt (u * 4294967296 + d) (show 0 < Y by omega)
  generalize hq : (u * 4294967296 + d) / Y = Q at *
  generalize hrr : (u * 4294967296 + d) % Y = R at *
  have e1 : (Q : Int) * (Y : Int) = ((Q * Y : Nat) : Int) := (Int.natCast_mul _ _).symm
  have e3 : IntKind.u64.wrap (IntKind.u64.wrap (IntKind.u64.wrap ((u : Int) * 4294967296) + (d : Int)) - IntKind.u64.wrap ((Q : Int) * (Y : Int))) = (R : Int) := by
    rw [e1]
    rw [Nat.mul_comm] at hm
    generalize hP : Q * Y = P at *
    simp only [IntKind.wrap_u64]
    omega
  have e4 : IntKind.u64.wrap (Int.tdiv (R : Int) (y1 : Int)) = ((R / y1 : Nat) : Int) := by
    rw [Int.tdiv_eq_ediv_of_nonneg (by omega), ← Int.natCast_ediv]
    have := Nat.div_le_self R y1
    exact wrap_u (Int.natCast_nonneg _) (by omega)
  have hdm := Nat.div_add_mod R y1
  have hml := Nat.mod_lt R (show 0 < y1 by omega)
  have e5 : IntKind.u64.wrap ((R : Int) - IntKind.u64.wrap (((R / y1 : Nat) : Int) * (y1 : Int))) = ((R % y1 : Nat) : Int) := by
    rw [show (((R / y1 : Nat) : Int) * (y1 : Int)) = ((R / y1 * y1 : Nat) : Int) from (Int.natCast_mul _ _).symm]
    rw [Nat.mul_comm] at hdm
    generalize R / y1 * y1 = P at *
    rw [wrap_u (a := (P : Int)) (by omega) (by omega), wrap_u (by omega) (by omega)]
    omega
  have hA : R / y1 * y1 + R % y1 = R := by rw [Nat.mul_comm]; exact hdm
  have hQ0 : (R * 4294967296 + d0) / Y ≤ R / y1 := by
    have h1 := (kn_le (u := R) (d := d0) (q := (R * 4294967296 + d0) / Y) (show 0 < Y by omega)).1 (Nat.le_refl _)
    rw [Nat.le_div_iff_mul_le (by omega)]
    have e : (R * 4294967296 + d0) / Y * Y = (R * 4294967296 + d0) / Y * y1 * 4294967296 + (R * 4294967296 + d0) / Y * y0 := by rw [hY, Nat.mul_add, Nat.mul_assoc]
    rw [e] at h1
    omega
  refine Tells.succ (fun k => by simp only [bits_Div64.j2, e3, e4, e5]; rw [if_neg (by omega)]) ?_
  have hdl := Nat.div_le_self R y1
  exact div_l1 hY h1 h1' h0 hs hQ (by omega) hd0 (R / y1) (R % y1) hA hQ0 (by omega) (by omega)
end

/-! ### the whole division -/
theorem bitLen_bd : ∀ x : Nat, x ≠ 0 → x < 2 ^ 64 → 1 ≤ Lib.bitLen x ∧ 2 ^ (Lib.bitLen x - 1) ≤ x ∧ x < 2 ^ Lib.bitLen x := by
  intro x
  induction x using Nat.strongRecOn with
  | _ x ih =>
    intro h0 h1
    rw [Lib.bitLen_half x h0 h1]
    by_cases hz : x / 2 = 0
    · rw [hz, show Lib.bitLen 0 = 0 from rfl]
      refine ⟨by omega, ?_, ?_⟩
      · simp; omega
      · simp; omega
    · obtain ⟨a, b, c⟩ := ih (x / 2) (by omega) hz (by omega)
      obtain ⟨e, he⟩ : ∃ e, Lib.bitLen (x / 2) = e + 1 := ⟨Lib.bitLen (x / 2) - 1, by omega⟩
      rw [he] at b c ⊢
      simp only [Nat.add_sub_cancel, Nat.add_sub_cancel_left] at b ⊢
      rw [show 1 + (e + 1) = (e + 1) + 1 by omega]
      simp only [Nat.pow_succ] at c ⊢
      omega
theorem wraps_u64 (n : Int) (h₀ : 0 ≤ n) (h₁ : n < 2 ^ 64) : IntKind.u64.wrap n = n := wrap_u h₀ h₁
theorem and32 (a : Nat) (h : a < 18446744073709551616) : Go.bits .and .u64 (a : Int) 4294967295 = ((a % 4294967296 : Nat) : Int) := by
  have := bits_mask .u64 64 (by decide) wraps_u64 32 (by decide) (a : Int) (by omega) (by simpa using (show (a : Int) < 18446744073709551616 by omega))
  simpa using this
theorem shr_n {a n : Nat} (h : n ≤ 64) : shr .u64 (a : Int) (n : Int) = ((a / 2 ^ n : Nat) : Int) := by
  unfold shr
  rw [Int.toNat_natCast, Nat.min_eq_left (Nat.le_trans h (by decide))]
  simp
theorem shl_n {a n : Nat} (h : n ≤ 64) : shl .u64 (a : Int) (n : Int) = ((a * 2 ^ n % 18446744073709551616 : Nat) : Int) := by
  unfold shl
  rw [Int.toNat_natCast, Nat.min_eq_left (Nat.le_trans h (by decide)), IntKind.wrap_u64]
  simp
theorem div_two (A Y d0 : Nat) (hY : 0 < Y) : (A * 4294967296 + d0) / Y = A / Y * 4294967296 + (A % Y * 4294967296 + d0) / Y ∧ (A * 4294967296 + d0) % Y = (A % Y * 4294967296 + d0) % Y := by
  have e : A * 4294967296 + d0 = Y * (A / Y * 4294967296) + (A % Y * 4294967296 + d0) := by
    have h := Nat.div_add_mod A Y
    rw [← Nat.mul_assoc]
    generalize Y * (A / Y) = P at *
    omega
  rw [e]
  exact ⟨by rw [Nat.mul_add_div hY], by rw [Nat.mul_add_mod]⟩
theorem div_whole (u w : Nat) : (u * 4294967296 + w / 4294967296) * 4294967296 + w % 4294967296 = u * 18446744073709551616 + w := by omega
theorem div64_ev (hi lo y : Nat) (h1 : hi < y) (h2 : lo < 18446744073709551616) (h3 : y < 18446744073709551616) :
    Tells (fun k => bits_Div64.f k (hi : Int) (lo : Int) (y : Int)) ((((hi * 18446744073709551616 + lo) / y : Nat) : Int), (((hi * 18446744073709551616 + lo) % y : Nat) : Int)) := by
  by_cases hz : hi = 0
  · subst hz
    refine Tells.of fun k => ?_
    unfold bits_Div64.f
    rw [if_neg (by omega), if_neg (by omega), if_pos (by simp), Int.tdiv_eq_ediv_of_nonneg (by omega), Int.tmod_eq_emod_of_nonneg (by omega), ← Int.natCast_ediv, ← Int.natCast_emod]
    have := Nat.div_le_self lo y
    rw [wrap_u (Int.natCast_nonneg _) (by omega)]
    simp
  · obtain ⟨b1, b2, b3⟩ := bitLen_bd y (by omega) h3
    have b4 : Lib.bitLen y ≤ 64 := Lib.bitLen_le y 64 (by omega) h3
    obtain ⟨s, hs⟩ : ∃ s, s = 64 - Lib.bitLen y := ⟨_, rfl⟩
    have hsL : s + Lib.bitLen y = 64 := by omega
    have hlz : bits_LeadingZeros64.f (y : Int) = some (s : Int) := by
      unfold bits_LeadingZeros64.f
      rw [if_pos (by omega), Int.toNat_natCast]
      congr 1
      omega
    have hs63 : s ≤ 63 := by omega
    have ws : IntKind.u64.wrap (s : Int) = (s : Int) := wrap_u (by omega) (by omega)
    have ws2 : IntKind.u64.wrap (64 - (s : Int)) = ((64 - s : Nat) : Int) := by rw [wrap_u (by omega) (by omega)]; omega
    -- the divisor, shifted
    have hYlt : y * 2 ^ s < 18446744073709551616 := by
      have h : y * 2 ^ s < 2 ^ Lib.bitLen y * 2 ^ s := Nat.mul_lt_mul_of_pos_right b3 (Nat.two_pow_pos s)
      rw [← Nat.pow_add, show Lib.bitLen y + s = 64 by omega] at h
      exact h
    have hYge : 9223372036854775808 ≤ y * 2 ^ s := by
      have h : 2 ^ (Lib.bitLen y - 1) * 2 ^ s ≤ y * 2 ^ s := Nat.mul_le_mul_right _ b2
      rw [← Nat.pow_add, show Lib.bitLen y - 1 + s = 63 by omega] at h
      exact h
    have hps : 0 < 2 ^ s := Nat.two_pow_pos s
    have hhi : hi * 2 ^ s < y * 2 ^ s := Nat.mul_lt_mul_of_pos_right h1 hps
    have hN : hi * 18446744073709551616 + lo < y * 18446744073709551616 := by omega
    have hp64 : 2 ^ (64 - s) * 2 ^ s = 18446744073709551616 := by rw [← Nat.pow_add, show 64 - s + s = 64 by omega]
    have hlo : lo * 2 ^ s / 18446744073709551616 = lo / 2 ^ (64 - s) := by rw [← hp64, Nat.mul_div_mul_right _ _ hps]
    have hlo2 : lo / 2 ^ (64 - s) < 2 ^ s := by rw [Nat.div_lt_iff_lt_mul (Nat.two_pow_pos _), Nat.mul_comm, hp64]; exact h2
    have e1 : shl .u64 (y : Int) (s : Int) = ((y * 2 ^ s : Nat) : Int) := by rw [shl_n (by omega), Nat.mod_eq_of_lt hYlt]
    have e2 : shl .u64 (hi : Int) (s : Int) = ((hi * 2 ^ s : Nat) : Int) := by rw [shl_n (by omega), Nat.mod_eq_of_lt (by omega)]
    have e3 : shl .u64 (lo : Int) (s : Int) = ((lo * 2 ^ s % 18446744073709551616 : Nat) : Int) := shl_n (by omega)
    have e4 : shr .u64 (lo : Int) ((64 - s : Nat) : Int) = ((lo / 2 ^ (64 - s) : Nat) : Int) := shr_n (by omega)
    have e5 : Go.bits .or .u64 ((hi * 2 ^ s : Nat) : Int) ((lo / 2 ^ (64 - s) : Nat) : Int) = ((hi * 2 ^ s + lo / 2 ^ (64 - s) : Nat) : Int) := by
      rw [bits_join .u64 64 (by decide) wraps_u64 s _ _ (Int.natCast_nonneg _) ?_ ?_ (Int.natCast_nonneg _) ?_ ?_]
      · exact (Int.natCast_add _ _).symm
      · simp
      · exact_mod_cast (show hi * 2 ^ s < 2 ^ 64 by omega)
      · exact_mod_cast hlo2
      · exact_mod_cast (show lo / 2 ^ (64 - s) < 2 ^ 64 from Nat.lt_of_le_of_lt (Nat.div_le_self _ _) h2)
    have hU : (hi * 2 ^ s + lo / 2 ^ (64 - s)) * 18446744073709551616 + lo * 2 ^ s % 18446744073709551616 = (hi * 18446744073709551616 + lo) * 2 ^ s := by
      have h := Nat.div_add_mod (lo * 2 ^ s) 18446744073709551616
      rw [hlo] at h
      rw [Nat.add_mul, Nat.add_mul, Nat.mul_right_comm]
      generalize hi * 18446744073709551616 * 2 ^ s = P at *
      omega
    have hw : lo * 2 ^ s % 18446744073709551616 < 18446744073709551616 := Nat.mod_lt _ (by omega)
    have hu : hi * 2 ^ s + lo / 2 ^ (64 - s) < y * 2 ^ s := by
      have h : (hi * 18446744073709551616 + lo) * 2 ^ s < y * 18446744073709551616 * 2 ^ s := Nat.mul_lt_mul_of_pos_right hN hps
      rw [Nat.mul_right_comm] at h
      omega
    generalize hYd : y * 2 ^ s = Y at *
    generalize hud : hi * 2 ^ s + lo / 2 ^ (64 - s) = u at *
    generalize hwd : lo * 2 ^ s % 18446744073709551616 = w at *
    have f1 : (Y : Int) / 4294967296 = ((Y / 4294967296 : Nat) : Int) := by rw [Int.natCast_ediv]; rfl
    have f2 : (w : Int) / 4294967296 = ((w / 4294967296 : Nat) : Int) := by rw [Int.natCast_ediv]; rfl
    have hYe : Y = Y / 4294967296 * 4294967296 + Y % 4294967296 := by omega
    have hy1 : 2147483648 ≤ Y / 4294967296 := by omega
    have hy1' : Y / 4294967296 < 4294967296 := by omega
    have hy0 : Y % 4294967296 < 4294967296 := by omega
    generalize hY1 : Y / 4294967296 = y1 at *
    generalize hY0 : Y % 4294967296 = y0 at *
    have g1 : IntKind.u64.wrap (Int.tdiv (u : Int) (y1 : Int)) = ((u / y1 : Nat) : Int) := by
      rw [Int.tdiv_eq_ediv_of_nonneg (by omega), ← Int.natCast_ediv]
      have := Nat.div_le_self u y1
      exact wrap_u (Int.natCast_nonneg _) (by omega)
    have hdm := Nat.div_add_mod u y1
    have hml := Nat.mod_lt u (show 0 < y1 by omega)
    have g2 : IntKind.u64.wrap ((u : Int) - IntKind.u64.wrap (((u / y1 : Nat) : Int) * (y1 : Int))) = ((u % y1 : Nat) : Int) := by
      rw [show (((u / y1 : Nat) : Int) * (y1 : Int)) = ((u / y1 * y1 : Nat) : Int) from (Int.natCast_mul _ _).symm]
      rw [Nat.mul_comm] at hdm
      generalize u / y1 * y1 = P at *
      rw [wrap_u (a := (P : Int)) (by omega) (by omega), wrap_u (by omega) (by omega)]
      omega
    have hA : u / y1 * y1 + u % y1 = u := by rw [Nat.mul_comm]; exact hdm
    have hd : w / 4294967296 < 4294967296 := by omega
    have hd0 : w % 4294967296 < 4294967296 := by omega
    have hQ0 : (u * 4294967296 + w / 4294967296) / Y ≤ u / y1 := by
      have k1 := (kn_le (u := u) (d := w / 4294967296) (q := (u * 4294967296 + w / 4294967296) / Y) (show 0 < Y by omega)).1 (Nat.le_refl _)
      rw [Nat.le_div_iff_mul_le (by omega)]
      have e : (u * 4294967296 + w / 4294967296) / Y * Y = (u * 4294967296 + w / 4294967296) / Y * y1 * 4294967296 + (u * 4294967296 + w / 4294967296) / Y * y0 := by
        generalize (u * 4294967296 + w / 4294967296) / Y = Q
        rw [hYe, Nat.mul_add, Nat.mul_assoc]
      rw [e] at k1
      omega
    have hdl := Nat.div_le_self u y1
    have hr := div_l0 (s := s) hYe hy1 hy1' hy0 hu hd (div_j2 hYe hy1 hy1' hy0 hs63 hu hd hd0) (u / y1) (u % y1) hA hQ0 (by omega) (by omega)
    have hfin : divR Y s ((u * 4294967296 + w / 4294967296) / Y) ((u * 4294967296 + w / 4294967296) % Y * 4294967296 + w % 4294967296) =
        ((((hi * 18446744073709551616 + lo) / y : Nat) : Int), (((hi * 18446744073709551616 + lo) % y : Nat) : Int)) := by
      obtain ⟨p1, p2⟩ := div_two (u * 4294967296 + w / 4294967296) Y (w % 4294967296) (by omega)
      have e : (u * 4294967296 + w / 4294967296) * 4294967296 + w % 4294967296 = (hi * 18446744073709551616 + lo) * 2 ^ s := by rw [div_whole, hU]
      rw [e] at p1 p2
      unfold divR
      rw [← p1, ← p2, ← hYd, Nat.mul_div_mul_right _ _ hps, Nat.mul_mod_mul_right, Nat.mul_div_cancel _ hps]
    rw [← hfin]
    refine Tells.congr (fun k => ?_) hr
    unfold bits_Div64.f
    rw [if_neg (by omega), if_neg (by omega), if_neg (by omega), hlz]
    simp only [Option.bind_some, ws, ws2, e1, e2, e3, e4, e5, f1, f2, g1, g2, and32 Y (by omega), and32 w (by omega), hY0]
    rw [if_pos (by omega), if_pos (by omega), if_neg (by omega)]
end Go.Proofs.YtcdcpnhlmgmnkaaDoor.Odd
end
section
/- How many sets there are: the plain number, and that the code tells it. -/
namespace Go.Proofs.YtcdcpnhlmgmnkaaDoor.Odd
open Go.RowKit Go.Proofs.YtcdcpnhlmgmnkaaDoor.Base Go.Proofs.YtcdcpnhlmgmnkaaDoor.Podd Go.Proofs.YtcdcpnhlmgmnkaaDoorW.PrintWords Go.Proofs.YtcdcpnhlmgmnkaaDoorW.PrintLast

/-- how many sets of k of n -/
def C : Nat → Nat → Nat
  | _, 0 => 1
  | 0, _ + 1 => 0
  | n + 1, k + 1 => C n k + C n (k + 1)
theorem C_zero (n : Nat) : C n 0 = 1 := by cases n <;> rfl
theorem C_gt : ∀ (n k : Nat), n < k → C n k = 0
  | 0, k + 1, _ => rfl
  | n + 1, k + 1, h => by simp [C, C_gt n k (by omega), C_gt n (k + 1) (by omega)]
theorem C_self : ∀ n : Nat, C n n = 1
  | 0 => rfl
  | n + 1 => by simp [C, C_self n, C_gt n (n + 1) (by omega)]
theorem C_le : ∀ (n k : Nat), C n k ≤ 2 ^ n
  | n, 0 => by rw [C_zero]; exact Nat.one_le_two_pow
  | 0, _ + 1 => by simp [C]
  | n + 1, k + 1 => by
    have h1 := C_le n k
    have h2 := C_le n (k + 1)
    simp only [C, Nat.pow_succ]
    omega
theorem C_le60 {n : Nat} (h : n ≤ 60) (k : Nat) : C n k ≤ 1152921504606846976 :=
  Nat.le_trans (C_le n k) (Nat.le_trans (Nat.pow_le_pow_right (by decide) h) (by decide))
set_option maxRecDepth 1000000 in
theorem sets_one : ((List.range 61).all fun n => odds_sets.f 40 (n : Int) 0 == some 1) = true := by kernel_rfl
set_option maxRecDepth 1000000 in
theorem sets_two : ((List.range 60).all fun n => (List.range (n + 1)).all fun j => odds_sets.f 40 ((n + 1 : Nat) : Int) ((j + 1 : Nat) : Int) ==
    (odds_sets.f 40 (n : Int) (j : Int)).bind fun a => (odds_sets.f 40 (n : Int) ((j + 1 : Nat) : Int)).bind fun b => some (a + b)) = true := by kernel_rfl
theorem sets_out (j : Nat) (n k : Int) (h : k < 0 ∨ n < k) : odds_sets.f (j + 1) n k = some 0 := by
  unfold odds_sets.f
  by_cases c : k < 0
  · rw [if_pos c]; rfl
  · rw [if_neg c, show decide (k > n) = true by simp; omega]; rfl
theorem sets_40 : ∀ (n : Nat), n ≤ 60 → ∀ j : Nat, odds_sets.f 40 (n : Int) (j : Int) = some ((C n j : Nat) : Int)
  | n, hn, 0 => by
    rw [C_zero]
    exact eq_of_beq (List.all_eq_true.1 sets_one n (List.mem_range.2 (by omega)))
  | 0, _, j + 1 => sets_out 39 _ _ (Or.inr (by omega))
  | n + 1, hn, j + 1 => by
    by_cases hj : j ≤ n
    · have h := List.all_eq_true.1 (List.all_eq_true.1 sets_two n (List.mem_range.2 (by omega))) j (List.mem_range.2 (by omega))
      rw [eq_of_beq h, sets_40 n (by omega) j, sets_40 n (by omega) (j + 1)]
      simp [C]
    · rw [C_gt _ _ (by omega)]
      exact sets_out 39 _ _ (Or.inr (by omega))
/-- of whole numbers -/
def Cz (n k : Int) : Int := if k < 0 then 0 else ((C n.toNat k.toNat : Nat) : Int)
theorem Cz_nat (n k : Nat) : Cz n k = ((C n k : Nat) : Int) := by unfold Cz; rw [if_neg (by omega)]; simp
theorem Cz_neg {n k : Int} (h : k < 0) : Cz n k = 0 := if_pos h
theorem odds_sets_ev {n : Int} (h0 : 0 ≤ n) (h1 : n ≤ 60) (k : Int) : Tells (fun f => odds_sets.f f n k) (Cz n k) := by
  obtain ⟨n, rfl⟩ := Int.eq_ofNat_of_zero_le h0
  by_cases c : k < 0
  · rw [Cz_neg c]
    exact Tells.succ (g := fun _ => some 0) (fun j => sets_out j _ _ (Or.inl c)) (Tells.const 0)
  · obtain ⟨k, rfl⟩ := Int.eq_ofNat_of_zero_le (show 0 ≤ k by omega)
    rw [Cz_nat]
    exact Tells.mono (fun j => odds_sets.mono _ _ j) (sets_40 n (by omega) k)

end Go.Proofs.YtcdcpnhlmgmnkaaDoor.Odd
end
section
/- Sums of numbers of sets: draws from two heaps, and from three with one of each of two. -/
namespace Go.Proofs.YtcdcpnhlmgmnkaaDoor.Odd

end Go.Proofs.YtcdcpnhlmgmnkaaDoor.Odd
end
section
/- What the chances' calls tell, in plain words: divisor, Make, Exactly, Least, of the code and of the document. -/
namespace Go.Proofs.YtcdcpnhlmgmnkaaDoor.Odd
open Go.RowKit Go.Proofs.YtcdcpnhlmgmnkaaDoor.Base Go.Proofs.YtcdcpnhlmgmnkaaDoor.Podd Go.Proofs.YtcdcpnhlmgmnkaaDoorW.PrintWords Go.Proofs.YtcdcpnhlmgmnkaaDoorW.PrintLast Go.Proofs.YtcdcpnhlmgmnkaaDoorW.PrintMore
set_option linter.unusedSimpArgs false
set_option linter.unusedVariables false

theorem tmod_nat (a b : Nat) : Int.tmod (a : Int) (b : Int) = ((a % b : Nat) : Int) := by
  rw [Int.tmod_eq_emod_of_nonneg (by omega)]; rfl
theorem tdiv_nat (a b : Nat) : Int.tdiv (a : Int) (b : Int) = ((a / b : Nat) : Int) := by
  rw [Int.tdiv_eq_ediv_of_nonneg (by omega)]; rfl
theorem gcd_step (a b : Nat) : Nat.gcd b (a % b) = Nat.gcd a b := by
  rw [Nat.gcd_comm a b, Nat.gcd_rec b a, Nat.gcd_comm]
theorem odds_divisor_ev : ∀ (b a : Nat), Tells (fun k => odds_divisor.f k (a : Int) (b : Int)) ((Nat.gcd a b : Nat) : Int) := by
  intro b
  induction b using Nat.strongRecOn with
  | _ b ih =>
    intro a
    by_cases hb : b = 0
    · subst hb
      refine Tells.succ (g := fun _ => some (a : Int)) (fun k => ?_) (by rw [Nat.gcd_zero_right]; exact Tells.const _)
      simp [odds_divisor.f, odds_divisor.l0]
    · have h := ih (a % b) (Nat.mod_lt _ (by omega)) b
      rw [gcd_step] at h
      refine Tells.succ (fun k => ?_) h
      simp only [odds_divisor.f, odds_divisor.l0, tmod_nat]
      rw [if_neg (by omega)]
/-- a chance of num of den -/
def makeV (num den : Int) : Int × Int × Int :=
  if den = 0 then (0, 0, 2) else if num > den then (0, 0, 2) else (((num.toNat / Nat.gcd num.toNat den.toNat : Nat) : Int), ((den.toNat / Nat.gcd num.toNat den.toNat : Nat) : Int), 0)
theorem make_aux {num den : Nat} (h : den ≠ 0) : ((Nat.gcd num den : Nat) : Int) ≠ 0 := by
  have : 0 < Nat.gcd num den := Nat.gcd_pos_of_pos_right _ (by omega)
  omega
theorem odds_Make_ev {num den : Int} (h0 : 0 ≤ num) (h1 : 0 ≤ den) (h2 : den < 18446744073709551616) : Tells (fun k => odds_Make.f k num den) (makeV num den) := by
  obtain ⟨num, rfl⟩ := Int.eq_ofNat_of_zero_le h0
  obtain ⟨den, rfl⟩ := Int.eq_ofNat_of_zero_le h1
  unfold makeV
  by_cases c : (den : Int) = 0
  · rw [if_pos c]; exact Tells.of fun k => by unfold odds_Make.f; rw [if_pos c]
  · rw [if_neg c]
    by_cases d : (num : Int) > (den : Int)
    · rw [if_pos d]; exact Tells.of fun k => by unfold odds_Make.f; rw [if_neg c, if_pos d]
    · rw [if_neg d]
      refine Tells.congr (fun k => by unfold odds_Make.f; rw [if_neg c, if_neg d]) (Tells.bind (odds_divisor_ev den num) (Tells.of fun k => ?_))
      have b1 : num / Nat.gcd num den ≤ num := Nat.div_le_self _ _
      have b2 : den / Nat.gcd num den ≤ den := Nat.div_le_self _ _
      rw [if_neg (make_aux (by omega)), tdiv_nat, tdiv_nat, wrap_u (Int.natCast_nonneg _) (Int.lt_of_le_of_lt (Int.ofNat_le.2 b1) (by omega)), wrap_u (Int.natCast_nonneg _) (Int.lt_of_le_of_lt (Int.ofNat_le.2 b2) h2)]
      simp
/-- may so many be of all -/
def Of (all n : Int) : Prop := (0 ≤ all ∧ all ≤ 60) ∧ 0 ≤ n ∧ n ≤ all
instance (all n : Int) : Decidable (Of all n) := by unfold Of; infer_instance
end Go.Proofs.YtcdcpnhlmgmnkaaDoor.Odd
end
