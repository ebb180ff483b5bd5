/- The chances that the document tells of: lives answers true. -/
import Derived.Test.YtcdcpnhlmgmnkaaDoorPoddx3
import Derived.Test.YtcdcpnhlmgmnkaaDoorPoddx4
import Derived.Test.YtcdcpnhlmgmnkaaDoorPoddx5
import Derived.Test.YtcdcpnhlmgmnkaaDoorWEqStruct
namespace Go.Proofs.YtcdcpnhlmgmnkaaDoor.Odd
open Go.RowKit Go.Proofs.YtcdcpnhlmgmnkaaDoor.Base Go.Proofs.YtcdcpnhlmgmnkaaDoor.Podd Go.Proofs.YtcdcpnhlmgmnkaaDoorW.PrintWords Go.Proofs.YtcdcpnhlmgmnkaaDoorW.PrintLast
attribute [local go_sem high] eqA47
theorem e1 : odds_Exactly.f 200 40 3 5 0 = some (1309, 1976, 0) := by kernel_rfl
theorem e2 : odds_Least.f 200 40 3 5 1 = some (667, 1976, 0) := by kernel_rfl
theorem e3 : odds_Both.f 200 4 1 1 2 = some (1, 6, 0) := by kernel_rfl
theorem e4 : odds_Choose.f 200 60 30 = some (118264581564861424, 0) := by kernel_rfl
theorem e5 : odds_Make.f 200 6 4 = some (0, 0, 2) := by kernel_rfl
theorem e6 : joustlaw32_of.f 1309 1976 0 1309 1976 = some true := by kernel_rfl
theorem e7 : joustlaw32_of.f 667 1976 0 667 1976 = some true := by kernel_rfl
theorem e8 : odds_Text.f 200 667 1976 = some ⟨#[51, 51, 46, 55, 53, 37]⟩ := by kernel_rfl
theorem e9 : joustlaw32_of.f 1 6 0 1 6 = some true := by kernel_rfl
set_option maxHeartbeats 1000000 in
set_option maxRecDepth 100000 in
theorem lives_calls (w : World) (hg_ : GoodW w) : Calls Tryd.prog 34 #[] w fun e w' => e = .returned (.bool true) ∧ Below w.heap.size w w' := by
  have HG0 := Aside0.mk hg_
  clear hg_
  have HB0 := Aside0.mk (Below.refl w.heap.size w)
  go_enter Tryd.func34, Tryd.ntmps34
  go_wp2_with fail
  refine (odds_Exactly.calls 200 40 3 5 0 _ _ _ _ e1).mono ?_
  rintro e w1 ⟨rfl, hb⟩
  have HB1 := Aside0.mk (bstep (HB0.out) hb)
  have HG1 := Aside0.mk ((HG0.out).below hb)
  clear hb
  go_wp2_with fail
  refine (odds_Least.calls 200 40 3 5 1 _ _ _ _ e2).mono ?_
  rintro e w2 ⟨rfl, hb⟩
  have HB2 := Aside0.mk (bstep (balloc (HB1.out) _) hb)
  have HG2 := Aside0.mk (((HG1.out).alloc _).below hb)
  have Ba2 := Aside0.mk (((Blk.new _ 47 #[.int .u64 1309, .int .u64 1976]).to (show _ = #[.int .u64 1309, .int .u64 1976] from rfl)).after hb)
  have NG_g_a := Aside0.mk (show w.heap.size ≤ w1.heap.size from Nat.le_trans (HB1.out.size) (by omega))
  clear hb
  obtain ⟨g_a, hg_a⟩ : ∃ g_, w1.heap.size = g_ := ⟨_, rfl⟩
  rw [hg_a] at Ba2 NG_g_a ⊢
  clear hg_a
  have c_a := Ba2.out.cell
  have f_a := Ba2.out.frozen
  have q_a := Ba2.out.lt
  go_wp2_with fail
  refine (odds_Both.calls 200 4 1 1 2 _ _ _ _ e3).mono ?_
  rintro e w3 ⟨rfl, hb⟩
  have HB3 := Aside0.mk (bstep (balloc (HB2.out) _) hb)
  have HG3 := Aside0.mk (((HG2.out).alloc _).below hb)
  have Ba3 := Aside0.mk ((((Ba2.out).alloc _).to (show _ = #[.int .u64 1309, .int .u64 1976] from rfl)).after hb)
  have Bb3 := Aside0.mk (((Blk.new _ 47 #[.int .u64 667, .int .u64 1976]).to (show _ = #[.int .u64 667, .int .u64 1976] from rfl)).after hb)
  have NG_g_b := Aside0.mk (show w.heap.size ≤ w2.heap.size from Nat.le_trans (HB2.out.size) (by omega))
  have NE_g_a_g_b := Aside0.mk (show g_a ≠ w2.heap.size from Nat.ne_of_lt (Nat.lt_of_lt_of_le Ba2.out.lt (by omega)))
  have NE_g_b_g_a := Aside0.mk (show w2.heap.size ≠ g_a from Nat.ne_of_gt (Nat.lt_of_lt_of_le Ba2.out.lt (by omega)))
  clear hb Ba2 c_a f_a q_a
  obtain ⟨g_b, hg_b⟩ : ∃ g_, w2.heap.size = g_ := ⟨_, rfl⟩
  rw [hg_b] at Bb3 NG_g_b NE_g_a_g_b NE_g_b_g_a ⊢
  clear hg_b
  have c_a := Ba3.out.cell
  have f_a := Ba3.out.frozen
  have q_a := Ba3.out.lt
  have c_b := Bb3.out.cell
  have f_b := Bb3.out.frozen
  have q_b := Bb3.out.lt
  go_wp2_with fail
  refine (odds_Choose.calls 200 60 30 _ _ _ e4).mono ?_
  rintro e w4 ⟨rfl, hb⟩
  have HB4 := Aside0.mk (bstep (balloc (HB3.out) _) hb)
  have HG4 := Aside0.mk (((HG3.out).alloc _).below hb)
  have Ba4 := Aside0.mk ((((Ba3.out).alloc _).to (show _ = #[.int .u64 1309, .int .u64 1976] from rfl)).after hb)
  have Bb4 := Aside0.mk ((((Bb3.out).alloc _).to (show _ = #[.int .u64 667, .int .u64 1976] from rfl)).after hb)
  have Bc4 := Aside0.mk (((Blk.new _ 47 #[.int .u64 1, .int .u64 6]).to (show _ = #[.int .u64 1, .int .u64 6] from rfl)).after hb)
  have NG_g_c := Aside0.mk (show w.heap.size ≤ w3.heap.size from Nat.le_trans (HB3.out.size) (by omega))
  have NE_g_a_g_c := Aside0.mk (show g_a ≠ w3.heap.size from Nat.ne_of_lt (Nat.lt_of_lt_of_le Ba3.out.lt (by omega)))
  have NE_g_c_g_a := Aside0.mk (show w3.heap.size ≠ g_a from Nat.ne_of_gt (Nat.lt_of_lt_of_le Ba3.out.lt (by omega)))
  have NE_g_b_g_c := Aside0.mk (show g_b ≠ w3.heap.size from Nat.ne_of_lt (Nat.lt_of_lt_of_le Bb3.out.lt (by omega)))
  have NE_g_c_g_b := Aside0.mk (show w3.heap.size ≠ g_b from Nat.ne_of_gt (Nat.lt_of_lt_of_le Bb3.out.lt (by omega)))
  clear hb Ba3 Bb3 c_a f_a q_a c_b f_b q_b
  obtain ⟨g_c, hg_c⟩ : ∃ g_, w3.heap.size = g_ := ⟨_, rfl⟩
  rw [hg_c] at Bc4 NG_g_c NE_g_a_g_c NE_g_b_g_c NE_g_c_g_a NE_g_c_g_b ⊢
  clear hg_c
  have c_a := Ba4.out.cell
  have f_a := Ba4.out.frozen
  have q_a := Ba4.out.lt
  have c_b := Bb4.out.cell
  have f_b := Bb4.out.frozen
  have q_b := Bb4.out.lt
  have c_c := Bc4.out.cell
  have f_c := Bc4.out.frozen
  have q_c := Bc4.out.lt
  go_wp2_with fail
  refine (odds_Make.calls 200 6 4 _ _ _ _ e5).mono ?_
  rintro e w5 ⟨rfl, hb⟩
  have HB5 := Aside0.mk (bstep (HB4.out) hb)
  have HG5 := Aside0.mk ((HG4.out).below hb)
  have Ba5 := Aside0.mk (((Ba4.out).to (show _ = #[.int .u64 1309, .int .u64 1976] from rfl)).after hb)
  have Bb5 := Aside0.mk (((Bb4.out).to (show _ = #[.int .u64 667, .int .u64 1976] from rfl)).after hb)
  have Bc5 := Aside0.mk (((Bc4.out).to (show _ = #[.int .u64 1, .int .u64 6] from rfl)).after hb)
  clear hb Ba4 Bb4 Bc4 c_a f_a q_a c_b f_b q_b c_c f_c q_c
  have c_a := Ba5.out.cell
  have f_a := Ba5.out.frozen
  have q_a := Ba5.out.lt
  have c_b := Bb5.out.cell
  have f_b := Bb5.out.frozen
  have q_b := Bb5.out.lt
  have c_c := Bc5.out.cell
  have f_c := Bc5.out.frozen
  have q_c := Bc5.out.lt
  go_wp2_with fail
  refine (joustlaw32_of.calls 1309 1976 0 1309 1976 _ _ e6).mono ?_
  rintro e w6 ⟨rfl, hb⟩
  have HB6 := Aside0.mk (bstep (balloc (HB5.out) _) hb)
  have HG6 := Aside0.mk (((HG5.out).alloc _).below hb)
  have Ba6 := Aside0.mk ((((Ba5.out).alloc _).to (show _ = #[.int .u64 1309, .int .u64 1976] from rfl)).after hb)
  have Bb6 := Aside0.mk ((((Bb5.out).alloc _).to (show _ = #[.int .u64 667, .int .u64 1976] from rfl)).after hb)
  have Bc6 := Aside0.mk ((((Bc5.out).alloc _).to (show _ = #[.int .u64 1, .int .u64 6] from rfl)).after hb)
  have Bd6 := Aside0.mk (((Blk.new _ 47 #[.int .u64 0, .int .u64 0]).to (show _ = #[.int .u64 0, .int .u64 0] from rfl)).after hb)
  have NG_g_d := Aside0.mk (show w.heap.size ≤ w5.heap.size from Nat.le_trans (HB5.out.size) (by omega))
  have NE_g_a_g_d := Aside0.mk (show g_a ≠ w5.heap.size from Nat.ne_of_lt (Nat.lt_of_lt_of_le Ba5.out.lt (by omega)))
  have NE_g_d_g_a := Aside0.mk (show w5.heap.size ≠ g_a from Nat.ne_of_gt (Nat.lt_of_lt_of_le Ba5.out.lt (by omega)))
  have NE_g_b_g_d := Aside0.mk (show g_b ≠ w5.heap.size from Nat.ne_of_lt (Nat.lt_of_lt_of_le Bb5.out.lt (by omega)))
  have NE_g_d_g_b := Aside0.mk (show w5.heap.size ≠ g_b from Nat.ne_of_gt (Nat.lt_of_lt_of_le Bb5.out.lt (by omega)))
  have NE_g_c_g_d := Aside0.mk (show g_c ≠ w5.heap.size from Nat.ne_of_lt (Nat.lt_of_lt_of_le Bc5.out.lt (by omega)))
  have NE_g_d_g_c := Aside0.mk (show w5.heap.size ≠ g_c from Nat.ne_of_gt (Nat.lt_of_lt_of_le Bc5.out.lt (by omega)))
  clear hb Ba5 Bb5 Bc5 c_a f_a q_a c_b f_b q_b c_c f_c q_c
  obtain ⟨g_d, hg_d⟩ : ∃ g_, w5.heap.size = g_ := ⟨_, rfl⟩
  rw [hg_d] at Bd6 NG_g_d NE_g_a_g_d NE_g_b_g_d NE_g_c_g_d NE_g_d_g_a NE_g_d_g_b NE_g_d_g_c ⊢
  clear hg_d
  have c_a := Ba6.out.cell
  have f_a := Ba6.out.frozen
  have q_a := Ba6.out.lt
  have c_b := Bb6.out.cell
  have f_b := Bb6.out.frozen
  have q_b := Bb6.out.lt
  have c_c := Bc6.out.cell
  have f_c := Bc6.out.frozen
  have q_c := Bc6.out.lt
  have c_d := Bd6.out.cell
  have f_d := Bd6.out.frozen
  have q_d := Bd6.out.lt
  go_wp2_with fail
  refine (joustlaw32_of.calls 667 1976 0 667 1976 _ _ e7).mono ?_
  rintro e w7 ⟨rfl, hb⟩
  have HB7 := Aside0.mk (bstep (HB6.out) hb)
  have HG7 := Aside0.mk ((HG6.out).below hb)
  have Ba7 := Aside0.mk (((Ba6.out).to (show _ = #[.int .u64 1309, .int .u64 1976] from rfl)).after hb)
  have Bb7 := Aside0.mk (((Bb6.out).to (show _ = #[.int .u64 667, .int .u64 1976] from rfl)).after hb)
  have Bc7 := Aside0.mk (((Bc6.out).to (show _ = #[.int .u64 1, .int .u64 6] from rfl)).after hb)
  have Bd7 := Aside0.mk (((Bd6.out).to (show _ = #[.int .u64 0, .int .u64 0] from rfl)).after hb)
  clear hb Ba6 Bb6 Bc6 Bd6 c_a f_a q_a c_b f_b q_b c_c f_c q_c c_d f_d q_d
  have c_a := Ba7.out.cell
  have f_a := Ba7.out.frozen
  have q_a := Ba7.out.lt
  have c_b := Bb7.out.cell
  have f_b := Bb7.out.frozen
  have q_b := Bb7.out.lt
  have c_c := Bc7.out.cell
  have f_c := Bc7.out.frozen
  have q_c := Bc7.out.lt
  have c_d := Bd7.out.cell
  have f_d := Bd7.out.frozen
  have q_d := Bd7.out.lt
  go_wp2_with fail
  refine (odds_Text.calls 200 667 1976 _ _ (HG7.out) e8).mono ?_
  rintro e w8 ⟨rfl, hb⟩
  have HB8 := Aside0.mk (bstep (HB7.out) hb)
  have HG8 := Aside0.mk ((HG7.out).below hb)
  have Ba8 := Aside0.mk (((Ba7.out).to (show _ = #[.int .u64 1309, .int .u64 1976] from rfl)).after hb)
  have Bb8 := Aside0.mk (((Bb7.out).to (show _ = #[.int .u64 667, .int .u64 1976] from rfl)).after hb)
  have Bc8 := Aside0.mk (((Bc7.out).to (show _ = #[.int .u64 1, .int .u64 6] from rfl)).after hb)
  have Bd8 := Aside0.mk (((Bd7.out).to (show _ = #[.int .u64 0, .int .u64 0] from rfl)).after hb)
  clear hb Ba7 Bb7 Bc7 Bd7 c_a f_a q_a c_b f_b q_b c_c f_c q_c c_d f_d q_d
  have c_a := Ba8.out.cell
  have f_a := Ba8.out.frozen
  have q_a := Ba8.out.lt
  have c_b := Bb8.out.cell
  have f_b := Bb8.out.frozen
  have q_b := Bb8.out.lt
  have c_c := Bc8.out.cell
  have f_c := Bc8.out.frozen
  have q_c := Bc8.out.lt
  have c_d := Bd8.out.cell
  have f_d := Bd8.out.frozen
  have q_d := Bd8.out.lt
  go_wp2_with fail
  refine (joustlaw32_of.calls 1 6 0 1 6 _ _ e9).mono ?_
  rintro e w9 ⟨rfl, hb⟩
  have HB9 := Aside0.mk (bstep (HB8.out) hb)
  have Ba9 := Aside0.mk (((Ba8.out).to (show _ = #[.int .u64 1309, .int .u64 1976] from rfl)).after hb)
  have Bb9 := Aside0.mk (((Bb8.out).to (show _ = #[.int .u64 667, .int .u64 1976] from rfl)).after hb)
  have Bc9 := Aside0.mk (((Bc8.out).to (show _ = #[.int .u64 1, .int .u64 6] from rfl)).after hb)
  have Bd9 := Aside0.mk (((Bd8.out).to (show _ = #[.int .u64 0, .int .u64 0] from rfl)).after hb)
  clear hb Ba8 Bb8 Bc8 Bd8 c_a f_a q_a c_b f_b q_b c_c f_c q_c c_d f_d q_d
  have c_a := Ba9.out.cell
  have f_a := Ba9.out.frozen
  have q_a := Ba9.out.lt
  have c_b := Bb9.out.cell
  have f_b := Bb9.out.frozen
  have q_b := Bb9.out.lt
  have c_c := Bc9.out.cell
  have f_c := Bc9.out.frozen
  have q_c := Bc9.out.lt
  have c_d := Bd9.out.cell
  have f_d := Bd9.out.frozen
  have q_d := Bd9.out.lt
  go_wp2_with fail
  go_ret
  exact ⟨rfl, HB9.out⟩
end Go.Proofs.YtcdcpnhlmgmnkaaDoor.Odd
