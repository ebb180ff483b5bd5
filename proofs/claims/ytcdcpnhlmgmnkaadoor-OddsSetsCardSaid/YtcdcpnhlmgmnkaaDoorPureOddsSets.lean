/- OddsSets, the plain law: of 61 sizes and each k the kernel reckons; beyond these by the tests. -/
import Derived.Test.YtcdcpnhlmgmnkaaDoorPodsx1
namespace Go.Proofs.YtcdcpnhlmgmnkaaDoor.Pure
open Go.RowKit Go.Proofs.YtcdcpnhlmgmnkaaDoor.Base Go.Proofs.YtcdcpnhlmgmnkaaDoor.Pods Go.Proofs.YtcdcpnhlmgmnkaaDoorW.PrintWords Go.Proofs.YtcdcpnhlmgmnkaaDoorW.PrintLast
set_option maxRecDepth 1000000 in
theorem sets_all : ((List.range 61).all fun n => (List.range (n + 1)).all fun j => joustlaw32_OddsSets.f 50 (n : Int) (j : Int) == some true) = true := by kernel_rfl
theorem sets_in (n j : Nat) (hn : n ≤ 60) (hj : j ≤ n) : joustlaw32_OddsSets.f 50 (n : Int) (j : Int) = some true := by
  have h := List.all_eq_true.1 sets_all n (List.mem_range.2 (by omega))
  have h' := List.all_eq_true.1 h j (List.mem_range.2 (by omega))
  exact eq_of_beq h'
theorem OddsSets : joustlaw32_OddsSets.Pure := by
  intro a0 a1 _ _
  refine ⟨50, ?_⟩
  by_cases h0 : a0 < 0
  · simp [joustlaw32_OddsSets.f, Podd.odds_Choose.f, h0, Podd.lives.f]
  · by_cases h1 : a0 > 60
    · simp [joustlaw32_OddsSets.f, Podd.odds_Choose.f, h0, h1, Podd.lives.f]
    · by_cases h2 : a1 < 0
      · simp [joustlaw32_OddsSets.f, joustlaw32_OddsSets.j0, Podd.odds_Choose.f, Podd.odds_sets.f, Podd.odds_sets.j0, h0, h1, h2, Podd.lives.f]
      · by_cases h3 : a1 > a0
        · simp [joustlaw32_OddsSets.f, joustlaw32_OddsSets.j0, Podd.odds_Choose.f, Podd.odds_sets.f, Podd.odds_sets.j0, h0, h1, h2, h3, Podd.lives.f]
        · obtain ⟨n, rfl⟩ := Int.eq_ofNat_of_zero_le (show 0 ≤ a0 by omega)
          obtain ⟨j, rfl⟩ := Int.eq_ofNat_of_zero_le (show 0 ≤ a1 by omega)
          exact sets_in n j (by omega) (by omega)
theorem OddsSets_walk (a0 a1 : Int) (w : World) (w0 : (Lit.int .i64 a0).wf = true) (w1 : (Lit.int .i64 a1).wf = true) (hg_ : GoodW w) :
    Calls Tryd.prog 8 #[.int .i64 a0, .int .i64 a1] w fun e w' => e = .returned (.bool true) ∧ Below w.heap.size w w' := by
  obtain ⟨k, h⟩ := OddsSets a0 a1 w0 w1
  exact joustlaw32_OddsSets.calls k a0 a1 true w hg_ h
end Go.Proofs.YtcdcpnhlmgmnkaaDoor.Pure
