/- ClockWhen: the cases put together. -/
import Derived.Test.YtcdcpnhlmgmnkaaDoorClkW0i
import Derived.Test.YtcdcpnhlmgmnkaaDoorClkW0n
import Derived.Test.YtcdcpnhlmgmnkaaDoorClkW1i
import Derived.Test.YtcdcpnhlmgmnkaaDoorClkW1n
namespace Go.Proofs.YtcdcpnhlmgmnkaaDoor.Clk
open Go.RowKit Go.Proofs.YtcdcpnhlmgmnkaaDoor.Base Go.Proofs.YtcdcpnhlmgmnkaaDoor.Pclk Go.Proofs.YtcdcpnhlmgmnkaaDoorW.PrintWords Go.Proofs.YtcdcpnhlmgmnkaaDoorW.PrintLast

theorem u8b {a : Int} (h : (Lit.int .u8 a).wf = true) : 0 ≤ a ∧ a ≤ 255 := by simpa [Lit.wf, IntKind.min, IntKind.max, IntKind.signed, IntKind.bits] using h
theorem wrapk {a : Int} (h0 : -9223372036854775808 ≤ a) (h1 : a ≤ 9223372036854775807) : IntKind.i64.wrap a = a := (i64_w a).trans (wrap_id h0 h1)
theorem roomI_le {l cap : Int} : roomI l cap ≤ l := by unfold roomI; split <;> (try split) <;> omega
theorem tmod_bd (a : Int) {d : Int} (hd : 0 < d) : -d < a.tmod d ∧ a.tmod d < d := by
  refine ⟨?_, Int.tmod_lt_of_pos a hd⟩
  have h := Int.tmod_lt_of_pos (-a) hd
  rw [Int.neg_tmod] at h
  omega
/-- the tick that the statement takes -/
theorem at_facts (early last since : Int) (h1 : since ≤ last) :
    since ≤ last - (early.tmod (last - since + 1) + last - since + 1).tmod (last - since + 1) ∧ last - (early.tmod (last - since + 1) + last - since + 1).tmod (last - since + 1) ≤ last := by
  have hd : 0 < last - since + 1 := by omega
  obtain ⟨b0, b1⟩ := tmod_bd early hd
  have hp : 0 ≤ early.tmod (last - since + 1) + last - since + 1 := by omega
  have c0 := Int.tmod_nonneg (last - since + 1) hp
  have c1 := Int.tmod_lt_of_pos (early.tmod (last - since + 1) + last - since + 1) hd
  omega
theorem mx_left {a : Int} (h : 0 ≤ a) : mx a 0 = a := by unfold mx; split <;> omega

theorem ClockWhen_walk (l0 l1 more cap who : Int) (on : Bool) (since fell early : Int) (w : World)
    (_ : (Lit.int .i64 l0).wf = true) (_ : (Lit.int .i64 l1).wf = true) (_ : (Lit.int .i64 more).wf = true) (_ : (Lit.int .i64 cap).wf = true) (hw : (Lit.int .u8 who).wf = true) (_ : (Lit.int .i64 since).wf = true)
    (hf : (Lit.int .u8 fell).wf = true) (_ : (Lit.int .i64 early).wf = true) (hg_ : GoodW w) :
    Calls Tryd.prog 5 #[.agg #[.int .i64 l0, .int .i64 l1, .int .i64 more, .int .i64 cap, .int .u8 who, .bool on, .int .i64 since, .int .u8 fell], .int .i64 early] w fun e w' => e = .returned (.bool true) ∧ Below w.heap.size w w' := by
  obtain ⟨f0, f1⟩ := u8b hf
  obtain ⟨h0, h1⟩ := u8b hw
  by_cases hM : MayP l0 l1 more cap who on since fell
  · cases hon : on
    · subst hon
      exact when_off_b 4 l0 l1 more cap who since fell early w hg_ (when_off 0 _ _ _ _ _ _ _ _ f0 f1 (by simp)) (by rw [show 4 = 1 + 3 from rfl, may_f _ _ _ _ _ _ _ _ _ f0 f1]; simp [hM])
    · subst hon
      have hM' := hM
      unfold MayP at hM'
      obtain ⟨⟨a0, a1⟩, b0, ⟨a2, a3⟩, b1, ⟨a4, a5⟩, a6, ⟨a7, a8⟩, a9, a10⟩ := hM'
      have hfell : fell = 2 := by simpa using a10
      subst hfell
      have hwho : who = 0 ∨ who = 1 := by omega
      have hm : clock_May.f 4 l0 l1 more cap who true since 2 = some true := by rw [show 4 = 1 + 3 from rfl, may_f _ _ _ _ _ _ _ _ _ f0 f1]; simp [hM]
      have hn := when_on 0 l0 l1 more cap who since 2 f0 f1 hM hwho
      have hrl : roomI (ofWho l0 l1 who) cap ≤ ofWho l0 l1 who := roomI_le
      have hrb : 0 ≤ roomI (ofWho l0 l1 who) cap ∧ roomI (ofWho l0 l1 who) cap ≤ 1073741824 := by
        rcases hwho with rfl | rfl
        · exact roomI_bd (l := l0) a0 a1
        · exact roomI_bd (l := l1) a2 a3
      generalize hR : roomI (ofWho l0 l1 who) cap = R at hn hrl hrb
      have lk := fun now h1 h2 => look_f 1 l0 l1 more cap who since 2 now hM hwho h1 h2 f0 f1
      have st := fun now h1 h2 => stop_f 1 l0 l1 more cap who since 2 now hM hwho h1 h2 f0 f1
      rw [hR] at lk st
      by_cases c : since + R + 1 ≤ 1073741824
      · rw [if_pos c] at hn
        have l1' := lk (since + R + 1) (by omega) c
        have s1' := st (since + R + 1) (by omega) c
        rw [if_pos (by omega)] at s1'
        rw [decide_eq_true (show since + R + 1 - since > R by omega)] at l1'
        obtain ⟨q0, q1⟩ := at_facts early (since + R) since (by omega)
        obtain ⟨t0, t1⟩ := tmod_bd early (d := since + R - since + 1) (by omega)
        obtain ⟨t2, t3⟩ := tmod_bd (early.tmod (since + R - since + 1) + (since + R) - since + 1) (d := since + R - since + 1) (by omega)
        have l2' := lk _ q0 (by omega)
        have s2' := st _ q0 (by omega)
        rw [if_neg (by omega)] at s2'
        rw [decide_eq_false (show ¬ (since + R - (early.tmod (since + R - since + 1) + (since + R) - since + 1).tmod (since + R - since + 1) - since > R) by omega)] at l2'
        rcases hwho with rfl | rfl
        · have hl : R ≤ l0 := hrl
          rw [if_pos rfl, if_pos rfl, mx_left (by omega)] at l2'
          exact when_on_0i 4 l0 l1 more cap since early _ _ _ (since + R) _ _ _ _ _ _ _ _ _ _ w hg_ ⟨hn⟩ ⟨hm⟩ ⟨l1'⟩ ⟨s1'⟩ ⟨(wrap_id (by omega) (by omega)).trans (by omega)⟩ ⟨eq_false (by omega)⟩ ⟨l2'⟩ ⟨s2'⟩
            ⟨wrapk (by omega) (by omega)⟩ ⟨wrapk (by omega) (by omega)⟩ ⟨eq_false (by omega)⟩ ⟨eq_false (by omega)⟩ ⟨eq_false (by omega)⟩
            ⟨wrapk (by omega) (by omega)⟩ ⟨wrapk (by omega) (by omega)⟩ ⟨rfl⟩ ⟨wrapk (by omega) (by omega)⟩ ⟨wrapk (by omega) (by omega)⟩ ⟨wrapk (by omega) (by omega)⟩ ⟨rfl⟩ ⟨wrapk (by omega) (by omega)⟩
        · have hl : R ≤ l1 := hrl
          rw [if_neg (by omega), if_neg (by omega), mx_left (by omega)] at l2'
          exact when_on_1i 4 l0 l1 more cap since early _ _ _ (since + R) _ _ _ _ _ _ _ _ _ _ w hg_ ⟨hn⟩ ⟨hm⟩ ⟨l1'⟩ ⟨s1'⟩ ⟨(wrap_id (by omega) (by omega)).trans (by omega)⟩ ⟨eq_false (by omega)⟩ ⟨l2'⟩ ⟨s2'⟩
            ⟨wrapk (by omega) (by omega)⟩ ⟨wrapk (by omega) (by omega)⟩ ⟨eq_false (by omega)⟩ ⟨eq_false (by omega)⟩ ⟨eq_false (by omega)⟩
            ⟨wrapk (by omega) (by omega)⟩ ⟨wrapk (by omega) (by omega)⟩ ⟨rfl⟩ ⟨wrapk (by omega) (by omega)⟩ ⟨wrapk (by omega) (by omega)⟩ ⟨wrapk (by omega) (by omega)⟩ ⟨rfl⟩ ⟨wrapk (by omega) (by omega)⟩
      · rw [if_neg c] at hn
        obtain ⟨q0, q1⟩ := at_facts early 1073741824 since (by omega)
        obtain ⟨t0, t1⟩ := tmod_bd early (d := 1073741824 - since + 1) (by omega)
        obtain ⟨t2, t3⟩ := tmod_bd (early.tmod (1073741824 - since + 1) + 1073741824 - since + 1) (d := 1073741824 - since + 1) (by omega)
        have l2' := lk _ q0 (by omega)
        have s2' := st _ q0 (by omega)
        rw [if_neg (by omega)] at s2'
        rw [decide_eq_false (show ¬ (1073741824 - (early.tmod (1073741824 - since + 1) + 1073741824 - since + 1).tmod (1073741824 - since + 1) - since > R) by omega)] at l2'
        rcases hwho with rfl | rfl
        · have hl : R ≤ l0 := hrl
          rw [if_pos rfl, if_pos rfl, mx_left (by omega)] at l2'
          exact when_on_0n 4 l0 l1 more cap since early _ _ _ _ _ _ _ _ _ _ w hg_ ⟨hn⟩ ⟨hm⟩ ⟨l2'⟩ ⟨s2'⟩
            ⟨wrapk (by omega) (by omega)⟩ ⟨wrapk (by omega) (by omega)⟩ ⟨eq_false (by omega)⟩ ⟨eq_false (by omega)⟩ ⟨eq_false (by omega)⟩
            ⟨wrapk (by omega) (by omega)⟩ ⟨wrapk (by omega) (by omega)⟩ ⟨rfl⟩ ⟨wrapk (by omega) (by omega)⟩ ⟨wrapk (by omega) (by omega)⟩ ⟨wrapk (by omega) (by omega)⟩ ⟨rfl⟩ ⟨wrapk (by omega) (by omega)⟩
        · have hl : R ≤ l1 := hrl
          rw [if_neg (by omega), if_neg (by omega), mx_left (by omega)] at l2'
          exact when_on_1n 4 l0 l1 more cap since early _ _ _ _ _ _ _ _ _ _ w hg_ ⟨hn⟩ ⟨hm⟩ ⟨l2'⟩ ⟨s2'⟩
            ⟨wrapk (by omega) (by omega)⟩ ⟨wrapk (by omega) (by omega)⟩ ⟨eq_false (by omega)⟩ ⟨eq_false (by omega)⟩ ⟨eq_false (by omega)⟩
            ⟨wrapk (by omega) (by omega)⟩ ⟨wrapk (by omega) (by omega)⟩ ⟨rfl⟩ ⟨wrapk (by omega) (by omega)⟩ ⟨wrapk (by omega) (by omega)⟩ ⟨wrapk (by omega) (by omega)⟩ ⟨rfl⟩ ⟨wrapk (by omega) (by omega)⟩
  · exact when_off_a 4 l0 l1 more cap who on since fell early w hg_ (when_off 0 _ _ _ _ _ _ _ _ f0 f1 (fun h => hM h.1)) (by rw [show 4 = 1 + 3 from rfl, may_f _ _ _ _ _ _ _ _ _ f0 f1]; simp [hM])
end Go.Proofs.YtcdcpnhlmgmnkaaDoor.Clk
