/- ClockWhen walked: nobody falls ahead of When; at When it falls. -/
import Derived.Test.YtcdcpnhlmgmnkaaDoorClkA
import Derived.Test.YtcdcpnhlmgmnkaaDoorClkC
import Derived.Test.YtcdcpnhlmgmnkaaDoorWEqStruct
import Derived.Test.YtcdcpnhlmgmnkaaDoorWMore
import Derived.RegionTactic
import Derived.Deep.QuietTactic
import Derived.BigQuiet
import Derived.Deep.RegionHeld3
import Derived.ChangeAlike
namespace Go.Proofs.YtcdcpnhlmgmnkaaDoor.Clk
open Go.RowKit Go.Proofs.YtcdcpnhlmgmnkaaDoor.Base Go.Proofs.YtcdcpnhlmgmnkaaDoor.Pclk Go.Proofs.YtcdcpnhlmgmnkaaDoorW.PrintWords Go.Proofs.YtcdcpnhlmgmnkaaDoorW.PrintLast Go.Proofs.YtcdcpnhlmgmnkaaDoorW.PrintMore
attribute [local go_sem high] eqA22
attribute [local go_sem] max2_int min2_int max_two min_two
theorem bcell {W w1 : World} (hb : Below W.heap.size W w1) : ∀ b o, b < W.heap.size → w1.cell? ⟨b, o, none⟩ = W.cell? ⟨b, o, none⟩ := fun b o h => hb.cell (p := ⟨b, o, none⟩) h
set_option maxHeartbeats 1000000 in
set_option maxRecDepth 100000 in
theorem when_off_a (k : Nat) (l0 l1 more cap who : Int) (on : Bool) (since fell early : Int) (w : World) (hg_ : GoodW w)
    (hn : clock_When.f k l0 l1 more cap who on since fell = some (0, false)) (hm : clock_May.f k l0 l1 more cap who on since fell = some false) :
    Calls Tryd.prog 5 #[.agg #[.int .i64 l0, .int .i64 l1, .int .i64 more, .int .i64 cap, .int .u8 who, .bool on, .int .i64 since, .int .u8 fell], .int .i64 early] w fun e w' => e = .returned (.bool true) ∧ Below w.heap.size w w' := by
  have HG0 := Aside0.mk hg_
  clear hg_
  have HB0 := Aside0.mk (Below.refl w.heap.size w)
  go_enter Tryd.func5, Tryd.ntmps5
  go_wp2_with fail
  refine (clock_When.calls k l0 l1 more cap who on since fell _ _ _ hn).mono ?_
  rintro e w1 ⟨rfl, hb⟩
  have HB1 := Aside0.mk (bstep (balloc (HB0.out) _) hb)
  have HG1 := Aside0.mk (((HG0.out).alloc _).below hb)
  have Bc1 := Aside0.mk (((Blk.new _ 24 #[.int .i64 l0, .int .i64 l1, .int .i64 more, .int .i64 cap, .int .u8 who, .bool on, .int .i64 since, .int .u8 fell]).to (show _ = #[.int .i64 l0, .int .i64 l1, .int .i64 more, .int .i64 cap, .int .u8 who, .bool on, .int .i64 since, .int .u8 fell] from rfl)).after hb)
  have NG_g_c := Aside0.mk (show w.heap.size ≤ w.heap.size from Nat.le_trans (HB0.out.size) (by omega))
  clear hb
  obtain ⟨g_c, hg_c⟩ : ∃ g_, w.heap.size = g_ := ⟨_, rfl⟩
  rw [hg_c] at Bc1 NG_g_c ⊢
  clear hg_c
  have c_c := Bc1.out.cell
  have f_c := Bc1.out.frozen
  have q_c := Bc1.out.lt
  go_wp2_with fail
  refine (clock_May.calls k l0 l1 more cap who on since fell _ _ hm).mono ?_
  rintro e w2 ⟨rfl, hb⟩
  have HB2 := Aside0.mk (bstep (HB1.out) hb)
  have HG2 := Aside0.mk ((HG1.out).below hb)
  have Bc2 := Aside0.mk (((Bc1.out).to (show _ = #[.int .i64 l0, .int .i64 l1, .int .i64 more, .int .i64 cap, .int .u8 who, .bool on, .int .i64 since, .int .u8 fell] from rfl)).after hb)
  clear hb Bc1 c_c f_c q_c
  have c_c := Bc2.out.cell
  have f_c := Bc2.out.frozen
  have q_c := Bc2.out.lt
  go_wp2_with fail
  refine (lives_calls _ (HG2.out)).mono ?_
  rintro e w3 ⟨rfl, hb⟩
  have HB3 := Aside0.mk (bstep (HB2.out) hb)
  have HG3 := Aside0.mk ((HG2.out).below hb)
  have Bc3 := Aside0.mk (((Bc2.out).to (show _ = #[.int .i64 l0, .int .i64 l1, .int .i64 more, .int .i64 cap, .int .u8 who, .bool on, .int .i64 since, .int .u8 fell] from rfl)).after hb)
  clear hb Bc2 c_c f_c q_c
  have c_c := Bc3.out.cell
  have f_c := Bc3.out.frozen
  have q_c := Bc3.out.lt
  go_wp2_with fail
  go_ret
  exact ⟨rfl, HB3.out⟩
set_option maxHeartbeats 1000000 in
set_option maxRecDepth 100000 in
theorem when_off_b (k : Nat) (l0 l1 more cap who : Int) (since fell early : Int) (w : World) (hg_ : GoodW w)
    (hn : clock_When.f k l0 l1 more cap who false since fell = some (0, false)) (hm : clock_May.f k l0 l1 more cap who false since fell = some true) :
    Calls Tryd.prog 5 #[.agg #[.int .i64 l0, .int .i64 l1, .int .i64 more, .int .i64 cap, .int .u8 who, .bool false, .int .i64 since, .int .u8 fell], .int .i64 early] w fun e w' => e = .returned (.bool true) ∧ Below w.heap.size w w' := by
  have HG0 := Aside0.mk hg_
  clear hg_
  have HB0 := Aside0.mk (Below.refl w.heap.size w)
  go_enter Tryd.func5, Tryd.ntmps5
  go_wp2_with fail
  refine (clock_When.calls k l0 l1 more cap who false since fell _ _ _ hn).mono ?_
  rintro e w1 ⟨rfl, hb⟩
  have HB1 := Aside0.mk (bstep (balloc (HB0.out) _) hb)
  have HG1 := Aside0.mk (((HG0.out).alloc _).below hb)
  have Bc1 := Aside0.mk (((Blk.new _ 24 #[.int .i64 l0, .int .i64 l1, .int .i64 more, .int .i64 cap, .int .u8 who, .bool false, .int .i64 since, .int .u8 fell]).to (show _ = #[.int .i64 l0, .int .i64 l1, .int .i64 more, .int .i64 cap, .int .u8 who, .bool false, .int .i64 since, .int .u8 fell] from rfl)).after hb)
  have NG_g_c := Aside0.mk (show w.heap.size ≤ w.heap.size from Nat.le_trans (HB0.out.size) (by omega))
  clear hb
  obtain ⟨g_c, hg_c⟩ : ∃ g_, w.heap.size = g_ := ⟨_, rfl⟩
  rw [hg_c] at Bc1 NG_g_c ⊢
  clear hg_c
  have c_c := Bc1.out.cell
  have f_c := Bc1.out.frozen
  have q_c := Bc1.out.lt
  go_wp2_with fail
  refine (clock_May.calls k l0 l1 more cap who false since fell _ _ hm).mono ?_
  rintro e w2 ⟨rfl, hb⟩
  have HB2 := Aside0.mk (bstep (HB1.out) hb)
  have HG2 := Aside0.mk ((HG1.out).below hb)
  have Bc2 := Aside0.mk (((Bc1.out).to (show _ = #[.int .i64 l0, .int .i64 l1, .int .i64 more, .int .i64 cap, .int .u8 who, .bool false, .int .i64 since, .int .u8 fell] from rfl)).after hb)
  clear hb Bc1 c_c f_c q_c
  have c_c := Bc2.out.cell
  have f_c := Bc2.out.frozen
  have q_c := Bc2.out.lt
  go_wp2_with fail
  refine (lives_calls _ (HG2.out)).mono ?_
  rintro e w3 ⟨rfl, hb⟩
  have HB3 := Aside0.mk (bstep (HB2.out) hb)
  have HG3 := Aside0.mk ((HG2.out).below hb)
  have Bc3 := Aside0.mk (((Bc2.out).to (show _ = #[.int .i64 l0, .int .i64 l1, .int .i64 more, .int .i64 cap, .int .u8 who, .bool false, .int .i64 since, .int .u8 fell] from rfl)).after hb)
  clear hb Bc2 c_c f_c q_c
  have c_c := Bc3.out.cell
  have f_c := Bc3.out.frozen
  have q_c := Bc3.out.lt
  go_wp2_with fail
  go_ret
  exact ⟨rfl, HB3.out⟩
end Go.Proofs.YtcdcpnhlmgmnkaaDoor.Clk
