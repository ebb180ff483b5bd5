/- Joined by a program of this session (pack.py) out of: Matb Idx38 Matc Matd Mtt Mate Matf PureMatchGrowsB Mto -/
import Derived.ArgAppend
import Derived.Below
import Derived.BigQuiet
import Derived.Deep.AppendLies
import Derived.Deep.CutBlock
import Derived.Deep.DeepCutAuto
import Derived.Deep.Draws
import Derived.Deep.LoopGhost
import Derived.Deep.OwnRows
import Derived.Deep.QuietTactic
import Derived.Deep.RegionHeld3
import Derived.KernelRfl
import Derived.Laws.BitsLemmas
import Derived.Laws.BytesArg
import Derived.Laws.IdiomCopy
import Derived.Laws.MakeOwn
import Derived.Laws.OwnMore
import Derived.Laws.Rows
import Derived.Laws.Slices
import Derived.Lib.AppendStr
import Derived.Lib.ConvBytes
import Derived.Lib.Hide
import Derived.Maps.AppendAt
import Derived.OrdersHeld
import Derived.OwnWalk
import Derived.RowKit
import Derived.RowKit3
import Derived.Shelf.SlicesQ.IndexFunc
import Derived.Tactics
import Derived.Test.YtnceobnglofnmaaProg
import Derived.WalkKit
import Derived.WideLaws
import Derived.Test.YtnceobnglofnmaaKmtg1
import Derived.Test.YtnceobnglofnmaaKmtg2
import Derived.Test.YtnceobnglofnmaaKmtg4
import Derived.Test.YtnceobnglofnmaaKmtg5
section
/- What sets an effect off: the function handed to the library. -/
namespace Go.Proofs.Ytnceobnglofnmaa.Mat
open Go Go.RowKit Go.Proofs.Ytnceobnglofnmaa.Base Go.Proofs.Ytnceobnglofnmaa.Pmtb
set_option maxRecDepth 100000
set_option maxHeartbeats 2000000
/-- The function handed on, at an event that fits or not (b). -/
theorem off_1 (who id mode ev side mo x0 x1 x2 x3 : Int) (b : Bool) (B5 B6 B7 B8 : Nat) (W : World)
    (c6 : W.cell? ⟨B6, 0, none⟩ = some (.int .u8 who)) (c7 : W.cell? ⟨B7, 0, none⟩ = some (.int .i64 id)) (c80 : W.cell? ⟨B8, 0, none⟩ = some (.int .u8 mode))
    (c81 : W.cell? ⟨B8, 1, none⟩ = some (.int .u8 ev)) (c82 : W.cell? ⟨B8, 2, none⟩ = some (.int .u8 side)) (c5 : W.cell? ⟨B5, 6, none⟩ = some (.int .i64 mo))
    (h6 : B6 < W.heap.size) (h7 : B7 < W.heap.size) (h8 : B8 < W.heap.size) (h5 : B5 < W.heap.size)
    (hf : match_Fits.f who id ev side x0 x1 x2 x3 = some b) :
    Calls Try.prog 57 #[.agg #[.int .u8 x0, .int .i64 x1, .int .i64 x2, .int .u8 x3], .pointer (some ⟨B6, 0, none⟩), .pointer (some ⟨B7, 0, none⟩), .pointer (some ⟨B8, 0, none⟩), .pointer (some ⟨B5, 0, none⟩)] W fun e w' =>
      e = .returned (.bool (b && (mode != 3 || x1 == mo))) ∧ Below W.heap.size W w' := by
  have hu38 := Try.underlying38
  have HF := Lib.hid hf
  clear hf
  have s1 : ∀ w1, Below (W.alloc (.cells #[.int .u8 x0, .int .i64 x1, .int .i64 x2, .int .u8 x3] 38)).heap.size (W.alloc (.cells #[.int .u8 x0, .int .i64 x1, .int .i64 x2, .int .u8 x3] 38)) w1 →
      w1.cell? ⟨B8, 0, none⟩ = some (.int .u8 mode) ∧ w1.cell? ⟨B5, 6, none⟩ = some (.int .i64 mo) ∧ w1.cell? ⟨W.heap.size, 1, none⟩ = some (.int .i64 x1) := by
    intro w1 hb
    refine ⟨?_, ?_, ?_⟩
    · rw [hb.cell (p := ⟨B8, 0, none⟩) (by simp; omega)]; exact Lib.cell?_alloc_some _ c80
    · rw [hb.cell (p := ⟨B5, 6, none⟩) (by simp; omega)]; exact Lib.cell?_alloc_some _ c5
    · rw [hb.cell (p := ⟨W.heap.size, 1, none⟩) (by simp)]; simp
  have S1 := Lib.hid s1
  clear s1
  cases b with
  | false =>
    go_enter Try.func57, Try.ntmps57
    go_wp2_with (go_at_call 17; refine (match_Fits.calls _ _ _ _ _ _ _ _ false _ HF.out).mono ?_; rintro e w1 ⟨rfl, hb⟩)
    go_ret
    exact ⟨rfl, bstep (balloc (Below.refl _ _) _) hb⟩
  | true =>
    by_cases hm : mode = 3
    · subst hm
      go_enter Try.func57, Try.ntmps57
      go_wp2_with (go_at_call 17; refine (match_Fits.calls _ _ _ _ _ _ _ _ true _ HF.out).mono ?_; rintro e w1 ⟨rfl, hb⟩; obtain ⟨k1, k2, k3⟩ := S1.out _ hb)
      go_ret
      exact ⟨ret_bool (by first | rfl | simp), bstep (balloc (Below.refl _ _) _) hb⟩
    · have e1 : (mode == 3) = false := beq_eq_false_iff_ne.2 hm
      have e2 : (mode != 3) = true := bne_iff_ne.2 hm
      go_enter Try.func57, Try.ntmps57
      go_wp2_with (go_at_call 17; refine (match_Fits.calls _ _ _ _ _ _ _ _ true _ HF.out).mono ?_; rintro e w1 ⟨rfl, hb⟩; obtain ⟨k1, k2, k3⟩ := S1.out _ hb)
      go_ret
      exact ⟨ret_bool (by rw [e2]; rfl), bstep (balloc (Below.refl _ _) _) hb⟩
end Go.Proofs.Ytnceobnglofnmaa.Mat
end
section
/- slices.IndexFunc and slices.ContainsFunc at a struct (type 38), whatever function is handed on. -/
namespace Go.Proofs.Ytnceobnglofnmaa.Base
open Go Go.RowKit Go.Proofs.YtnceobnglofnmaaW.PrintWords Go.Proofs.Ytnceobnglofnmaa.Pmtb
def idxO {α : Type} (p : α → Option Bool) : Int → List α → Option Int
  | _, [] => some (-1)
  | i, x :: t => (p x).bind fun b => if b = true then some i else idxO p (i + 1) t
def anyO {α : Type} (p : α → Option Bool) : List α → Option Bool
  | [] => some false
  | x :: t => (p x).bind fun b => if b = true then some true else anyO p t
theorem idxO_any {α : Type} (p : α → Option Bool) : ∀ (l : List α) (i : Int) (b : Bool), 0 ≤ i → anyO p l = some b → ∃ r, idxO p i l = some r ∧ decide (0 ≤ r) = b := by
  intro l
  induction l with
  | nil => intro i b _ h; cases h; exact ⟨-1, rfl, rfl⟩
  | cons x t ih =>
    intro i b hi h
    rw [anyO] at h
    obtain ⟨c, hc, h⟩ := Option.bind_eq_some_iff.1 h
    cases c with
    | true => cases h; exact ⟨i, by rw [idxO, hc]; rfl, decide_eq_true hi⟩
    | false => obtain ⟨r, hr, e⟩ := ih (i + 1) b (by omega) h; exact ⟨r, by rw [idxO, hc]; exact hr, e⟩

def enc38 (x : S38) : Value := .agg #[.int .u8 x.f0, .int .i64 x.f1, .int .i64 x.f2, .int .u8 x.f3]
set_option maxRecDepth 100000 in
set_option maxHeartbeats 2000000 in
theorem index_38 (g : Nat) (lb : Array Value) (eg : ∀ args w, (callFunc g args).run Try.prog w = .ok (.enter g args) w) (p : S38 → Option Bool) (A0 : Option Addr) (c : Nat) (l : List S38) (r : Int) (w : World)
    (hp : ∀ (W : World) (x : S38) (b : Bool), Below w.heap.size w W → p x = some b → Calls Try.prog g (#[enc38 x] ++ lb) W fun e w' => e = .returned (.bool b) ∧ Below W.heap.size W w')
    (hr : Kd.C k38 w A0 l.length l) (h : idxO p 0 l = some r) :
    Calls Try.prog 86 #[.slice A0 l.length c, .func (.func g) #[] lb] w fun e w' => e = .returned (.int .i64 r) ∧ Below w.heap.size w w' := by
  obtain ⟨n, hn⟩ : ∃ n, l.length = n := ⟨_, rfl⟩
  have hm : n ≤ 9223372036854775807 := hn ▸ hr.2.1
  rw [hn] at hr ⊢
  have HN := Lib.hid hn
  have HP := Lib.hid hp
  have HR := Lib.hid hr
  have H := Lib.hid h
  clear hn hp hr h
  go_enter Try.func86, Try.ntmps86
  go_wp2_with fail
  go_loopg [5, 8] n (fun gg _ s8 wr => ∃ kk : Nat, kk ≤ n ∧ n - kk ≤ gg ∧ s8 = .int .i64 kk ∧ Aside (Below w.heap.size w wr) ∧ Aside (idxO p kk (l.drop kk) = some r))
  case atStart => exact ⟨0, Nat.zero_le _, by omega, rfl, Below.refl _ w, H.out⟩
  case round =>
    obtain ⟨kk, hkk, hg, rfl, BW, AA⟩ := hrel
    by_cases hlt : kk < n
    · have hltz : (kk : Int) < (n : Int) := by omega
      obtain ⟨ad, rfl, d0, d1, d2, d3⟩ := at_T38 (Kd.C_below HR.out BW.out) (kk : Int) (by omega) hltz
      have hcons : l.drop kk = rd_T38 l kk :: l.drop (kk + 1) := by
        have hk : kk < l.length := by rw [HN.out]; exact hlt
        rw [List.drop_eq_getElem_cons hk]
        congr 1
        unfold rd_T38
        rw [Int.toNat_natCast, List.getD_eq_getElem?_getD, List.getElem?_eq_getElem hk]; rfl
      have HA := AA.out
      rw [hcons, idxO] at HA
      clear AA hcons
      obtain ⟨b, hb, HZ⟩ := Option.bind_eq_some_iff.1 HA
      clear HA
      have hcall := HP.out wr (rd_T38 l kk) b BW.out hb
      simp only [Int.toNat_natCast] at d0 d1 d2 d3
      unfold enc38 at hcall
      have H1 := Lib.hid HZ
      have HB := Lib.hid hb
      clear HZ hb
      cases b with
      | true =>
        go_wp2_with fail
        refine hcall.mono ?_
        rintro e w' ⟨rfl, hb'⟩
        go_wp2_with fail
        go_ret
        have := Option.some.inj H1.out
        exact ⟨by rw [← this]; rfl, bstep BW.out hb'⟩
      | false =>
        go_wp2_with fail
        refine hcall.mono ?_
        rintro e w' ⟨rfl, hb'⟩
        go_wp2_with fail
        go_roundg (n - (kk + 1))
        case measure => omega
        case rel => exact ⟨kk + 1, by omega, by omega, by go_num, bstep BW.out hb', H1.out⟩
    · have hltz : ¬ (kk : Int) < (n : Int) := by omega
      have : kk = n := by omega
      subst this
      go_wp2_with fail
      go_ret
      have h1 := AA.out
      rw [List.drop_eq_nil_of_le (by rw [HN.out]; exact Nat.le_refl _), idxO] at h1
      exact ⟨by rw [← Option.some.inj h1]; rfl, BW.out⟩
set_option maxRecDepth 100000 in
set_option maxHeartbeats 2000000 in
theorem contains_38 (g : Nat) (lb : Array Value) (eg : ∀ args w, (callFunc g args).run Try.prog w = .ok (.enter g args) w) (p : S38 → Option Bool) (A0 : Option Addr) (c : Nat) (l : List S38) (r : Bool) (w : World)
    (hp : ∀ (W : World) (x : S38) (b : Bool), Below w.heap.size w W → p x = some b → Calls Try.prog g (#[enc38 x] ++ lb) W fun e w' => e = .returned (.bool b) ∧ Below W.heap.size W w')
    (hr : Kd.C k38 w A0 l.length l) (h : anyO p l = some r) :
    Calls Try.prog 56 #[.slice A0 l.length c, .func (.func g) #[] lb] w fun e w' => e = .returned (.bool r) ∧ Below w.heap.size w w' := by
  obtain ⟨i, hi, rfl⟩ := idxO_any p l 0 r (Int.le_refl _) h
  have hcall := index_38 g lb eg p A0 c l i w hp hr hi
  clear h hi hp hr
  go_enter Try.func56, Try.ntmps56
  go_wp2_with (go_at_call 86; refine hcall.mono ?_; rintro e w' ⟨rfl, hb'⟩)
  go_ret
  exact ⟨rfl, hb'⟩
end Go.Proofs.Ytnceobnglofnmaa.Base
end
section
/- What sets an effect off, by the document: the loop. -/
namespace Go.Proofs.Ytnceobnglofnmaa.Mat
open Go Go.RowKit Go.Proofs.Ytnceobnglofnmaa.Base Go.Proofs.YtnceobnglofnmaaW.PrintWords Go.Proofs.YtnceobnglofnmaaW.PrintLast Go.Proofs.YtnceobnglofnmaaW.PrintMore Go.Proofs.Ytnceobnglofnmaa.Pmtb
def offP (fits : S38 → Option Bool) (mo mode : Int) (x : S38) : Option Bool := (fits x).bind fun b => some (b && (x.f1 == mo || mode == 4 || mode == 5) && decide (3 ≤ mode) && decide (mode ≤ 5))
theorem bdrewM {w W : World} (h : Below w.heap.size w W) : Below w.heap.size w W.drew := ⟨h.os, h.tape, h.output, h.size, h.block⟩
theorem cell_keep {W w1 : World} {a : Addr} {v : Value} (hb : Below W.heap.size W w1) (h : W.cell? a = some v) : w1.cell? a = some v := (hb.cell (p := a) (World.block_lt_of_cell? W _ h)).trans h
set_option maxRecDepth 100000
set_option maxHeartbeats 4000000
theorem roff (v0 v1 v2 v3 v4 v5 v7 v8 v9 y3 y4 y5 y6 y7 y8 y9 y10 y11 : Value) (who id mode ev side mo : Int) (A0 : Option Addr) (c : Nat) (l : List S38) (r : Bool) (w : World)
    (hr : Kd.C k38 w A0 l.length l) (h : anyO (offP (fun x => joustref11_Fits.f 1 who id ev side x.f0 x.f1 x.f2 x.f3) mo mode) l = some r) :
    Calls Try.prog 19 #[.agg #[v0, v1, v2, v3, v4, v5, .int .i64 mo, v7, v8, v9], .int .u8 who, .int .i64 id, .agg #[.int .u8 mode, .int .u8 ev, .int .u8 side, y3, y4, y5, y6, y7, y8, y9, y10, y11], .slice A0 l.length c] w fun e w' =>
      e = .returned (.bool r) ∧ Below w.heap.size w w' := by
  obtain ⟨n, hn⟩ : ∃ n, l.length = n := ⟨_, rfl⟩
  have hm : n ≤ 9223372036854775807 := hn ▸ hr.2.1
  rw [hn] at hr ⊢
  have HN := Lib.hid hn
  have HR := Lib.hid hr
  have H := Lib.hid h
  clear hn hr h
  have hu28 := Try.underlying28
  have hu34 := Try.underlying34
  have hu38 := Try.underlying38
  go_enter Try.func19, Try.ntmps19
  go_wp2_with fail
  have b0 := (Blk.new w 28 #[v0, v1, v2, v3, v4, v5, .int .i64 mo, v7, v8, v9]).alloc (.cells #[.int .u8 mode, .int .u8 ev, .int .u8 side, y3, y4, y5, y6, y7, y8, y9, y10, y11] 34)
  have b1 := Blk.new (w.alloc (.cells #[v0, v1, v2, v3, v4, v5, .int .i64 mo, v7, v8, v9] 28)) 34 #[.int .u8 mode, .int .u8 ev, .int .u8 side, y3, y4, y5, y6, y7, y8, y9, y10, y11]
  simp only [World.size_alloc] at b1
  have B0 := Lib.hid b0
  have B1 := Lib.hid b1
  clear b0 b1
  go_loopg [11] n (fun gg s11 wr => ∃ kk : Nat, kk ≤ n ∧ n - kk ≤ gg ∧ s11 = .int .i64 kk ∧ Aside (Blk wr w.heap.size 28 #[v0, v1, v2, v3, v4, v5, .int .i64 mo, v7, v8, v9]) ∧ Aside (Blk wr (w.heap.size + 1) 34 #[.int .u8 mode, .int .u8 ev, .int .u8 side, y3, y4, y5, y6, y7, y8, y9, y10, y11]) ∧ Aside (Below w.heap.size w wr) ∧
    Aside (anyO (offP (fun x => joustref11_Fits.f 1 who id ev side x.f0 x.f1 x.f2 x.f3) mo mode) (l.drop kk) = some r))
  case atStart => exact ⟨0, Nat.zero_le _, by omega, rfl, B0.out, B1.out, balloc (balloc (Below.refl _ _) _) _, H.out⟩
  case round =>
    obtain ⟨kk, hkk, hg, rfl, K0, K1, BW, AA⟩ := hrel
    by_cases hlt : kk < n
    · have hltz : (kk : Int) < (n : Int) := by omega
      obtain ⟨ad, rfl, d0, d1, d2, d3⟩ := at_T38 (Kd.C_below HR.out BW.out) (kk : Int) (by omega) hltz
      have hcons : l.drop kk = rd_T38 l kk :: l.drop (kk + 1) := by
        have hk : kk < l.length := by rw [HN.out]; exact hlt
        rw [List.drop_eq_getElem_cons hk]
        congr 1
        unfold rd_T38
        rw [Int.toNat_natCast, List.getD_eq_getElem?_getD, List.getElem?_eq_getElem hk]; rfl
      have HA := AA.out
      rw [hcons, anyO, offP] at HA
      clear AA hcons
      obtain ⟨q, hq, HZ⟩ := Option.bind_eq_some_iff.1 HA
      obtain ⟨b, hb, hq⟩ := Option.bind_eq_some_iff.1 hq
      clear HA
      have hq := Option.some.inj hq
      have hcall := fun W => joustref11_Fits.calls 1 who id ev side _ _ _ _ b W hb
      simp only [Int.toNat_natCast] at d0 d1 d2 d3
      have c6 := K0.out.cell 6
      have e0 := K1.out.cell 0
      have e1 := K1.out.cell 1
      have e2 := K1.out.cell 2
      simp only [List.getElem?_toArray, List.getElem?_cons_zero, List.getElem?_cons_succ] at c6 e0 e1 e2
      have H1 := Lib.hid HZ
      have HQ := Lib.hid hq
      have HC := Lib.hid hcall
      clear HZ hb hq hcall d0 d1 d2 d3 c6 e0 e1 e2
      generalize hx1 : (rd_T38 l kk).f1 = x1 at *
      go_upto_region 4 with (fail)
      go_cut [12] (fun v12 wc => ∃ late : Bool, v12 = .bool late ∧ Aside0 ((x1 == mo || mode == 4 || mode == 5) = late) ∧ Aside0 (Blk wc w.heap.size 28 #[v0, v1, v2, v3, v4, v5, .int .i64 mo, v7, v8, v9]) ∧ Aside0 (Blk wc (w.heap.size + 1) 34 #[.int .u8 mode, .int .u8 ev, .int .u8 side, y3, y4, y5, y6, y7, y8, y9, y10, y11]) ∧ Aside0 (Below w.heap.size w wc))
      case first =>
        obtain ⟨_, ead, d0, d1, d2, d3⟩ := at_T38 (Kd.C_below HR.out BW.out) (kk : Int) (by omega) hltz
        injection ead with ead
        subst ead
        simp only [Int.toNat_natCast] at d0 d1 d2 d3
        rw [hx1] at d1
        have c6 := K0.out.cell 6
        have e0 := K1.out.cell 0
        have e1 := K1.out.cell 1
        have e2 := K1.out.cell 2
        simp only [List.getElem?_toArray, List.getElem?_cons_zero, List.getElem?_cons_succ] at c6 e0 e1 e2
        cases hmo : (x1 == mo) with
        | true =>
          go_quiet (fail)
          all_goals go_wp2_with fail
          go_meet
          case rel => exact ⟨true, rfl, ⟨by rw [hmo]; rfl⟩, ⟨K0.out.drewN _⟩, ⟨K1.out.drewN _⟩, ⟨bdrewN BW.out _⟩⟩
        | false =>
          cases h4 : (mode == 4) with
          | true =>
            go_quiet (fail)
            all_goals go_wp2_with fail
            go_meet
            case rel => exact ⟨true, rfl, ⟨by rw [hmo, h4]; rfl⟩, ⟨K0.out.drewN _⟩, ⟨K1.out.drewN _⟩, ⟨bdrewN BW.out _⟩⟩
          | false =>
            cases h5 : (mode == 5) with
            | true =>
              go_quiet (fail)
              all_goals go_wp2_with fail
              go_meet
              case rel => exact ⟨true, rfl, ⟨by rw [hmo, h4, h5]; rfl⟩, ⟨K0.out.drewN _⟩, ⟨K1.out.drewN _⟩, ⟨bdrewN BW.out _⟩⟩
            | false =>
              go_quiet (fail)
              all_goals go_wp2_with fail
              go_meet
              case rel => exact ⟨false, rfl, ⟨by rw [hmo, h4, h5]; rfl⟩, ⟨K0.out.drewN _⟩, ⟨K1.out.drewN _⟩, ⟨bdrewN BW.out _⟩⟩
      case rest =>
        obtain ⟨late, rfl, HLT, K0, K1, BW⟩ := hcut
        obtain ⟨_, ead, d0, d1, d2, d3⟩ := at_T38 (Kd.C_below HR.out BW.out) (kk : Int) (by omega) hltz
        injection ead with ead
        subst ead
        simp only [Int.toNat_natCast] at d0 d1 d2 d3
        rw [hx1] at d1
        have c6 := K0.out.cell 6
        have e0 := K1.out.cell 0
        have e1 := K1.out.cell 1
        have e2 := K1.out.cell 2
        simp only [List.getElem?_toArray, List.getElem?_cons_zero, List.getElem?_cons_succ] at c6 e0 e1 e2
        have HL0 := Lib.hid HLT.out
        clear HLT
        cases b with
        | false =>
          have q0 : q = false := by rw [← HQ.out]; rfl
          subst q0
          clear HQ
          go_wp2_with fail
          refine start_ (n := 24) (S := (fun w' => w'.cell? (ad.add (kk * 4)) = some (.int .u8 (rd_T38 l kk).f0) ∧ w'.cell? ⟨(ad.add (kk * 4)).block, (ad.add (kk * 4)).off + 1, none⟩ = some (.int .i64 x1) ∧ w'.cell? ⟨(ad.add (kk * 4)).block, (ad.add (kk * 4)).off + 2, none⟩ = some (.int .i64 (rd_T38 l kk).f2) ∧ w'.cell? ⟨(ad.add (kk * 4)).block, (ad.add (kk * 4)).off + 3, none⟩ = some (.int .u8 (rd_T38 l kk).f3) ∧ w'.cell? ⟨w.heap.size, 6, none⟩ = some (.int .i64 mo) ∧ w'.cell? ⟨w.heap.size + 1, 0, none⟩ = some (.int .u8 mode) ∧ w'.cell? ⟨w.heap.size + 1, 1, none⟩ = some (.int .u8 ev) ∧ w'.cell? ⟨w.heap.size + 1, 2, none⟩ = some (.int .u8 side))) (ds := []) #[false, false, false, false, false, false, false, false, false, false, false, false, false, false, false, false, false, false, false, false, false, false, false, false] (by kernel_rfl) rfl (by kernel_rfl) ⟨d0, d1, d2, d3, c6, e0, e1, e2⟩ (fun hHeld => ?_)
          refine pure_ (i := 0) (N := some 37) (v := ?_) (a' := ?_) #[true, false, false, false, false, false, false, false, false, false, false, false, false, false, false, false, false, false, false, false, false, false, false, false] rfl rfl (by kernel_rfl) (fun _ _ _ h => h) (Or.inl ⟨by rfl, ?_⟩) ?_ ?_
          rotate_left
          · intro w'
            go_simp
            with_reducible rfl
          rotate_left
          · simp only [Act.put, List.setIfInBounds_toArray, List.set_cons_zero, List.set_cons_succ]
            rfl
          refine pure_ (i := 1) (N := some 38) (v := ?_) (a' := ?_) #[true, true, false, false, false, false, false, false, false, false, false, false, false, false, false, false, false, false, false, false, false, false, false, false] rfl rfl (by kernel_rfl) (fun _ _ _ h => h) (Or.inl ⟨by rfl, ?_⟩) ?_ ?_
          rotate_left
          · intro w'
            go_simp
            with_reducible rfl
          rotate_left
          · simp only [Act.put, List.setIfInBounds_toArray, List.set_cons_zero, List.set_cons_succ]
            rfl
          refine pure_ (i := 2) (N := some 39) (v := ?_) (a' := ?_) #[true, true, true, false, false, false, false, false, false, false, false, false, false, false, false, false, false, false, false, false, false, false, false, false] rfl rfl (by kernel_rfl) (fun _ _ _ h => h) (Or.inl ⟨by rfl, ?_⟩) ?_ ?_
          rotate_left
          · intro w'
            go_simp
            with_reducible rfl
          rotate_left
          · simp only [Act.put, List.setIfInBounds_toArray, List.set_cons_zero, List.set_cons_succ]
            rfl
          refine pure_ (i := 4) (N := some 41) (v := ?_) (a' := ?_) #[true, true, true, false, true, false, false, false, false, false, false, false, false, false, false, false, false, false, false, false, false, false, false, false] rfl rfl (by kernel_rfl) (fun _ _ _ h => h) (Or.inl ⟨by rfl, ?_⟩) ?_ ?_
          rotate_left
          · intro w'
            go_simp
            with_reducible rfl
          rotate_left
          · simp only [Act.put, List.setIfInBounds_toArray, List.set_cons_zero, List.set_cons_succ]
            rfl
          refine pure_ (i := 6) (N := some 43) (v := ?_) (a' := ?_) #[true, true, true, false, true, false, true, false, false, false, false, false, false, false, false, false, false, false, false, false, false, false, false, false] rfl rfl (by kernel_rfl) (fun _ _ _ h => h) (Or.inl ⟨by rfl, ?_⟩) ?_ ?_
          rotate_left
          · intro w'
            go_simp
            with_reducible rfl
          rotate_left
          · simp only [Act.put, List.setIfInBounds_toArray, List.set_cons_zero, List.set_cons_succ]
            rfl
          refine pure_ (i := 7) (N := some 44) (v := ?_) (a' := ?_) #[true, true, true, false, true, false, true, true, false, false, false, false, false, false, false, false, false, false, false, false, false, false, false, false] rfl rfl (by kernel_rfl) (fun _ _ _ h => h) (Or.inl ⟨by rfl, ?_⟩) ?_ ?_
          rotate_left
          · intro w'
            go_simp
            with_reducible rfl
          rotate_left
          · simp only [Act.put, List.setIfInBounds_toArray, List.set_cons_zero, List.set_cons_succ]
            rfl
          refine pure_ (i := 8) (N := some 45) (v := ?_) (a' := ?_) #[true, true, true, false, true, false, true, true, true, false, false, false, false, false, false, false, false, false, false, false, false, false, false, false] rfl rfl (by kernel_rfl) (fun _ _ _ h => h) (Or.inl ⟨by rfl, ?_⟩) ?_ ?_
          rotate_left
          · intro w'
            go_simp
            with_reducible rfl
          rotate_left
          · simp only [Act.put, List.setIfInBounds_toArray, List.set_cons_zero, List.set_cons_succ]
            rfl
          refine take_ (i := 3) (N := some 40) (v := ?_) (a' := ?_) #[true, true, true, true, true, false, true, true, true, false, false, false, false, false, false, false, false, false, false, false, false, false, false, false] rfl rfl (by kernel_rfl) (fun _ _ _ h => h) (Or.inl ⟨by rfl, ?_⟩) hHeld ?_ ?_
          rotate_left
          · rintro w' ⟨s0, s1, s2, s3, s4, s5, s6, s7⟩
            go_simp
            with_reducible rfl
          rotate_left
          · simp only [Act.put, List.setIfInBounds_toArray, List.set_cons_zero, List.set_cons_succ]
            rfl
          refine take_ (i := 5) (N := some 42) (v := ?_) (a' := ?_) #[true, true, true, true, true, true, true, true, true, false, false, false, false, false, false, false, false, false, false, false, false, false, false, false] rfl rfl (by kernel_rfl) (fun _ _ _ h => h) (Or.inl ⟨by rfl, ?_⟩) hHeld ?_ ?_
          rotate_left
          · rintro w' ⟨s0, s1, s2, s3, s4, s5, s6, s7⟩
            go_simp
            with_reducible rfl
          rotate_left
          · simp only [Act.put, List.setIfInBounds_toArray, List.set_cons_zero, List.set_cons_succ]
            rfl
          refine take_ (i := 9) (N := some 46) (v := ?_) (a' := ?_) #[true, true, true, true, true, true, true, true, true, true, false, false, false, false, false, false, false, false, false, false, false, false, false, false] rfl rfl (by kernel_rfl) (fun _ _ _ h => h) (Or.inl ⟨by rfl, ?_⟩) hHeld ?_ ?_
          rotate_left
          · rintro w' ⟨s0, s1, s2, s3, s4, s5, s6, s7⟩
            go_simp
            with_reducible rfl
          rotate_left
          · simp only [Act.put, List.setIfInBounds_toArray, List.set_cons_zero, List.set_cons_succ]
            rfl
          refine one_ (i := 10) (N := some 47) #[true, true, true, true, true, true, true, true, true, true, true, false, false, false, false, false, false, false, false, false, false, false, false, false] rfl rfl (by kernel_rfl) (by simp) (fun K hK => ?_)
          refine goes_ Try.func18 (by kernel_rfl) rfl #[.int .u8 who, .int .i64 id, .int .u8 ev, .int .u8 side, .agg #[.int .u8 (rd_T38 l kk).f0, .int .i64 x1, .int .i64 (rd_T38 l kk).f2, .int .u8 (rd_T38 l kk).f3]] (by rfl) rfl rfl (by (try simp only [List.map_toArray, List.map_cons, List.map_nil]); first | done | rfl) ?_
          refine (HC.out _).mono ?_
          rintro e w1 ⟨rfl, hb1⟩
          refine ⟨_, rfl, ?_⟩
          obtain ⟨k0, k1, k2, k3, k4, k5, k6, k7⟩ := hHeld
          refine hK.out _ _ ⟨cell_keep hb1 k0, cell_keep hb1 k1, cell_keep hb1 k2, cell_keep hb1 k3, cell_keep hb1 k4, cell_keep hb1 k5, cell_keep hb1 k6, cell_keep hb1 k7⟩ (fun hHeld => ?_)
          clear hK K k0 k1 k2 k3 k4 k5 k6 k7
          refine norm_ (a' := ?_) ?_ ?_
          rotate_left
          · simp only [Act.put, List.setIfInBounds_toArray, List.set_cons_zero, List.set_cons_succ]
            rfl
          refine pure_ (i := 11) (N := some 48) (v := ?_) (a' := ?_) #[true, true, true, true, true, true, true, true, true, true, true, true, false, false, false, false, false, false, false, false, false, false, false, false] rfl rfl (by kernel_rfl) (fun _ _ _ h => h) (Or.inl ⟨by rfl, ?_⟩) ?_ ?_
          rotate_left
          · intro w'
            go_simp
            with_reducible rfl
          rotate_left
          · simp only [Act.put, List.setIfInBounds_toArray, List.set_cons_zero, List.set_cons_succ]
            rfl
          refine pure_ (i := 12) (N := some 49) (v := undef) (a' := _) #[true, true, true, true, true, true, true, true, true, true, true, true, true, false, false, false, false, false, false, false, false, false, false, false] rfl rfl (by kernel_rfl) (fun _ _ _ h => h) (Or.inr ⟨by rfl, rfl⟩) rfl ?_
          refine norm_ (a' := ?_) ?_ ?_
          rotate_left
          · simp only [Act.put, List.setIfInBounds_toArray, List.set_cons_zero, List.set_cons_succ]
            rfl
          refine pure_ (i := 13) (N := some 50) (v := ?_) (a' := ?_) #[true, true, true, true, true, true, true, true, true, true, true, true, true, true, false, false, false, false, false, false, false, false, false, false] rfl rfl (by kernel_rfl) (fun _ _ _ h => h) (Or.inl ⟨by rfl, ?_⟩) ?_ ?_
          rotate_left
          · intro w'
            go_simp
            with_reducible rfl
          rotate_left
          · simp only [Act.put, List.setIfInBounds_toArray, List.set_cons_zero, List.set_cons_succ]
            rfl
          refine pure_ (i := 14) (N := some 51) (v := ?_) (a' := ?_) #[true, true, true, true, true, true, true, true, true, true, true, true, true, true, true, false, false, false, false, false, false, false, false, false] rfl rfl (by kernel_rfl) (fun _ _ _ h => h) (Or.inl ⟨by rfl, ?_⟩) ?_ ?_
          rotate_left
          · intro w'
            go_simp
            with_reducible rfl
          rotate_left
          · simp only [Act.put, List.setIfInBounds_toArray, List.set_cons_zero, List.set_cons_succ]
            rfl
          refine pure_ (i := 15) (N := some 52) (v := undef) (a' := _) #[true, true, true, true, true, true, true, true, true, true, true, true, true, true, true, true, false, false, false, false, false, false, false, false] rfl rfl (by kernel_rfl) (fun _ _ _ h => h) (Or.inr ⟨by rfl, rfl⟩) rfl ?_
          refine norm_ (a' := ?_) ?_ ?_
          rotate_left
          · simp only [Act.put, List.setIfInBounds_toArray, List.set_cons_zero, List.set_cons_succ]
            rfl
          refine pure_ (i := 16) (N := some 53) (v := undef) (a' := _) #[true, true, true, true, true, true, true, true, true, true, true, true, true, true, true, true, true, false, false, false, false, false, false, false] rfl rfl (by kernel_rfl) (fun _ _ _ h => h) (Or.inr ⟨by rfl, rfl⟩) rfl ?_
          refine norm_ (a' := ?_) ?_ ?_
          rotate_left
          · simp only [Act.put, List.setIfInBounds_toArray, List.set_cons_zero, List.set_cons_succ]
            rfl
          refine pure_ (i := 17) (N := some 54) (v := undef) (a' := _) #[true, true, true, true, true, true, true, true, true, true, true, true, true, true, true, true, true, true, false, false, false, false, false, false] rfl rfl (by kernel_rfl) (fun _ _ _ h => h) (Or.inr ⟨by rfl, rfl⟩) rfl ?_
          refine norm_ (a' := ?_) ?_ ?_
          rotate_left
          · simp only [Act.put, List.setIfInBounds_toArray, List.set_cons_zero, List.set_cons_succ]
            rfl
          refine pure_ (i := 18) (N := some 55) (v := ?_) (a' := ?_) #[true, true, true, true, true, true, true, true, true, true, true, true, true, true, true, true, true, true, true, false, false, false, false, false] rfl rfl (by kernel_rfl) (fun _ _ _ h => h) (Or.inl ⟨by rfl, ?_⟩) ?_ ?_
          rotate_left
          · intro w'
            go_simp
            with_reducible rfl
          rotate_left
          · simp only [Act.put, List.setIfInBounds_toArray, List.set_cons_zero, List.set_cons_succ]
            rfl
          refine pure_ (i := 19) (N := some 56) (v := ?_) (a' := ?_) #[true, true, true, true, true, true, true, true, true, true, true, true, true, true, true, true, true, true, true, true, false, false, false, false] rfl rfl (by kernel_rfl) (fun _ _ _ h => h) (Or.inl ⟨by rfl, ?_⟩) ?_ ?_
          rotate_left
          · intro w'
            go_simp
            with_reducible rfl
          rotate_left
          · simp only [Act.put, List.setIfInBounds_toArray, List.set_cons_zero, List.set_cons_succ]
            rfl
          refine pure_ (i := 20) (N := some 57) (v := undef) (a' := _) #[true, true, true, true, true, true, true, true, true, true, true, true, true, true, true, true, true, true, true, true, true, false, false, false] rfl rfl (by kernel_rfl) (fun _ _ _ h => h) (Or.inr ⟨by rfl, rfl⟩) rfl ?_
          refine norm_ (a' := ?_) ?_ ?_
          rotate_left
          · simp only [Act.put, List.setIfInBounds_toArray, List.set_cons_zero, List.set_cons_succ]
            rfl
          refine pure_ (i := 21) (N := some 58) (v := undef) (a' := _) #[true, true, true, true, true, true, true, true, true, true, true, true, true, true, true, true, true, true, true, true, true, true, false, false] rfl rfl (by kernel_rfl) (fun _ _ _ h => h) (Or.inr ⟨by rfl, rfl⟩) rfl ?_
          refine norm_ (a' := ?_) ?_ ?_
          rotate_left
          · simp only [Act.put, List.setIfInBounds_toArray, List.set_cons_zero, List.set_cons_succ]
            rfl
          refine pure_ (i := 22) (N := some 59) (v := undef) (a' := _) #[true, true, true, true, true, true, true, true, true, true, true, true, true, true, true, true, true, true, true, true, true, true, true, false] rfl rfl (by kernel_rfl) (fun _ _ _ h => h) (Or.inr ⟨by rfl, rfl⟩) rfl ?_
          refine norm_ (a' := ?_) ?_ ?_
          rotate_left
          · simp only [Act.put, List.setIfInBounds_toArray, List.set_cons_zero, List.set_cons_succ]
            rfl
          refine pure_ (i := 23) (N := some 60) (v := ?_) (a' := ?_) #[true, true, true, true, true, true, true, true, true, true, true, true, true, true, true, true, true, true, true, true, true, true, true, true] rfl rfl (by kernel_rfl) (fun _ _ _ h => h) (Or.inl ⟨by rfl, ?_⟩) ?_ ?_
          rotate_left
          · intro w'
            go_simp
            with_reducible rfl
          rotate_left
          · simp only [Act.put, List.setIfInBounds_toArray, List.set_cons_zero, List.set_cons_succ]
            rfl
          refine done_ (by kernel_rfl) ?_
          go_wp2_with fail
          go_roundg (n - (kk + 1))
          case measure => omega
          case rel => exact ⟨kk + 1, by omega, by omega, by go_num, (Blk.drew K0.out).after hb1, (Blk.drew K1.out).after hb1, bstep (bdrewM BW.out) hb1, H1.out⟩
        | true =>
          cases late with
          | false =>
            have q0 : q = false := by rw [← HQ.out, HL0.out]; rfl
            subst q0
            clear HQ
            go_wp2_with fail
            refine start_ (n := 24) (S := (fun w' => w'.cell? (ad.add (kk * 4)) = some (.int .u8 (rd_T38 l kk).f0) ∧ w'.cell? ⟨(ad.add (kk * 4)).block, (ad.add (kk * 4)).off + 1, none⟩ = some (.int .i64 x1) ∧ w'.cell? ⟨(ad.add (kk * 4)).block, (ad.add (kk * 4)).off + 2, none⟩ = some (.int .i64 (rd_T38 l kk).f2) ∧ w'.cell? ⟨(ad.add (kk * 4)).block, (ad.add (kk * 4)).off + 3, none⟩ = some (.int .u8 (rd_T38 l kk).f3) ∧ w'.cell? ⟨w.heap.size, 6, none⟩ = some (.int .i64 mo) ∧ w'.cell? ⟨w.heap.size + 1, 0, none⟩ = some (.int .u8 mode) ∧ w'.cell? ⟨w.heap.size + 1, 1, none⟩ = some (.int .u8 ev) ∧ w'.cell? ⟨w.heap.size + 1, 2, none⟩ = some (.int .u8 side))) (ds := []) #[false, false, false, false, false, false, false, false, false, false, false, false, false, false, false, false, false, false, false, false, false, false, false, false] (by kernel_rfl) rfl (by kernel_rfl) ⟨d0, d1, d2, d3, c6, e0, e1, e2⟩ (fun hHeld => ?_)
            refine pure_ (i := 0) (N := some 37) (v := ?_) (a' := ?_) #[true, false, false, false, false, false, false, false, false, false, false, false, false, false, false, false, false, false, false, false, false, false, false, false] rfl rfl (by kernel_rfl) (fun _ _ _ h => h) (Or.inl ⟨by rfl, ?_⟩) ?_ ?_
            rotate_left
            · intro w'
              go_simp
              with_reducible rfl
            rotate_left
            · simp only [Act.put, List.setIfInBounds_toArray, List.set_cons_zero, List.set_cons_succ]
              rfl
            refine pure_ (i := 1) (N := some 38) (v := ?_) (a' := ?_) #[true, true, false, false, false, false, false, false, false, false, false, false, false, false, false, false, false, false, false, false, false, false, false, false] rfl rfl (by kernel_rfl) (fun _ _ _ h => h) (Or.inl ⟨by rfl, ?_⟩) ?_ ?_
            rotate_left
            · intro w'
              go_simp
              with_reducible rfl
            rotate_left
            · simp only [Act.put, List.setIfInBounds_toArray, List.set_cons_zero, List.set_cons_succ]
              rfl
            refine pure_ (i := 2) (N := some 39) (v := ?_) (a' := ?_) #[true, true, true, false, false, false, false, false, false, false, false, false, false, false, false, false, false, false, false, false, false, false, false, false] rfl rfl (by kernel_rfl) (fun _ _ _ h => h) (Or.inl ⟨by rfl, ?_⟩) ?_ ?_
            rotate_left
            · intro w'
              go_simp
              with_reducible rfl
            rotate_left
            · simp only [Act.put, List.setIfInBounds_toArray, List.set_cons_zero, List.set_cons_succ]
              rfl
            refine pure_ (i := 4) (N := some 41) (v := ?_) (a' := ?_) #[true, true, true, false, true, false, false, false, false, false, false, false, false, false, false, false, false, false, false, false, false, false, false, false] rfl rfl (by kernel_rfl) (fun _ _ _ h => h) (Or.inl ⟨by rfl, ?_⟩) ?_ ?_
            rotate_left
            · intro w'
              go_simp
              with_reducible rfl
            rotate_left
            · simp only [Act.put, List.setIfInBounds_toArray, List.set_cons_zero, List.set_cons_succ]
              rfl
            refine pure_ (i := 6) (N := some 43) (v := ?_) (a' := ?_) #[true, true, true, false, true, false, true, false, false, false, false, false, false, false, false, false, false, false, false, false, false, false, false, false] rfl rfl (by kernel_rfl) (fun _ _ _ h => h) (Or.inl ⟨by rfl, ?_⟩) ?_ ?_
            rotate_left
            · intro w'
              go_simp
              with_reducible rfl
            rotate_left
            · simp only [Act.put, List.setIfInBounds_toArray, List.set_cons_zero, List.set_cons_succ]
              rfl
            refine pure_ (i := 7) (N := some 44) (v := ?_) (a' := ?_) #[true, true, true, false, true, false, true, true, false, false, false, false, false, false, false, false, false, false, false, false, false, false, false, false] rfl rfl (by kernel_rfl) (fun _ _ _ h => h) (Or.inl ⟨by rfl, ?_⟩) ?_ ?_
            rotate_left
            · intro w'
              go_simp
              with_reducible rfl
            rotate_left
            · simp only [Act.put, List.setIfInBounds_toArray, List.set_cons_zero, List.set_cons_succ]
              rfl
            refine pure_ (i := 8) (N := some 45) (v := ?_) (a' := ?_) #[true, true, true, false, true, false, true, true, true, false, false, false, false, false, false, false, false, false, false, false, false, false, false, false] rfl rfl (by kernel_rfl) (fun _ _ _ h => h) (Or.inl ⟨by rfl, ?_⟩) ?_ ?_
            rotate_left
            · intro w'
              go_simp
              with_reducible rfl
            rotate_left
            · simp only [Act.put, List.setIfInBounds_toArray, List.set_cons_zero, List.set_cons_succ]
              rfl
            refine take_ (i := 3) (N := some 40) (v := ?_) (a' := ?_) #[true, true, true, true, true, false, true, true, true, false, false, false, false, false, false, false, false, false, false, false, false, false, false, false] rfl rfl (by kernel_rfl) (fun _ _ _ h => h) (Or.inl ⟨by rfl, ?_⟩) hHeld ?_ ?_
            rotate_left
            · rintro w' ⟨s0, s1, s2, s3, s4, s5, s6, s7⟩
              go_simp
              with_reducible rfl
            rotate_left
            · simp only [Act.put, List.setIfInBounds_toArray, List.set_cons_zero, List.set_cons_succ]
              rfl
            refine take_ (i := 5) (N := some 42) (v := ?_) (a' := ?_) #[true, true, true, true, true, true, true, true, true, false, false, false, false, false, false, false, false, false, false, false, false, false, false, false] rfl rfl (by kernel_rfl) (fun _ _ _ h => h) (Or.inl ⟨by rfl, ?_⟩) hHeld ?_ ?_
            rotate_left
            · rintro w' ⟨s0, s1, s2, s3, s4, s5, s6, s7⟩
              go_simp
              with_reducible rfl
            rotate_left
            · simp only [Act.put, List.setIfInBounds_toArray, List.set_cons_zero, List.set_cons_succ]
              rfl
            refine take_ (i := 9) (N := some 46) (v := ?_) (a' := ?_) #[true, true, true, true, true, true, true, true, true, true, false, false, false, false, false, false, false, false, false, false, false, false, false, false] rfl rfl (by kernel_rfl) (fun _ _ _ h => h) (Or.inl ⟨by rfl, ?_⟩) hHeld ?_ ?_
            rotate_left
            · rintro w' ⟨s0, s1, s2, s3, s4, s5, s6, s7⟩
              go_simp
              with_reducible rfl
            rotate_left
            · simp only [Act.put, List.setIfInBounds_toArray, List.set_cons_zero, List.set_cons_succ]
              rfl
            refine one_ (i := 10) (N := some 47) #[true, true, true, true, true, true, true, true, true, true, true, false, false, false, false, false, false, false, false, false, false, false, false, false] rfl rfl (by kernel_rfl) (by simp) (fun K hK => ?_)
            refine goes_ Try.func18 (by kernel_rfl) rfl #[.int .u8 who, .int .i64 id, .int .u8 ev, .int .u8 side, .agg #[.int .u8 (rd_T38 l kk).f0, .int .i64 x1, .int .i64 (rd_T38 l kk).f2, .int .u8 (rd_T38 l kk).f3]] (by rfl) rfl rfl (by (try simp only [List.map_toArray, List.map_cons, List.map_nil]); first | done | rfl) ?_
            refine (HC.out _).mono ?_
            rintro e w1 ⟨rfl, hb1⟩
            refine ⟨_, rfl, ?_⟩
            obtain ⟨k0, k1, k2, k3, k4, k5, k6, k7⟩ := hHeld
            refine hK.out _ _ ⟨cell_keep hb1 k0, cell_keep hb1 k1, cell_keep hb1 k2, cell_keep hb1 k3, cell_keep hb1 k4, cell_keep hb1 k5, cell_keep hb1 k6, cell_keep hb1 k7⟩ (fun hHeld => ?_)
            clear hK K k0 k1 k2 k3 k4 k5 k6 k7
            refine norm_ (a' := ?_) ?_ ?_
            rotate_left
            · simp only [Act.put, List.setIfInBounds_toArray, List.set_cons_zero, List.set_cons_succ]
              rfl
            refine pure_ (i := 11) (N := some 48) (v := ?_) (a' := ?_) #[true, true, true, true, true, true, true, true, true, true, true, true, false, false, false, false, false, false, false, false, false, false, false, false] rfl rfl (by kernel_rfl) (fun _ _ _ h => h) (Or.inl ⟨by rfl, ?_⟩) ?_ ?_
            rotate_left
            · intro w'
              go_simp
              with_reducible rfl
            rotate_left
            · simp only [Act.put, List.setIfInBounds_toArray, List.set_cons_zero, List.set_cons_succ]
              rfl
            refine pure_ (i := 12) (N := some 49) (v := ?_) (a' := ?_) #[true, true, true, true, true, true, true, true, true, true, true, true, true, false, false, false, false, false, false, false, false, false, false, false] rfl rfl (by kernel_rfl) (fun _ _ _ h => h) (Or.inl ⟨by rfl, ?_⟩) ?_ ?_
            rotate_left
            · intro w'
              go_simp
              with_reducible rfl
            rotate_left
            · simp only [Act.put, List.setIfInBounds_toArray, List.set_cons_zero, List.set_cons_succ]
              rfl
            refine pure_ (i := 13) (N := some 50) (v := ?_) (a' := ?_) #[true, true, true, true, true, true, true, true, true, true, true, true, true, true, false, false, false, false, false, false, false, false, false, false] rfl rfl (by kernel_rfl) (fun _ _ _ h => h) (Or.inl ⟨by rfl, ?_⟩) ?_ ?_
            rotate_left
            · intro w'
              go_simp
              with_reducible rfl
            rotate_left
            · simp only [Act.put, List.setIfInBounds_toArray, List.set_cons_zero, List.set_cons_succ]
              rfl
            refine pure_ (i := 14) (N := some 51) (v := ?_) (a' := ?_) #[true, true, true, true, true, true, true, true, true, true, true, true, true, true, true, false, false, false, false, false, false, false, false, false] rfl rfl (by kernel_rfl) (fun _ _ _ h => h) (Or.inl ⟨by rfl, ?_⟩) ?_ ?_
            rotate_left
            · intro w'
              go_simp
              with_reducible rfl
            rotate_left
            · simp only [Act.put, List.setIfInBounds_toArray, List.set_cons_zero, List.set_cons_succ]
              rfl
            refine pure_ (i := 15) (N := some 52) (v := undef) (a' := _) #[true, true, true, true, true, true, true, true, true, true, true, true, true, true, true, true, false, false, false, false, false, false, false, false] rfl rfl (by kernel_rfl) (fun _ _ _ h => h) (Or.inr ⟨by rfl, rfl⟩) rfl ?_
            refine norm_ (a' := ?_) ?_ ?_
            rotate_left
            · simp only [Act.put, List.setIfInBounds_toArray, List.set_cons_zero, List.set_cons_succ]
              rfl
            refine pure_ (i := 16) (N := some 53) (v := undef) (a' := _) #[true, true, true, true, true, true, true, true, true, true, true, true, true, true, true, true, true, false, false, false, false, false, false, false] rfl rfl (by kernel_rfl) (fun _ _ _ h => h) (Or.inr ⟨by rfl, rfl⟩) rfl ?_
            refine norm_ (a' := ?_) ?_ ?_
            rotate_left
            · simp only [Act.put, List.setIfInBounds_toArray, List.set_cons_zero, List.set_cons_succ]
              rfl
            refine pure_ (i := 17) (N := some 54) (v := undef) (a' := _) #[true, true, true, true, true, true, true, true, true, true, true, true, true, true, true, true, true, true, false, false, false, false, false, false] rfl rfl (by kernel_rfl) (fun _ _ _ h => h) (Or.inr ⟨by rfl, rfl⟩) rfl ?_
            refine norm_ (a' := ?_) ?_ ?_
            rotate_left
            · simp only [Act.put, List.setIfInBounds_toArray, List.set_cons_zero, List.set_cons_succ]
              rfl
            refine pure_ (i := 18) (N := some 55) (v := ?_) (a' := ?_) #[true, true, true, true, true, true, true, true, true, true, true, true, true, true, true, true, true, true, true, false, false, false, false, false] rfl rfl (by kernel_rfl) (fun _ _ _ h => h) (Or.inl ⟨by rfl, ?_⟩) ?_ ?_
            rotate_left
            · intro w'
              go_simp
              with_reducible rfl
            rotate_left
            · simp only [Act.put, List.setIfInBounds_toArray, List.set_cons_zero, List.set_cons_succ]
              rfl
            refine pure_ (i := 19) (N := some 56) (v := ?_) (a' := ?_) #[true, true, true, true, true, true, true, true, true, true, true, true, true, true, true, true, true, true, true, true, false, false, false, false] rfl rfl (by kernel_rfl) (fun _ _ _ h => h) (Or.inl ⟨by rfl, ?_⟩) ?_ ?_
            rotate_left
            · intro w'
              go_simp
              with_reducible rfl
            rotate_left
            · simp only [Act.put, List.setIfInBounds_toArray, List.set_cons_zero, List.set_cons_succ]
              rfl
            refine pure_ (i := 20) (N := some 57) (v := undef) (a' := _) #[true, true, true, true, true, true, true, true, true, true, true, true, true, true, true, true, true, true, true, true, true, false, false, false] rfl rfl (by kernel_rfl) (fun _ _ _ h => h) (Or.inr ⟨by rfl, rfl⟩) rfl ?_
            refine norm_ (a' := ?_) ?_ ?_
            rotate_left
            · simp only [Act.put, List.setIfInBounds_toArray, List.set_cons_zero, List.set_cons_succ]
              rfl
            refine pure_ (i := 21) (N := some 58) (v := undef) (a' := _) #[true, true, true, true, true, true, true, true, true, true, true, true, true, true, true, true, true, true, true, true, true, true, false, false] rfl rfl (by kernel_rfl) (fun _ _ _ h => h) (Or.inr ⟨by rfl, rfl⟩) rfl ?_
            refine norm_ (a' := ?_) ?_ ?_
            rotate_left
            · simp only [Act.put, List.setIfInBounds_toArray, List.set_cons_zero, List.set_cons_succ]
              rfl
            refine pure_ (i := 22) (N := some 59) (v := undef) (a' := _) #[true, true, true, true, true, true, true, true, true, true, true, true, true, true, true, true, true, true, true, true, true, true, true, false] rfl rfl (by kernel_rfl) (fun _ _ _ h => h) (Or.inr ⟨by rfl, rfl⟩) rfl ?_
            refine norm_ (a' := ?_) ?_ ?_
            rotate_left
            · simp only [Act.put, List.setIfInBounds_toArray, List.set_cons_zero, List.set_cons_succ]
              rfl
            refine pure_ (i := 23) (N := some 60) (v := ?_) (a' := ?_) #[true, true, true, true, true, true, true, true, true, true, true, true, true, true, true, true, true, true, true, true, true, true, true, true] rfl rfl (by kernel_rfl) (fun _ _ _ h => h) (Or.inl ⟨by rfl, ?_⟩) ?_ ?_
            rotate_left
            · intro w'
              go_simp
              with_reducible rfl
            rotate_left
            · simp only [Act.put, List.setIfInBounds_toArray, List.set_cons_zero, List.set_cons_succ]
              rfl
            refine done_ (by kernel_rfl) ?_
            go_wp2_with fail
            go_roundg (n - (kk + 1))
            case measure => omega
            case rel => exact ⟨kk + 1, by omega, by omega, by go_num, (Blk.drew K0.out).after hb1, (Blk.drew K1.out).after hb1, bstep (bdrewM BW.out) hb1, H1.out⟩
          | true =>
            by_cases h3 : 3 ≤ mode
            · by_cases h5 : mode ≤ 5
              · have e3 : decide (3 ≤ mode) = true := decide_eq_true h3
                have e5 : decide (mode ≤ 5) = true := decide_eq_true h5
                have q0 : q = true := by rw [← HQ.out, HL0.out, e3, e5]; rfl
                subst q0
                clear HQ
                go_wp2_with fail
                refine start_ (n := 24) (S := (fun w' => w'.cell? (ad.add (kk * 4)) = some (.int .u8 (rd_T38 l kk).f0) ∧ w'.cell? ⟨(ad.add (kk * 4)).block, (ad.add (kk * 4)).off + 1, none⟩ = some (.int .i64 x1) ∧ w'.cell? ⟨(ad.add (kk * 4)).block, (ad.add (kk * 4)).off + 2, none⟩ = some (.int .i64 (rd_T38 l kk).f2) ∧ w'.cell? ⟨(ad.add (kk * 4)).block, (ad.add (kk * 4)).off + 3, none⟩ = some (.int .u8 (rd_T38 l kk).f3) ∧ w'.cell? ⟨w.heap.size, 6, none⟩ = some (.int .i64 mo) ∧ w'.cell? ⟨w.heap.size + 1, 0, none⟩ = some (.int .u8 mode) ∧ w'.cell? ⟨w.heap.size + 1, 1, none⟩ = some (.int .u8 ev) ∧ w'.cell? ⟨w.heap.size + 1, 2, none⟩ = some (.int .u8 side))) (ds := []) #[false, false, false, false, false, false, false, false, false, false, false, false, false, false, false, false, false, false, false, false, false, false, false, false] (by kernel_rfl) rfl (by kernel_rfl) ⟨d0, d1, d2, d3, c6, e0, e1, e2⟩ (fun hHeld => ?_)
                refine pure_ (i := 0) (N := some 37) (v := ?_) (a' := ?_) #[true, false, false, false, false, false, false, false, false, false, false, false, false, false, false, false, false, false, false, false, false, false, false, false] rfl rfl (by kernel_rfl) (fun _ _ _ h => h) (Or.inl ⟨by rfl, ?_⟩) ?_ ?_
                rotate_left
                · intro w'
                  go_simp
                  with_reducible rfl
                rotate_left
                · simp only [Act.put, List.setIfInBounds_toArray, List.set_cons_zero, List.set_cons_succ]
                  rfl
                refine pure_ (i := 1) (N := some 38) (v := ?_) (a' := ?_) #[true, true, false, false, false, false, false, false, false, false, false, false, false, false, false, false, false, false, false, false, false, false, false, false] rfl rfl (by kernel_rfl) (fun _ _ _ h => h) (Or.inl ⟨by rfl, ?_⟩) ?_ ?_
                rotate_left
                · intro w'
                  go_simp
                  with_reducible rfl
                rotate_left
                · simp only [Act.put, List.setIfInBounds_toArray, List.set_cons_zero, List.set_cons_succ]
                  rfl
                refine pure_ (i := 2) (N := some 39) (v := ?_) (a' := ?_) #[true, true, true, false, false, false, false, false, false, false, false, false, false, false, false, false, false, false, false, false, false, false, false, false] rfl rfl (by kernel_rfl) (fun _ _ _ h => h) (Or.inl ⟨by rfl, ?_⟩) ?_ ?_
                rotate_left
                · intro w'
                  go_simp
                  with_reducible rfl
                rotate_left
                · simp only [Act.put, List.setIfInBounds_toArray, List.set_cons_zero, List.set_cons_succ]
                  rfl
                refine pure_ (i := 4) (N := some 41) (v := ?_) (a' := ?_) #[true, true, true, false, true, false, false, false, false, false, false, false, false, false, false, false, false, false, false, false, false, false, false, false] rfl rfl (by kernel_rfl) (fun _ _ _ h => h) (Or.inl ⟨by rfl, ?_⟩) ?_ ?_
                rotate_left
                · intro w'
                  go_simp
                  with_reducible rfl
                rotate_left
                · simp only [Act.put, List.setIfInBounds_toArray, List.set_cons_zero, List.set_cons_succ]
                  rfl
                refine pure_ (i := 6) (N := some 43) (v := ?_) (a' := ?_) #[true, true, true, false, true, false, true, false, false, false, false, false, false, false, false, false, false, false, false, false, false, false, false, false] rfl rfl (by kernel_rfl) (fun _ _ _ h => h) (Or.inl ⟨by rfl, ?_⟩) ?_ ?_
                rotate_left
                · intro w'
                  go_simp
                  with_reducible rfl
                rotate_left
                · simp only [Act.put, List.setIfInBounds_toArray, List.set_cons_zero, List.set_cons_succ]
                  rfl
                refine pure_ (i := 7) (N := some 44) (v := ?_) (a' := ?_) #[true, true, true, false, true, false, true, true, false, false, false, false, false, false, false, false, false, false, false, false, false, false, false, false] rfl rfl (by kernel_rfl) (fun _ _ _ h => h) (Or.inl ⟨by rfl, ?_⟩) ?_ ?_
                rotate_left
                · intro w'
                  go_simp
                  with_reducible rfl
                rotate_left
                · simp only [Act.put, List.setIfInBounds_toArray, List.set_cons_zero, List.set_cons_succ]
                  rfl
                refine pure_ (i := 8) (N := some 45) (v := ?_) (a' := ?_) #[true, true, true, false, true, false, true, true, true, false, false, false, false, false, false, false, false, false, false, false, false, false, false, false] rfl rfl (by kernel_rfl) (fun _ _ _ h => h) (Or.inl ⟨by rfl, ?_⟩) ?_ ?_
                rotate_left
                · intro w'
                  go_simp
                  with_reducible rfl
                rotate_left
                · simp only [Act.put, List.setIfInBounds_toArray, List.set_cons_zero, List.set_cons_succ]
                  rfl
                refine take_ (i := 3) (N := some 40) (v := ?_) (a' := ?_) #[true, true, true, true, true, false, true, true, true, false, false, false, false, false, false, false, false, false, false, false, false, false, false, false] rfl rfl (by kernel_rfl) (fun _ _ _ h => h) (Or.inl ⟨by rfl, ?_⟩) hHeld ?_ ?_
                rotate_left
                · rintro w' ⟨s0, s1, s2, s3, s4, s5, s6, s7⟩
                  go_simp
                  with_reducible rfl
                rotate_left
                · simp only [Act.put, List.setIfInBounds_toArray, List.set_cons_zero, List.set_cons_succ]
                  rfl
                refine take_ (i := 5) (N := some 42) (v := ?_) (a' := ?_) #[true, true, true, true, true, true, true, true, true, false, false, false, false, false, false, false, false, false, false, false, false, false, false, false] rfl rfl (by kernel_rfl) (fun _ _ _ h => h) (Or.inl ⟨by rfl, ?_⟩) hHeld ?_ ?_
                rotate_left
                · rintro w' ⟨s0, s1, s2, s3, s4, s5, s6, s7⟩
                  go_simp
                  with_reducible rfl
                rotate_left
                · simp only [Act.put, List.setIfInBounds_toArray, List.set_cons_zero, List.set_cons_succ]
                  rfl
                refine take_ (i := 9) (N := some 46) (v := ?_) (a' := ?_) #[true, true, true, true, true, true, true, true, true, true, false, false, false, false, false, false, false, false, false, false, false, false, false, false] rfl rfl (by kernel_rfl) (fun _ _ _ h => h) (Or.inl ⟨by rfl, ?_⟩) hHeld ?_ ?_
                rotate_left
                · rintro w' ⟨s0, s1, s2, s3, s4, s5, s6, s7⟩
                  go_simp
                  with_reducible rfl
                rotate_left
                · simp only [Act.put, List.setIfInBounds_toArray, List.set_cons_zero, List.set_cons_succ]
                  rfl
                refine one_ (i := 10) (N := some 47) #[true, true, true, true, true, true, true, true, true, true, true, false, false, false, false, false, false, false, false, false, false, false, false, false] rfl rfl (by kernel_rfl) (by simp) (fun K hK => ?_)
                refine goes_ Try.func18 (by kernel_rfl) rfl #[.int .u8 who, .int .i64 id, .int .u8 ev, .int .u8 side, .agg #[.int .u8 (rd_T38 l kk).f0, .int .i64 x1, .int .i64 (rd_T38 l kk).f2, .int .u8 (rd_T38 l kk).f3]] (by rfl) rfl rfl (by (try simp only [List.map_toArray, List.map_cons, List.map_nil]); first | done | rfl) ?_
                refine (HC.out _).mono ?_
                rintro e w1 ⟨rfl, hb1⟩
                refine ⟨_, rfl, ?_⟩
                obtain ⟨k0, k1, k2, k3, k4, k5, k6, k7⟩ := hHeld
                refine hK.out _ _ ⟨cell_keep hb1 k0, cell_keep hb1 k1, cell_keep hb1 k2, cell_keep hb1 k3, cell_keep hb1 k4, cell_keep hb1 k5, cell_keep hb1 k6, cell_keep hb1 k7⟩ (fun hHeld => ?_)
                clear hK K k0 k1 k2 k3 k4 k5 k6 k7
                refine norm_ (a' := ?_) ?_ ?_
                rotate_left
                · simp only [Act.put, List.setIfInBounds_toArray, List.set_cons_zero, List.set_cons_succ]
                  rfl
                refine pure_ (i := 11) (N := some 48) (v := ?_) (a' := ?_) #[true, true, true, true, true, true, true, true, true, true, true, true, false, false, false, false, false, false, false, false, false, false, false, false] rfl rfl (by kernel_rfl) (fun _ _ _ h => h) (Or.inl ⟨by rfl, ?_⟩) ?_ ?_
                rotate_left
                · intro w'
                  go_simp
                  with_reducible rfl
                rotate_left
                · simp only [Act.put, List.setIfInBounds_toArray, List.set_cons_zero, List.set_cons_succ]
                  rfl
                refine pure_ (i := 12) (N := some 49) (v := ?_) (a' := ?_) #[true, true, true, true, true, true, true, true, true, true, true, true, true, false, false, false, false, false, false, false, false, false, false, false] rfl rfl (by kernel_rfl) (fun _ _ _ h => h) (Or.inl ⟨by rfl, ?_⟩) ?_ ?_
                rotate_left
                · intro w'
                  go_simp
                  with_reducible rfl
                rotate_left
                · simp only [Act.put, List.setIfInBounds_toArray, List.set_cons_zero, List.set_cons_succ]
                  rfl
                refine pure_ (i := 13) (N := some 50) (v := ?_) (a' := ?_) #[true, true, true, true, true, true, true, true, true, true, true, true, true, true, false, false, false, false, false, false, false, false, false, false] rfl rfl (by kernel_rfl) (fun _ _ _ h => h) (Or.inl ⟨by rfl, ?_⟩) ?_ ?_
                rotate_left
                · intro w'
                  go_simp
                  with_reducible rfl
                rotate_left
                · simp only [Act.put, List.setIfInBounds_toArray, List.set_cons_zero, List.set_cons_succ]
                  rfl
                refine pure_ (i := 14) (N := some 51) (v := ?_) (a' := ?_) #[true, true, true, true, true, true, true, true, true, true, true, true, true, true, true, false, false, false, false, false, false, false, false, false] rfl rfl (by kernel_rfl) (fun _ _ _ h => h) (Or.inl ⟨by rfl, ?_⟩) ?_ ?_
                rotate_left
                · intro w'
                  go_simp
                  with_reducible rfl
                rotate_left
                · simp only [Act.put, List.setIfInBounds_toArray, List.set_cons_zero, List.set_cons_succ]
                  rfl
                refine pure_ (i := 15) (N := some 52) (v := ?_) (a' := ?_) #[true, true, true, true, true, true, true, true, true, true, true, true, true, true, true, true, false, false, false, false, false, false, false, false] rfl rfl (by kernel_rfl) (fun _ _ _ h => h) (Or.inl ⟨by rfl, ?_⟩) ?_ ?_
                rotate_left
                · intro w'
                  go_simp
                  with_reducible rfl
                rotate_left
                · simp only [Act.put, List.setIfInBounds_toArray, List.set_cons_zero, List.set_cons_succ]
                  rfl
                refine take_ (i := 16) (N := some 53) (v := ?_) (a' := ?_) #[true, true, true, true, true, true, true, true, true, true, true, true, true, true, true, true, true, false, false, false, false, false, false, false] rfl rfl (by kernel_rfl) (fun _ _ _ h => h) (Or.inl ⟨by rfl, ?_⟩) hHeld ?_ ?_
                rotate_left
                · rintro w' ⟨s0, s1, s2, s3, s4, s5, s6, s7⟩
                  go_simp
                  with_reducible rfl
                rotate_left
                · simp only [Act.put, List.setIfInBounds_toArray, List.set_cons_zero, List.set_cons_succ]
                  rfl
                refine pure_ (i := 17) (N := some 54) (v := ?_) (a' := ?_) #[true, true, true, true, true, true, true, true, true, true, true, true, true, true, true, true, true, true, false, false, false, false, false, false] rfl rfl (by kernel_rfl) (fun _ _ _ h => h) (Or.inl ⟨by rfl, ?_⟩) ?_ ?_
                rotate_left
                · intro w'
                  go_simp
                  with_reducible rfl
                rotate_left
                · simp only [Act.put, List.setIfInBounds_toArray, List.set_cons_zero, List.set_cons_succ]
                  rfl
                refine pure_ (i := 18) (N := some 55) (v := ?_) (a' := ?_) #[true, true, true, true, true, true, true, true, true, true, true, true, true, true, true, true, true, true, true, false, false, false, false, false] rfl rfl (by kernel_rfl) (fun _ _ _ h => h) (Or.inl ⟨by rfl, ?_⟩) ?_ ?_
                rotate_left
                · intro w'
                  go_simp
                  with_reducible rfl
                rotate_left
                · simp only [Act.put, List.setIfInBounds_toArray, List.set_cons_zero, List.set_cons_succ]
                  rfl
                refine pure_ (i := 19) (N := some 56) (v := ?_) (a' := ?_) #[true, true, true, true, true, true, true, true, true, true, true, true, true, true, true, true, true, true, true, true, false, false, false, false] rfl rfl (by kernel_rfl) (fun _ _ _ h => h) (Or.inl ⟨by rfl, ?_⟩) ?_ ?_
                rotate_left
                · intro w'
                  go_simp
                  with_reducible rfl
                rotate_left
                · simp only [Act.put, List.setIfInBounds_toArray, List.set_cons_zero, List.set_cons_succ]
                  rfl
                refine pure_ (i := 20) (N := some 57) (v := ?_) (a' := ?_) #[true, true, true, true, true, true, true, true, true, true, true, true, true, true, true, true, true, true, true, true, true, false, false, false] rfl rfl (by kernel_rfl) (fun _ _ _ h => h) (Or.inl ⟨by rfl, ?_⟩) ?_ ?_
                rotate_left
                · intro w'
                  go_simp
                  with_reducible rfl
                rotate_left
                · simp only [Act.put, List.setIfInBounds_toArray, List.set_cons_zero, List.set_cons_succ]
                  rfl
                refine take_ (i := 21) (N := some 58) (v := ?_) (a' := ?_) #[true, true, true, true, true, true, true, true, true, true, true, true, true, true, true, true, true, true, true, true, true, true, false, false] rfl rfl (by kernel_rfl) (fun _ _ _ h => h) (Or.inl ⟨by rfl, ?_⟩) hHeld ?_ ?_
                rotate_left
                · rintro w' ⟨s0, s1, s2, s3, s4, s5, s6, s7⟩
                  go_simp
                  with_reducible rfl
                rotate_left
                · simp only [Act.put, List.setIfInBounds_toArray, List.set_cons_zero, List.set_cons_succ]
                  rfl
                refine pure_ (i := 22) (N := some 59) (v := ?_) (a' := ?_) #[true, true, true, true, true, true, true, true, true, true, true, true, true, true, true, true, true, true, true, true, true, true, true, false] rfl rfl (by kernel_rfl) (fun _ _ _ h => h) (Or.inl ⟨by rfl, ?_⟩) ?_ ?_
                rotate_left
                · intro w'
                  go_simp
                  with_reducible rfl
                rotate_left
                · simp only [Act.put, List.setIfInBounds_toArray, List.set_cons_zero, List.set_cons_succ]
                  rfl
                refine pure_ (i := 23) (N := some 60) (v := ?_) (a' := ?_) #[true, true, true, true, true, true, true, true, true, true, true, true, true, true, true, true, true, true, true, true, true, true, true, true] rfl rfl (by kernel_rfl) (fun _ _ _ h => h) (Or.inl ⟨by rfl, ?_⟩) ?_ ?_
                rotate_left
                · intro w'
                  go_simp
                  with_reducible rfl
                rotate_left
                · simp only [Act.put, List.setIfInBounds_toArray, List.set_cons_zero, List.set_cons_succ]
                  rfl
                refine done_ (by kernel_rfl) ?_
                go_wp2_with fail
                go_ret
                exact ⟨by rw [← Option.some.inj H1.out]; rfl, bstep (bdrewM BW.out) hb1⟩
              · have e3 : decide (3 ≤ mode) = true := decide_eq_true h3
                have e5 : decide (mode ≤ 5) = false := decide_eq_false h5
                have q0 : q = false := by rw [← HQ.out, HL0.out, e3, e5]; rfl
                subst q0
                clear HQ
                go_wp2_with fail
                refine start_ (n := 24) (S := (fun w' => w'.cell? (ad.add (kk * 4)) = some (.int .u8 (rd_T38 l kk).f0) ∧ w'.cell? ⟨(ad.add (kk * 4)).block, (ad.add (kk * 4)).off + 1, none⟩ = some (.int .i64 x1) ∧ w'.cell? ⟨(ad.add (kk * 4)).block, (ad.add (kk * 4)).off + 2, none⟩ = some (.int .i64 (rd_T38 l kk).f2) ∧ w'.cell? ⟨(ad.add (kk * 4)).block, (ad.add (kk * 4)).off + 3, none⟩ = some (.int .u8 (rd_T38 l kk).f3) ∧ w'.cell? ⟨w.heap.size, 6, none⟩ = some (.int .i64 mo) ∧ w'.cell? ⟨w.heap.size + 1, 0, none⟩ = some (.int .u8 mode) ∧ w'.cell? ⟨w.heap.size + 1, 1, none⟩ = some (.int .u8 ev) ∧ w'.cell? ⟨w.heap.size + 1, 2, none⟩ = some (.int .u8 side))) (ds := []) #[false, false, false, false, false, false, false, false, false, false, false, false, false, false, false, false, false, false, false, false, false, false, false, false] (by kernel_rfl) rfl (by kernel_rfl) ⟨d0, d1, d2, d3, c6, e0, e1, e2⟩ (fun hHeld => ?_)
                refine pure_ (i := 0) (N := some 37) (v := ?_) (a' := ?_) #[true, false, false, false, false, false, false, false, false, false, false, false, false, false, false, false, false, false, false, false, false, false, false, false] rfl rfl (by kernel_rfl) (fun _ _ _ h => h) (Or.inl ⟨by rfl, ?_⟩) ?_ ?_
                rotate_left
                · intro w'
                  go_simp
                  with_reducible rfl
                rotate_left
                · simp only [Act.put, List.setIfInBounds_toArray, List.set_cons_zero, List.set_cons_succ]
                  rfl
                refine pure_ (i := 1) (N := some 38) (v := ?_) (a' := ?_) #[true, true, false, false, false, false, false, false, false, false, false, false, false, false, false, false, false, false, false, false, false, false, false, false] rfl rfl (by kernel_rfl) (fun _ _ _ h => h) (Or.inl ⟨by rfl, ?_⟩) ?_ ?_
                rotate_left
                · intro w'
                  go_simp
                  with_reducible rfl
                rotate_left
                · simp only [Act.put, List.setIfInBounds_toArray, List.set_cons_zero, List.set_cons_succ]
                  rfl
                refine pure_ (i := 2) (N := some 39) (v := ?_) (a' := ?_) #[true, true, true, false, false, false, false, false, false, false, false, false, false, false, false, false, false, false, false, false, false, false, false, false] rfl rfl (by kernel_rfl) (fun _ _ _ h => h) (Or.inl ⟨by rfl, ?_⟩) ?_ ?_
                rotate_left
                · intro w'
                  go_simp
                  with_reducible rfl
                rotate_left
                · simp only [Act.put, List.setIfInBounds_toArray, List.set_cons_zero, List.set_cons_succ]
                  rfl
                refine pure_ (i := 4) (N := some 41) (v := ?_) (a' := ?_) #[true, true, true, false, true, false, false, false, false, false, false, false, false, false, false, false, false, false, false, false, false, false, false, false] rfl rfl (by kernel_rfl) (fun _ _ _ h => h) (Or.inl ⟨by rfl, ?_⟩) ?_ ?_
                rotate_left
                · intro w'
                  go_simp
                  with_reducible rfl
                rotate_left
                · simp only [Act.put, List.setIfInBounds_toArray, List.set_cons_zero, List.set_cons_succ]
                  rfl
                refine pure_ (i := 6) (N := some 43) (v := ?_) (a' := ?_) #[true, true, true, false, true, false, true, false, false, false, false, false, false, false, false, false, false, false, false, false, false, false, false, false] rfl rfl (by kernel_rfl) (fun _ _ _ h => h) (Or.inl ⟨by rfl, ?_⟩) ?_ ?_
                rotate_left
                · intro w'
                  go_simp
                  with_reducible rfl
                rotate_left
                · simp only [Act.put, List.setIfInBounds_toArray, List.set_cons_zero, List.set_cons_succ]
                  rfl
                refine pure_ (i := 7) (N := some 44) (v := ?_) (a' := ?_) #[true, true, true, false, true, false, true, true, false, false, false, false, false, false, false, false, false, false, false, false, false, false, false, false] rfl rfl (by kernel_rfl) (fun _ _ _ h => h) (Or.inl ⟨by rfl, ?_⟩) ?_ ?_
                rotate_left
                · intro w'
                  go_simp
                  with_reducible rfl
                rotate_left
                · simp only [Act.put, List.setIfInBounds_toArray, List.set_cons_zero, List.set_cons_succ]
                  rfl
                refine pure_ (i := 8) (N := some 45) (v := ?_) (a' := ?_) #[true, true, true, false, true, false, true, true, true, false, false, false, false, false, false, false, false, false, false, false, false, false, false, false] rfl rfl (by kernel_rfl) (fun _ _ _ h => h) (Or.inl ⟨by rfl, ?_⟩) ?_ ?_
                rotate_left
                · intro w'
                  go_simp
                  with_reducible rfl
                rotate_left
                · simp only [Act.put, List.setIfInBounds_toArray, List.set_cons_zero, List.set_cons_succ]
                  rfl
                refine take_ (i := 3) (N := some 40) (v := ?_) (a' := ?_) #[true, true, true, true, true, false, true, true, true, false, false, false, false, false, false, false, false, false, false, false, false, false, false, false] rfl rfl (by kernel_rfl) (fun _ _ _ h => h) (Or.inl ⟨by rfl, ?_⟩) hHeld ?_ ?_
                rotate_left
                · rintro w' ⟨s0, s1, s2, s3, s4, s5, s6, s7⟩
                  go_simp
                  with_reducible rfl
                rotate_left
                · simp only [Act.put, List.setIfInBounds_toArray, List.set_cons_zero, List.set_cons_succ]
                  rfl
                refine take_ (i := 5) (N := some 42) (v := ?_) (a' := ?_) #[true, true, true, true, true, true, true, true, true, false, false, false, false, false, false, false, false, false, false, false, false, false, false, false] rfl rfl (by kernel_rfl) (fun _ _ _ h => h) (Or.inl ⟨by rfl, ?_⟩) hHeld ?_ ?_
                rotate_left
                · rintro w' ⟨s0, s1, s2, s3, s4, s5, s6, s7⟩
                  go_simp
                  with_reducible rfl
                rotate_left
                · simp only [Act.put, List.setIfInBounds_toArray, List.set_cons_zero, List.set_cons_succ]
                  rfl
                refine take_ (i := 9) (N := some 46) (v := ?_) (a' := ?_) #[true, true, true, true, true, true, true, true, true, true, false, false, false, false, false, false, false, false, false, false, false, false, false, false] rfl rfl (by kernel_rfl) (fun _ _ _ h => h) (Or.inl ⟨by rfl, ?_⟩) hHeld ?_ ?_
                rotate_left
                · rintro w' ⟨s0, s1, s2, s3, s4, s5, s6, s7⟩
                  go_simp
                  with_reducible rfl
                rotate_left
                · simp only [Act.put, List.setIfInBounds_toArray, List.set_cons_zero, List.set_cons_succ]
                  rfl
                refine one_ (i := 10) (N := some 47) #[true, true, true, true, true, true, true, true, true, true, true, false, false, false, false, false, false, false, false, false, false, false, false, false] rfl rfl (by kernel_rfl) (by simp) (fun K hK => ?_)
                refine goes_ Try.func18 (by kernel_rfl) rfl #[.int .u8 who, .int .i64 id, .int .u8 ev, .int .u8 side, .agg #[.int .u8 (rd_T38 l kk).f0, .int .i64 x1, .int .i64 (rd_T38 l kk).f2, .int .u8 (rd_T38 l kk).f3]] (by rfl) rfl rfl (by (try simp only [List.map_toArray, List.map_cons, List.map_nil]); first | done | rfl) ?_
                refine (HC.out _).mono ?_
                rintro e w1 ⟨rfl, hb1⟩
                refine ⟨_, rfl, ?_⟩
                obtain ⟨k0, k1, k2, k3, k4, k5, k6, k7⟩ := hHeld
                refine hK.out _ _ ⟨cell_keep hb1 k0, cell_keep hb1 k1, cell_keep hb1 k2, cell_keep hb1 k3, cell_keep hb1 k4, cell_keep hb1 k5, cell_keep hb1 k6, cell_keep hb1 k7⟩ (fun hHeld => ?_)
                clear hK K k0 k1 k2 k3 k4 k5 k6 k7
                refine norm_ (a' := ?_) ?_ ?_
                rotate_left
                · simp only [Act.put, List.setIfInBounds_toArray, List.set_cons_zero, List.set_cons_succ]
                  rfl
                refine pure_ (i := 11) (N := some 48) (v := ?_) (a' := ?_) #[true, true, true, true, true, true, true, true, true, true, true, true, false, false, false, false, false, false, false, false, false, false, false, false] rfl rfl (by kernel_rfl) (fun _ _ _ h => h) (Or.inl ⟨by rfl, ?_⟩) ?_ ?_
                rotate_left
                · intro w'
                  go_simp
                  with_reducible rfl
                rotate_left
                · simp only [Act.put, List.setIfInBounds_toArray, List.set_cons_zero, List.set_cons_succ]
                  rfl
                refine pure_ (i := 12) (N := some 49) (v := ?_) (a' := ?_) #[true, true, true, true, true, true, true, true, true, true, true, true, true, false, false, false, false, false, false, false, false, false, false, false] rfl rfl (by kernel_rfl) (fun _ _ _ h => h) (Or.inl ⟨by rfl, ?_⟩) ?_ ?_
                rotate_left
                · intro w'
                  go_simp
                  with_reducible rfl
                rotate_left
                · simp only [Act.put, List.setIfInBounds_toArray, List.set_cons_zero, List.set_cons_succ]
                  rfl
                refine pure_ (i := 13) (N := some 50) (v := ?_) (a' := ?_) #[true, true, true, true, true, true, true, true, true, true, true, true, true, true, false, false, false, false, false, false, false, false, false, false] rfl rfl (by kernel_rfl) (fun _ _ _ h => h) (Or.inl ⟨by rfl, ?_⟩) ?_ ?_
                rotate_left
                · intro w'
                  go_simp
                  with_reducible rfl
                rotate_left
                · simp only [Act.put, List.setIfInBounds_toArray, List.set_cons_zero, List.set_cons_succ]
                  rfl
                refine pure_ (i := 14) (N := some 51) (v := ?_) (a' := ?_) #[true, true, true, true, true, true, true, true, true, true, true, true, true, true, true, false, false, false, false, false, false, false, false, false] rfl rfl (by kernel_rfl) (fun _ _ _ h => h) (Or.inl ⟨by rfl, ?_⟩) ?_ ?_
                rotate_left
                · intro w'
                  go_simp
                  with_reducible rfl
                rotate_left
                · simp only [Act.put, List.setIfInBounds_toArray, List.set_cons_zero, List.set_cons_succ]
                  rfl
                refine pure_ (i := 15) (N := some 52) (v := ?_) (a' := ?_) #[true, true, true, true, true, true, true, true, true, true, true, true, true, true, true, true, false, false, false, false, false, false, false, false] rfl rfl (by kernel_rfl) (fun _ _ _ h => h) (Or.inl ⟨by rfl, ?_⟩) ?_ ?_
                rotate_left
                · intro w'
                  go_simp
                  with_reducible rfl
                rotate_left
                · simp only [Act.put, List.setIfInBounds_toArray, List.set_cons_zero, List.set_cons_succ]
                  rfl
                refine take_ (i := 16) (N := some 53) (v := ?_) (a' := ?_) #[true, true, true, true, true, true, true, true, true, true, true, true, true, true, true, true, true, false, false, false, false, false, false, false] rfl rfl (by kernel_rfl) (fun _ _ _ h => h) (Or.inl ⟨by rfl, ?_⟩) hHeld ?_ ?_
                rotate_left
                · rintro w' ⟨s0, s1, s2, s3, s4, s5, s6, s7⟩
                  go_simp
                  with_reducible rfl
                rotate_left
                · simp only [Act.put, List.setIfInBounds_toArray, List.set_cons_zero, List.set_cons_succ]
                  rfl
                refine pure_ (i := 17) (N := some 54) (v := ?_) (a' := ?_) #[true, true, true, true, true, true, true, true, true, true, true, true, true, true, true, true, true, true, false, false, false, false, false, false] rfl rfl (by kernel_rfl) (fun _ _ _ h => h) (Or.inl ⟨by rfl, ?_⟩) ?_ ?_
                rotate_left
                · intro w'
                  go_simp
                  with_reducible rfl
                rotate_left
                · simp only [Act.put, List.setIfInBounds_toArray, List.set_cons_zero, List.set_cons_succ]
                  rfl
                refine pure_ (i := 18) (N := some 55) (v := ?_) (a' := ?_) #[true, true, true, true, true, true, true, true, true, true, true, true, true, true, true, true, true, true, true, false, false, false, false, false] rfl rfl (by kernel_rfl) (fun _ _ _ h => h) (Or.inl ⟨by rfl, ?_⟩) ?_ ?_
                rotate_left
                · intro w'
                  go_simp
                  with_reducible rfl
                rotate_left
                · simp only [Act.put, List.setIfInBounds_toArray, List.set_cons_zero, List.set_cons_succ]
                  rfl
                refine pure_ (i := 19) (N := some 56) (v := ?_) (a' := ?_) #[true, true, true, true, true, true, true, true, true, true, true, true, true, true, true, true, true, true, true, true, false, false, false, false] rfl rfl (by kernel_rfl) (fun _ _ _ h => h) (Or.inl ⟨by rfl, ?_⟩) ?_ ?_
                rotate_left
                · intro w'
                  go_simp
                  with_reducible rfl
                rotate_left
                · simp only [Act.put, List.setIfInBounds_toArray, List.set_cons_zero, List.set_cons_succ]
                  rfl
                refine pure_ (i := 20) (N := some 57) (v := ?_) (a' := ?_) #[true, true, true, true, true, true, true, true, true, true, true, true, true, true, true, true, true, true, true, true, true, false, false, false] rfl rfl (by kernel_rfl) (fun _ _ _ h => h) (Or.inl ⟨by rfl, ?_⟩) ?_ ?_
                rotate_left
                · intro w'
                  go_simp
                  with_reducible rfl
                rotate_left
                · simp only [Act.put, List.setIfInBounds_toArray, List.set_cons_zero, List.set_cons_succ]
                  rfl
                refine take_ (i := 21) (N := some 58) (v := ?_) (a' := ?_) #[true, true, true, true, true, true, true, true, true, true, true, true, true, true, true, true, true, true, true, true, true, true, false, false] rfl rfl (by kernel_rfl) (fun _ _ _ h => h) (Or.inl ⟨by rfl, ?_⟩) hHeld ?_ ?_
                rotate_left
                · rintro w' ⟨s0, s1, s2, s3, s4, s5, s6, s7⟩
                  go_simp
                  with_reducible rfl
                rotate_left
                · simp only [Act.put, List.setIfInBounds_toArray, List.set_cons_zero, List.set_cons_succ]
                  rfl
                refine pure_ (i := 22) (N := some 59) (v := ?_) (a' := ?_) #[true, true, true, true, true, true, true, true, true, true, true, true, true, true, true, true, true, true, true, true, true, true, true, false] rfl rfl (by kernel_rfl) (fun _ _ _ h => h) (Or.inl ⟨by rfl, ?_⟩) ?_ ?_
                rotate_left
                · intro w'
                  go_simp
                  with_reducible rfl
                rotate_left
                · simp only [Act.put, List.setIfInBounds_toArray, List.set_cons_zero, List.set_cons_succ]
                  rfl
                refine pure_ (i := 23) (N := some 60) (v := ?_) (a' := ?_) #[true, true, true, true, true, true, true, true, true, true, true, true, true, true, true, true, true, true, true, true, true, true, true, true] rfl rfl (by kernel_rfl) (fun _ _ _ h => h) (Or.inl ⟨by rfl, ?_⟩) ?_ ?_
                rotate_left
                · intro w'
                  go_simp
                  with_reducible rfl
                rotate_left
                · simp only [Act.put, List.setIfInBounds_toArray, List.set_cons_zero, List.set_cons_succ]
                  rfl
                refine done_ (by kernel_rfl) ?_
                go_wp2_with fail
                go_roundg (n - (kk + 1))
                case measure => omega
                case rel => exact ⟨kk + 1, by omega, by omega, by go_num, (Blk.drew K0.out).after hb1, (Blk.drew K1.out).after hb1, bstep (bdrewM BW.out) hb1, H1.out⟩
            · have e3 : decide (3 ≤ mode) = false := decide_eq_false h3
              have q0 : q = false := by rw [← HQ.out, HL0.out, e3]; rfl
              subst q0
              clear HQ
              go_wp2_with fail
              refine start_ (n := 24) (S := (fun w' => w'.cell? (ad.add (kk * 4)) = some (.int .u8 (rd_T38 l kk).f0) ∧ w'.cell? ⟨(ad.add (kk * 4)).block, (ad.add (kk * 4)).off + 1, none⟩ = some (.int .i64 x1) ∧ w'.cell? ⟨(ad.add (kk * 4)).block, (ad.add (kk * 4)).off + 2, none⟩ = some (.int .i64 (rd_T38 l kk).f2) ∧ w'.cell? ⟨(ad.add (kk * 4)).block, (ad.add (kk * 4)).off + 3, none⟩ = some (.int .u8 (rd_T38 l kk).f3) ∧ w'.cell? ⟨w.heap.size, 6, none⟩ = some (.int .i64 mo) ∧ w'.cell? ⟨w.heap.size + 1, 0, none⟩ = some (.int .u8 mode) ∧ w'.cell? ⟨w.heap.size + 1, 1, none⟩ = some (.int .u8 ev) ∧ w'.cell? ⟨w.heap.size + 1, 2, none⟩ = some (.int .u8 side))) (ds := []) #[false, false, false, false, false, false, false, false, false, false, false, false, false, false, false, false, false, false, false, false, false, false, false, false] (by kernel_rfl) rfl (by kernel_rfl) ⟨d0, d1, d2, d3, c6, e0, e1, e2⟩ (fun hHeld => ?_)
              refine pure_ (i := 0) (N := some 37) (v := ?_) (a' := ?_) #[true, false, false, false, false, false, false, false, false, false, false, false, false, false, false, false, false, false, false, false, false, false, false, false] rfl rfl (by kernel_rfl) (fun _ _ _ h => h) (Or.inl ⟨by rfl, ?_⟩) ?_ ?_
              rotate_left
              · intro w'
                go_simp
                with_reducible rfl
              rotate_left
              · simp only [Act.put, List.setIfInBounds_toArray, List.set_cons_zero, List.set_cons_succ]
                rfl
              refine pure_ (i := 1) (N := some 38) (v := ?_) (a' := ?_) #[true, true, false, false, false, false, false, false, false, false, false, false, false, false, false, false, false, false, false, false, false, false, false, false] rfl rfl (by kernel_rfl) (fun _ _ _ h => h) (Or.inl ⟨by rfl, ?_⟩) ?_ ?_
              rotate_left
              · intro w'
                go_simp
                with_reducible rfl
              rotate_left
              · simp only [Act.put, List.setIfInBounds_toArray, List.set_cons_zero, List.set_cons_succ]
                rfl
              refine pure_ (i := 2) (N := some 39) (v := ?_) (a' := ?_) #[true, true, true, false, false, false, false, false, false, false, false, false, false, false, false, false, false, false, false, false, false, false, false, false] rfl rfl (by kernel_rfl) (fun _ _ _ h => h) (Or.inl ⟨by rfl, ?_⟩) ?_ ?_
              rotate_left
              · intro w'
                go_simp
                with_reducible rfl
              rotate_left
              · simp only [Act.put, List.setIfInBounds_toArray, List.set_cons_zero, List.set_cons_succ]
                rfl
              refine pure_ (i := 4) (N := some 41) (v := ?_) (a' := ?_) #[true, true, true, false, true, false, false, false, false, false, false, false, false, false, false, false, false, false, false, false, false, false, false, false] rfl rfl (by kernel_rfl) (fun _ _ _ h => h) (Or.inl ⟨by rfl, ?_⟩) ?_ ?_
              rotate_left
              · intro w'
                go_simp
                with_reducible rfl
              rotate_left
              · simp only [Act.put, List.setIfInBounds_toArray, List.set_cons_zero, List.set_cons_succ]
                rfl
              refine pure_ (i := 6) (N := some 43) (v := ?_) (a' := ?_) #[true, true, true, false, true, false, true, false, false, false, false, false, false, false, false, false, false, false, false, false, false, false, false, false] rfl rfl (by kernel_rfl) (fun _ _ _ h => h) (Or.inl ⟨by rfl, ?_⟩) ?_ ?_
              rotate_left
              · intro w'
                go_simp
                with_reducible rfl
              rotate_left
              · simp only [Act.put, List.setIfInBounds_toArray, List.set_cons_zero, List.set_cons_succ]
                rfl
              refine pure_ (i := 7) (N := some 44) (v := ?_) (a' := ?_) #[true, true, true, false, true, false, true, true, false, false, false, false, false, false, false, false, false, false, false, false, false, false, false, false] rfl rfl (by kernel_rfl) (fun _ _ _ h => h) (Or.inl ⟨by rfl, ?_⟩) ?_ ?_
              rotate_left
              · intro w'
                go_simp
                with_reducible rfl
              rotate_left
              · simp only [Act.put, List.setIfInBounds_toArray, List.set_cons_zero, List.set_cons_succ]
                rfl
              refine pure_ (i := 8) (N := some 45) (v := ?_) (a' := ?_) #[true, true, true, false, true, false, true, true, true, false, false, false, false, false, false, false, false, false, false, false, false, false, false, false] rfl rfl (by kernel_rfl) (fun _ _ _ h => h) (Or.inl ⟨by rfl, ?_⟩) ?_ ?_
              rotate_left
              · intro w'
                go_simp
                with_reducible rfl
              rotate_left
              · simp only [Act.put, List.setIfInBounds_toArray, List.set_cons_zero, List.set_cons_succ]
                rfl
              refine take_ (i := 3) (N := some 40) (v := ?_) (a' := ?_) #[true, true, true, true, true, false, true, true, true, false, false, false, false, false, false, false, false, false, false, false, false, false, false, false] rfl rfl (by kernel_rfl) (fun _ _ _ h => h) (Or.inl ⟨by rfl, ?_⟩) hHeld ?_ ?_
              rotate_left
              · rintro w' ⟨s0, s1, s2, s3, s4, s5, s6, s7⟩
                go_simp
                with_reducible rfl
              rotate_left
              · simp only [Act.put, List.setIfInBounds_toArray, List.set_cons_zero, List.set_cons_succ]
                rfl
              refine take_ (i := 5) (N := some 42) (v := ?_) (a' := ?_) #[true, true, true, true, true, true, true, true, true, false, false, false, false, false, false, false, false, false, false, false, false, false, false, false] rfl rfl (by kernel_rfl) (fun _ _ _ h => h) (Or.inl ⟨by rfl, ?_⟩) hHeld ?_ ?_
              rotate_left
              · rintro w' ⟨s0, s1, s2, s3, s4, s5, s6, s7⟩
                go_simp
                with_reducible rfl
              rotate_left
              · simp only [Act.put, List.setIfInBounds_toArray, List.set_cons_zero, List.set_cons_succ]
                rfl
              refine take_ (i := 9) (N := some 46) (v := ?_) (a' := ?_) #[true, true, true, true, true, true, true, true, true, true, false, false, false, false, false, false, false, false, false, false, false, false, false, false] rfl rfl (by kernel_rfl) (fun _ _ _ h => h) (Or.inl ⟨by rfl, ?_⟩) hHeld ?_ ?_
              rotate_left
              · rintro w' ⟨s0, s1, s2, s3, s4, s5, s6, s7⟩
                go_simp
                with_reducible rfl
              rotate_left
              · simp only [Act.put, List.setIfInBounds_toArray, List.set_cons_zero, List.set_cons_succ]
                rfl
              refine one_ (i := 10) (N := some 47) #[true, true, true, true, true, true, true, true, true, true, true, false, false, false, false, false, false, false, false, false, false, false, false, false] rfl rfl (by kernel_rfl) (by simp) (fun K hK => ?_)
              refine goes_ Try.func18 (by kernel_rfl) rfl #[.int .u8 who, .int .i64 id, .int .u8 ev, .int .u8 side, .agg #[.int .u8 (rd_T38 l kk).f0, .int .i64 x1, .int .i64 (rd_T38 l kk).f2, .int .u8 (rd_T38 l kk).f3]] (by rfl) rfl rfl (by (try simp only [List.map_toArray, List.map_cons, List.map_nil]); first | done | rfl) ?_
              refine (HC.out _).mono ?_
              rintro e w1 ⟨rfl, hb1⟩
              refine ⟨_, rfl, ?_⟩
              obtain ⟨k0, k1, k2, k3, k4, k5, k6, k7⟩ := hHeld
              refine hK.out _ _ ⟨cell_keep hb1 k0, cell_keep hb1 k1, cell_keep hb1 k2, cell_keep hb1 k3, cell_keep hb1 k4, cell_keep hb1 k5, cell_keep hb1 k6, cell_keep hb1 k7⟩ (fun hHeld => ?_)
              clear hK K k0 k1 k2 k3 k4 k5 k6 k7
              refine norm_ (a' := ?_) ?_ ?_
              rotate_left
              · simp only [Act.put, List.setIfInBounds_toArray, List.set_cons_zero, List.set_cons_succ]
                rfl
              refine pure_ (i := 11) (N := some 48) (v := ?_) (a' := ?_) #[true, true, true, true, true, true, true, true, true, true, true, true, false, false, false, false, false, false, false, false, false, false, false, false] rfl rfl (by kernel_rfl) (fun _ _ _ h => h) (Or.inl ⟨by rfl, ?_⟩) ?_ ?_
              rotate_left
              · intro w'
                go_simp
                with_reducible rfl
              rotate_left
              · simp only [Act.put, List.setIfInBounds_toArray, List.set_cons_zero, List.set_cons_succ]
                rfl
              refine pure_ (i := 12) (N := some 49) (v := ?_) (a' := ?_) #[true, true, true, true, true, true, true, true, true, true, true, true, true, false, false, false, false, false, false, false, false, false, false, false] rfl rfl (by kernel_rfl) (fun _ _ _ h => h) (Or.inl ⟨by rfl, ?_⟩) ?_ ?_
              rotate_left
              · intro w'
                go_simp
                with_reducible rfl
              rotate_left
              · simp only [Act.put, List.setIfInBounds_toArray, List.set_cons_zero, List.set_cons_succ]
                rfl
              refine pure_ (i := 13) (N := some 50) (v := ?_) (a' := ?_) #[true, true, true, true, true, true, true, true, true, true, true, true, true, true, false, false, false, false, false, false, false, false, false, false] rfl rfl (by kernel_rfl) (fun _ _ _ h => h) (Or.inl ⟨by rfl, ?_⟩) ?_ ?_
              rotate_left
              · intro w'
                go_simp
                with_reducible rfl
              rotate_left
              · simp only [Act.put, List.setIfInBounds_toArray, List.set_cons_zero, List.set_cons_succ]
                rfl
              refine pure_ (i := 14) (N := some 51) (v := ?_) (a' := ?_) #[true, true, true, true, true, true, true, true, true, true, true, true, true, true, true, false, false, false, false, false, false, false, false, false] rfl rfl (by kernel_rfl) (fun _ _ _ h => h) (Or.inl ⟨by rfl, ?_⟩) ?_ ?_
              rotate_left
              · intro w'
                go_simp
                with_reducible rfl
              rotate_left
              · simp only [Act.put, List.setIfInBounds_toArray, List.set_cons_zero, List.set_cons_succ]
                rfl
              refine pure_ (i := 15) (N := some 52) (v := ?_) (a' := ?_) #[true, true, true, true, true, true, true, true, true, true, true, true, true, true, true, true, false, false, false, false, false, false, false, false] rfl rfl (by kernel_rfl) (fun _ _ _ h => h) (Or.inl ⟨by rfl, ?_⟩) ?_ ?_
              rotate_left
              · intro w'
                go_simp
                with_reducible rfl
              rotate_left
              · simp only [Act.put, List.setIfInBounds_toArray, List.set_cons_zero, List.set_cons_succ]
                rfl
              refine take_ (i := 16) (N := some 53) (v := ?_) (a' := ?_) #[true, true, true, true, true, true, true, true, true, true, true, true, true, true, true, true, true, false, false, false, false, false, false, false] rfl rfl (by kernel_rfl) (fun _ _ _ h => h) (Or.inl ⟨by rfl, ?_⟩) hHeld ?_ ?_
              rotate_left
              · rintro w' ⟨s0, s1, s2, s3, s4, s5, s6, s7⟩
                go_simp
                with_reducible rfl
              rotate_left
              · simp only [Act.put, List.setIfInBounds_toArray, List.set_cons_zero, List.set_cons_succ]
                rfl
              refine pure_ (i := 17) (N := some 54) (v := ?_) (a' := ?_) #[true, true, true, true, true, true, true, true, true, true, true, true, true, true, true, true, true, true, false, false, false, false, false, false] rfl rfl (by kernel_rfl) (fun _ _ _ h => h) (Or.inl ⟨by rfl, ?_⟩) ?_ ?_
              rotate_left
              · intro w'
                go_simp
                with_reducible rfl
              rotate_left
              · simp only [Act.put, List.setIfInBounds_toArray, List.set_cons_zero, List.set_cons_succ]
                rfl
              refine pure_ (i := 18) (N := some 55) (v := ?_) (a' := ?_) #[true, true, true, true, true, true, true, true, true, true, true, true, true, true, true, true, true, true, true, false, false, false, false, false] rfl rfl (by kernel_rfl) (fun _ _ _ h => h) (Or.inl ⟨by rfl, ?_⟩) ?_ ?_
              rotate_left
              · intro w'
                go_simp
                with_reducible rfl
              rotate_left
              · simp only [Act.put, List.setIfInBounds_toArray, List.set_cons_zero, List.set_cons_succ]
                rfl
              refine pure_ (i := 19) (N := some 56) (v := ?_) (a' := ?_) #[true, true, true, true, true, true, true, true, true, true, true, true, true, true, true, true, true, true, true, true, false, false, false, false] rfl rfl (by kernel_rfl) (fun _ _ _ h => h) (Or.inl ⟨by rfl, ?_⟩) ?_ ?_
              rotate_left
              · intro w'
                go_simp
                with_reducible rfl
              rotate_left
              · simp only [Act.put, List.setIfInBounds_toArray, List.set_cons_zero, List.set_cons_succ]
                rfl
              refine pure_ (i := 20) (N := some 57) (v := undef) (a' := _) #[true, true, true, true, true, true, true, true, true, true, true, true, true, true, true, true, true, true, true, true, true, false, false, false] rfl rfl (by kernel_rfl) (fun _ _ _ h => h) (Or.inr ⟨by rfl, rfl⟩) rfl ?_
              refine norm_ (a' := ?_) ?_ ?_
              rotate_left
              · simp only [Act.put, List.setIfInBounds_toArray, List.set_cons_zero, List.set_cons_succ]
                rfl
              refine pure_ (i := 21) (N := some 58) (v := undef) (a' := _) #[true, true, true, true, true, true, true, true, true, true, true, true, true, true, true, true, true, true, true, true, true, true, false, false] rfl rfl (by kernel_rfl) (fun _ _ _ h => h) (Or.inr ⟨by rfl, rfl⟩) rfl ?_
              refine norm_ (a' := ?_) ?_ ?_
              rotate_left
              · simp only [Act.put, List.setIfInBounds_toArray, List.set_cons_zero, List.set_cons_succ]
                rfl
              refine pure_ (i := 22) (N := some 59) (v := undef) (a' := _) #[true, true, true, true, true, true, true, true, true, true, true, true, true, true, true, true, true, true, true, true, true, true, true, false] rfl rfl (by kernel_rfl) (fun _ _ _ h => h) (Or.inr ⟨by rfl, rfl⟩) rfl ?_
              refine norm_ (a' := ?_) ?_ ?_
              rotate_left
              · simp only [Act.put, List.setIfInBounds_toArray, List.set_cons_zero, List.set_cons_succ]
                rfl
              refine pure_ (i := 23) (N := some 60) (v := ?_) (a' := ?_) #[true, true, true, true, true, true, true, true, true, true, true, true, true, true, true, true, true, true, true, true, true, true, true, true] rfl rfl (by kernel_rfl) (fun _ _ _ h => h) (Or.inl ⟨by rfl, ?_⟩) ?_ ?_
              rotate_left
              · intro w'
                go_simp
                with_reducible rfl
              rotate_left
              · simp only [Act.put, List.setIfInBounds_toArray, List.set_cons_zero, List.set_cons_succ]
                rfl
              refine done_ (by kernel_rfl) ?_
              go_wp2_with fail
              go_roundg (n - (kk + 1))
              case measure => omega
              case rel => exact ⟨kk + 1, by omega, by omega, by go_num, (Blk.drew K0.out).after hb1, (Blk.drew K1.out).after hb1, bstep (bdrewM BW.out) hb1, H1.out⟩
    · have hltz : ¬ (kk : Int) < (n : Int) := by omega
      have : kk = n := by omega
      subst this
      go_wp2_with fail
      go_ret
      have h1 := AA.out
      rw [List.drop_eq_nil_of_le (by rw [HN.out]; exact Nat.le_refl _), anyO] at h1
      exact ⟨by rw [← Option.some.inj h1]; rfl, BW.out⟩
end Go.Proofs.Ytnceobnglofnmaa.Mat
end
section
/- What sets an effect off, by the program: a function handed to the library. -/
namespace Go.Proofs.Ytnceobnglofnmaa.Mat
open Go Go.RowKit Go.Proofs.Ytnceobnglofnmaa.Base Go.Proofs.YtnceobnglofnmaaW.PrintWords Go.Proofs.Ytnceobnglofnmaa.Pmtb
def offM (who id ev side mo mode : Int) (x : S38) : Option Bool := (match_Fits.f who id ev side x.f0 x.f1 x.f2 x.f3).bind fun b => some (b && (mode != 3 || x.f1 == mo))
set_option maxRecDepth 100000
set_option maxHeartbeats 4000000
theorem handed (v0 v1 v2 v3 v4 v5 v7 v8 v9 u3 u4 u5 u6 u7 u8 u9 u10 u11 : Value) (who id mode ev side mo : Int) (A0 : Option Addr) (c : Nat) (l : List S38) (r : Bool) (w W : World) (g : Nat)
    (hr : Kd.C k38 w A0 l.length l) (hw : Below w.heap.size w W)
    (b0 : Blk W g 28 #[v0, v1, v2, v3, v4, v5, .int .i64 mo, v7, v8, v9]) (b1 : Blk W (g + 1) 5 #[.int .u8 who]) (b2 : Blk W (g + 2) 3 #[.int .i64 id])
    (b3 : Blk W (g + 3) 34 #[.int .u8 mode, .int .u8 ev, .int .u8 side, u3, u4, u5, u6, u7, u8, u9, u10, u11]) (h : anyO (offM who id ev side mo mode) l = some r) :
    Calls Try.prog 56 #[.slice A0 l.length c, .func (.func 57) #[] #[.pointer (some ⟨g + 1, 0, none⟩), .pointer (some ⟨g + 2, 0, none⟩), .pointer (some ⟨g + 3, 0, none⟩), .pointer (some ⟨g, 0, none⟩)]] W fun e w' =>
      e = .returned (.bool r) ∧ Below W.heap.size W w' := by
  refine contains_38 57 _ (enters_of Try.func57 (by kernel_rfl) rfl) (offM who id ev side mo mode) A0 c l r W ?_ (Kd.C_below hr hw) h
  intro W2 x b hb hp
  unfold offM at hp
  obtain ⟨q, hq, hp⟩ := Option.bind_eq_some_iff.1 hp
  have hp := Option.some.inj hp
  subst hp
  have k0 := b0.after hb
  have k1 := b1.after hb
  have k2 := b2.after hb
  have k3 := b3.after hb
  exact off_1 who id mode ev side mo x.f0 x.f1 x.f2 x.f3 q g (g + 1) (g + 2) (g + 3) W2 (k1.cell 0) (k2.cell 0) (k3.cell 0) (k3.cell 1) (k3.cell 2) (k0.cell 6) k1.lt k2.lt k3.lt k0.lt hq
theorem boxed4 (w : World) (P E : Array Value) (x y : Value) : ∃ W2, W2 = (((w.alloc (.cells P 28)).alloc (.cells #[x] 5)).alloc (.cells #[y] 3)).alloc (.cells E 34) ∧ Blk W2 w.heap.size 28 P ∧ Blk W2 (w.heap.size + 1) 5 #[x] ∧ Blk W2 (w.heap.size + 2) 3 #[y] ∧ Blk W2 (w.heap.size + 3) 34 E ∧ Below w.heap.size w W2 := by
  have b0 := (((Blk.new w 28 P).alloc (.cells #[x] 5)).alloc (.cells #[y] 3)).alloc (.cells E 34)
  have b1 := ((Blk.new (w.alloc (.cells P 28)) 5 #[x]).alloc (.cells #[y] 3)).alloc (.cells E 34)
  have b2 := (Blk.new ((w.alloc (.cells P 28)).alloc (.cells #[x] 5)) 3 #[y]).alloc (.cells E 34)
  have b3 := Blk.new (((w.alloc (.cells P 28)).alloc (.cells #[x] 5)).alloc (.cells #[y] 3)) 34 E
  simp only [World.size_alloc, Nat.add_assoc, Nat.reduceAdd] at b1 b2 b3
  exact ⟨_, rfl, b0, b1, b2, b3, balloc (balloc (balloc (balloc (Below.refl _ _) _) _) _) _⟩
theorem moff (v0 v1 v2 v3 v4 v5 v7 v8 v9 u3 u4 u5 u6 u7 u8 u9 u10 u11 : Value) (who id mode ev side mo : Int) (A0 : Option Addr) (c : Nat) (l : List S38) (r : Bool) (w : World)
    (hr : Kd.C k38 w A0 l.length l) (h : if mode = 3 ∨ mode = 4 ∨ mode = 5 then anyO (offM who id ev side mo mode) l = some r else r = false) :
    Calls Try.prog 16 #[.agg #[v0, v1, v2, v3, v4, v5, .int .i64 mo, v7, v8, v9], .int .u8 who, .int .i64 id, .agg #[.int .u8 mode, .int .u8 ev, .int .u8 side, u3, u4, u5, u6, u7, u8, u9, u10, u11], .slice A0 l.length c] w fun e w' =>
      e = .returned (.bool r) ∧ Below w.heap.size w w' := by
  have hu28 := Try.underlying28
  have hu34 := Try.underlying34
  have hmf : ∀ (fn : Fn) (first cap : Array Value) (w : World), (Instr.makeFunc fn first cap).run Try.prog w = .ok (.func fn first cap) w := fun _ _ _ _ => rfl
  have HR := Lib.hid hr
  clear hr
  by_cases h3 : mode = 3
  · rw [if_pos (by omega)] at h
    have H := Lib.hid h
    clear h
    subst h3
    obtain ⟨W2, e2, b0, b1, b2, b3, hB⟩ := boxed4 w #[v0, v1, v2, v3, v4, v5, .int .i64 mo, v7, v8, v9] #[.int .u8 3, .int .u8 ev, .int .u8 side, u3, u4, u5, u6, u7, u8, u9, u10, u11] (.int .u8 who) (.int .i64 id)
    have hcall := handed v0 v1 v2 v3 v4 v5 v7 v8 v9 u3 u4 u5 u6 u7 u8 u9 u10 u11 who id 3 ev side mo A0 c l r w W2 w.heap.size HR.out hB b0 b1 b2 b3 H.out
    subst e2
    simp only [World.size_alloc, ← Nat.add_assoc, Nat.reduceAdd] at hcall
    rw [show w.heap.size + 3 = w.heap.size + 1 + 1 + 1 from rfl, show w.heap.size + 2 = w.heap.size + 1 + 1 from rfl] at hcall
    have HC := Lib.hid hcall
    have HB := Lib.hid hB
    clear hcall hB b0 b1 b2 b3
    go_enter Try.func16, Try.ntmps16
    go_wp2_with (go_at_call 56; refine HC.out.mono ?_; rintro e w' ⟨rfl, hb⟩)
    go_ret
    exact ⟨rfl, bstep HB.out (by simpa using hb)⟩
  by_cases h4 : mode = 4
  · rw [if_pos (by omega)] at h
    have H := Lib.hid h
    clear h
    subst h4
    obtain ⟨W2, e2, b0, b1, b2, b3, hB⟩ := boxed4 w #[v0, v1, v2, v3, v4, v5, .int .i64 mo, v7, v8, v9] #[.int .u8 4, .int .u8 ev, .int .u8 side, u3, u4, u5, u6, u7, u8, u9, u10, u11] (.int .u8 who) (.int .i64 id)
    have hcall := handed v0 v1 v2 v3 v4 v5 v7 v8 v9 u3 u4 u5 u6 u7 u8 u9 u10 u11 who id 4 ev side mo A0 c l r w W2 w.heap.size HR.out hB b0 b1 b2 b3 H.out
    subst e2
    simp only [World.size_alloc, ← Nat.add_assoc, Nat.reduceAdd] at hcall
    rw [show w.heap.size + 3 = w.heap.size + 1 + 1 + 1 from rfl, show w.heap.size + 2 = w.heap.size + 1 + 1 from rfl] at hcall
    have HC := Lib.hid hcall
    have HB := Lib.hid hB
    clear hcall hB b0 b1 b2 b3
    go_enter Try.func16, Try.ntmps16
    go_wp2_with (go_at_call 56; refine HC.out.mono ?_; rintro e w' ⟨rfl, hb⟩)
    go_ret
    exact ⟨rfl, bstep HB.out (by simpa using hb)⟩
  by_cases h5 : mode = 5
  · rw [if_pos (by omega)] at h
    have H := Lib.hid h
    clear h
    subst h5
    obtain ⟨W2, e2, b0, b1, b2, b3, hB⟩ := boxed4 w #[v0, v1, v2, v3, v4, v5, .int .i64 mo, v7, v8, v9] #[.int .u8 5, .int .u8 ev, .int .u8 side, u3, u4, u5, u6, u7, u8, u9, u10, u11] (.int .u8 who) (.int .i64 id)
    have hcall := handed v0 v1 v2 v3 v4 v5 v7 v8 v9 u3 u4 u5 u6 u7 u8 u9 u10 u11 who id 5 ev side mo A0 c l r w W2 w.heap.size HR.out hB b0 b1 b2 b3 H.out
    subst e2
    simp only [World.size_alloc, ← Nat.add_assoc, Nat.reduceAdd] at hcall
    rw [show w.heap.size + 3 = w.heap.size + 1 + 1 + 1 from rfl, show w.heap.size + 2 = w.heap.size + 1 + 1 from rfl] at hcall
    have HC := Lib.hid hcall
    have HB := Lib.hid hB
    clear hcall hB b0 b1 b2 b3
    go_enter Try.func16, Try.ntmps16
    go_wp2_with (go_at_call 56; refine HC.out.mono ?_; rintro e w' ⟨rfl, hb⟩)
    go_ret
    exact ⟨rfl, bstep HB.out (by simpa using hb)⟩
  rw [if_neg (by omega)] at h
  subst h
  have e3 : (mode != 3) = true := bne_iff_ne.2 h3
  have e4 : (mode != 4) = true := bne_iff_ne.2 h4
  have e5 : (mode != 5) = true := bne_iff_ne.2 h5
  go_enter Try.func16, Try.ntmps16
  go_wp2_with fail
  go_ret
  exact ⟨rfl, balloc (balloc (balloc (balloc (Below.refl _ _) _) _) _) _⟩
end Go.Proofs.Ytnceobnglofnmaa.Mat
end
section
-- made for this claim by a program of this session (mkpp.py)
namespace Go.Proofs.Ytnceobnglofnmaa.Mtt
open Go.RowKit Go.Proofs.Ytnceobnglofnmaa.Pmtb Go.Proofs.Ytnceobnglofnmaa.Base Go.Proofs.YtnceobnglofnmaaW.PrintWords Go.Proofs.YtnceobnglofnmaaW.PrintLast Go.Proofs.YtnceobnglofnmaaW.PrintMore
attribute [local go_sem] max2_int min2_int max_two min_two max_three min_three max_four min_four   -- for this text's walks alone
set_option linter.unusedVariables false
set_option linter.unusedSimpArgs false



def errW : Option Int → Value
  | none => .nilIface
  | some c => .iface 0 (.int .i64 c)
theorem errW_none : errW none = .nilIface := rfl
theorem errW_some (c : Int) : errW (some c) = .iface 0 (.int .i64 c) := rfl

theorem info38 : (Try.prog.info? 38).map (fun i => (i.zero, i.size, i.bytes)) = some (some (.agg #[(.int .u8 0), (.int .i64 0), (.int .i64 0), (.int .u8 0)]), 4, 32) := by kernel_rfl
-- the values' own types
/-! #### struct type 31 -/
structure S31 where
  f0 : Int
  f1 : Int
  f2 : Int
def k31 : Kd S31 := Kd.iso (Kd.pair (Kd.int .u8) (Kd.pair (Kd.int .u8) (Kd.int .u8))) (fun x : S31 => (x.f0, x.f1, x.f2))
theorem k31_open {w : World} {x : S31} {cs : List Value} (h : k31.K w x cs) : cs = [.int .u8 x.f0, .int .u8 x.f1, .int .u8 x.f2] := by
  obtain ⟨_, _, rfl, rfl, ⟨_, _, rfl, rfl, rfl⟩⟩ := h
  exact rfl
theorem k31_mk (w : World) (x : S31)  : k31.K w x [.int .u8 x.f0, .int .u8 x.f1, .int .u8 x.f2] := ⟨[.int .u8 x.f0], [.int .u8 x.f1, .int .u8 x.f2], rfl, rfl, ⟨[.int .u8 x.f1], [.int .u8 x.f2], rfl, rfl, rfl⟩⟩
/-! #### struct type 105, nested in itself -/
structure S105 where
  f0 : Int
  f1 : Int
  f2 : Int
  f3 : S31
  f4 : (List S105)
def F105 (d : Kd S105) : Kd S105 := Kd.iso (Kd.pair (Kd.int .u8) (Kd.pair (Kd.int .i64) (Kd.pair (Kd.int .u8) (Kd.pair k31 (Kd.slice 105 d))))) (fun x : S105 => (x.f0, x.f1, x.f2, x.f3, x.f4))
theorem mono105 : Kd.Mono F105 := Kd.mono_iso _ (Kd.mono_pair (Kd.mono_const _) (Kd.mono_pair (Kd.mono_const _) (Kd.mono_pair (Kd.mono_const _) (Kd.mono_pair (Kd.mono_const _) (Kd.mono_slice 105 Kd.mono_id)))))
theorem sub105 : Kd.Sub F105 [105] := Kd.sub_iso _ (Kd.sub_pair (Kd.sub_const _ (by decide)) (Kd.sub_pair (Kd.sub_const _ (by decide)) (Kd.sub_pair (Kd.sub_const _ (by decide)) (Kd.sub_pair (Kd.sub_const _ (by decide)) (Kd.sub_slice 105 (by decide) Kd.sub_id)))))
theorem sz105 : ∀ n, (Kd.upto F105 7 [105] n).sz = 7 := Kd.upto_sz (fun _ => rfl)
def k105 : Kd S105 := Kd.fix F105 7 [105] sz105 (Kd.upto_E sub105)
theorem k105_mk (w : World) (x : S105) {A6 : Option Addr} {c6 : Nat} (l6 : x.f4.length ≤ c6) (g6 : k105.C w A6 x.f4.length x.f4) : k105.K w x [.int .u8 x.f0, .int .i64 x.f1, .int .u8 x.f2, .int .u8 x.f3.f0, .int .u8 x.f3.f1, .int .u8 x.f3.f2, .slice A6 x.f4.length c6] := by
  obtain ⟨n6, q6⟩ := Kd.fix_C_back mono105 g6
  have r6 := Kd.upto_C_le mono105 sz105 (show n6 ≤ n6 by omega) q6
  exact ⟨n6 + 1, ⟨[.int .u8 x.f0], [.int .i64 x.f1, .int .u8 x.f2, .int .u8 x.f3.f0, .int .u8 x.f3.f1, .int .u8 x.f3.f2, .slice A6 x.f4.length c6], rfl, rfl, ⟨[.int .i64 x.f1], [.int .u8 x.f2, .int .u8 x.f3.f0, .int .u8 x.f3.f1, .int .u8 x.f3.f2, .slice A6 x.f4.length c6], rfl, rfl, ⟨[.int .u8 x.f2], [.int .u8 x.f3.f0, .int .u8 x.f3.f1, .int .u8 x.f3.f2, .slice A6 x.f4.length c6], rfl, rfl, ⟨[.int .u8 x.f3.f0, .int .u8 x.f3.f1, .int .u8 x.f3.f2], [.slice A6 x.f4.length c6], rfl, (k31_mk w x.f3 ), ⟨A6, c6, rfl, l6, r6⟩⟩⟩⟩⟩⟩
def rd_L5 (xs : List (List S105)) (i : Int) : (List S105) := xs.getD i.toNat ([] : List S105)
theorem at_L5 {w : World} {A : Option Addr} {n : Nat} {xs : List (List S105)} (h : Kd.C (Kd.slice 105 k105) w A n xs) (i : Int) (h0 : 0 ≤ i) (h1 : i < n) : ∃ ad A0 c0, A = some ad ∧ w.cell? (ad.add i.toNat) = some (.slice A0 (rd_L5 xs i).length c0) ∧ (rd_L5 xs i).length ≤ c0 ∧ k105.C w A0 (rd_L5 xs i).length (rd_L5 xs i) := by
  obtain ⟨ad, c, e, _, hK, hc0⟩ := Kd.C_get h ([] : List S105) i h0 h1
  have hc : ∀ j u, c[j]? = some u → w.cell? (ad.add (i.toNat * 1 + j)) = some u := hc0
  obtain ⟨A0, c0, rfl, l0, g0⟩ := hK
  exact ⟨ad, A0, c0, e, by have hq := hc 0 _ rfl; rwa [Nat.mul_one, Nat.add_zero] at hq, l0, g0⟩

/-! #### struct type 107 -/
structure S107 where
  f0 : Int
  f1 : Int
  f2 : S105
  f3 : Bool
  f4 : S31
def k107 : Kd S107 := Kd.iso (Kd.pair (Kd.int .u8) (Kd.pair (Kd.int .u8) (Kd.pair k105 (Kd.pair Kd.bool k31)))) (fun x : S107 => (x.f0, x.f1, x.f2, x.f3, x.f4))
def rd_L8 (xs : List (List S107)) (i : Int) : (List S107) := xs.getD i.toNat ([] : List S107)
theorem at_L8 {w : World} {A : Option Addr} {n : Nat} {xs : List (List S107)} (h : Kd.C (Kd.slice 107 k107) w A n xs) (i : Int) (h0 : 0 ≤ i) (h1 : i < n) : ∃ ad A0 c0, A = some ad ∧ w.cell? (ad.add i.toNat) = some (.slice A0 (rd_L8 xs i).length c0) ∧ (rd_L8 xs i).length ≤ c0 ∧ k107.C w A0 (rd_L8 xs i).length (rd_L8 xs i) := by
  obtain ⟨ad, c, e, _, hK, hc0⟩ := Kd.C_get h ([] : List S107) i h0 h1
  have hc : ∀ j u, c[j]? = some u → w.cell? (ad.add (i.toNat * 1 + j)) = some u := hc0
  obtain ⟨A0, c0, rfl, l0, g0⟩ := hK
  exact ⟨ad, A0, c0, e, by have hq := hc 0 _ rfl; rwa [Nat.mul_one, Nat.add_zero] at hq, l0, g0⟩

/-! #### struct type 34 -/
structure S34 where
  f0 : Int
  f1 : Int
  f2 : Int
  f3 : (List S105)
  f4 : Int
  f5 : Int
  f6 : Bool
  f7 : Int
  f8 : S31
  f9 : (List S107)
def k34 : Kd S34 := Kd.iso (Kd.pair (Kd.int .u8) (Kd.pair (Kd.int .u8) (Kd.pair (Kd.int .u8) (Kd.pair (Kd.slice 105 k105) (Kd.pair (Kd.int .i64) (Kd.pair (Kd.int .i64) (Kd.pair Kd.bool (Kd.pair (Kd.int .i64) (Kd.pair k31 (Kd.slice 107 k107)))))))))) (fun x : S34 => (x.f0, x.f1, x.f2, x.f3, x.f4, x.f5, x.f6, x.f7, x.f8, x.f9))
def rd_L10 (xs : List (List S34)) (i : Int) : (List S34) := xs.getD i.toNat ([] : List S34)
theorem at_L10 {w : World} {A : Option Addr} {n : Nat} {xs : List (List S34)} (h : Kd.C (Kd.slice 34 k34) w A n xs) (i : Int) (h0 : 0 ≤ i) (h1 : i < n) : ∃ ad A0 c0, A = some ad ∧ w.cell? (ad.add i.toNat) = some (.slice A0 (rd_L10 xs i).length c0) ∧ (rd_L10 xs i).length ≤ c0 ∧ k34.C w A0 (rd_L10 xs i).length (rd_L10 xs i) := by
  obtain ⟨ad, c, e, _, hK, hc0⟩ := Kd.C_get h ([] : List S34) i h0 h1
  have hc : ∀ j u, c[j]? = some u → w.cell? (ad.add (i.toNat * 1 + j)) = some u := hc0
  obtain ⟨A0, c0, rfl, l0, g0⟩ := hK
  exact ⟨ad, A0, c0, e, by have hq := hc 0 _ rfl; rwa [Nat.mul_one, Nat.add_zero] at hq, l0, g0⟩

/-! #### struct type 95 -/
structure S95 where
  f0 : ByteArray
  f1 : Int
  f2 : Int
  f3 : Int
  f4 : Int
  f5 : (List S34)
def k95 : Kd S95 := Kd.iso (Kd.pair Kd.string (Kd.pair (Kd.int .u8) (Kd.pair (Kd.int .i64) (Kd.pair (Kd.int .i64) (Kd.pair (Kd.int .i64) (Kd.slice 34 k34)))))) (fun x : S95 => (x.f0, x.f1, x.f2, x.f3, x.f4, x.f5))
def rd_L12 (xs : List (List S95)) (i : Int) : (List S95) := xs.getD i.toNat ([] : List S95)
theorem at_L12 {w : World} {A : Option Addr} {n : Nat} {xs : List (List S95)} (h : Kd.C (Kd.slice 95 k95) w A n xs) (i : Int) (h0 : 0 ≤ i) (h1 : i < n) : ∃ ad A0 c0, A = some ad ∧ w.cell? (ad.add i.toNat) = some (.slice A0 (rd_L12 xs i).length c0) ∧ (rd_L12 xs i).length ≤ c0 ∧ k95.C w A0 (rd_L12 xs i).length (rd_L12 xs i) := by
  obtain ⟨ad, c, e, _, hK, hc0⟩ := Kd.C_get h ([] : List S95) i h0 h1
  have hc : ∀ j u, c[j]? = some u → w.cell? (ad.add (i.toNat * 1 + j)) = some u := hc0
  obtain ⟨A0, c0, rfl, l0, g0⟩ := hK
  exact ⟨ad, A0, c0, e, by have hq := hc 0 _ rfl; rwa [Nat.mul_one, Nat.add_zero] at hq, l0, g0⟩

/-! #### struct type 47 -/
structure S47 where
  f0 : Int
  f1 : Int
  f2 : Int
  f3 : Int
  f4 : Int
  f5 : Int
  f6 : Int
  f7 : Bool
  f8 : Bool
  f9 : Int
  f10 : Int
  f11 : Bool
  f12 : Bool
  f13 : Int
def k47 : Kd S47 := Kd.iso (Kd.pair (Kd.int .i64) (Kd.pair (Kd.int .i64) (Kd.pair (Kd.int .i64) (Kd.pair (Kd.int .u8) (Kd.pair (Kd.int .u8) (Kd.pair (Kd.int .u8) (Kd.pair (Kd.int .i64) (Kd.pair Kd.bool (Kd.pair Kd.bool (Kd.pair (Kd.int .i64) (Kd.pair (Kd.int .u8) (Kd.pair Kd.bool (Kd.pair Kd.bool (Kd.int .i64)))))))))))))) (fun x : S47 => (x.f0, x.f1, x.f2, x.f3, x.f4, x.f5, x.f6, x.f7, x.f8, x.f9, x.f10, x.f11, x.f12, x.f13))
def rd_L14 (xs : List (List S47)) (i : Int) : (List S47) := xs.getD i.toNat ([] : List S47)
theorem at_L14 {w : World} {A : Option Addr} {n : Nat} {xs : List (List S47)} (h : Kd.C (Kd.slice 47 k47) w A n xs) (i : Int) (h0 : 0 ≤ i) (h1 : i < n) : ∃ ad A0 c0, A = some ad ∧ w.cell? (ad.add i.toNat) = some (.slice A0 (rd_L14 xs i).length c0) ∧ (rd_L14 xs i).length ≤ c0 ∧ k47.C w A0 (rd_L14 xs i).length (rd_L14 xs i) := by
  obtain ⟨ad, c, e, _, hK, hc0⟩ := Kd.C_get h ([] : List S47) i h0 h1
  have hc : ∀ j u, c[j]? = some u → w.cell? (ad.add (i.toNat * 1 + j)) = some u := hc0
  obtain ⟨A0, c0, rfl, l0, g0⟩ := hK
  exact ⟨ad, A0, c0, e, by have hq := hc 0 _ rfl; rwa [Nat.mul_one, Nat.add_zero] at hq, l0, g0⟩

/-! #### struct type 24 -/
structure S24 where
  f0 : Int
  f1 : Int
def rd_L17 (xs : List (List S38)) (i : Int) : (List S38) := xs.getD i.toNat ([] : List S38)
theorem at_L17 {w : World} {A : Option Addr} {n : Nat} {xs : List (List S38)} (h : Kd.C (Kd.slice 38 k38) w A n xs) (i : Int) (h0 : 0 ≤ i) (h1 : i < n) : ∃ ad A0 c0, A = some ad ∧ w.cell? (ad.add i.toNat) = some (.slice A0 (rd_L17 xs i).length c0) ∧ (rd_L17 xs i).length ≤ c0 ∧ k38.C w A0 (rd_L17 xs i).length (rd_L17 xs i) := by
  obtain ⟨ad, c, e, _, hK, hc0⟩ := Kd.C_get h ([] : List S38) i h0 h1
  have hc : ∀ j u, c[j]? = some u → w.cell? (ad.add (i.toNat * 1 + j)) = some u := hc0
  obtain ⟨A0, c0, rfl, l0, g0⟩ := hK
  exact ⟨ad, A0, c0, e, by have hq := hc 0 _ rfl; rwa [Nat.mul_one, Nat.add_zero] at hq, l0, g0⟩

/-! #### struct type 26 -/
structure S26 where
  f0 : Bool
  f1 : Bool
/-! #### struct type 28 -/
structure S28 where
  f0 : (List S95)
  f1 : (List S47)
  f2 : S24
  f3 : Int
  f4 : Int
  f5 : Int
  f6 : (List S38)
  f7 : S26
def rd_L20 (xs : List (List Int)) (i : Int) : (List Int) := xs.getD i.toNat ([] : List Int)
theorem at_L20 {w : World} {A : Option Addr} {n : Nat} {xs : List (List Int)} (h : Kd.C (Kd.slice 3 (Kd.int .i64)) w A n xs) (i : Int) (h0 : 0 ≤ i) (h1 : i < n) : ∃ ad A0 c0, A = some ad ∧ w.cell? (ad.add i.toNat) = some (.slice A0 (rd_L20 xs i).length c0) ∧ (rd_L20 xs i).length ≤ c0 ∧ (Kd.int .i64).C w A0 (rd_L20 xs i).length (rd_L20 xs i) := by
  obtain ⟨ad, c, e, _, hK, hc0⟩ := Kd.C_get h ([] : List Int) i h0 h1
  have hc : ∀ j u, c[j]? = some u → w.cell? (ad.add (i.toNat * 1 + j)) = some u := hc0
  obtain ⟨A0, c0, rfl, l0, g0⟩ := hK
  exact ⟨ad, A0, c0, e, by have hq := hc 0 _ rfl; rwa [Nat.mul_one, Nat.add_zero] at hq, l0, g0⟩

def rd_L22 (xs : List (List S92)) (i : Int) : (List S92) := xs.getD i.toNat ([] : List S92)
theorem at_L22 {w : World} {A : Option Addr} {n : Nat} {xs : List (List S92)} (h : Kd.C (Kd.slice 92 k92) w A n xs) (i : Int) (h0 : 0 ≤ i) (h1 : i < n) : ∃ ad A0 c0, A = some ad ∧ w.cell? (ad.add i.toNat) = some (.slice A0 (rd_L22 xs i).length c0) ∧ (rd_L22 xs i).length ≤ c0 ∧ k92.C w A0 (rd_L22 xs i).length (rd_L22 xs i) := by
  obtain ⟨ad, c, e, _, hK, hc0⟩ := Kd.C_get h ([] : List S92) i h0 h1
  have hc : ∀ j u, c[j]? = some u → w.cell? (ad.add (i.toNat * 1 + j)) = some u := hc0
  obtain ⟨A0, c0, rfl, l0, g0⟩ := hK
  exact ⟨ad, A0, c0, e, by have hq := hc 0 _ rfl; rwa [Nat.mul_one, Nat.add_zero] at hq, l0, g0⟩

end Go.Proofs.Ytnceobnglofnmaa.Mtt
end
section
/- What sets an effect off, by the program and by the document: as the prints take it. -/
namespace Go.Proofs.Ytnceobnglofnmaa.Base
open Go Go.RowKit Go.Proofs.YtnceobnglofnmaaW.PrintWords Go.Proofs.Ytnceobnglofnmaa.Pmtb Go.Proofs.Ytnceobnglofnmaa.Mtt Go.Proofs.Ytnceobnglofnmaa.Mat
def match_Off.f (_l0_0 : List (S95)) (_l0_1 : List (S47)) (_a0_2 : Int) (_a0_3 : Int) (_a0_4 : Int) (_a0_5 : Int) (a0_6 : Int) (_l0_7 : List (S38)) (_a0_8 : Bool) (_a0_9 : Bool) (a1 : Int) (a2 : Int) (a3_0 : Int) (a3_1 : Int) (a3_2 : Int) (_l3_3 : List (S105)) (_a3_4 : Int) (_a3_5 : Int) (_a3_6 : Bool) (_a3_7 : Int) (_a3_8 : Int) (_a3_9 : Int) (_a3_10 : Int) (_l3_11 : List (S107)) (l4 : List (S38)) : Option (Bool) :=
  if a3_0 = 3 ∨ a3_0 = 4 ∨ a3_0 = 5 then anyO (offM a1 a2 a3_1 a3_2 a0_6 a3_0) l4 else some false
theorem match_Off.calls (A0_0 : Option Addr) (c0_0 : Nat) (l0_0 : List (S95)) (A0_1 : Option Addr) (c0_1 : Nat) (l0_1 : List (S47)) (a0_2 : Int) (a0_3 : Int) (a0_4 : Int) (a0_5 : Int) (a0_6 : Int) (A0_7 : Option Addr) (c0_7 : Nat) (l0_7 : List (S38)) (a0_8 : Bool) (a0_9 : Bool) (a1 : Int) (a2 : Int) (a3_0 : Int) (a3_1 : Int) (a3_2 : Int) (A3_3 : Option Addr) (c3_3 : Nat) (l3_3 : List (S105)) (a3_4 : Int) (a3_5 : Int) (a3_6 : Bool) (a3_7 : Int) (a3_8 : Int) (a3_9 : Int) (a3_10 : Int) (A3_11 : Option Addr) (c3_11 : Nat) (l3_11 : List (S107)) (A4 : Option Addr) (c4 : Nat) (l4 : List (S38)) (r : Bool) (w : World) (_hr0_0 : Kd.C k95 w A0_0 l0_0.length l0_0) (_hc0_0 : l0_0.length ≤ c0_0) (_hr0_1 : Kd.C k47 w A0_1 l0_1.length l0_1) (_hc0_1 : l0_1.length ≤ c0_1) (_hr0_7 : Kd.C k38 w A0_7 l0_7.length l0_7) (_hc0_7 : l0_7.length ≤ c0_7) (_hr3_3 : Kd.C k105 w A3_3 l3_3.length l3_3) (_hc3_3 : l3_3.length ≤ c3_3) (_hr3_11 : Kd.C k107 w A3_11 l3_11.length l3_11) (_hc3_11 : l3_11.length ≤ c3_11) (hr4 : Kd.C k38 w A4 l4.length l4) (_hc4 : l4.length ≤ c4) (h : match_Off.f l0_0 l0_1 a0_2 a0_3 a0_4 a0_5 a0_6 l0_7 a0_8 a0_9 a1 a2 a3_0 a3_1 a3_2 l3_3 a3_4 a3_5 a3_6 a3_7 a3_8 a3_9 a3_10 l3_11 l4 = some r) :
    Calls Try.prog 16 #[.agg #[.slice A0_0 l0_0.length c0_0, .slice A0_1 l0_1.length c0_1, .int .i64 a0_2, .int .i64 a0_3, .int .i64 a0_4, .int .u8 a0_5, .int .i64 a0_6, .slice A0_7 l0_7.length c0_7, .bool a0_8, .bool a0_9], .int .u8 a1, .int .i64 a2, .agg #[.int .u8 a3_0, .int .u8 a3_1, .int .u8 a3_2, .slice A3_3 l3_3.length c3_3, .int .i64 a3_4, .int .i64 a3_5, .bool a3_6, .int .i64 a3_7, .int .u8 a3_8, .int .u8 a3_9, .int .u8 a3_10, .slice A3_11 l3_11.length c3_11], .slice A4 l4.length c4] w fun e w' => e = .returned (.bool r) ∧ Below w.heap.size w w' := by
  refine moff _ _ _ _ _ _ _ _ _ _ _ _ _ _ _ _ _ _ a1 a2 a3_0 a3_1 a3_2 a0_6 A4 c4 l4 r w hr4 ?_
  unfold match_Off.f at h
  split at h
  · rw [if_pos (by assumption)]; exact h
  · rw [if_neg (by assumption)]; exact (Option.some.inj h).symm
def joustref11_Off.f (_l0_0 : List (S95)) (_l0_1 : List (S47)) (_a0_2 : Int) (_a0_3 : Int) (_a0_4 : Int) (_a0_5 : Int) (a0_6 : Int) (_l0_7 : List (S38)) (_a0_8 : Bool) (_a0_9 : Bool) (a1 : Int) (a2 : Int) (a3_0 : Int) (a3_1 : Int) (a3_2 : Int) (_l3_3 : List (S105)) (_a3_4 : Int) (_a3_5 : Int) (_a3_6 : Bool) (_a3_7 : Int) (_a3_8 : Int) (_a3_9 : Int) (_a3_10 : Int) (_l3_11 : List (S107)) (l4 : List (S38)) : Option (Bool) :=
  anyO (offP (fun x => Pmtb.joustref11_Fits.f 1 a1 a2 a3_1 a3_2 x.f0 x.f1 x.f2 x.f3) a0_6 a3_0) l4
theorem joustref11_Off.calls (A0_0 : Option Addr) (c0_0 : Nat) (l0_0 : List (S95)) (A0_1 : Option Addr) (c0_1 : Nat) (l0_1 : List (S47)) (a0_2 : Int) (a0_3 : Int) (a0_4 : Int) (a0_5 : Int) (a0_6 : Int) (A0_7 : Option Addr) (c0_7 : Nat) (l0_7 : List (S38)) (a0_8 : Bool) (a0_9 : Bool) (a1 : Int) (a2 : Int) (a3_0 : Int) (a3_1 : Int) (a3_2 : Int) (A3_3 : Option Addr) (c3_3 : Nat) (l3_3 : List (S105)) (a3_4 : Int) (a3_5 : Int) (a3_6 : Bool) (a3_7 : Int) (a3_8 : Int) (a3_9 : Int) (a3_10 : Int) (A3_11 : Option Addr) (c3_11 : Nat) (l3_11 : List (S107)) (A4 : Option Addr) (c4 : Nat) (l4 : List (S38)) (r : Bool) (w : World) (_hr0_0 : Kd.C k95 w A0_0 l0_0.length l0_0) (_hc0_0 : l0_0.length ≤ c0_0) (_hr0_1 : Kd.C k47 w A0_1 l0_1.length l0_1) (_hc0_1 : l0_1.length ≤ c0_1) (_hr0_7 : Kd.C k38 w A0_7 l0_7.length l0_7) (_hc0_7 : l0_7.length ≤ c0_7) (_hr3_3 : Kd.C k105 w A3_3 l3_3.length l3_3) (_hc3_3 : l3_3.length ≤ c3_3) (_hr3_11 : Kd.C k107 w A3_11 l3_11.length l3_11) (_hc3_11 : l3_11.length ≤ c3_11) (hr4 : Kd.C k38 w A4 l4.length l4) (_hc4 : l4.length ≤ c4) (h : joustref11_Off.f l0_0 l0_1 a0_2 a0_3 a0_4 a0_5 a0_6 l0_7 a0_8 a0_9 a1 a2 a3_0 a3_1 a3_2 l3_3 a3_4 a3_5 a3_6 a3_7 a3_8 a3_9 a3_10 l3_11 l4 = some r) :
    Calls Try.prog 19 #[.agg #[.slice A0_0 l0_0.length c0_0, .slice A0_1 l0_1.length c0_1, .int .i64 a0_2, .int .i64 a0_3, .int .i64 a0_4, .int .u8 a0_5, .int .i64 a0_6, .slice A0_7 l0_7.length c0_7, .bool a0_8, .bool a0_9], .int .u8 a1, .int .i64 a2, .agg #[.int .u8 a3_0, .int .u8 a3_1, .int .u8 a3_2, .slice A3_3 l3_3.length c3_3, .int .i64 a3_4, .int .i64 a3_5, .bool a3_6, .int .i64 a3_7, .int .u8 a3_8, .int .u8 a3_9, .int .u8 a3_10, .slice A3_11 l3_11.length c3_11], .slice A4 l4.length c4] w fun e w' => e = .returned (.bool r) ∧ Below w.heap.size w w' :=
  roff _ _ _ _ _ _ _ _ _ _ _ _ _ _ _ _ _ _ a1 a2 a3_0 a3_1 a3_2 a0_6 A4 c4 l4 r w hr4 h
end Go.Proofs.Ytnceobnglofnmaa.Base
end
section
/- What fits, what sets off, by the program and by the document: the plain words. -/
namespace Go.Proofs.Ytnceobnglofnmaa.Pure
open Go.RowKit Go.Proofs.Ytnceobnglofnmaa.Base Go.Proofs.Ytnceobnglofnmaa.Pmtb Go.Proofs.Ytnceobnglofnmaa.Mtt Go.Proofs.Ytnceobnglofnmaa.Mat Go.Proofs.YtnceobnglofnmaaW.PrintWords
def sideB (who id side x2 x3 : Int) : Bool := if side = 0 then x3 == who else if side = 1 then x3 == 1 - who else if side = 2 then true else if side = 3 then x2 == id else false
def fitsB (who id ev side x0 x2 x3 : Int) : Bool := if ev = 0 then false else if ev = x0 then (if 2 ≤ who then false else sideB who id side x2 x3) else false
theorem side_m (who side f : Int) (s : Bool) (h0 : 0 ≤ who) (h1 : 0 ≤ side) (h2 : side ≤ 255) :
    match_side.f side who f s = some (if 2 ≤ who then false else if side = 0 then f == who else if side = 1 then f == 1 - who else if side = 2 then true else if side = 3 then s else false) := by
  unfold match_side.f
  rw [if_neg (by omega), if_neg (by omega), if_neg (by omega)]
  repeat (first | rfl | split)
theorem fits_m (who id ev side x0 x1 x2 x3 : Int) (h0 : 0 ≤ who) (h1 : 0 ≤ side) (h2 : side ≤ 255) : match_Fits.f who id ev side x0 x1 x2 x3 = some (fitsB who id ev side x0 x2 x3) := by
  unfold match_Fits.f fitsB sideB
  rw [side_m _ _ _ _ h0 h1 h2, Option.bind_some]
  repeat (first | rfl | split)
theorem anyO_of {α : Type} {p : α → Option Bool} {q : α → Bool} : ∀ (l : List α), (∀ x ∈ l, p x = some (q x)) → anyO p l = some (l.any q) := by
  intro l
  induction l with
  | nil => intro _; rfl
  | cons x t ih =>
    intro h
    rw [anyO, h x (List.mem_cons_self ..), Option.bind_some, List.any_cons]
    cases q x with
    | true => rfl
    | false => rw [if_neg (by decide), ih fun y hy => h y (List.mem_cons_of_mem _ hy)]; rfl
def hitB (who id ev side mo mode : Int) (x : S38) : Bool := fitsB who id ev side x.f0 x.f2 x.f3 && (mode != 3 || x.f1 == mo)
def offB (who id ev side mo mode : Int) (l : List S38) : Bool := if mode = 3 ∨ mode = 4 ∨ mode = 5 then l.any (hitB who id ev side mo mode) else false
section
variable (l0_0 : List (S95)) (l0_1 : List (S47)) (a0_2 : Int) (a0_3 : Int) (a0_4 : Int) (a0_5 : Int) (a0_6 : Int) (l0_7 : List (S38)) (a0_8 : Bool) (a0_9 : Bool) (a1 : Int) (a2 : Int) (a3_0 : Int) (a3_1 : Int) (a3_2 : Int) (l3_3 : List (S105)) (a3_4 : Int) (a3_5 : Int) (a3_6 : Bool) (a3_7 : Int) (a3_8 : Int) (a3_9 : Int) (a3_10 : Int) (l3_11 : List (S107)) (l4 : List (S38))
end
end Go.Proofs.Ytnceobnglofnmaa.Pure
end
section
/- With more events what is set off is set off still; a when is off only if an if is; at a later moment no when is off: the plain law. -/
namespace Go.Proofs.Ytnceobnglofnmaa.Pure
open Go.RowKit Go.Proofs.Ytnceobnglofnmaa.Base Go.Proofs.Ytnceobnglofnmaa.Pmtb Go.Proofs.Ytnceobnglofnmaa.Mtt Go.Proofs.Ytnceobnglofnmaa.Mat Go.Proofs.YtnceobnglofnmaaW.PrintWords Go.Proofs.YtnceobnglofnmaaW.PrintLast
theorem off_more (who id ev side mo mode : Int) (l m : List S38) (h : offB who id ev side mo mode l = true) : offB who id ev side mo mode (l ++ m) = true := by
  unfold offB at h ⊢
  split at h
  · rw [if_pos (by assumption), List.any_append, h]; rfl
  · cases h
theorem off_when (who id ev side mo : Int) (l : List S38) (h : offB who id ev side mo 3 l = true) : offB who id ev side mo 4 l = true := by
  unfold offB at h ⊢
  rw [if_pos (by omega)] at h ⊢
  rw [List.any_eq_true] at h ⊢
  obtain ⟨x, hx, hh⟩ := h
  refine ⟨x, hx, ?_⟩
  unfold hitB at hh ⊢
  rw [Bool.and_eq_true] at hh
  rw [hh.1]; rfl
theorem off_nil (who id ev side mo mode : Int) : offB who id ev side mo mode [] = false := by
  unfold offB; split <;> rfl
theorem off_late (who id ev side mo : Int) (l : List S38) (h : ∀ x ∈ l, x.f1 < mo) : offB who id ev side mo 3 l = false := by
  unfold offB
  rw [if_pos (by omega), List.any_eq_false]
  intro x hx
  unfold hitB
  have := h x hx
  rw [show (x.f1 == mo) = false from beq_eq_false_iff_ne.2 (by omega)]
  simp
theorem rd_mem (l : List S38) (i : Nat) (h : i < l.length) : rd_T38 l (i : Int) ∈ l ∧ rd_T38 l (i : Int) = l[i] := by
  unfold rd_T38
  rw [Int.toNat_natCast, List.getD_eq_getElem?_getD, List.getElem?_eq_getElem h]
  exact ⟨List.getElem_mem h, rfl⟩
end Go.Proofs.Ytnceobnglofnmaa.Pure
end
section
/- How arguments of struct types read: for the rows. -/
namespace Go.Proofs.Ytnceobnglofnmaa.Opens
open Go.ChangeShapes Go.WideShapes Go.Deep Go.RowKit Go.Proofs.YtnceobnglofnmaaW.PrintWords Go.Proofs.Ytnceobnglofnmaa.Pmtb Go.Proofs.Ytnceobnglofnmaa.Mtt
set_option maxRecDepth 100000
def ok31 (x : S31) : Prop := ((Lit.int .u8 x.f0).wf = true) ∧ ((Lit.int .u8 x.f1).wf = true) ∧ ((Lit.int .u8 x.f2).wf = true)
theorem opens31 : Opens Try.prog 31 k31 ok31 := by
  have h : Opens Try.prog 31 (Kd.iso _ (fun x : S31 => (x.f0, x.f1, x.f2))) _ := Opens.struct Try.underlying31 (by kernel_rfl) (fun x : S31 => (x.f0, x.f1, x.f2)) (fun p => ⟨p.1, p.2.1, p.2.2⟩) (fun _ => rfl) (fun m => (fs_cons ((Opens.int Try.underlying5) m) (by rfl) (by kernel_rfl) (by kernel_rfl) (fs_cons ((Opens.int Try.underlying5) m) (by rfl) (by kernel_rfl) (by kernel_rfl) (fs_last ((Opens.int Try.underlying5) m) (by rfl) (by kernel_rfl)))))
  exact h
def ok105 (_ : S105) : Prop := True
theorem opens105 : Opens Try.prog 105 k105 ok105 := by
  intro n
  induction n using Nat.strongRecOn with
  | ind n ih =>
    have h0 : OpensAt n Try.prog 105 (Kd.iso _ (fun x : S105 => (x.f0, x.f1, x.f2, x.f3, x.f4))) _ := OpensAt.struct Try.underlying105 (by kernel_rfl) (fun x : S105 => (x.f0, x.f1, x.f2, x.f3, x.f4)) (fun p => ⟨p.1, p.2.1, p.2.2.1, p.2.2.2.1, p.2.2.2.2⟩) (fun _ => rfl) (fun m hm => (fs_cons ((Opens.int Try.underlying5) m) (by rfl) (by kernel_rfl) (by kernel_rfl) (fs_cons ((Opens.int Try.underlying3) m) (by rfl) (by kernel_rfl) (by kernel_rfl) (fs_cons ((Opens.int Try.underlying5) m) (by rfl) (by kernel_rfl) (by kernel_rfl) (fs_cons (opens31 m) (by rfl) (by kernel_rfl) (by kernel_rfl) (fs_last (OpensAt.slice Try.underlying29 (by kernel_rfl) (fun m' hm' => ih m' (by omega))) (by rfl) (by kernel_rfl)))))))
    intro H enc w base spare held cs x hx hw
    obtain ⟨a, h, _⟩ := h0 enc w base spare held cs x hx hw
    refine ⟨a, ?_, trivial⟩
    obtain ⟨_, _, rfl, rfl, ⟨_, _, rfl, rfl, ⟨_, _, rfl, rfl, ⟨_, _, rfl, s3, ⟨A6, c6, rfl, l6, g6⟩⟩⟩⟩⟩ := h
    obtain rfl := k31_open s3
    exact k105_mk w a l6 g6
def ok107 (x : S107) : Prop := ((Lit.int .u8 x.f0).wf = true) ∧ ((Lit.int .u8 x.f1).wf = true) ∧ ok105 x.f2 ∧ True ∧ ok31 x.f4
theorem opens107 : Opens Try.prog 107 k107 ok107 := by
  have h : Opens Try.prog 107 (Kd.iso _ (fun x : S107 => (x.f0, x.f1, x.f2, x.f3, x.f4))) _ := Opens.struct Try.underlying107 (by kernel_rfl) (fun x : S107 => (x.f0, x.f1, x.f2, x.f3, x.f4)) (fun p => ⟨p.1, p.2.1, p.2.2.1, p.2.2.2.1, p.2.2.2.2⟩) (fun _ => rfl) (fun m => (fs_cons ((Opens.int Try.underlying5) m) (by rfl) (by kernel_rfl) (by kernel_rfl) (fs_cons ((Opens.int Try.underlying5) m) (by rfl) (by kernel_rfl) (by kernel_rfl) (fs_cons (opens105 m) (by rfl) (by kernel_rfl) (by kernel_rfl) (fs_cons ((Opens.bool Try.underlying4) m) (by rfl) (by kernel_rfl) (by kernel_rfl) (fs_last (opens31 m) (by rfl) (by kernel_rfl)))))))
  exact h
def ok34 (x : S34) : Prop := ((Lit.int .u8 x.f0).wf = true) ∧ ((Lit.int .u8 x.f1).wf = true) ∧ ((Lit.int .u8 x.f2).wf = true) ∧ (x.f3.length * Try.prog.bytesOf 105 ≤ reachBytes ∧ x.f3.length ≤ maxLen ∧ ∀ y ∈ x.f3, ok105 y) ∧ ((Lit.int .i64 x.f4).wf = true) ∧ ((Lit.int .i64 x.f5).wf = true) ∧ True ∧ ((Lit.int .i64 x.f7).wf = true) ∧ ok31 x.f8 ∧ (x.f9.length * Try.prog.bytesOf 107 ≤ reachBytes ∧ x.f9.length ≤ maxLen ∧ ∀ y ∈ x.f9, ok107 y)
theorem opens34 : Opens Try.prog 34 k34 ok34 := by
  have h : Opens Try.prog 34 (Kd.iso _ (fun x : S34 => (x.f0, x.f1, x.f2, x.f3, x.f4, x.f5, x.f6, x.f7, x.f8, x.f9))) _ := Opens.struct Try.underlying34 (by kernel_rfl) (fun x : S34 => (x.f0, x.f1, x.f2, x.f3, x.f4, x.f5, x.f6, x.f7, x.f8, x.f9)) (fun p => ⟨p.1, p.2.1, p.2.2.1, p.2.2.2.1, p.2.2.2.2.1, p.2.2.2.2.2.1, p.2.2.2.2.2.2.1, p.2.2.2.2.2.2.2.1, p.2.2.2.2.2.2.2.2.1, p.2.2.2.2.2.2.2.2.2⟩) (fun _ => rfl) (fun m => (fs_cons ((Opens.int Try.underlying5) m) (by rfl) (by kernel_rfl) (by kernel_rfl) (fs_cons ((Opens.int Try.underlying5) m) (by rfl) (by kernel_rfl) (by kernel_rfl) (fs_cons ((Opens.int Try.underlying5) m) (by rfl) (by kernel_rfl) (by kernel_rfl) (fs_cons ((Opens.slice Try.underlying29 (by kernel_rfl) opens105) m) (by rfl) (by kernel_rfl) (by kernel_rfl) (fs_cons ((Opens.int Try.underlying3) m) (by rfl) (by kernel_rfl) (by kernel_rfl) (fs_cons ((Opens.int Try.underlying3) m) (by rfl) (by kernel_rfl) (by kernel_rfl) (fs_cons ((Opens.bool Try.underlying4) m) (by rfl) (by kernel_rfl) (by kernel_rfl) (fs_cons ((Opens.int Try.underlying3) m) (by rfl) (by kernel_rfl) (by kernel_rfl) (fs_cons (opens31 m) (by rfl) (by kernel_rfl) (by kernel_rfl) (fs_last ((Opens.slice Try.underlying32 (by kernel_rfl) opens107) m) (by rfl) (by kernel_rfl))))))))))))
  exact h
def ok95 (x : S95) : Prop := (x.f0.size ≤ reachBytes) ∧ ((Lit.int .u8 x.f1).wf = true) ∧ ((Lit.int .i64 x.f2).wf = true) ∧ ((Lit.int .i64 x.f3).wf = true) ∧ ((Lit.int .i64 x.f4).wf = true) ∧ (x.f5.length * Try.prog.bytesOf 34 ≤ reachBytes ∧ x.f5.length ≤ maxLen ∧ ∀ y ∈ x.f5, ok34 y)
theorem opens95 : Opens Try.prog 95 k95 ok95 := by
  have h : Opens Try.prog 95 (Kd.iso _ (fun x : S95 => (x.f0, x.f1, x.f2, x.f3, x.f4, x.f5))) _ := Opens.struct Try.underlying95 (by kernel_rfl) (fun x : S95 => (x.f0, x.f1, x.f2, x.f3, x.f4, x.f5)) (fun p => ⟨p.1, p.2.1, p.2.2.1, p.2.2.2.1, p.2.2.2.2.1, p.2.2.2.2.2⟩) (fun _ => rfl) (fun m => (fs_cons ((Opens.string Try.underlying9) m) (by rfl) (by kernel_rfl) (by kernel_rfl) (fs_cons ((Opens.int Try.underlying5) m) (by rfl) (by kernel_rfl) (by kernel_rfl) (fs_cons ((Opens.int Try.underlying3) m) (by rfl) (by kernel_rfl) (by kernel_rfl) (fs_cons ((Opens.int Try.underlying3) m) (by rfl) (by kernel_rfl) (by kernel_rfl) (fs_cons ((Opens.int Try.underlying3) m) (by rfl) (by kernel_rfl) (by kernel_rfl) (fs_last ((Opens.slice Try.underlying93 (by kernel_rfl) opens34) m) (by rfl) (by kernel_rfl))))))))
  exact h
def ok47 (x : S47) : Prop := ((Lit.int .i64 x.f0).wf = true) ∧ ((Lit.int .i64 x.f1).wf = true) ∧ ((Lit.int .i64 x.f2).wf = true) ∧ ((Lit.int .u8 x.f3).wf = true) ∧ ((Lit.int .u8 x.f4).wf = true) ∧ ((Lit.int .u8 x.f5).wf = true) ∧ ((Lit.int .i64 x.f6).wf = true) ∧ True ∧ True ∧ ((Lit.int .i64 x.f9).wf = true) ∧ ((Lit.int .u8 x.f10).wf = true) ∧ True ∧ True ∧ ((Lit.int .i64 x.f13).wf = true)
theorem opens47 : Opens Try.prog 47 k47 ok47 := by
  have h : Opens Try.prog 47 (Kd.iso _ (fun x : S47 => (x.f0, x.f1, x.f2, x.f3, x.f4, x.f5, x.f6, x.f7, x.f8, x.f9, x.f10, x.f11, x.f12, x.f13))) _ := Opens.struct Try.underlying47 (by kernel_rfl) (fun x : S47 => (x.f0, x.f1, x.f2, x.f3, x.f4, x.f5, x.f6, x.f7, x.f8, x.f9, x.f10, x.f11, x.f12, x.f13)) (fun p => ⟨p.1, p.2.1, p.2.2.1, p.2.2.2.1, p.2.2.2.2.1, p.2.2.2.2.2.1, p.2.2.2.2.2.2.1, p.2.2.2.2.2.2.2.1, p.2.2.2.2.2.2.2.2.1, p.2.2.2.2.2.2.2.2.2.1, p.2.2.2.2.2.2.2.2.2.2.1, p.2.2.2.2.2.2.2.2.2.2.2.1, p.2.2.2.2.2.2.2.2.2.2.2.2.1, p.2.2.2.2.2.2.2.2.2.2.2.2.2⟩) (fun _ => rfl) (fun m => (fs_cons ((Opens.int Try.underlying3) m) (by rfl) (by kernel_rfl) (by kernel_rfl) (fs_cons ((Opens.int Try.underlying3) m) (by rfl) (by kernel_rfl) (by kernel_rfl) (fs_cons ((Opens.int Try.underlying3) m) (by rfl) (by kernel_rfl) (by kernel_rfl) (fs_cons ((Opens.int Try.underlying5) m) (by rfl) (by kernel_rfl) (by kernel_rfl) (fs_cons ((Opens.int Try.underlying5) m) (by rfl) (by kernel_rfl) (by kernel_rfl) (fs_cons ((Opens.int Try.underlying5) m) (by rfl) (by kernel_rfl) (by kernel_rfl) (fs_cons ((Opens.int Try.underlying3) m) (by rfl) (by kernel_rfl) (by kernel_rfl) (fs_cons ((Opens.bool Try.underlying4) m) (by rfl) (by kernel_rfl) (by kernel_rfl) (fs_cons ((Opens.bool Try.underlying4) m) (by rfl) (by kernel_rfl) (by kernel_rfl) (fs_cons ((Opens.int Try.underlying3) m) (by rfl) (by kernel_rfl) (by kernel_rfl) (fs_cons ((Opens.int Try.underlying5) m) (by rfl) (by kernel_rfl) (by kernel_rfl) (fs_cons ((Opens.bool Try.underlying4) m) (by rfl) (by kernel_rfl) (by kernel_rfl) (fs_cons ((Opens.bool Try.underlying4) m) (by rfl) (by kernel_rfl) (by kernel_rfl) (fs_last ((Opens.int Try.underlying3) m) (by rfl) (by kernel_rfl))))))))))))))))
  exact h
def ok38 (x : S38) : Prop := ((Lit.int .u8 x.f0).wf = true) ∧ ((Lit.int .i64 x.f1).wf = true) ∧ ((Lit.int .i64 x.f2).wf = true) ∧ ((Lit.int .u8 x.f3).wf = true)
theorem opens38 : Opens Try.prog 38 k38 ok38 := by
  have h : Opens Try.prog 38 (Kd.iso _ (fun x : S38 => (x.f0, x.f1, x.f2, x.f3))) _ := Opens.struct Try.underlying38 (by kernel_rfl) (fun x : S38 => (x.f0, x.f1, x.f2, x.f3)) (fun p => ⟨p.1, p.2.1, p.2.2.1, p.2.2.2⟩) (fun _ => rfl) (fun m => (fs_cons ((Opens.int Try.underlying5) m) (by rfl) (by kernel_rfl) (by kernel_rfl) (fs_cons ((Opens.int Try.underlying3) m) (by rfl) (by kernel_rfl) (by kernel_rfl) (fs_cons ((Opens.int Try.underlying3) m) (by rfl) (by kernel_rfl) (by kernel_rfl) (fs_last ((Opens.int Try.underlying5) m) (by rfl) (by kernel_rfl))))))
  exact h
end Go.Proofs.Ytnceobnglofnmaa.Opens
end
