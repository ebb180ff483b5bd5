/- Joined by a program of this session (pack.py) out of: Liv7 BaseMs Mgrt Maur Mwf Mcopy -/
import Derived.Test.YtlldpdhajddmiaaKmau7
import Derived.Test.YtlldpdhajddmiaaKmau9
import Derived.Test.YtlldpdhajddmiaaKmau10
import Derived.Test.YtlldpdhajddmiaaKmau11
import Derived.Test.YtlldpdhajddmiaaKmau12
section
/- What the statements of might tell of a table of their own: true. -/
namespace Go.Proofs.Ytlldpdhajddmiaa.Base
open Go Go.RowKit Go.Proofs.Ytlldpdhajddmiaa.Bmay Go.Proofs.Ytlldpdhajddmiaa.Pmga Go.Proofs.YtlldpdhajddmiaaW.PrintWords Go.Proofs.YtlldpdhajddmiaaW.PrintLast Go.Proofs.YtlldpdhajddmiaaW.PrintMore
set_option linter.unusedSimpArgs false
set_option linter.unusedVariables false
set_option maxRecDepth 100000
set_option maxHeartbeats 8000000
theorem tab7_att (b0 b1 : Nat) (w : World) (h0 : Kd.C k97 w (some ⟨b0, 0, none⟩) 2 joustlaw07_table_k) (h1 : Kd.C k35 w (some ⟨b1, 0, none⟩) 3 joustlaw07_table_p) (id r : Int) (hr : might_Attack.f 0 joustlaw07_table_k joustlaw07_table_p 0 0 1 0 0 [] false false id = some r) :
    Calls Try.prog 19 #[.agg #[.slice (some ⟨b0, 0, none⟩) 2 2, .slice (some ⟨b1, 0, none⟩) 3 3, .int .i64 0, .int .i64 0, .int .i64 1, .int .u8 0, .int .i64 0, .slice none 0 0, .bool false, .bool false], .int .i64 id] w fun e w' => e = .returned (.int .i64 r) ∧ Below w.heap.size w w' :=
  might_Attack.calls 0 _ 2 joustlaw07_table_k _ 3 joustlaw07_table_p 0 0 1 0 0 none 0 [] false false id r w h0 (Nat.le_refl 2) h1 (Nat.le_refl 3) (Kd.C_nil _ _) (Nat.le_refl 0) hr
theorem tab7_of (b0 b1 : Nat) (w : World) (h0 : Kd.C k97 w (some ⟨b0, 0, none⟩) 2 joustlaw07_table_k) (h1 : Kd.C k35 w (some ⟨b1, 0, none⟩) 3 joustlaw07_table_p) :
    Calls Try.prog 17 #[.agg #[.slice (some ⟨b0, 0, none⟩) 2 2, .slice (some ⟨b1, 0, none⟩) 3 3, .int .i64 0, .int .i64 0, .int .i64 1, .int .u8 0, .int .i64 0, .slice none 0 0, .bool false, .bool false], .int .u8 0, .int .i64 0, .agg #[.int .u8 0, .int .u8 2, .int .u8 0], .int .i64 1] w fun e w' => e = .returned (.bool true) ∧ Below w.heap.size w w' :=
  Pmgc.might_Of.calls 0 _ 2 joustlaw07_table_k _ 3 joustlaw07_table_p 0 0 1 0 0 none 0 [] false false 0 0 0 2 0 1 true w h0 (Nat.le_refl 2) h1 (Nat.le_refl 3) (Kd.C_nil _ _) (Nat.le_refl 0) (by as_aux_lemma => kernel_rfl)
theorem tab7_1300 : might_Attack.f 0 joustlaw07_table_k joustlaw07_table_p 0 0 1 0 0 [] false false 0 = some 1300 := by as_aux_lemma => kernel_rfl
theorem tab7_500 : might_Attack.f 0 joustlaw07_table_k joustlaw07_table_p 0 0 1 0 0 [] false false 1 = some 500 := by as_aux_lemma => kernel_rfl
theorem tab7_500' : might_Attack.f 0 joustlaw07_table_k joustlaw07_table_p 0 0 1 0 0 [] false false 2 = some 500 := by as_aux_lemma => kernel_rfl
def joustlaw07_lives.f : Option Bool := some true
theorem joustlaw07_lives.calls (r : Bool) (w : World) (h : joustlaw07_lives.f = some r) : Calls Try.prog 16 #[] w fun e w' => e = .returned (.bool r) ∧ Below w.heap.size w w' := by
  obtain rfl := (Option.some.inj h).symm
  clear h
  go_enter Try.func16, Try.ntmps16
  go_upto_region 2 with (go_at_call 64; refine (joustlaw07_table_walk _).mono ?_; rintro e w1 ⟨b0, b1, rfl, hk, hp, hb⟩; have HB := Lib.hid hb; have HK := Lib.hid hk; have HP := Lib.hid hp; clear hb hk hp)
  have hB0 : Below w.heap.size w (w1.alloc (.cells #[.slice (some ⟨b0, 0, none⟩) 2 2, .slice (some ⟨b1, 0, none⟩) 3 3, .int .i64 0, .int .i64 0, .int .i64 1, .int .u8 0, .int .i64 0, .slice none 0 0, .bool false, .bool false] 28)) := balloc HB.out _
  have hT0 := Blk.new w1 28 #[.slice (some ⟨b0, 0, none⟩) 2 2, .slice (some ⟨b1, 0, none⟩) 3 3, .int .i64 0, .int .i64 0, .int .i64 1, .int .u8 0, .int .i64 0, .slice none 0 0, .bool false, .bool false]
  have hK0 := Kd.C_alloc HK.out (.cells #[.slice (some ⟨b0, 0, none⟩) 2 2, .slice (some ⟨b1, 0, none⟩) 3 3, .int .i64 0, .int .i64 0, .int .i64 1, .int .u8 0, .int .i64 0, .slice none 0 0, .bool false, .bool false] 28)
  have hP0 := Kd.C_alloc HP.out (.cells #[.slice (some ⟨b0, 0, none⟩) 2 2, .slice (some ⟨b1, 0, none⟩) 3 3, .int .i64 0, .int .i64 0, .int .i64 1, .int .u8 0, .int .i64 0, .slice none 0 0, .bool false, .bool false] 28)
  obtain ⟨g, hg⟩ : ∃ g, w1.heap.size = g := ⟨_, rfl⟩
  obtain ⟨W0, hW0⟩ : ∃ W, w1.alloc (.cells #[.slice (some ⟨b0, 0, none⟩) 2 2, .slice (some ⟨b1, 0, none⟩) 3 3, .int .i64 0, .int .i64 0, .int .i64 1, .int .u8 0, .int .i64 0, .slice none 0 0, .bool false, .bool false] 28) = W := ⟨_, rfl⟩
  rw [hW0] at hB0 hT0 hK0 hP0 ⊢
  rw [hg] at hT0 ⊢
  have HB0 := Lib.hid hB0
  have HT0 := Lib.hid hT0
  have HK0 := Lib.hid hK0
  have HP0 := Lib.hid hP0
  have t0 := hT0.cell
  clear hB0 hT0 hK0 hP0 hW0 hg HB HK HP
  go_wp2_with (first
    | (go_at_call 19; refine (tab7_att b0 b1 _ HK0.out HP0.out 0 1300 tab7_1300).mono ?_; rintro e w2 ⟨rfl, hb2⟩; have HB2 := Lib.hid (bstep HB0.out hb2); have HT2 := Lib.hid (HT0.out.after hb2); have HK2 := Lib.hid (Kd.C_below HK0.out hb2); have HP2 := Lib.hid (Kd.C_below HP0.out hb2); have t2 := HT2.out.cell; clear t0 HB0 HT0 HK0 HP0 hb2)
    | (go_at_call 19; refine (tab7_att b0 b1 _ HK2.out HP2.out 1 500 tab7_500).mono ?_; rintro e w3 ⟨rfl, hb3⟩; have HB3 := Lib.hid (bstep HB2.out hb3); have HT3 := Lib.hid (HT2.out.after hb3); have HK3 := Lib.hid (Kd.C_below HK2.out hb3); have HP3 := Lib.hid (Kd.C_below HP2.out hb3); have t3 := HT3.out.cell; clear t2 HB2 HT2 HK2 HP2 hb3)
    | (go_at_call 19; refine (tab7_att b0 b1 _ HK3.out HP3.out 2 500 tab7_500').mono ?_; rintro e w4 ⟨rfl, hb4⟩; have HB4 := Lib.hid (bstep HB3.out hb4); have HT4 := Lib.hid (HT3.out.after hb4); have HK4 := Lib.hid (Kd.C_below HK3.out hb4); have HP4 := Lib.hid (Kd.C_below HP3.out hb4); have t4 := HT4.out.cell; clear t3 HB3 HT3 HK3 HP3 hb4)
    | (go_at_call 17; refine (tab7_of b0 b1 _ HK4.out HP4.out).mono ?_; rintro e w5 ⟨rfl, hb5⟩; have HB5 := Lib.hid (bstep HB4.out hb5); clear t4 HB4 HT4 HK4 HP4 hb5))
  go_ret
  exact ⟨rfl, HB5.out⟩
end Go.Proofs.Ytlldpdhajddmiaa.Base
end
section
/- What the statements of might take as given. -/
end
section
/- Plain words that the statements of might share: what is too great, one of a Sel. -/
namespace Go.Proofs.Ytlldpdhajddmiaa.Pure
open Go.RowKit Go.Proofs.Ytlldpdhajddmiaa.Base Go.Proofs.Ytlldpdhajddmiaa.Bmay Go.Proofs.YtlldpdhajddmiaaW.PrintWords Go.Proofs.Ytlldpdhajddmiaa.Pmga
section
variable (l0 : List S97) (l1 : List PS) (a2 a3 a4 a5 a6 : Int) (l7 : List S58) (a8 a9 : Bool)
theorem great_l1 (hl : l0.length ≤ 9223372036854775807) (hle : ∀ c ∈ l0, c.f5.length ≤ 9223372036854775807) : ∀ (e d : Nat) (x3 : Int) (i j : Nat), d + i = l0.length → i < l0.length → e + j = (rd_T97 l0 (i : Int)).f5.length →
    (∀ y3, ∃ b, Tells (fun k => joustlaw07_great.l0 k y3 (l0.length : Int) ((i + 1 : Nat) : Int) l0 l1 a2 a3 a4 a5 a6 l7 a8 a9) b) →
    ∃ b, Tells (fun k => joustlaw07_great.l1 k x3 (i : Int) (l0.length : Int) (i : Int) (((rd_T97 l0 (i : Int)).f5).length : Int) (j : Int) l0 l1 a2 a3 a4 a5 a6 l7 a8 a9) b
  | 0, d, x3, i, j, hd, hi, he, H => by
    obtain ⟨b, hb⟩ := H x3
    refine ⟨b, Tells.succ (fun k => by rw [joustlaw07_great.l1]) (Tells.neg (by omega) ?_)⟩
    rw [show wrap64 ((i : Int) + 1) = ((i + 1 : Nat) : Int) by unfold wrap64; omega]
    exact hb
  | e + 1, d, x3, i, j, hd, hi, he, H => by
    obtain ⟨b, hb⟩ := great_l1 hl hle e d (wrap64 ((wrap64 (x3 + 1)) + (((rd_T88 ((rd_T97 l0 (i : Int)).f5) (j : Int)).f9).length : Int))) i (j + 1) hd hi (by omega) H
    refine ⟨b, Tells.succ (fun k => by rw [joustlaw07_great.l1]) (Tells.pos (by omega) (Tells.pos (by omega) (Tells.pos (by omega) (Tells.pos (by omega) (Tells.pos (by omega) ?_)))))⟩
    have hm : rd_T97 l0 (i : Int) ∈ l0 := by
      unfold rd_T97
      rw [Int.toNat_natCast, List.getD_eq_getElem?_getD, List.getElem?_eq_getElem hi]
      exact List.getElem_mem hi
    have := hle _ hm
    rw [show wrap64 ((j : Int) + 1) = ((j + 1 : Nat) : Int) by unfold wrap64; omega]
    exact hb
theorem great_l0 (hl : l0.length ≤ 9223372036854775807) (hle : ∀ c ∈ l0, c.f5.length ≤ 9223372036854775807) : ∀ (d i : Nat), d + i = l0.length → ∀ x3, ∃ b, Tells (fun k => joustlaw07_great.l0 k x3 (l0.length : Int) (i : Int) l0 l1 a2 a3 a4 a5 a6 l7 a8 a9) b
  | 0, i, hd, x3 => by
    by_cases h1 : (l1.length : Int) > 149
    · exact ⟨true, Tells.succ (fun k => by rw [joustlaw07_great.l0]) (Tells.neg (by omega) (Tells.pos h1 (Tells.const _)))⟩
    by_cases h2 : (l0.length : Int) > 100
    · exact ⟨true, Tells.succ (fun k => by rw [joustlaw07_great.l0]) (Tells.neg (by omega) (Tells.neg h1 (Tells.pos h2 (Tells.const _))))⟩
    exact ⟨_, Tells.succ (fun k => by rw [joustlaw07_great.l0]) (Tells.neg (by omega) (Tells.neg h1 (Tells.neg h2 (Tells.const _))))⟩
  | d + 1, i, hd, x3 => by
    obtain ⟨b, hb⟩ := great_l1 l0 l1 a2 a3 a4 a5 a6 l7 a8 a9 hl hle _ (d + 1) x3 i 0 hd (by omega) (Nat.add_zero _) (fun y3 => great_l0 hl hle d (i + 1) (by omega) y3)
    refine ⟨b, ?_⟩
    refine Tells.succ (fun k => by rw [joustlaw07_great.l0]) ?_
    refine Tells.pos (by omega) (Tells.pos (by omega) (Tells.pos (by omega) ?_))
    exact hb
theorem great_tells (hl : l0.length ≤ 9223372036854775807) (hle : ∀ c ∈ l0, c.f5.length ≤ 9223372036854775807) : ∃ b, Tells (fun k => joustlaw07_great.f k l0 l1 a2 a3 a4 a5 a6 l7 a8 a9) b :=
  great_l0 l0 l1 a2 a3 a4 a5 a6 l7 a8 a9 hl hle l0.length 0 rfl 0
end
end Go.Proofs.Ytlldpdhajddmiaa.Pure
end
section
/- Pieces turned up and down: what stays of a table, and how strong the pieces are then. -/
namespace Go.Proofs.Ytlldpdhajddmiaa.Pure
open Go.RowKit Go.Proofs.Ytlldpdhajddmiaa.Base Go.Proofs.Ytlldpdhajddmiaa.Bmay Go.Proofs.YtlldpdhajddmiaaW.PrintWords Go.Proofs.Ytlldpdhajddmiaa.Pmga
/-- A piece, turned. -/
def trn (b : Bool) (p : PS) : PS := ⟨p.f0, p.f1, p.f2, p.f3, p.f4, p.f5, p.f6, b, p.f8, p.f9, p.f10, p.f11, p.f12, p.f13⟩
/-- The same but for what is up. -/
inductive Alk : List PS → List PS → Prop
  | nil : Alk [] []
  | cons {p q : PS} {l r : List PS} (h : q = p ∨ ∃ b, q = trn b p) (t : Alk l r) : Alk (p :: l) (q :: r)
theorem Alk.refl : ∀ l : List PS, Alk l l
  | [] => .nil
  | _ :: l => .cons (.inl rfl) (Alk.refl l)
theorem Alk.len {l r : List PS} (h : Alk l r) : r.length = l.length := by
  induction h with
  | nil => rfl
  | cons _ _ ih => simp [ih]
theorem Alk.wf {l r : List PS} (h : Alk l r) : r.all wfP = l.all wfP := by
  induction h with
  | nil => rfl
  | cons h _ ih =>
    simp only [List.all_cons, ih]
    rcases h with rfl | ⟨b, rfl⟩ <;> rfl
theorem Alk.countP {P : PS → Bool} (hP : ∀ b p, P (trn b p) = P p) {l r : List PS} (h : Alk l r) : r.countP P = l.countP P := by
  induction h with
  | nil => rfl
  | cons h _ ih =>
    rw [List.countP_cons, List.countP_cons, ih]
    rcases h with rfl | ⟨b, rfl⟩
    · rfl
    · rw [hP]
theorem Alk.all {P Q : PS → Bool} (hP : ∀ b p, P (trn b p) = P p) (hQ : ∀ p, P p = Q p) {l r : List PS} (h : Alk l r) : r.all P = l.all Q := by
  induction h with
  | nil => rfl
  | cons h _ ih =>
    simp only [List.all_cons, ih]
    rcases h with rfl | ⟨b, rfl⟩
    · rw [hQ]
    · rw [hP, hQ]
theorem Alk.may (l0 : List S97) (a2 a3 a4 a5 : Int) {l r : List PS} (h : Alk l r) : mayB l0 r a2 a3 a4 a5 = mayB l0 l a2 a3 a4 a5 := by
  rw [may_ref, may_ref]
  unfold refB
  have hth : ∀ w z x, thereC r w z x = thereC l w z x := fun w z x => h.countP (P := fun q => q.f5 == z && q.f4 == w && q.f6 == x) (fun _ _ => rfl)
  have hal : ∀ w z, allC r w z = allC l w z := fun w z => h.countP (P := fun q => q.f5 == z && q.f4 == w) (fun _ _ => rfl)
  have hpb : ∀ p, pieceB l0 r p = pieceB l0 l p := fun p => by unfold pieceB; rw [hth, hal]
  rw [h.len, h.all (P := pieceB l0 r) (Q := pieceB l0 l) (fun _ _ => rfl) hpb, h.countP (P := fun p => p.f5 == 6) (fun _ _ => rfl)]
theorem mx_mono {a b c : Int} (h : a ≤ b) : mx a c ≤ mx b c := by unfold mx; split <;> split <;> omega
theorem mn_mono {a b c : Int} (h : a ≤ b) : mn a c ≤ mn b c := by unfold mn; split <;> split <;> omega
theorem put3_mono {a b lo hi : Int} (h : a ≤ b) : put3 a lo hi ≤ put3 b lo hi := mn_mono (mx_mono h)
theorem addG_le (l0 : List S97) (l1 : List PS) (p : PS) (id g : Int) (x : Int × S107) (h0 : 0 ≤ g) (h1 : g ≤ 199998) : g ≤ addG l0 l1 p id g x := by
  unfold addG
  split
  · have := put3_bd x.2.f2.f1 0 99999 (by omega)
    have : put3 g 0 199998 = g := by unfold put3 mn mx; split <;> split <;> omega
    have h2 := put3_mono (a := g) (b := g + put3 x.2.f2.f1 0 99999) (lo := 0) (hi := 199998) (by omega)
    omega
  · exact Int.le_refl _
theorem addG_bd (l0 : List S97) (l1 : List PS) (p : PS) (id g : Int) (x : Int × S107) (h0 : 0 ≤ g) (h1 : g ≤ 199998) : 0 ≤ addG l0 l1 p id g x ∧ addG l0 l1 p id g x ≤ 199998 := by
  unfold addG
  split
  · exact put3_bd _ 0 199998 (by omega)
  · exact ⟨h0, h1⟩
theorem fold_mono (l0 : List S97) (l1 l2 : List PS) (p q : PS) (id : Int) (hpq : ∀ x : Int × S107, (p.f5 == 2 && pickB l0 l1 (rd_T35 l1 x.1).f4 x.1 x.2.f4.f0 x.2.f4.f1 x.2.f4.f2 id) = true → (q.f5 == 2 && pickB l0 l2 (rd_T35 l2 x.1).f4 x.1 x.2.f4.f0 x.2.f4.f1 x.2.f4.f2 id) = true)
    {xs ys : List (Int × S107)} (hs : xs.Sublist ys) : ∀ g g' : Int, 0 ≤ g → g ≤ g' → g' ≤ 199998 → xs.foldl (addG l0 l1 p id) g ≤ ys.foldl (addG l0 l2 q id) g' := by
  induction hs with
  | slnil => intro g g' _ h _; exact h
  | cons x hs ih =>
    intro g g' h0 h1 h2
    rw [List.foldl_cons]
    have := addG_le l0 l2 q id g' x (by omega) h2
    have := addG_bd l0 l2 q id g' x (by omega) h2
    exact ih g _ h0 (by omega) (by omega)
  | cons_cons x hs ih =>
    intro g g' h0 h1 h2
    rw [List.foldl_cons, List.foldl_cons]
    have hb := addG_bd l0 l1 p id g x h0 (by omega)
    have hb' := addG_bd l0 l2 q id g' x (by omega) h2
    refine ih _ _ hb.1 ?_ hb'.2
    have hl := addG_le l0 l2 q id g' x (by omega) h2
    unfold addG at hl ⊢
    by_cases hc : (p.f5 == 2 && pickB l0 l1 (rd_T35 l1 x.1).f4 x.1 x.2.f4.f0 x.2.f4.f1 x.2.f4.f2 id) = true
    · rw [if_pos hc, if_pos (hpq x hc)]
      exact put3_mono (by omega)
    · rw [if_neg hc]
      omega
theorem aura_down (l0 : List S97) : ∀ (l : List PS) (k : Nat), auraL l0 (l.map (trn false)) k = []
  | [], _ => rfl
  | p :: r, k => by
    rw [List.map_cons]
    unfold auraL
    rw [aura_down l0 r (k + 1)]
    have : auraP l0 (k : Int) (trn false p) = [] := by
      unfold auraP upP trn
      simp
    rw [this]; rfl
theorem aura_up (l0 : List S97) : ∀ (l : List PS) (j k : Nat), (auraL l0 l k).Sublist (auraL l0 (l.set j (trn true (l.getD j ⟨0, 0, 0, 0, 0, 0, 0, false, false, 0, 0, false, false, 0⟩))) k)
  | [], _, _ => List.Sublist.slnil
  | p :: r, 0, k => by
    show (auraP l0 (k : Int) p ++ auraL l0 r (k + 1)).Sublist (auraP l0 (k : Int) (trn true p) ++ auraL l0 r (k + 1))
    refine List.Sublist.append ?_ (List.Sublist.refl _)
    unfold auraP
    by_cases h : upP p = true
    · have h2 : upP (trn true p) = true := by
        unfold upP trn at *
        simp only [Bool.and_eq_true] at h ⊢
        exact ⟨h.1, trivial, h.2.2⟩
      rw [if_pos h, if_pos h2]
      exact List.Sublist.refl _
    · rw [if_neg h]; exact List.nil_sublist _
  | p :: r, j + 1, k => by
    show (auraP l0 (k : Int) p ++ auraL l0 r (k + 1)).Sublist (auraP l0 (k : Int) p ++ auraL l0 (r.set j (trn true (r.getD j _))) (k + 1))
    exact List.Sublist.append (List.Sublist.refl _) (aura_up l0 r j (k + 1))
end Go.Proofs.Ytlldpdhajddmiaa.Pure
end
section
/- What the readings of a table tell: its pieces' numbers are of their kinds, its lists are not too long. -/
namespace Go.Proofs.Ytlldpdhajddmiaa.Pure
open Go.RowKit Go.Proofs.Ytlldpdhajddmiaa.Base Go.Proofs.Ytlldpdhajddmiaa.Bmay Go.Proofs.YtlldpdhajddmiaaW.PrintWords Go.Proofs.Ytlldpdhajddmiaa.Pmga
theorem wf_all {l : List PS} (h : ∀ y ∈ l, Opens.ok35 y) : l.all wfP = true := by
  refine List.all_eq_true.2 fun p hp => ?_
  obtain ⟨_, _, _, h3, h4, h5, h6, _⟩ := h p hp
  unfold wfP
  rw [h3, h4, h5, h6]
  rfl
theorem eff_len {l : List S97} (h : ∀ y ∈ l, Opens.ok97 y) : ∀ c ∈ l, c.f5.length ≤ 9223372036854775807 := fun c hc => (h c hc).2.2.2.2.2.2.1
end Go.Proofs.Ytlldpdhajddmiaa.Pure
end
section
/- A copy tells what it is a copy of (joustref00.exprs, Copied, joustref06.Copy), if its lists are such as arguments are. -/
namespace Go.Proofs.Ytlldpdhajddmiaa.Pure
open Go.RowKit Go.Proofs.Ytlldpdhajddmiaa.Base Go.Proofs.Ytlldpdhajddmiaa.Bmay Go.Proofs.YtlldpdhajddmiaaW.PrintWords Go.Proofs.Ytlldpdhajddmiaa.Pmga
theorem rd_ex (l : List S70) (i : Nat) (h : i < l.length) : rd_T70 l (i : Int) = l[i] := by
  unfold rd_T70; rw [Int.toNat_natCast, List.getD_eq_getElem?_getD, List.getElem?_eq_getElem h]; rfl
theorem rd_st (l : List S107) (i : Nat) (h : i < l.length) : rd_T107 l (i : Int) = l[i] := by
  unfold rd_T107; rw [Int.toNat_natCast, List.getD_eq_getElem?_getD, List.getElem?_eq_getElem h]; rfl
theorem rd_ef (l : List S88) (i : Nat) (h : i < l.length) : rd_T88 l (i : Int) = l[i] := by
  unfold rd_T88; rw [Int.toNat_natCast, List.getD_eq_getElem?_getD, List.getElem?_eq_getElem h]; rfl
theorem rd_ca (l : List S97) (i : Nat) (h : i < l.length) : rd_T97 l (i : Int) = l[i] := by
  unfold rd_T97; rw [Int.toNat_natCast, List.getD_eq_getElem?_getD, List.getElem?_eq_getElem h]; rfl
theorem len_le {n b m : Nat} (h : n * b ≤ reachBytes) (hb : b = m) : n * m ≤ 140737488351232 := by
  subst hb
  unfold reachBytes at h
  exact h
theorem bytes_ex : Try.prog.bytesOf 70 = 48 := by kernel_rfl
theorem bytes_st : Try.prog.bytesOf 107 = 64 := by kernel_rfl
theorem bytes_ef : Try.prog.bytesOf 88 = 96 := by kernel_rfl
theorem bytes_ca : Try.prog.bytesOf 97 = 72 := by kernel_rfl
theorem bytes_pi : Try.prog.bytesOf 35 = 72 := by kernel_rfl
theorem bytes_ev : Try.prog.bytesOf 58 = 32 := by kernel_rfl
def okX (l : List S70) : Prop := l.length * Try.prog.bytesOf 70 ≤ reachBytes ∧ l.length ≤ maxLen ∧ ∀ y ∈ l, Opens.ok70 y
theorem okX_args {x : S70} (h : Opens.ok70 x) : okX x.f4 := by cases h with | mk _ _ _ _ _ ha hb hc => exact ⟨ha, hb, hc⟩
theorem ex_eta (x : S70) : (⟨x.f0, x.f1, x.f2, ⟨x.f3.f0, x.f3.f1, x.f3.f2⟩, x.f4⟩ : S70) = x := by cases x; rfl
theorem st_eta (s : S107) : (⟨s.f0, s.f1, ⟨s.f2.f0, s.f2.f1, s.f2.f2, ⟨s.f2.f3.f0, s.f2.f3.f1, s.f2.f3.f2⟩, s.f2.f4⟩, s.f3, ⟨s.f4.f0, s.f4.f1, s.f4.f2⟩⟩ : S107) = s := by
  obtain ⟨_, _, x, _, _⟩ := s
  cases x
  rfl
theorem exprs_tells : ∀ (n : Nat) (l : List S70), SizeOf.sizeOf l < n → okX l → Tells (fun k => joustref00_exprs.f k l) l := by
  intro n
  induction n with
  | zero => exact fun l h _ => absurd h (Nat.not_lt_zero _)
  | succ n ihn =>
    intro l hn hok
    have hlen : l.length * 48 ≤ 140737488351232 := len_le hok.1 bytes_ex
    refine Tells.succ (fun k => by rw [joustref00_exprs.f]) ?_
    suffices h : ∀ d i, d + i = l.length → Tells (fun k => joustref00_exprs.l0 k l (l.take i) (i : Int)) l by
      have := h l.length 0 rfl
      exact this
    intro d
    induction d with
    | zero =>
      intro i hi
      refine Tells.succ (fun k => by rw [joustref00_exprs.l0]) ?_
      refine Tells.neg (by omega) ?_
      rw [List.take_of_length_le (by omega)]
      exact Tells.const _
    | succ d ih =>
      intro i hi
      have hil : i < l.length := by omega
      refine Tells.succ (fun k => by rw [joustref00_exprs.l0]) ?_
      refine Tells.pos (by omega) (Tells.pos (by omega) ?_)
      rw [rd_ex l i hil]
      have hx : Opens.ok70 l[i] := hok.2.2 _ (List.getElem_mem hil)
      have hs : SizeOf.sizeOf l[i].f4 < n := by
        have h1 : SizeOf.sizeOf l[i] < SizeOf.sizeOf l := List.sizeOf_lt_of_mem (List.getElem_mem hil)
        have h2 : SizeOf.sizeOf l[i].f4 < SizeOf.sizeOf l[i] := by cases l[i]; simp; omega
        omega
      refine Tells.bind (ihn _ hs (okX_args hx)) ?_
      refine Tells.pos (by rw [List.length_take]; omega) ?_
      have hnext := ih (i + 1) (by omega)
      rw [List.take_succ_eq_append_getElem hil] at hnext
      rw [ex_eta, show wrap64 ((i : Int) + 1) = ((i + 1 : Nat) : Int) by unfold wrap64; omega]
      exact hnext
def okS (s : S107) : Prop := okX s.f2.f4
def okE (e : S88) : Prop := okX e.f3 ∧ e.f9.length * 64 ≤ 140737488351232 ∧ ∀ s ∈ e.f9, okS s
def okC (c : S97) : Prop := c.f5.length * 96 ≤ 140737488351232 ∧ ∀ e ∈ c.f5, okE e
theorem okC_of {c : S97} (h : Opens.ok97 c) : okC c := by
  have h5 := h.2.2.2.2.2
  refine ⟨len_le h5.1 bytes_ef, fun e he => ?_⟩
  have h1 := h5.2.2 e he
  have h9 := h1.2.2.2.2.2.2.2.2.2
  refine ⟨h1.2.2.2.1, len_le h9.1 bytes_st, fun s hs => ?_⟩
  exact okX_args (h9.2.2 s hs).2.2.1
theorem copied_l2 (x0 x3 : List S97) (x4 x7 : Int) (x6 : List S88) (c : S97) (e : S88) (he : okE e) (r : List S97) (hx6 : x6.length < 1466015503701)
    (H : Tells (fun k => joustref00_Copied.l1 k x0 x3 x4 (x6 ++ [e]) (wrap64 (x7 + 1)) c.f0 c.f1 c.f2 c.f3 c.f4 c.f5) r) : ∀ d i, d + i = e.f9.length →
    Tells (fun k => joustref00_Copied.l2 k x0 x3 x4 x6 x7 (e.f9.take i) (i : Int) c.f0 c.f1 c.f2 c.f3 c.f4 c.f5 e.f0 e.f1 e.f2 e.f3 e.f4 e.f5 e.f6 e.f7 e.f8.f0 e.f8.f1 e.f8.f2 e.f9) r := by
  intro d
  induction d with
  | zero =>
    intro i hi
    refine Tells.succ (fun k => by rw [joustref00_Copied.l2]) ?_
    refine Tells.neg (by omega) (Tells.pos hx6 ?_)
    rw [List.take_of_length_le (by omega)]
    exact H
  | succ d ih =>
    intro i hi
    have hil : i < e.f9.length := by omega
    refine Tells.succ (fun k => by rw [joustref00_Copied.l2]) ?_
    refine Tells.pos (by omega) (Tells.pos (by omega) ?_)
    rw [rd_st e.f9 i hil]
    refine Tells.bind (exprs_tells _ _ (Nat.lt_succ_self _) (he.2.2 _ (List.getElem_mem hil))) ?_
    have hb := he.2.1
    refine Tells.pos (by rw [List.length_take]; omega) ?_
    have hnext := ih (i + 1) (by omega)
    rw [List.take_succ_eq_append_getElem hil] at hnext
    rw [st_eta, show wrap64 ((i : Int) + 1) = ((i + 1 : Nat) : Int) by unfold wrap64; omega]
    exact hnext
theorem copied_l1 (x0 x3 : List S97) (x4 : Int) (c : S97) (hc : okC c) (r : List S97) (hx3 : x3.length < 1954687338268)
    (H : Tells (fun k => joustref00_Copied.l0 k x0 (x3 ++ [c]) (wrap64 (x4 + 1))) r) : ∀ d i, d + i = c.f5.length →
    Tells (fun k => joustref00_Copied.l1 k x0 x3 x4 (c.f5.take i) (i : Int) c.f0 c.f1 c.f2 c.f3 c.f4 c.f5) r := by
  intro d
  induction d with
  | zero =>
    intro i hi
    refine Tells.succ (fun k => by rw [joustref00_Copied.l1]) ?_
    refine Tells.neg (by omega) (Tells.pos hx3 ?_)
    rw [List.take_of_length_le (by omega)]
    exact H
  | succ d ih =>
    intro i hi
    have hil : i < c.f5.length := by omega
    have he := hc.2 _ (List.getElem_mem hil)
    have hb := hc.1
    refine Tells.succ (fun k => by rw [joustref00_Copied.l1]) ?_
    refine Tells.pos (by omega) (Tells.pos (by omega) ?_)
    rw [rd_ef c.f5 i hil]
    refine Tells.bind (exprs_tells _ _ (Nat.lt_succ_self _) he.1) ?_
    refine copied_l2 x0 x3 x4 (i : Int) (c.f5.take i) c c.f5[i] he r (by rw [List.length_take]; omega) ?_ _ 0 rfl
    have hnext := ih (i + 1) (by omega)
    rw [List.take_succ_eq_append_getElem hil] at hnext
    rw [show wrap64 ((i : Int) + 1) = ((i + 1 : Nat) : Int) by unfold wrap64; omega]
    exact hnext
theorem copied_tells (l : List S97) (hl : l.length * 72 ≤ 140737488351232) (hc : ∀ c ∈ l, okC c) : Tells (fun k => joustref00_Copied.f k l) l := by
  suffices h : ∀ d i, d + i = l.length → Tells (fun k => joustref00_Copied.l0 k l (l.take i) (i : Int)) l from h l.length 0 rfl
  intro d
  induction d with
  | zero =>
    intro i hi
    refine Tells.succ (fun k => by rw [joustref00_Copied.l0]) ?_
    refine Tells.neg (by omega) ?_
    rw [List.take_of_length_le (by omega)]
    exact Tells.const _
  | succ d ih =>
    intro i hi
    have hil : i < l.length := by omega
    refine Tells.succ (fun k => by rw [joustref00_Copied.l0]) ?_
    refine Tells.pos (by omega) (Tells.pos (by omega) ?_)
    rw [rd_ca l i hil]
    refine copied_l1 l (l.take i) (i : Int) l[i] (hc _ (List.getElem_mem hil)) l (by rw [List.length_take]; omega) ?_ _ 0 rfl
    have hnext := ih (i + 1) (by omega)
    rw [List.take_succ_eq_append_getElem hil] at hnext
    rw [show wrap64 ((i : Int) + 1) = ((i + 1 : Nat) : Int) by unfold wrap64; omega]
    exact hnext
theorem copy_tells (l0 : List S97) (l1 : List S35) (a2 a3 a4 a5 a6 : Int) (l7 : List S58) (a8 a9 : Bool)
    (h0 : l0.length * 72 ≤ 140737488351232) (hc : ∀ c ∈ l0, okC c) (h1 : l1.length * 72 ≤ 140737488351232) (h7 : l7.length * 32 ≤ 140737488351232) :
    Tells (fun k => joustref06_Copy.f k l0 l1 a2 a3 a4 a5 a6 l7 a8 a9) (l0, l1, a2, a3, a4, a5, a6, l7, a8, a9) := by
  unfold joustref06_Copy.f
  refine Tells.bind (copied_tells l0 h0 hc) ?_
  refine Tells.pos (by simp only [List.length_nil]; omega) (Tells.pos (by simp only [List.length_nil]; omega) ?_)
  rw [List.nil_append, List.nil_append]
  exact Tells.const _
end Go.Proofs.Ytlldpdhajddmiaa.Pure
end
