/- Joined by a program of this session (pack.py) out of: PureMixBack -/
import Derived.Test.YtnceobnglofnmaaKmk11
import Derived.Test.YtnceobnglofnmaaKmk12
section
/- Of of Lots is the order, Lots of Of the lots; an order has each number once: the plain law. -/
namespace Go.Proofs.Ytnceobnglofnmaa.Pure
open Go.RowKit Go.Proofs.Ytnceobnglofnmaa.Base Go.Proofs.Ytnceobnglofnmaa.Pmxk Go.Proofs.Ytnceobnglofnmaa.Pmxa Go.Proofs.Ytnceobnglofnmaa.Pmxb Go.Proofs.Ytnceobnglofnmaa.Pmxl Go.Proofs.YtnceobnglofnmaaW.PrintWords Go.Proofs.YtnceobnglofnmaaW.PrintLast

theorem lives_bind : Tells (fun k => (joustlaw27_lives.f k).bind fun t => some t) true := Tells.bind (g := fun t _ => some t) lives_tells (Tells.const true)
theorem lots_bound : ∀ (xs left ls : List Int), lotsS xs left = some ls → xs.length = left.length → ∀ j (h : j < ls.length), 0 ≤ ls[j] ∧ ls[j] < (left.length : Int) - j := by
  intro xs
  induction xs with
  | nil => intro left ls h _ j hj; simp only [lotsS, Option.some.injEq] at h; subst h; simp at hj
  | cons x xs ih =>
    intro left ls h hl j hj
    simp only [lotsS] at h
    split at h
    · rename_i hm
      obtain ⟨l, h1, rfl⟩ := Option.map_eq_some_iff.1 h
      have hi := List.idxOf_lt_length_iff.2 hm
      have hle := List.length_erase_of_mem hm
      cases j with
      | zero => simp only [List.getElem_cons_zero]; omega
      | succ j =>
        simp only [List.length_cons] at hl
        have := ih _ _ h1 (by omega) j (by simpa using hj)
        simp only [List.getElem_cons_succ]
        omega
    · cases h
theorem back_loop (n : Nat) (hn : n ≤ 1000) (r ls : List Int) (hr : r.Perm (iota n)) (hls : ls.length = n) (hb : ∀ j (h : j < ls.length), 0 ≤ ls[j] ∧ ls[j] < (n : Int) - j) (d : Nat) : ∀ (j : Nat) (seen : List Bool), j + d = n → seen.length = n →
    (∀ v : Nat, seen.getD v false = true → (v : Int) ∈ r.take j) → Tells (fun k => joustlaw27_MixBack.l0 k n ls seen r n j) true := by
  have hrl : r.length = n := by rw [hr.length_eq, iota_len]
  have hnd : r.Nodup := hr.nodup_iff.2 (iota_nodup n)
  induction d with
  | zero =>
    intro j seen hj _ _
    exact Tells.succ (fun k => by rw [joustlaw27_MixBack.l0]) (Tells.neg (by omega) lives_bind)
  | succ d ih =>
    intro j seen hj hs hv
    have hlt : j < r.length := by omega
    have hx := iota_mem.1 (hr.mem_iff.1 (List.getElem_mem hlt))
    obtain ⟨x, hx'⟩ := Int.eq_ofNat_of_zero_le hx.1
    have hbj := hb j (by omega)
    refine Tells.succ (fun k => by rw [joustlaw27_MixBack.l0]) (Tells.pos (by omega) (Tells.pos (by omega) (Tells.pos (by omega) ?_)))
    rw [rd_get hlt, rd_get (l := ls) (by omega), hx']
    refine Tells.neg (by omega) (Tells.neg (by omega) (Tells.pos (by omega) (Tells.pos (by omega) (Tells.neg ?_ ?_))))
    · intro hc
      have hm := hv x (by simpa [rdOf] using hc)
      obtain ⟨i, hi, he⟩ := List.getElem_of_mem hm
      rw [List.length_take] at hi
      rw [List.getElem_take] at he
      have := List.pairwise_iff_getElem.1 hnd i j (by omega) hlt (by omega)
      exact this (by rw [he, hx'])
    · have hw : wrap64 ((n : Int) - j) = (n : Int) - j := wrap_i (by omega) (by omega)
      rw [hw]
      refine Tells.pos (by omega) (Tells.neg (by omega) (Tells.neg (by omega) ?_))
      rw [w64 (n := n) (by omega) (by omega), Int.toNat_natCast]
      refine ih (j + 1) _ (by omega) (by simp [hs]) (fun v hvv => ?_)
      rw [List.take_succ_eq_append_getElem hlt]
      by_cases e : v = x
      · subst e
        rw [hx']
        simp
      · refine List.mem_append_left _ (hv v ?_)
        simp only [List.getD_eq_getElem?_getD, List.getElem?_set] at hvv ⊢
        rw [if_neg (fun h => e h.symm)] at hvv
        exact hvv
theorem MixBack_tells (l : List Int) (s b : Nat) (hs : s < 18446744073709551616) : Tells (fun k => joustlaw27_MixBack.f k l s b) true := by
  have hw : wrap64 (Int.tmod (b : Int) 300) = ((b % 300 : Nat) : Int) := by
    rw [Int.tmod_eq_emod_of_nonneg (by omega), wrap_i (by omega) (by omega)]
    omega
  have hn : b % 300 ≤ 1000 := by omega
  have j1 : Tells (fun k => joustlaw27_MixBack.j1 k s b) true := by
    refine Tells.succ (fun k => by rw [joustlaw27_MixBack.j1]) ?_
    rw [hw]
    generalize b % 300 = n at hn
    obtain ⟨r, hr, h1, _⟩ := order_tells s n hs hn
    obtain ⟨ls, hls, hlots, h3, _⟩ := made_lots n hn r hr
    have hrl : r.length = n := by rw [hr.length_eq, iota_len]
    refine Tells.bind (g := fun bt k => _) h1 (Tells.bind (g := fun bt k => _) h3 (Tells.pos rfl (Tells.pos rfl (Tells.pos (by simp only; omega) ?_))))
    have hne : ((ls.length : Int) != (n : Int)) = false := by rw [hls]; simp
    simp only [hne]
    refine Tells.succ (fun k => by rw [joustlaw27_MixBack.j2]) (Tells.neg (by decide) (Tells.pos (by omega) (Tells.pos (by omega) ?_)))
    rw [hrl]
    have hb := lots_bound r (iota n) ls hlots (by rw [iota_len, hrl])
    rw [iota_len] at hb
    exact back_loop n hn r ls hr hls hb n 0 _ (by omega) (by simp) (fun v hv => by
      exfalso
      simp only [List.getD_eq_getElem?_getD, List.getElem?_replicate, Int.toNat_natCast] at hv
      split at hv <;> simp at hv)
  have j0 : l.length ≤ 300 → Tells (fun k => joustlaw27_MixBack.j0 k l s b) true := by
    intro hl
    refine Tells.succ (fun k => by rw [joustlaw27_MixBack.j0]) ?_
    have ht := of_tells l (by omega)
    cases hr : ofS l (iota l.length) with
    | none =>
      rw [hr] at ht
      exact Tells.bind (g := fun bt k => _) ht (Tells.neg (by simp [tell]) j1)
    | some ys =>
      rw [hr] at ht
      have hyl := of_len _ _ _ hr
      have h2 := lots_tells ys (by omega)
      rw [hyl, lots_of _ _ _ (iota_nodup _) hr] at h2
      refine Tells.bind (g := fun bt k => _) ht (Tells.pos rfl ?_)
      refine Tells.bind (f := fun k => mix_Lots.f k ys) (g := fun bt k => _) h2 (Tells.pos rfl ?_)
      exact Tells.bind (f := fun k => joustref27_Ints.f k l l) (g := fun bt k => _) (ints_same l (by omega)) (Tells.pos rfl j1)
  refine Tells.congr (fun k => by unfold joustlaw27_MixBack.f; rfl) ?_
  by_cases h : (l.length : Int) > 300
  · exact Tells.pos h lives_bind
  · refine Tells.neg h ?_
    have hl : l.length ≤ 300 := by omega
    have ht := lots_tells l (by omega)
    cases hr : lotsS l (iota l.length) with
    | none =>
      rw [hr] at ht
      exact Tells.bind (g := fun bt k => _) ht (Tells.neg (by simp [tell]) (j0 hl))
    | some ls =>
      rw [hr] at ht
      have hof := of_lots _ _ _ hr
      have hyl := of_len _ _ _ hof
      have h2 := of_tells ls (by omega)
      rw [← hyl, hof] at h2
      refine Tells.bind (g := fun bt k => _) ht (Tells.pos rfl ?_)
      refine Tells.bind (f := fun k => mix_Of.f k ls) (g := fun bt k => _) h2 (Tells.pos rfl ?_)
      exact Tells.bind (f := fun k => joustref27_Ints.f k l l) (g := fun bt k => _) (ints_same l (by omega)) (Tells.pos rfl (j0 hl))
theorem wf_u64 {z : Int} (h : (Lit.int .u64 z).wf = true) : ∃ n : Nat, z = (n : Int) ∧ n < 18446744073709551616 := by
  simp [Lit.wf, IntKind.min, IntKind.max, IntKind.signed, IntKind.bits] at h
  exact ⟨z.toNat, by omega, by omega⟩
theorem wf_u16 {z : Int} (h : (Lit.int .u16 z).wf = true) : ∃ n : Nat, z = (n : Int) := by
  simp [Lit.wf, IntKind.min, IntKind.max, IntKind.signed, IntKind.bits] at h
  exact ⟨z.toNat, by omega⟩
theorem MixBack_walk (A0 : Option Addr) (c0 : Nat) (l : List Int) (s b : Int) (w : World) (hc0 : l.length ≤ c0) (hr0 : Kd.C (Kd.int .i64) w A0 l.length l)
    (_hw0 : l.length * Try.prog.bytesOf 3 ≤ reachBytes ∧ l.length ≤ maxLen ∧ ∀ x ∈ l, (Lit.int .i64 x).wf = true) (hs : (Lit.int .u64 s).wf = true) (hb : (Lit.int .u16 b).wf = true) :
    Calls Try.prog 8 #[.slice A0 l.length c0, .int .u64 s, .int .u16 b] w fun e w' => e = .returned (.bool true) ∧ Below w.heap.size w w' := by
  obtain ⟨s, rfl, hs'⟩ := wf_u64 hs
  obtain ⟨b, rfl⟩ := wf_u16 hb
  obtain ⟨k, h⟩ := (MixBack_tells l s b hs').exists
  exact joustlaw27_MixBack.calls k A0 c0 l s b true w hr0 hc0 h
end Go.Proofs.Ytnceobnglofnmaa.Pure
end
