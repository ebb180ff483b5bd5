/- Joined by a program of this session (pack.py) out of: PureMixLots -/
import Derived.Test.YtnceobnglofnmaaKmo11
import Derived.Test.YtnceobnglofnmaaKmo12
section
/- The lots of any order, the order of any lots, and the script of a seed are the document's, or its error: the plain law. -/
namespace Go.Proofs.Ytnceobnglofnmaa.Pure
open Go.RowKit Go.Proofs.Ytnceobnglofnmaa.Base Go.Proofs.Ytnceobnglofnmaa.Pmxo Go.Proofs.Ytnceobnglofnmaa.Pmxa Go.Proofs.Ytnceobnglofnmaa.Pmxb Go.Proofs.Ytnceobnglofnmaa.Pmxl Go.Proofs.YtnceobnglofnmaaW.PrintWords Go.Proofs.YtnceobnglofnmaaW.PrintLast

theorem lives_bind : Tells (fun k => (joustlaw27_lives.f k).bind fun t => some t) true := Tells.bind (g := fun t _ => some t) lives_tells (Tells.const true)
theorem MixLots_tells (l : List Int) (s : Nat) (m n : Int) (hs : s < 18446744073709551616) (hl : l.length < 17592186044416) : Tells (fun k => joustlaw27_MixLots.f k l s m n) true := by
  have skip : Tells (fun k => joustlaw27_MixLots.j0 k l s true m n) true := Tells.succ (fun k => by rw [joustlaw27_MixLots.j0]) (Tells.pos rfl lives_bind)
  have main : Tells (fun k => joustlaw27_MixLots.j0 k l s false m n) true := by
    obtain ⟨r1, h1, a1, b1⟩ := both_lots l
    obtain ⟨r2, h2, a2, b2⟩ := both_of l
    obtain ⟨r3, h3, a3, b3⟩ := both_script s hs m n
    refine Tells.succ (fun k => by rw [joustlaw27_MixLots.j0]) (Tells.neg (by decide) (Tells.pos (by simpa using hl) ?_))
    refine Tells.bind (f := fun _ => some ([] ++ l)) (g := fun y k => _) (Tells.const _) ?_
    rw [List.nil_append]
    refine Tells.bind (g := fun bt k => _) a1 (Tells.bind (g := fun bt k => _) b1 (Tells.bind (g := fun bt k => _) a2 (Tells.bind (g := fun bt k => _) b2 ?_)))
    refine Tells.bind (g := fun bt k => _) (ints_same r1.1 (by omega)) (Tells.pos rfl (Tells.pos rfl ?_))
    refine Tells.bind (g := fun bt k => _) (ints_same r2.1 (by omega)) (Tells.pos rfl (Tells.pos rfl ?_))
    refine Tells.bind (g := fun bt k => _) (ints_same l (by omega)) ?_
    refine Tells.succ (fun k => by rw [joustlaw27_MixLots.j1]) (Tells.neg (by decide) ?_)
    refine Tells.bind (g := fun bt k => _) a3 (Tells.bind (g := fun bt k => _) b3 ?_)
    exact Tells.bind (g := fun bt k => _) (ints_same r3.1 (by omega)) (Tells.pos rfl (Tells.pos rfl lives_bind))
  have both : ∀ b, Tells (fun k => joustlaw27_MixLots.j0 k l s b m n) true := fun b => by cases b; exact main; exact skip
  refine Tells.congr (fun k => by unfold joustlaw27_MixLots.f; rfl) ?_
  have tail : Tells (fun k => if m > 60 then (if m ≤ 1000 then (joustlaw27_MixLots.j0 k l s true m n) else (if n > 60 then (joustlaw27_MixLots.j0 k l s (decide (n ≤ 1000)) m n) else (joustlaw27_MixLots.j0 k l s false m n))) else (if n > 60 then (joustlaw27_MixLots.j0 k l s (decide (n ≤ 1000)) m n) else (joustlaw27_MixLots.j0 k l s false m n))) true := by
    have t2 : Tells (fun k => if n > 60 then (joustlaw27_MixLots.j0 k l s (decide (n ≤ 1000)) m n) else (joustlaw27_MixLots.j0 k l s false m n)) true := by
      by_cases h : n > 60
      · exact Tells.pos h (both _)
      · exact Tells.neg h main
    by_cases h : m > 60
    · refine Tells.pos h ?_
      by_cases h2 : m ≤ 1000
      · exact Tells.pos h2 skip
      · exact Tells.neg h2 t2
    · exact Tells.neg h t2
  by_cases h : (l.length : Int) > 60
  · refine Tells.pos h ?_
    by_cases h2 : (l.length : Int) ≤ 1000
    · exact Tells.pos h2 skip
    · exact Tells.neg h2 tail
  · exact Tells.neg h tail
theorem wf_u64 {z : Int} (h : (Lit.int .u64 z).wf = true) : ∃ n : Nat, z = (n : Int) ∧ n < 18446744073709551616 := by
  simp [Lit.wf, IntKind.min, IntKind.max, IntKind.signed, IntKind.bits] at h
  exact ⟨z.toNat, by omega, by omega⟩
theorem len_of {l : List Int} (h : l.length * Try.prog.bytesOf 3 ≤ reachBytes) : l.length < 17592186044416 := by
  have e : Try.prog.bytesOf 3 = 8 := by kernel_rfl
  rw [e] at h
  unfold reachBytes at h
  omega
theorem MixLots_walk (A0 : Option Addr) (c0 : Nat) (l : List Int) (s m n : Int) (w : World) (hc0 : l.length ≤ c0) (hr0 : Kd.C (Kd.int .i64) w A0 l.length l)
    (hw0 : l.length * Try.prog.bytesOf 3 ≤ reachBytes ∧ l.length ≤ maxLen ∧ ∀ x ∈ l, (Lit.int .i64 x).wf = true) (hs : (Lit.int .u64 s).wf = true) (_hm : (Lit.int .i64 m).wf = true) (_hn : (Lit.int .i64 n).wf = true) :
    Calls Try.prog 12 #[.slice A0 l.length c0, .int .u64 s, .agg #[.int .i64 m, .int .i64 n]] w fun e w' => e = .returned (.bool true) ∧ Below w.heap.size w w' := by
  obtain ⟨s, rfl, hs'⟩ := wf_u64 hs
  obtain ⟨k, h⟩ := (MixLots_tells l s m n hs' (len_of hw0.1)).exists
  exact joustlaw27_MixLots.calls k A0 c0 l s m n true w hr0 hc0 h
end Go.Proofs.Ytnceobnglofnmaa.Pure
end
