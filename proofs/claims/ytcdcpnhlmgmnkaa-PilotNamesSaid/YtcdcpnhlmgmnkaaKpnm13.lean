/- Joined by a program of this session (pack.py) out of: PurePilotNames WalkPilotNames -/
import Derived.Test.YtcdcpnhlmgmnkaaKpnm2
import Derived.Test.YtcdcpnhlmgmnkaaKpnm5
import Derived.Test.YtcdcpnhlmgmnkaaKpnm12
section
/- Names and Kinds tell one another; there are four; no other has one: the plain law. -/
namespace Go.Proofs.Ytcdcpnhlmgmnkaa.Pure
open Go.RowKit Go.Proofs.Ytcdcpnhlmgmnkaa.Base Go.Proofs.Ytcdcpnhlmgmnkaa.Ppia Go.Proofs.Ytcdcpnhlmgmnkaa.Ppnm Go.Proofs.YtcdcpnhlmgmnkaaW.PrintWords Go.Proofs.YtcdcpnhlmgmnkaaW.PrintLast
theorem lives33 : Tells (fun k => Ppil.joustlaw33_lives.f k) true := Tells.mono Ppil.joustlaw33_lives.mono (k0 := 8) (by kernel_rfl)
theorem lives33_bind : Tells (fun k => (Ppil.joustlaw33_lives.f k).bind fun t => some t) true := Tells.bind (g := fun t _ => some t) lives33 (Tells.const true)
def n0 : ByteArray := ⟨#[102, 105, 114, 115, 116]⟩
def n1 : ByteArray := ⟨#[108, 97, 115, 116]⟩
def n2 : ByteArray := ⟨#[114, 97, 110, 100, 111, 109]⟩
def n3 : ByteArray := ⟨#[98, 114, 97, 118, 101]⟩
def NS : List ByteArray := [n0, n1, n2, n3]
theorem names_p : pilot_Names.f = some NS := rfl
theorem names_r : joustref33_names.f = some NS := rfl
theorem r0 : rdOf ByteArray.empty NS 0 = n0 := rfl
theorem r1 : rdOf ByteArray.empty NS 1 = n1 := rfl
theorem r2 : rdOf ByteArray.empty NS 2 = n2 := rfl
theorem r3 : rdOf ByteArray.empty NS 3 = n3 := rfl
theorem len4 : (NS.length : Int) = 4 := rfl
theorem w1 : wrap64 ((0 : Int) + 1) = 1 := wrap_i (by decide) (by decide)
theorem w2 : wrap64 ((1 : Int) + 1) = 2 := wrap_i (by decide) (by decide)
theorem w3 : wrap64 ((2 : Int) + 1) = 3 := wrap_i (by decide) (by decide)
theorem w4 : wrap64 ((3 : Int) + 1) = 4 := wrap_i (by decide) (by decide)
def findN (s : ByteArray) : Int × Bool := if s.toList = n0.toList then (0, true) else if s.toList = n1.toList then (1, true) else if s.toList = n2.toList then (2, true) else if s.toList = n3.toList then (3, true) else (0, false)
theorem idx_tells (s : ByteArray) : Tells (fun k => slices_Index_string_string.f k NS s) (if s.toList = n0.toList then 0 else if s.toList = n1.toList then 1 else if s.toList = n2.toList then 2 else if s.toList = n3.toList then 3 else -1) := by
  show Tells (fun k => slices_Index_string_string.l0 k NS s (NS.length : Int) 0) _
  rw [len4]
  refine Tells.succ (fun k => by rw [slices_Index_string_string.l0, len4, r0, w1]) (Tells.pos (by decide) (Tells.pos (by decide) (Tells.pos (by decide) ?_)))
  by_cases h0 : s.toList = n0.toList
  · rw [if_pos h0]; exact Tells.pos h0 (Tells.const _)
  rw [if_neg h0]
  refine Tells.neg h0 (Tells.succ (fun k => by rw [slices_Index_string_string.l0, len4, r1, w2]) (Tells.pos (by decide) (Tells.pos (by decide) (Tells.pos (by decide) ?_))))
  by_cases h1 : s.toList = n1.toList
  · rw [if_pos h1]; exact Tells.pos h1 (Tells.const _)
  rw [if_neg h1]
  refine Tells.neg h1 (Tells.succ (fun k => by rw [slices_Index_string_string.l0, len4, r2, w3]) (Tells.pos (by decide) (Tells.pos (by decide) (Tells.pos (by decide) ?_))))
  by_cases h2 : s.toList = n2.toList
  · rw [if_pos h2]; exact Tells.pos h2 (Tells.const _)
  rw [if_neg h2]
  refine Tells.neg h2 (Tells.succ (fun k => by rw [slices_Index_string_string.l0, len4, r3, w4]) (Tells.pos (by decide) (Tells.pos (by decide) (Tells.pos (by decide) ?_))))
  by_cases h3 : s.toList = n3.toList
  · rw [if_pos h3]; exact Tells.pos h3 (Tells.const _)
  rw [if_neg h3]
  exact Tells.neg h3 (Tells.succ (fun k => by rw [slices_Index_string_string.l0]) (Tells.neg (by decide) (Tells.const _)))
theorem find_p (s : ByteArray) : Tells (fun k => pilot_Find.f k s) (findN s) := by
  refine Tells.congr (g := fun k => (slices_Index_string_string.f k NS s).bind fun t181 => (if t181 < 0 then (some (0, false)) else (some ((t181) % 256, true)))) (fun k => by unfold pilot_Find.f; rw [names_p]; rfl) ?_
  refine Tells.bind (g := fun t181 _ => (if t181 < 0 then (some ((0 : Int), false)) else (some ((t181) % 256, true)))) (idx_tells s) ?_
  unfold findN
  repeat' split
  all_goals first
    | exact Tells.neg (by decide) (Tells.const _)
    | exact Tells.pos (by decide) (Tells.const _)
    | exact Tells.const _
    | contradiction
theorem find_r (s : ByteArray) : Tells (fun k => joustref33_Find.f k s) (findN s) := by
  unfold findN
  show Tells (fun k => joustref33_Find.l0 k s 0) _
  refine Tells.succ (fun k => by rw [joustref33_Find.l0, names_r, Option.bind_some, Option.bind_some, len4, r0, w1]) (Tells.pos (by decide) (Tells.pos (by decide) (Tells.pos (by decide) ?_)))
  by_cases h0 : s.toList = n0.toList
  · rw [if_pos h0]; exact Tells.pos h0.symm (Tells.const _)
  rw [if_neg h0]
  refine Tells.neg (fun h => h0 h.symm) (Tells.succ (fun k => by rw [joustref33_Find.l0, names_r, Option.bind_some, Option.bind_some, len4, r1, w2]) (Tells.pos (by decide) (Tells.pos (by decide) (Tells.pos (by decide) ?_))))
  by_cases h1 : s.toList = n1.toList
  · rw [if_pos h1]; exact Tells.pos h1.symm (Tells.const _)
  rw [if_neg h1]
  refine Tells.neg (fun h => h1 h.symm) (Tells.succ (fun k => by rw [joustref33_Find.l0, names_r, Option.bind_some, Option.bind_some, len4, r2, w3]) (Tells.pos (by decide) (Tells.pos (by decide) (Tells.pos (by decide) ?_))))
  by_cases h2 : s.toList = n2.toList
  · rw [if_pos h2]; exact Tells.pos h2.symm (Tells.const _)
  rw [if_neg h2]
  refine Tells.neg (fun h => h2 h.symm) (Tells.succ (fun k => by rw [joustref33_Find.l0, names_r, Option.bind_some, Option.bind_some, len4, r3, w4]) (Tells.pos (by decide) (Tells.pos (by decide) (Tells.pos (by decide) ?_))))
  by_cases h3 : s.toList = n3.toList
  · rw [if_pos h3]; exact Tells.pos h3.symm (Tells.const _)
  rw [if_neg h3]
  exact Tells.neg (fun h => h3 h.symm) (Tells.succ (fun k => by rw [joustref33_Find.l0, names_r, Option.bind_some, Option.bind_some, len4]) (Tells.neg (by decide) (Tells.const _)))
theorem find_0 : Tells (fun k => pilot_Find.f k n0) (0, true) := by have h := find_p n0; rwa [show findN n0 = (0, true) from by kernel_rfl] at h
theorem find_1 : Tells (fun k => pilot_Find.f k n1) (1, true) := by have h := find_p n1; rwa [show findN n1 = (1, true) from by kernel_rfl] at h
theorem find_2 : Tells (fun k => pilot_Find.f k n2) (2, true) := by have h := find_p n2; rwa [show findN n2 = (2, true) from by kernel_rfl] at h
theorem find_3 : Tells (fun k => pilot_Find.f k n3) (3, true) := by have h := find_p n3; rwa [show findN n3 = (3, true) from by kernel_rfl] at h
theorem name_at (p q : Int) (h0 : 0 ≤ p) (h1 : p ≤ 255) : ∃ b, pilot_Name.f p q = some b ∧ joustref33_Name.f p q = some b ∧ pilot_May.f p q = some (b.toList != ([] : List UInt8)) := by
  have hc : p = 0 ∨ p = 1 ∨ p = 2 ∨ p = 3 ∨ 4 ≤ p := by omega
  rcases hc with rfl | rfl | rfl | rfl | h
  · exact ⟨n0, by kernel_rfl, by kernel_rfl, by kernel_rfl⟩
  · exact ⟨n1, by kernel_rfl, by kernel_rfl, by kernel_rfl⟩
  · exact ⟨n2, by kernel_rfl, by kernel_rfl, by kernel_rfl⟩
  · exact ⟨n3, by kernel_rfl, by kernel_rfl, by kernel_rfl⟩
  · have hw : wrap64 p = p := wrap_i (by omega) (by omega)
    have hm : pilot_May.f p q = some false := by
      unfold pilot_May.f
      rw [names_p, Option.bind_some, len4, hw, decide_eq_false (by omega)]
    refine ⟨⟨#[]⟩, ?_, ?_, ?_⟩
    · unfold pilot_Name.f
      rw [hm, Option.bind_some, if_neg (by decide)]
    · unfold joustref33_Name.f
      rw [names_r, Option.bind_some, len4, hw, if_pos (by omega)]
    · rw [hm]; kernel_rfl
theorem loop_tells (p q : Int) (h0 : 0 ≤ p) (h1 : p ≤ 255) : Tells (fun k => joustlaw33_PilotNames.l0 k NS 4 0 p q) true := by
  obtain ⟨b, e1, e2, e3⟩ := name_at p q h0 h1
  have nm0 : pilot_Name.f 0 0 = some n0 := by kernel_rfl
  have nm1 : pilot_Name.f 1 0 = some n1 := by kernel_rfl
  have nm2 : pilot_Name.f 2 0 = some n2 := by kernel_rfl
  have nm3 : pilot_Name.f 3 0 = some n3 := by kernel_rfl
  have x0 : wrap64 (0 : Int) = 0 := wrap_i (by decide) (by decide)
  have x1 : wrap64 (1 : Int) = 1 := wrap_i (by decide) (by decide)
  have x2 : wrap64 (2 : Int) = 2 := wrap_i (by decide) (by decide)
  have x3 : wrap64 (3 : Int) = 3 := wrap_i (by decide) (by decide)
  refine Tells.succ (fun k => by rw [joustlaw33_PilotNames.l0, len4, r0, w1]) (Tells.pos (by decide) (Tells.pos (by decide) (Tells.pos (by decide) ?_)))
  refine Tells.bind (f := fun k => pilot_Find.f k n0) (g := fun bt k => _) find_0 (Tells.pos rfl ?_)
  rw [x0, nm0]
  refine Tells.pos rfl (Tells.pos rfl ?_)
  refine Tells.succ (fun k => by rw [joustlaw33_PilotNames.l0, len4, r1, w2]) (Tells.pos (by decide) (Tells.pos (by decide) (Tells.pos (by decide) ?_)))
  refine Tells.bind (f := fun k => pilot_Find.f k n1) (g := fun bt k => _) find_1 (Tells.pos rfl ?_)
  rw [x1, nm1]
  refine Tells.pos rfl (Tells.pos rfl ?_)
  refine Tells.succ (fun k => by rw [joustlaw33_PilotNames.l0, len4, r2, w3]) (Tells.pos (by decide) (Tells.pos (by decide) (Tells.pos (by decide) ?_)))
  refine Tells.bind (f := fun k => pilot_Find.f k n2) (g := fun bt k => _) find_2 (Tells.pos rfl ?_)
  rw [x2, nm2]
  refine Tells.pos rfl (Tells.pos rfl ?_)
  refine Tells.succ (fun k => by rw [joustlaw33_PilotNames.l0, len4, r3, w4]) (Tells.pos (by decide) (Tells.pos (by decide) (Tells.pos (by decide) ?_)))
  refine Tells.bind (f := fun k => pilot_Find.f k n3) (g := fun bt k => _) find_3 (Tells.pos rfl ?_)
  rw [x3, nm3]
  refine Tells.pos rfl (Tells.pos rfl ?_)
  refine Tells.succ (fun k => by rw [joustlaw33_PilotNames.l0, names_p, e1, e3, Option.bind_some, Option.bind_some, Option.bind_some, len4, r0]) (Tells.neg (by decide) (Tells.pos (by decide) (Tells.pos (by decide) (Tells.pos (by kernel_rfl) (Tells.pos (by simp) ?_)))))
  exact lives33_bind
theorem PilotNames_tells (p q : Int) (s : ByteArray) (h0 : 0 ≤ p) (h1 : p ≤ 255) : Tells (fun k => joustlaw33_PilotNames.f k p q s) true := by
  obtain ⟨b, e1, e2, e3⟩ := name_at p q h0 h1
  refine Tells.congr (g := fun k => joustlaw33_PilotNames.j0 k s NS false p q) (fun k => by
    unfold joustlaw33_PilotNames.f
    rw [names_p, e1, e2, Option.bind_some, Option.bind_some, Option.bind_some, len4, if_pos rfl]
    congr 1
    simp) ?_
  refine Tells.succ (fun k => by rw [joustlaw33_PilotNames.j0]) (Tells.neg (by decide) ?_)
  refine Tells.bind (f := fun k => pilot_Find.f k s) (g := fun bt k => _) (find_p s) ?_
  refine Tells.bind (f := fun k => joustref33_Find.f k s) (g := fun bt k => _) (find_r s) (Tells.pos rfl ?_)
  refine Tells.succ (fun k => by rw [joustlaw33_PilotNames.j1]) (Tells.neg (by simp) ?_)
  exact loop_tells p q h0 h1
end Go.Proofs.Ytcdcpnhlmgmnkaa.Pure
end
section
/- PilotNames: the walk out of the printed contract. -/
namespace Go.Proofs.Ytcdcpnhlmgmnkaa.Pure
open Go.RowKit Go.Proofs.Ytcdcpnhlmgmnkaa.Base Go.Proofs.YtcdcpnhlmgmnkaaW.PrintWords Go.Proofs.YtcdcpnhlmgmnkaaW.PrintLast Go.Proofs.Ytcdcpnhlmgmnkaa.Ppia Go.Proofs.Ytcdcpnhlmgmnkaa.Ppnm
set_option linter.unusedVariables false
theorem PilotNames_walk (a0_0 : Int) (a0_1 : Int) (a1 : ByteArray) (w : World)
    (hw0_0 : (Lit.int .u8 a0_0).wf = true) (hw0_1 : (Lit.int .u64 a0_1).wf = true) (hw1 : a1.size ≤ maxLen) :
    Calls Try.prog 3 #[.agg #[.int .u8 a0_0, .int .u64 a0_1], .string a1] w fun e w' => e = .returned (.bool true) ∧ Below w.heap.size w w' := by
  obtain ⟨h0, h1⟩ : 0 ≤ a0_0 ∧ a0_0 ≤ 255 := by
    simp [Lit.wf, IntKind.min, IntKind.max, IntKind.signed, IntKind.bits] at hw0_0
    omega
  obtain ⟨k, h⟩ := (PilotNames_tells a0_0 a0_1 a1 h0 h1).exists
  exact Ppnm.joustlaw33_PilotNames.calls k a0_0 a0_1 a1 true w  h
end Go.Proofs.Ytcdcpnhlmgmnkaa.Pure
end
