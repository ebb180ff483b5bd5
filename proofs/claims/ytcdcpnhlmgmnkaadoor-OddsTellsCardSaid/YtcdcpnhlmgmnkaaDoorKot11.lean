/- Joined by a program of this session (pack.py) out of: Odt BaseOt Odz -/
import Derived.Test.YtcdcpnhlmgmnkaaDoorKot4
import Derived.Test.YtcdcpnhlmgmnkaaDoorKot6
import Derived.Test.YtcdcpnhlmgmnkaaDoorKot8
import Derived.Test.YtcdcpnhlmgmnkaaDoorKot9
import Derived.Test.YtcdcpnhlmgmnkaaDoorKot10
section
/- Sum: what it tells, in plain numbers, and its contract (each end printed by itself). -/
namespace Go.Proofs.YtcdcpnhlmgmnkaaDoor.Odd
open Go.RowKit Go.Proofs.YtcdcpnhlmgmnkaaDoor.Base Go.Proofs.YtcdcpnhlmgmnkaaDoor.Podd Go.Proofs.YtcdcpnhlmgmnkaaDoorW.PrintWords Go.Proofs.YtcdcpnhlmgmnkaaDoorW.PrintLast Go.Proofs.YtcdcpnhlmgmnkaaDoorW.PrintMore
set_option linter.unusedSimpArgs false
set_option linter.unusedVariables false
section
variable (an ad bn bd : Nat)
def sG : Nat := Nat.gcd ad bd
def sN : Nat := an * (bd / sG ad bd) + bn * (ad / sG ad bd)
def sR : Nat := Nat.gcd (sG ad bd) (sN an ad bn bd % sG ad bd)
def sD : Nat := ad / sG ad bd * (bd / sR an ad bn bd)
def sumV : Int × Int × Int :=
  if ¬ (MayQ an ad ∧ MayQ bn bd) then (0, 0, 2)
  else if (bd - bn) * ad < an * bd then (0, 0, 3)
  else if 9223372036854775807 < sD an ad bn bd then (0, 0, 3)
  else (((sN an ad bn bd / sR an ad bn bd : Nat) : Int), ((sD an ad bn bd : Nat) : Int), 0)
end
theorem mul_lt64 {a b : Nat} (ha : a < 18446744073709551616) (hb : b < 18446744073709551616) : a * b < 340282366920938463463374607431768211456 := by
  have : a * b ≤ 18446744073709551615 * 18446744073709551615 := Nat.mul_le_mul (by omega) (by omega)
  omega
section
variable {an ad bn bd : Nat}
theorem sG_pos (h : 0 < ad) : 0 < sG ad bd := Nat.gcd_pos_of_pos_left _ h
theorem sR_pos (h : 0 < ad) : 0 < sR an ad bn bd := Nat.gcd_pos_of_pos_left _ (sG_pos h)
theorem sR_dvd_G : sR an ad bn bd ∣ sG ad bd := Nat.gcd_dvd_left _ _
theorem sR_dvd_N : sR an ad bn bd ∣ sN an ad bn bd := (Nat.dvd_mod_iff (Nat.gcd_dvd_left _ _)).1 (Nat.gcd_dvd_right _ _)
/-- the parts: ad = g a', bd = g b', g = r e, N = r m -/
structure Parts (an ad bn bd a' b' e m : Nat) : Prop where
  pa : ad = sG ad bd * a'
  pb : bd = sG ad bd * b'
  pg : sG ad bd = sR an ad bn bd * e
  qa : ad / sG ad bd = a'
  qb : bd / sG ad bd = b'
  qr : bd / sR an ad bn bd = e * b'
  qd : sD an ad bn bd = a' * (e * b')
  qn : sN an ad bn bd = an * b' + bn * a'
  qm : sN an ad bn bd = sR an ad bn bd * m
  qq : sN an ad bn bd / sR an ad bn bd = m
theorem parts (h : 0 < ad) : ∃ a' b' e m, Parts an ad bn bd a' b' e m := by
  obtain ⟨a', h1⟩ := Nat.gcd_dvd_left ad bd
  obtain ⟨b', h2⟩ := Nat.gcd_dvd_right ad bd
  obtain ⟨e, h3⟩ := @sR_dvd_G an ad bn bd
  obtain ⟨m, h4⟩ := @sR_dvd_N an ad bn bd
  have hg : 0 < sG ad bd := sG_pos h
  have hr : 0 < sR an ad bn bd := sR_pos h
  have h1' : ad = sG ad bd * a' := h1
  have h2' : bd = sG ad bd * b' := h2
  have e1 : ad / sG ad bd = a' := Nat.div_eq_of_eq_mul_right hg h1'
  have e2 : bd / sG ad bd = b' := Nat.div_eq_of_eq_mul_right hg h2'
  have e3 : bd / sR an ad bn bd = e * b' := by
    refine Nat.div_eq_of_eq_mul_right hr ?_
    rw [← Nat.mul_assoc, ← h3]
    exact h2'
  exact ⟨a', b', e, m, h1', h2', h3, e1, e2, e3, by unfold sD; rw [e1, e3], by unfold sN; rw [e1, e2], h4, Nat.div_eq_of_eq_mul_right hr h4⟩
/-- what the sum comes to has room -/
theorem room (ha : MayQ an ad) (hb : MayQ bn bd) (hle : ¬ (bd - bn) * ad < an * bd) {a' b' e m : Nat} (P : Parts an ad bn bd a' b' e m) :
    sN an ad bn bd ≤ sG ad bd * (a' * b') ∧ m ≤ sD an ad bn bd := by
  have hg : 0 < sG ad bd := sG_pos ha.1
  have hr : 0 < sR an ad bn bd := sR_pos ha.1
  have hs : an * bd + bn * ad ≤ bd * ad := by
    rw [Nat.sub_mul] at hle
    have := Nat.mul_le_mul_right ad hb.2.1
    omega
  have h1 : sN an ad bn bd ≤ sG ad bd * (a' * b') := by
    refine Nat.le_of_mul_le_mul_left ?_ hg
    have pa := P.pa
    have pb := P.pb
    rw [P.qn]
    generalize sG ad bd = g at *
    have e1 : an * bd = g * (an * b') := by rw [pb]; exact Nat.mul_left_comm _ _ _
    have e2 : bn * ad = g * (bn * a') := by rw [pa]; exact Nat.mul_left_comm _ _ _
    have e3 : bd * ad = g * (g * (a' * b')) := by rw [pa, pb, Nat.mul_mul_mul_comm, Nat.mul_comm b' a', Nat.mul_assoc]
    rw [Nat.mul_add, ← e1, ← e2, ← e3]
    exact hs
  refine ⟨h1, ?_⟩
  refine Nat.le_of_mul_le_mul_left ?_ hr
  rw [← P.qm, P.qd]
  rw [P.pg] at h1
  refine Nat.le_trans h1 (Nat.le_of_eq ?_)
  rw [Nat.mul_assoc, Nat.mul_left_comm e a' b']
end
theorem cmpV_pos {X Y : Nat} : cmpV X Y > 0 ↔ Y < X := by
  unfold cmpV
  split
  · omega
  · split <;> omega
theorem wrap_div {a b : Nat} (h : a < 18446744073709551616) : IntKind.u64.wrap (Int.tdiv (a : Int) (b : Int)) = ((a / b : Nat) : Int) := by
  have := Nat.div_le_self a b
  rw [tdiv_nat, wrap_u (Int.natCast_nonneg _) (by omega)]
theorem plus_f {X Y : Nat} (h : X + Y < 340282366920938463463374607431768211456) :
    odds_wide_plus.f ((X / 18446744073709551616 : Nat) : Int) ((X % 18446744073709551616 : Nat) : Int) ((Y / 18446744073709551616 : Nat) : Int) ((Y % 18446744073709551616 : Nat) : Int) = some ((((X + Y) / 18446744073709551616 : Nat) : Int), (((X + Y) % 18446744073709551616 : Nat) : Int), true) := by
  unfold odds_wide_plus.f
  rw [if_pos ⟨⟨⟨by omega, by omega⟩, by omega, by omega⟩, ⟨by omega, by omega⟩, by omega, by omega⟩]
  have e1 : (((X / 18446744073709551616 : Nat) : Int) + ((Y / 18446744073709551616 : Nat) : Int) + (((X % 18446744073709551616 : Nat) : Int) + ((Y % 18446744073709551616 : Nat) : Int)) / 18446744073709551616) = (((X + Y) / 18446744073709551616 : Nat) : Int) := by omega
  have e2 : (((X % 18446744073709551616 : Nat) : Int) + ((Y % 18446744073709551616 : Nat) : Int)) % 18446744073709551616 = (((X + Y) % 18446744073709551616 : Nat) : Int) := by omega
  have e3 : (((X + Y) / 18446744073709551616 : Nat) : Int) % 18446744073709551616 = (((X + Y) / 18446744073709551616 : Nat) : Int) := by omega
  rw [e1, e2, e3, decide_eq_true (by omega)]
theorem sum_1 {an ad bn bd : Nat} (h : ¬ (MayQ an ad ∧ MayQ bn bd)) : Tells (fun k => Pos1.odds_Sum.f k (an : Int) (ad : Int) (bn : Int) (bd : Int)) (0, 0, 2) := by
  unfold Pos1.odds_Sum.f
  have hj : Tells (fun k => Pos1.odds_Sum.j0 k true (an : Int) (ad : Int) (bn : Int) (bd : Int)) (0, 0, 2) :=
    Tells.succ (g := fun _ => some (0, 0, 2)) (fun k => by simp only [Pos1.odds_Sum.j0, if_true]) (Tells.const _)
  by_cases ha : MayQ an ad
  · have hb : ¬ MayQ bn bd := fun hb => h ⟨ha, hb⟩
    have h1 := may_ev an ad
    have h2 := may_ev bn bd
    rw [decide_eq_true ha] at h1
    rw [decide_eq_false hb] at h2
    exact Tells.bind h1 (Tells.pos rfl (Tells.bind h2 hj))
  · have h1 := may_ev an ad
    rw [decide_eq_false ha] at h1
    exact Tells.bind h1 (Tells.neg (by decide) hj)
section
variable {an ad bn bd : Nat} (h64a : ad < 18446744073709551616) (h64b : bd < 18446744073709551616)
include h64a h64b
theorem sum_2 (ha : MayQ an ad) (hb : MayQ bn bd) (hc : (bd - bn) * ad < an * bd) : Tells (fun k => Pos2.odds_Sum.f k (an : Int) (ad : Int) (bn : Int) (bd : Int)) (0, 0, 3) := by
  have h1 := may_ev an ad
  have h2 := may_ev bn bd
  rw [decide_eq_true ha] at h1
  rw [decide_eq_true hb] at h2
  have la := ha.2.1
  have lb := hb.2.1
  have ws : IntKind.u64.wrap ((bd : Int) - (bn : Int)) = ((bd - bn : Nat) : Int) := by rw [wrap_u (by omega) (by omega)]; omega
  unfold Pos2.odds_Sum.f
  refine Tells.bind h1 (Tells.pos rfl (Tells.bind h2 ?_))
  refine Tells.succ (fun k => by simp only [Pos2.odds_Sum.j0, ws]; rw [if_neg (by decide)]) ?_
  refine Tells.bind (Tells.of fun _ => times_f (a := an) (b := bd) (by omega) h64b) (Tells.bind (Tells.of fun _ => times_f (a := bd - bn) (b := ad) (by omega) h64a) (Tells.bind (wcmp_ev (an * bd) ((bd - bn) * ad)) ?_))
  exact Tells.pos (cmpV_pos.2 hc) (Tells.const _)
theorem sum_3 (ha : MayQ an ad) (hb : MayQ bn bd) (hc : ¬ (bd - bn) * ad < an * bd) (hd : 9223372036854775807 < sD an ad bn bd) : Tells (fun k => Pos3.odds_Sum.f k (an : Int) (ad : Int) (bn : Int) (bd : Int)) (0, 0, 3) := by
  have h1 := may_ev an ad
  have h2 := may_ev bn bd
  rw [decide_eq_true ha] at h1
  rw [decide_eq_true hb] at h2
  have la := ha.2.1
  have lb := hb.2.1
  have ws : IntKind.u64.wrap ((bd : Int) - (bn : Int)) = ((bd - bn : Nat) : Int) := by rw [wrap_u (by omega) (by omega)]; omega
  unfold Pos3.odds_Sum.f
  refine Tells.bind h1 (Tells.pos rfl (Tells.bind h2 ?_))
  refine Tells.succ (fun k => by simp only [Pos3.odds_Sum.j0, ws]; rw [if_neg (by decide)]) ?_
  refine Tells.bind (Tells.of fun _ => times_f (a := an) (b := bd) (by omega) h64b) (Tells.bind (Tells.of fun _ => times_f (a := bd - bn) (b := ad) (by omega) h64a) (Tells.bind (wcmp_ev (an * bd) ((bd - bn) * ad)) ?_))
  refine Tells.neg (fun h => hc (cmpV_pos.1 h)) (Tells.bind (odds_divisor_ev bd ad) ?_)
  obtain ⟨a', b', e, m, P⟩ := parts (an := an) (ad := ad) (bn := bn) (bd := bd) ha.1
  obtain ⟨hr1, hr2⟩ := room ha hb hc P
  have hg : 0 < sG ad bd := sG_pos ha.1
  have hr : 0 < sR an ad bn bd := sR_pos ha.1
  have hgl : sG ad bd ≤ ad := Nat.le_of_dvd ha.1 (Nat.gcd_dvd_left _ _)
  have hrl : sR an ad bn bd ≤ sG ad bd := Nat.le_of_dvd hg sR_dvd_G
  have hN : sN an ad bn bd < 340282366920938463463374607431768211456 := by
    refine Nat.lt_of_le_of_lt hr1 ?_
    have e1 : sG ad bd * (a' * b') = ad * b' := by conv => rhs; rw [P.pa, Nat.mul_assoc]
    rw [e1, ← P.qb]
    exact mul_lt64 h64a (Nat.lt_of_le_of_lt (Nat.div_le_self _ _) h64b)
  show Tells (fun k => if ((sG ad bd : Nat) : Int) = 0 then _ else _) _
  refine Tells.neg (by omega) ?_
  simp only [show Nat.gcd ad bd = sG ad bd from rfl, wrap_div h64a, wrap_div h64b]
  refine Tells.bind (Tells.of fun _ => times_f (a := an) (b := bd / sG ad bd) (by omega) (Nat.lt_of_le_of_lt (Nat.div_le_self _ _) h64b)) (Tells.bind (Tells.of fun _ => times_f (a := bn) (b := ad / sG ad bd) (by omega) (Nat.lt_of_le_of_lt (Nat.div_le_self _ _) h64a)) ?_)
  refine Tells.bind (Tells.of fun _ => plus_f (X := an * (bd / sG ad bd)) (Y := bn * (ad / sG ad bd)) hN) (Tells.pos rfl ?_)
  refine Tells.bind (by_ev (X := sN an ad bn bd) (n := sG ad bd) hN hg (by omega)) (Tells.bind (odds_divisor_ev (sN an ad bn bd % sG ad bd) (sG ad bd)) ?_)
  show Tells (fun k => if ((sR an ad bn bd : Nat) : Int) = 0 then _ else _) _
  refine Tells.neg (by omega) ?_
  simp only [show Nat.gcd (sG ad bd) (sN an ad bn bd % sG ad bd) = sR an ad bn bd from rfl, wrap_div h64a, wrap_div h64b]
  refine Tells.bind (Tells.of fun _ => times_f (a := ad / sG ad bd) (b := bd / sR an ad bn bd) (Nat.lt_of_le_of_lt (Nat.div_le_self _ _) h64a) (Nat.lt_of_le_of_lt (Nat.div_le_self _ _) h64b)) ?_
  rw [show ad / sG ad bd * (bd / sR an ad bn bd) = sD an ad bn bd from rfl]
  by_cases h0 : 0 < sD an ad bn bd / 18446744073709551616
  · exact Tells.pos (by omega) (Tells.const _)
  · exact Tells.neg (by omega) (Tells.pos (by omega) (Tells.const _))
theorem sum_5 (ha : MayQ an ad) (hb : MayQ bn bd) (hc : ¬ (bd - bn) * ad < an * bd) (hd : ¬ 9223372036854775807 < sD an ad bn bd) : Tells (fun k => Pos5.odds_Sum.f k (an : Int) (ad : Int) (bn : Int) (bd : Int)) (((sN an ad bn bd / sR an ad bn bd : Nat) : Int), ((sD an ad bn bd : Nat) : Int), 0) := by
  have h1 := may_ev an ad
  have h2 := may_ev bn bd
  rw [decide_eq_true ha] at h1
  rw [decide_eq_true hb] at h2
  have la := ha.2.1
  have lb := hb.2.1
  have ws : IntKind.u64.wrap ((bd : Int) - (bn : Int)) = ((bd - bn : Nat) : Int) := by rw [wrap_u (by omega) (by omega)]; omega
  unfold Pos5.odds_Sum.f
  refine Tells.bind h1 (Tells.pos rfl (Tells.bind h2 ?_))
  refine Tells.succ (fun k => by simp only [Pos5.odds_Sum.j0, ws]; rw [if_neg (by decide)]) ?_
  refine Tells.bind (Tells.of fun _ => times_f (a := an) (b := bd) (by omega) h64b) (Tells.bind (Tells.of fun _ => times_f (a := bd - bn) (b := ad) (by omega) h64a) (Tells.bind (wcmp_ev (an * bd) ((bd - bn) * ad)) ?_))
  refine Tells.neg (fun h => hc (cmpV_pos.1 h)) (Tells.bind (odds_divisor_ev bd ad) ?_)
  obtain ⟨a', b', e, m, P⟩ := parts (an := an) (ad := ad) (bn := bn) (bd := bd) ha.1
  obtain ⟨hr1, hr2⟩ := room ha hb hc P
  have hg : 0 < sG ad bd := sG_pos ha.1
  have hr : 0 < sR an ad bn bd := sR_pos ha.1
  have hgl : sG ad bd ≤ ad := Nat.le_of_dvd ha.1 (Nat.gcd_dvd_left _ _)
  have hrl : sR an ad bn bd ≤ sG ad bd := Nat.le_of_dvd hg sR_dvd_G
  have hN : sN an ad bn bd < 340282366920938463463374607431768211456 := by
    refine Nat.lt_of_le_of_lt hr1 ?_
    have e1 : sG ad bd * (a' * b') = ad * b' := by conv => rhs; rw [P.pa, Nat.mul_assoc]
    rw [e1, ← P.qb]
    exact mul_lt64 h64a (Nat.lt_of_le_of_lt (Nat.div_le_self _ _) h64b)
  show Tells (fun k => if ((sG ad bd : Nat) : Int) = 0 then _ else _) _
  refine Tells.neg (by omega) ?_
  simp only [show Nat.gcd ad bd = sG ad bd from rfl, wrap_div h64a, wrap_div h64b]
  refine Tells.bind (Tells.of fun _ => times_f (a := an) (b := bd / sG ad bd) (by omega) (Nat.lt_of_le_of_lt (Nat.div_le_self _ _) h64b)) (Tells.bind (Tells.of fun _ => times_f (a := bn) (b := ad / sG ad bd) (by omega) (Nat.lt_of_le_of_lt (Nat.div_le_self _ _) h64a)) ?_)
  refine Tells.bind (Tells.of fun _ => plus_f (X := an * (bd / sG ad bd)) (Y := bn * (ad / sG ad bd)) hN) (Tells.pos rfl ?_)
  refine Tells.bind (by_ev (X := sN an ad bn bd) (n := sG ad bd) hN hg (by omega)) (Tells.bind (odds_divisor_ev (sN an ad bn bd % sG ad bd) (sG ad bd)) ?_)
  show Tells (fun k => if ((sR an ad bn bd : Nat) : Int) = 0 then _ else _) _
  refine Tells.neg (by omega) ?_
  simp only [show Nat.gcd (sG ad bd) (sN an ad bn bd % sG ad bd) = sR an ad bn bd from rfl, wrap_div h64a, wrap_div h64b]
  refine Tells.bind (Tells.of fun _ => times_f (a := ad / sG ad bd) (b := bd / sR an ad bn bd) (Nat.lt_of_le_of_lt (Nat.div_le_self _ _) h64a) (Nat.lt_of_le_of_lt (Nat.div_le_self _ _) h64b)) ?_
  rw [show ad / sG ad bd * (bd / sR an ad bn bd) = sD an ad bn bd from rfl]
  refine Tells.neg (by omega) (Tells.neg (by omega) (Tells.bind (by_ev (X := sN an ad bn bd) (n := sR an ad bn bd) hN hr (by omega)) (Tells.of fun _ => ?_)))
  have hm : sN an ad bn bd / sR an ad bn bd ≤ sD an ad bn bd := by rw [P.qq]; exact hr2
  rw [Nat.mod_eq_of_lt (show sN an ad bn bd / sR an ad bn bd < 18446744073709551616 by omega), Nat.mod_eq_of_lt (show sD an ad bn bd < 18446744073709551616 by omega)]
end
end Go.Proofs.YtcdcpnhlmgmnkaaDoor.Odd
namespace Go.Proofs.YtcdcpnhlmgmnkaaDoor.Pods2
open Go.RowKit Go.Proofs.YtcdcpnhlmgmnkaaDoor.Base Go.Proofs.YtcdcpnhlmgmnkaaDoor.Odd Go.Proofs.YtcdcpnhlmgmnkaaDoorW.PrintWords
def odds_Sum.f (a0_0 a0_1 a1_0 a1_1 : Int) : Option (Int × Int × Int) :=
  if ((0 ≤ a0_0 ∧ a0_0 < 18446744073709551616) ∧ (0 ≤ a0_1 ∧ a0_1 < 18446744073709551616)) ∧ ((0 ≤ a1_0 ∧ a1_0 < 18446744073709551616) ∧ (0 ≤ a1_1 ∧ a1_1 < 18446744073709551616)) then some (sumV a0_0.toNat a0_1.toNat a1_0.toNat a1_1.toNat) else none
theorem odds_Sum.calls (a0_0 a0_1 a1_0 a1_1 r1 r2 r3 : Int) (w : World) (h : odds_Sum.f a0_0 a0_1 a1_0 a1_1 = some (r1, r2, r3)) :
    Calls Tryd.prog 36 #[.agg #[.int .u64 a0_0, .int .u64 a0_1], .agg #[.int .u64 a1_0, .int .u64 a1_1]] w fun e w' => e = .returned (.tuple #[.agg #[.int .u64 r1, .int .u64 r2], .int .i64 r3]) ∧ Below w.heap.size w w' := by
  unfold odds_Sum.f at h
  split at h
  · rename_i hh
    obtain ⟨⟨⟨p0, p1⟩, q0, q1⟩, ⟨r0, r1'⟩, s0, s1⟩ := hh
    obtain ⟨an, rfl⟩ := Int.eq_ofNat_of_zero_le p0
    obtain ⟨ad, rfl⟩ := Int.eq_ofNat_of_zero_le q0
    obtain ⟨bn, rfl⟩ := Int.eq_ofNat_of_zero_le r0
    obtain ⟨bd, rfl⟩ := Int.eq_ofNat_of_zero_le s0
    simp only [Int.toNat_natCast, Option.some.injEq] at h
    unfold sumV at h
    have ha64 : ad < 18446744073709551616 := by omega
    have hb64 : bd < 18446744073709551616 := by omega
    by_cases hm : MayQ an ad ∧ MayQ bn bd
    · rw [if_neg (fun k => k hm)] at h
      by_cases hc : (bd - bn) * ad < an * bd
      · rw [if_pos hc] at h
        obtain ⟨k, hk⟩ := (sum_2 ha64 hb64 hm.1 hm.2 hc).exists
        rw [h] at hk
        exact Pos2.odds_Sum.calls k _ _ _ _ r1 r2 r3 w hk
      · rw [if_neg hc] at h
        by_cases hd : 9223372036854775807 < sD an ad bn bd
        · rw [if_pos hd] at h
          obtain ⟨k, hk⟩ := (sum_3 ha64 hb64 hm.1 hm.2 hc hd).exists
          rw [h] at hk
          exact Pos3.odds_Sum.calls k _ _ _ _ r1 r2 r3 w hk
        · rw [if_neg hd] at h
          obtain ⟨k, hk⟩ := (sum_5 ha64 hb64 hm.1 hm.2 hc hd).exists
          rw [h] at hk
          exact Pos5.odds_Sum.calls k _ _ _ _ r1 r2 r3 w hk
    · rw [if_pos hm] at h
      obtain ⟨k, hk⟩ := (sum_1 hm).exists
      rw [h] at hk
      exact Pos1.odds_Sum.calls k _ _ _ _ r1 r2 r3 w hk
  · cases h
end Go.Proofs.YtcdcpnhlmgmnkaaDoor.Pods2
end
section
/- What the prints of the chances statements take as given. -/
end
section
/- Not and Compare in plain numbers; chances that are alike. -/
namespace Go.Proofs.YtcdcpnhlmgmnkaaDoor.Odd
open Go.RowKit Go.Proofs.YtcdcpnhlmgmnkaaDoor.Base Go.Proofs.YtcdcpnhlmgmnkaaDoor.Podd Go.Proofs.YtcdcpnhlmgmnkaaDoorW.PrintWords Go.Proofs.YtcdcpnhlmgmnkaaDoorW.PrintLast Go.Proofs.YtcdcpnhlmgmnkaaDoorW.PrintMore
set_option linter.unusedSimpArgs false
set_option linter.unusedVariables false
theorem mayQ_not {n d : Nat} (h : MayQ n d) : MayQ (d - n) d := by
  obtain ⟨h1, h2, h3⟩ := h
  refine ⟨h1, by omega, ?_⟩
  have c1 : Nat.gcd (d - n) d ∣ d := Nat.gcd_dvd_right _ _
  have c2 : Nat.gcd (d - n) d ∣ d - n := Nat.gcd_dvd_left _ _
  have c3 : Nat.gcd (d - n) d ∣ n := by
    have := Nat.dvd_sub c1 c2
    rwa [show d - (d - n) = n by omega] at this
  have c4 := Nat.dvd_gcd c3 c1
  rw [h3] at c4
  exact Nat.dvd_one.1 c4
theorem makeV_may {n d : Nat} (h : MayQ n d) : makeV (n : Int) (d : Int) = ((n : Int), (d : Int), 0) := by
  obtain ⟨h1, h2, h3⟩ := h
  unfold makeV
  rw [if_neg (by omega), if_neg (by omega)]
  simp only [Int.toNat_natCast, h3, Nat.div_one]
def notV (n d : Nat) : Int × Int × Int := if MayQ n d then (((d - n : Nat) : Int), (d : Int), 0) else (0, 0, 2)
theorem not_ev {n d : Nat} (h64 : d < 18446744073709551616) : Tells (fun k => odds_Not.f k (n : Int) (d : Int)) (notV n d) := by
  unfold odds_Not.f notV
  have hm := may_ev n d
  by_cases h : MayQ n d
  · rw [decide_eq_true h] at hm
    have h2 := h.2.1
    have ws : IntKind.u64.wrap ((d : Int) - (n : Int)) = ((d - n : Nat) : Int) := by rw [wrap_u (by omega) (by omega)]; omega
    rw [if_pos h, ws]
    have hk := odds_Make_ev (num := ((d - n : Nat) : Int)) (den := (d : Int)) (by omega) (by omega) (by omega)
    rw [makeV_may (mayQ_not h)] at hk
    exact Tells.bind hm (Tells.pos rfl (Tells.bind hk (Tells.of fun _ => rfl)))
  · rw [decide_eq_false h] at hm
    rw [if_neg h]
    exact Tells.bind hm (Tells.neg (by decide) (Tells.const _))
def cmpIV (an ad bn bd : Nat) : Int × Int := if MayQ an ad ∧ MayQ bn bd then (cmpV (an * bd) (bn * ad), 0) else (0, 2)
theorem compare_ev {an ad bn bd : Nat} (h64a : ad < 18446744073709551616) (h64b : bd < 18446744073709551616) : Tells (fun k => odds_Compare.f k (an : Int) (ad : Int) (bn : Int) (bd : Int)) (cmpIV an ad bn bd) := by
  unfold odds_Compare.f cmpIV
  have h1 := may_ev an ad
  have h2 := may_ev bn bd
  have hj : Tells (fun k => odds_Compare.j0 k true (an : Int) (ad : Int) (bn : Int) (bd : Int)) (0, 2) :=
    Tells.succ (g := fun _ => some (0, 2)) (fun k => by simp only [odds_Compare.j0, if_true]) (Tells.const _)
  by_cases ha : MayQ an ad
  · rw [decide_eq_true ha] at h1
    refine Tells.bind h1 (Tells.pos rfl (Tells.bind h2 ?_))
    by_cases hb : MayQ bn bd
    · have la := ha.2.1
      have lb := hb.2.1
      rw [decide_eq_true hb, if_pos ⟨ha, hb⟩]
      refine Tells.succ (fun k => by simp only [odds_Compare.j0]; rw [if_neg (by decide)]) ?_
      exact Tells.bind (Tells.of fun _ => times_f (by omega) h64b) (Tells.bind (Tells.of fun _ => times_f (by omega) h64a) (Tells.bind (wcmp_ev (an * bd) (bn * ad)) (Tells.of fun _ => rfl)))
    · rw [decide_eq_false hb, if_neg (fun h => hb h.2)]
      exact hj
  · rw [decide_eq_false ha] at h1
    rw [if_neg (fun h => ha h.1)]
    exact Tells.bind h1 (Tells.neg (by decide) hj)
end Go.Proofs.YtcdcpnhlmgmnkaaDoor.Odd
end
