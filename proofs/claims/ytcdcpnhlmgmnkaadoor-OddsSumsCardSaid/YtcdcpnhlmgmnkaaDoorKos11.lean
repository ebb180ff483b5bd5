/- Joined by a program of this session (pack.py) out of: Odt BaseOt Odz Odo Odu Odw -/
import Derived.Test.YtcdcpnhlmgmnkaaDoorKos6
import Derived.Test.YtcdcpnhlmgmnkaaDoorKos7
import Derived.Test.YtcdcpnhlmgmnkaaDoorKos9
import Derived.Test.YtcdcpnhlmgmnkaaDoorKos10
section
/- Sum: what it tells, in plain numbers, and its contract (each end printed by itself). -/
namespace Go.Proofs.YtcdcpnhlmgmnkaaDoor.Odd
open Go.RowKit Go.Proofs.YtcdcpnhlmgmnkaaDoor.Base Go.Proofs.YtcdcpnhlmgmnkaaDoor.Podd Go.Proofs.YtcdcpnhlmgmnkaaDoorW.PrintWords Go.Proofs.YtcdcpnhlmgmnkaaDoorW.PrintLast Go.Proofs.YtcdcpnhlmgmnkaaDoorW.PrintMore
set_option linter.unusedSimpArgs false
set_option linter.unusedVariables false
section
variable (an ad bn bd : Nat)
def sG : Nat := Nat.gcd ad bd
def sN : Nat := an * (bd / sG ad bd) + bn * (ad / sG ad bd)
def sR : Nat := Nat.gcd (sG ad bd) (sN an ad bn bd % sG ad bd)
def sD : Nat := ad / sG ad bd * (bd / sR an ad bn bd)
def sumV : Int × Int × Int :=
  if ¬ (MayQ an ad ∧ MayQ bn bd) then (0, 0, 2)
  else if (bd - bn) * ad < an * bd then (0, 0, 3)
  else if 9223372036854775807 < sD an ad bn bd then (0, 0, 3)
  else (((sN an ad bn bd / sR an ad bn bd : Nat) : Int), ((sD an ad bn bd : Nat) : Int), 0)
end
theorem mul_lt64 {a b : Nat} (ha : a < 18446744073709551616) (hb : b < 18446744073709551616) : a * b < 340282366920938463463374607431768211456 := by
  have : a * b ≤ 18446744073709551615 * 18446744073709551615 := Nat.mul_le_mul (by omega) (by omega)
  omega
section
variable {an ad bn bd : Nat}
theorem sG_pos (h : 0 < ad) : 0 < sG ad bd := Nat.gcd_pos_of_pos_left _ h
theorem sR_pos (h : 0 < ad) : 0 < sR an ad bn bd := Nat.gcd_pos_of_pos_left _ (sG_pos h)
theorem sR_dvd_G : sR an ad bn bd ∣ sG ad bd := Nat.gcd_dvd_left _ _
theorem sR_dvd_N : sR an ad bn bd ∣ sN an ad bn bd := (Nat.dvd_mod_iff (Nat.gcd_dvd_left _ _)).1 (Nat.gcd_dvd_right _ _)
/-- the parts: ad = g a', bd = g b', g = r e, N = r m -/
structure Parts (an ad bn bd a' b' e m : Nat) : Prop where
  pa : ad = sG ad bd * a'
  pb : bd = sG ad bd * b'
  pg : sG ad bd = sR an ad bn bd * e
  qa : ad / sG ad bd = a'
  qb : bd / sG ad bd = b'
  qr : bd / sR an ad bn bd = e * b'
  qd : sD an ad bn bd = a' * (e * b')
  qn : sN an ad bn bd = an * b' + bn * a'
  qm : sN an ad bn bd = sR an ad bn bd * m
  qq : sN an ad bn bd / sR an ad bn bd = m
theorem parts (h : 0 < ad) : ∃ a' b' e m, Parts an ad bn bd a' b' e m := by
  obtain ⟨a', h1⟩ := Nat.gcd_dvd_left ad bd
  obtain ⟨b', h2⟩ := Nat.gcd_dvd_right ad bd
  obtain ⟨e, h3⟩ := @sR_dvd_G an ad bn bd
  obtain ⟨m, h4⟩ := @sR_dvd_N an ad bn bd
  have hg : 0 < sG ad bd := sG_pos h
  have hr : 0 < sR an ad bn bd := sR_pos h
  have h1' : ad = sG ad bd * a' := h1
  have h2' : bd = sG ad bd * b' := h2
  have e1 : ad / sG ad bd = a' := Nat.div_eq_of_eq_mul_right hg h1'
  have e2 : bd / sG ad bd = b' := Nat.div_eq_of_eq_mul_right hg h2'
  have e3 : bd / sR an ad bn bd = e * b' := by
    refine Nat.div_eq_of_eq_mul_right hr ?_
    rw [← Nat.mul_assoc, ← h3]
    exact h2'
  exact ⟨a', b', e, m, h1', h2', h3, e1, e2, e3, by unfold sD; rw [e1, e3], by unfold sN; rw [e1, e2], h4, Nat.div_eq_of_eq_mul_right hr h4⟩
/-- what the sum comes to has room -/
theorem room (ha : MayQ an ad) (hb : MayQ bn bd) (hle : ¬ (bd - bn) * ad < an * bd) {a' b' e m : Nat} (P : Parts an ad bn bd a' b' e m) :
    sN an ad bn bd ≤ sG ad bd * (a' * b') ∧ m ≤ sD an ad bn bd := by
  have hg : 0 < sG ad bd := sG_pos ha.1
  have hr : 0 < sR an ad bn bd := sR_pos ha.1
  have hs : an * bd + bn * ad ≤ bd * ad := by
    rw [Nat.sub_mul] at hle
    have := Nat.mul_le_mul_right ad hb.2.1
    omega
  have h1 : sN an ad bn bd ≤ sG ad bd * (a' * b') := by
    refine Nat.le_of_mul_le_mul_left ?_ hg
    have pa := P.pa
    have pb := P.pb
    rw [P.qn]
    generalize sG ad bd = g at *
    have e1 : an * bd = g * (an * b') := by rw [pb]; exact Nat.mul_left_comm _ _ _
    have e2 : bn * ad = g * (bn * a') := by rw [pa]; exact Nat.mul_left_comm _ _ _
    have e3 : bd * ad = g * (g * (a' * b')) := by rw [pa, pb, Nat.mul_mul_mul_comm, Nat.mul_comm b' a', Nat.mul_assoc]
    rw [Nat.mul_add, ← e1, ← e2, ← e3]
    exact hs
  refine ⟨h1, ?_⟩
  refine Nat.le_of_mul_le_mul_left ?_ hr
  rw [← P.qm, P.qd]
  rw [P.pg] at h1
  refine Nat.le_trans h1 (Nat.le_of_eq ?_)
  rw [Nat.mul_assoc, Nat.mul_left_comm e a' b']
end
theorem cmpV_pos {X Y : Nat} : cmpV X Y > 0 ↔ Y < X := by
  unfold cmpV
  split
  · omega
  · split <;> omega
theorem wrap_div {a b : Nat} (h : a < 18446744073709551616) : IntKind.u64.wrap (Int.tdiv (a : Int) (b : Int)) = ((a / b : Nat) : Int) := by
  have := Nat.div_le_self a b
  rw [tdiv_nat, wrap_u (Int.natCast_nonneg _) (by omega)]
theorem plus_f {X Y : Nat} (h : X + Y < 340282366920938463463374607431768211456) :
    odds_wide_plus.f ((X / 18446744073709551616 : Nat) : Int) ((X % 18446744073709551616 : Nat) : Int) ((Y / 18446744073709551616 : Nat) : Int) ((Y % 18446744073709551616 : Nat) : Int) = some ((((X + Y) / 18446744073709551616 : Nat) : Int), (((X + Y) % 18446744073709551616 : Nat) : Int), true) := by
  unfold odds_wide_plus.f
  rw [if_pos ⟨⟨⟨by omega, by omega⟩, by omega, by omega⟩, ⟨by omega, by omega⟩, by omega, by omega⟩]
  have e1 : (((X / 18446744073709551616 : Nat) : Int) + ((Y / 18446744073709551616 : Nat) : Int) + (((X % 18446744073709551616 : Nat) : Int) + ((Y % 18446744073709551616 : Nat) : Int)) / 18446744073709551616) = (((X + Y) / 18446744073709551616 : Nat) : Int) := by omega
  have e2 : (((X % 18446744073709551616 : Nat) : Int) + ((Y % 18446744073709551616 : Nat) : Int)) % 18446744073709551616 = (((X + Y) % 18446744073709551616 : Nat) : Int) := by omega
  have e3 : (((X + Y) / 18446744073709551616 : Nat) : Int) % 18446744073709551616 = (((X + Y) / 18446744073709551616 : Nat) : Int) := by omega
  rw [e1, e2, e3, decide_eq_true (by omega)]
theorem sum_1 {an ad bn bd : Nat} (h : ¬ (MayQ an ad ∧ MayQ bn bd)) : Tells (fun k => Pos1.odds_Sum.f k (an : Int) (ad : Int) (bn : Int) (bd : Int)) (0, 0, 2) := by
  unfold Pos1.odds_Sum.f
  have hj : Tells (fun k => Pos1.odds_Sum.j0 k true (an : Int) (ad : Int) (bn : Int) (bd : Int)) (0, 0, 2) :=
    Tells.succ (g := fun _ => some (0, 0, 2)) (fun k => by simp only [Pos1.odds_Sum.j0, if_true]) (Tells.const _)
  by_cases ha : MayQ an ad
  · have hb : ¬ MayQ bn bd := fun hb => h ⟨ha, hb⟩
    have h1 := may_ev an ad
    have h2 := may_ev bn bd
    rw [decide_eq_true ha] at h1
    rw [decide_eq_false hb] at h2
    exact Tells.bind h1 (Tells.pos rfl (Tells.bind h2 hj))
  · have h1 := may_ev an ad
    rw [decide_eq_false ha] at h1
    exact Tells.bind h1 (Tells.neg (by decide) hj)
section
variable {an ad bn bd : Nat} (h64a : ad < 18446744073709551616) (h64b : bd < 18446744073709551616)
include h64a h64b
theorem sum_2 (ha : MayQ an ad) (hb : MayQ bn bd) (hc : (bd - bn) * ad < an * bd) : Tells (fun k => Pos2.odds_Sum.f k (an : Int) (ad : Int) (bn : Int) (bd : Int)) (0, 0, 3) := by
  have h1 := may_ev an ad
  have h2 := may_ev bn bd
  rw [decide_eq_true ha] at h1
  rw [decide_eq_true hb] at h2
  have la := ha.2.1
  have lb := hb.2.1
  have ws : IntKind.u64.wrap ((bd : Int) - (bn : Int)) = ((bd - bn : Nat) : Int) := by rw [wrap_u (by omega) (by omega)]; omega
  unfold Pos2.odds_Sum.f
  refine Tells.bind h1 (Tells.pos rfl (Tells.bind h2 ?_))
  refine Tells.succ (fun k => by simp only [Pos2.odds_Sum.j0, ws]; rw [if_neg (by decide)]) ?_
  refine Tells.bind (Tells.of fun _ => times_f (a := an) (b := bd) (by omega) h64b) (Tells.bind (Tells.of fun _ => times_f (a := bd - bn) (b := ad) (by omega) h64a) (Tells.bind (wcmp_ev (an * bd) ((bd - bn) * ad)) ?_))
  exact Tells.pos (cmpV_pos.2 hc) (Tells.const _)
theorem sum_3 (ha : MayQ an ad) (hb : MayQ bn bd) (hc : ¬ (bd - bn) * ad < an * bd) (hd : 9223372036854775807 < sD an ad bn bd) : Tells (fun k => Pos3.odds_Sum.f k (an : Int) (ad : Int) (bn : Int) (bd : Int)) (0, 0, 3) := by
  have h1 := may_ev an ad
  have h2 := may_ev bn bd
  rw [decide_eq_true ha] at h1
  rw [decide_eq_true hb] at h2
  have la := ha.2.1
  have lb := hb.2.1
  have ws : IntKind.u64.wrap ((bd : Int) - (bn : Int)) = ((bd - bn : Nat) : Int) := by rw [wrap_u (by omega) (by omega)]; omega
  unfold Pos3.odds_Sum.f
  refine Tells.bind h1 (Tells.pos rfl (Tells.bind h2 ?_))
  refine Tells.succ (fun k => by simp only [Pos3.odds_Sum.j0, ws]; rw [if_neg (by decide)]) ?_
  refine Tells.bind (Tells.of fun _ => times_f (a := an) (b := bd) (by omega) h64b) (Tells.bind (Tells.of fun _ => times_f (a := bd - bn) (b := ad) (by omega) h64a) (Tells.bind (wcmp_ev (an * bd) ((bd - bn) * ad)) ?_))
  refine Tells.neg (fun h => hc (cmpV_pos.1 h)) (Tells.bind (odds_divisor_ev bd ad) ?_)
  obtain ⟨a', b', e, m, P⟩ := parts (an := an) (ad := ad) (bn := bn) (bd := bd) ha.1
  obtain ⟨hr1, hr2⟩ := room ha hb hc P
  have hg : 0 < sG ad bd := sG_pos ha.1
  have hr : 0 < sR an ad bn bd := sR_pos ha.1
  have hgl : sG ad bd ≤ ad := Nat.le_of_dvd ha.1 (Nat.gcd_dvd_left _ _)
  have hrl : sR an ad bn bd ≤ sG ad bd := Nat.le_of_dvd hg sR_dvd_G
  have hN : sN an ad bn bd < 340282366920938463463374607431768211456 := by
    refine Nat.lt_of_le_of_lt hr1 ?_
    have e1 : sG ad bd * (a' * b') = ad * b' := by conv => rhs; rw [P.pa, Nat.mul_assoc]
    rw [e1, ← P.qb]
    exact mul_lt64 h64a (Nat.lt_of_le_of_lt (Nat.div_le_self _ _) h64b)
  show Tells (fun k => if ((sG ad bd : Nat) : Int) = 0 then _ else _) _
  refine Tells.neg (by omega) ?_
  simp only [show Nat.gcd ad bd = sG ad bd from rfl, wrap_div h64a, wrap_div h64b]
  refine Tells.bind (Tells.of fun _ => times_f (a := an) (b := bd / sG ad bd) (by omega) (Nat.lt_of_le_of_lt (Nat.div_le_self _ _) h64b)) (Tells.bind (Tells.of fun _ => times_f (a := bn) (b := ad / sG ad bd) (by omega) (Nat.lt_of_le_of_lt (Nat.div_le_self _ _) h64a)) ?_)
  refine Tells.bind (Tells.of fun _ => plus_f (X := an * (bd / sG ad bd)) (Y := bn * (ad / sG ad bd)) hN) (Tells.pos rfl ?_)
  refine Tells.bind (by_ev (X := sN an ad bn bd) (n := sG ad bd) hN hg (by omega)) (Tells.bind (odds_divisor_ev (sN an ad bn bd % sG ad bd) (sG ad bd)) ?_)
  show Tells (fun k => if ((sR an ad bn bd : Nat) : Int) = 0 then _ else _) _
  refine Tells.neg (by omega) ?_
  simp only [show Nat.gcd (sG ad bd) (sN an ad bn bd % sG ad bd) = sR an ad bn bd from rfl, wrap_div h64a, wrap_div h64b]
  refine Tells.bind (Tells.of fun _ => times_f (a := ad / sG ad bd) (b := bd / sR an ad bn bd) (Nat.lt_of_le_of_lt (Nat.div_le_self _ _) h64a) (Nat.lt_of_le_of_lt (Nat.div_le_self _ _) h64b)) ?_
  rw [show ad / sG ad bd * (bd / sR an ad bn bd) = sD an ad bn bd from rfl]
  by_cases h0 : 0 < sD an ad bn bd / 18446744073709551616
  · exact Tells.pos (by omega) (Tells.const _)
  · exact Tells.neg (by omega) (Tells.pos (by omega) (Tells.const _))
theorem sum_5 (ha : MayQ an ad) (hb : MayQ bn bd) (hc : ¬ (bd - bn) * ad < an * bd) (hd : ¬ 9223372036854775807 < sD an ad bn bd) : Tells (fun k => Pos5.odds_Sum.f k (an : Int) (ad : Int) (bn : Int) (bd : Int)) (((sN an ad bn bd / sR an ad bn bd : Nat) : Int), ((sD an ad bn bd : Nat) : Int), 0) := by
  have h1 := may_ev an ad
  have h2 := may_ev bn bd
  rw [decide_eq_true ha] at h1
  rw [decide_eq_true hb] at h2
  have la := ha.2.1
  have lb := hb.2.1
  have ws : IntKind.u64.wrap ((bd : Int) - (bn : Int)) = ((bd - bn : Nat) : Int) := by rw [wrap_u (by omega) (by omega)]; omega
  unfold Pos5.odds_Sum.f
  refine Tells.bind h1 (Tells.pos rfl (Tells.bind h2 ?_))
  refine Tells.succ (fun k => by simp only [Pos5.odds_Sum.j0, ws]; rw [if_neg (by decide)]) ?_
  refine Tells.bind (Tells.of fun _ => times_f (a := an) (b := bd) (by omega) h64b) (Tells.bind (Tells.of fun _ => times_f (a := bd - bn) (b := ad) (by omega) h64a) (Tells.bind (wcmp_ev (an * bd) ((bd - bn) * ad)) ?_))
  refine Tells.neg (fun h => hc (cmpV_pos.1 h)) (Tells.bind (odds_divisor_ev bd ad) ?_)
  obtain ⟨a', b', e, m, P⟩ := parts (an := an) (ad := ad) (bn := bn) (bd := bd) ha.1
  obtain ⟨hr1, hr2⟩ := room ha hb hc P
  have hg : 0 < sG ad bd := sG_pos ha.1
  have hr : 0 < sR an ad bn bd := sR_pos ha.1
  have hgl : sG ad bd ≤ ad := Nat.le_of_dvd ha.1 (Nat.gcd_dvd_left _ _)
  have hrl : sR an ad bn bd ≤ sG ad bd := Nat.le_of_dvd hg sR_dvd_G
  have hN : sN an ad bn bd < 340282366920938463463374607431768211456 := by
    refine Nat.lt_of_le_of_lt hr1 ?_
    have e1 : sG ad bd * (a' * b') = ad * b' := by conv => rhs; rw [P.pa, Nat.mul_assoc]
    rw [e1, ← P.qb]
    exact mul_lt64 h64a (Nat.lt_of_le_of_lt (Nat.div_le_self _ _) h64b)
  show Tells (fun k => if ((sG ad bd : Nat) : Int) = 0 then _ else _) _
  refine Tells.neg (by omega) ?_
  simp only [show Nat.gcd ad bd = sG ad bd from rfl, wrap_div h64a, wrap_div h64b]
  refine Tells.bind (Tells.of fun _ => times_f (a := an) (b := bd / sG ad bd) (by omega) (Nat.lt_of_le_of_lt (Nat.div_le_self _ _) h64b)) (Tells.bind (Tells.of fun _ => times_f (a := bn) (b := ad / sG ad bd) (by omega) (Nat.lt_of_le_of_lt (Nat.div_le_self _ _) h64a)) ?_)
  refine Tells.bind (Tells.of fun _ => plus_f (X := an * (bd / sG ad bd)) (Y := bn * (ad / sG ad bd)) hN) (Tells.pos rfl ?_)
  refine Tells.bind (by_ev (X := sN an ad bn bd) (n := sG ad bd) hN hg (by omega)) (Tells.bind (odds_divisor_ev (sN an ad bn bd % sG ad bd) (sG ad bd)) ?_)
  show Tells (fun k => if ((sR an ad bn bd : Nat) : Int) = 0 then _ else _) _
  refine Tells.neg (by omega) ?_
  simp only [show Nat.gcd (sG ad bd) (sN an ad bn bd % sG ad bd) = sR an ad bn bd from rfl, wrap_div h64a, wrap_div h64b]
  refine Tells.bind (Tells.of fun _ => times_f (a := ad / sG ad bd) (b := bd / sR an ad bn bd) (Nat.lt_of_le_of_lt (Nat.div_le_self _ _) h64a) (Nat.lt_of_le_of_lt (Nat.div_le_self _ _) h64b)) ?_
  rw [show ad / sG ad bd * (bd / sR an ad bn bd) = sD an ad bn bd from rfl]
  refine Tells.neg (by omega) (Tells.neg (by omega) (Tells.bind (by_ev (X := sN an ad bn bd) (n := sR an ad bn bd) hN hr (by omega)) (Tells.of fun _ => ?_)))
  have hm : sN an ad bn bd / sR an ad bn bd ≤ sD an ad bn bd := by rw [P.qq]; exact hr2
  rw [Nat.mod_eq_of_lt (show sN an ad bn bd / sR an ad bn bd < 18446744073709551616 by omega), Nat.mod_eq_of_lt (show sD an ad bn bd < 18446744073709551616 by omega)]
end
end Go.Proofs.YtcdcpnhlmgmnkaaDoor.Odd
namespace Go.Proofs.YtcdcpnhlmgmnkaaDoor.Pods2
open Go.RowKit Go.Proofs.YtcdcpnhlmgmnkaaDoor.Base Go.Proofs.YtcdcpnhlmgmnkaaDoor.Odd Go.Proofs.YtcdcpnhlmgmnkaaDoorW.PrintWords
def odds_Sum.f (a0_0 a0_1 a1_0 a1_1 : Int) : Option (Int × Int × Int) :=
  if ((0 ≤ a0_0 ∧ a0_0 < 18446744073709551616) ∧ (0 ≤ a0_1 ∧ a0_1 < 18446744073709551616)) ∧ ((0 ≤ a1_0 ∧ a1_0 < 18446744073709551616) ∧ (0 ≤ a1_1 ∧ a1_1 < 18446744073709551616)) then some (sumV a0_0.toNat a0_1.toNat a1_0.toNat a1_1.toNat) else none
theorem odds_Sum.calls (a0_0 a0_1 a1_0 a1_1 r1 r2 r3 : Int) (w : World) (h : odds_Sum.f a0_0 a0_1 a1_0 a1_1 = some (r1, r2, r3)) :
    Calls Tryd.prog 36 #[.agg #[.int .u64 a0_0, .int .u64 a0_1], .agg #[.int .u64 a1_0, .int .u64 a1_1]] w fun e w' => e = .returned (.tuple #[.agg #[.int .u64 r1, .int .u64 r2], .int .i64 r3]) ∧ Below w.heap.size w w' := by
  unfold odds_Sum.f at h
  split at h
  · rename_i hh
    obtain ⟨⟨⟨p0, p1⟩, q0, q1⟩, ⟨r0, r1'⟩, s0, s1⟩ := hh
    obtain ⟨an, rfl⟩ := Int.eq_ofNat_of_zero_le p0
    obtain ⟨ad, rfl⟩ := Int.eq_ofNat_of_zero_le q0
    obtain ⟨bn, rfl⟩ := Int.eq_ofNat_of_zero_le r0
    obtain ⟨bd, rfl⟩ := Int.eq_ofNat_of_zero_le s0
    simp only [Int.toNat_natCast, Option.some.injEq] at h
    unfold sumV at h
    have ha64 : ad < 18446744073709551616 := by omega
    have hb64 : bd < 18446744073709551616 := by omega
    by_cases hm : MayQ an ad ∧ MayQ bn bd
    · rw [if_neg (fun k => k hm)] at h
      by_cases hc : (bd - bn) * ad < an * bd
      · rw [if_pos hc] at h
        obtain ⟨k, hk⟩ := (sum_2 ha64 hb64 hm.1 hm.2 hc).exists
        rw [h] at hk
        exact Pos2.odds_Sum.calls k _ _ _ _ r1 r2 r3 w hk
      · rw [if_neg hc] at h
        by_cases hd : 9223372036854775807 < sD an ad bn bd
        · rw [if_pos hd] at h
          obtain ⟨k, hk⟩ := (sum_3 ha64 hb64 hm.1 hm.2 hc hd).exists
          rw [h] at hk
          exact Pos3.odds_Sum.calls k _ _ _ _ r1 r2 r3 w hk
        · rw [if_neg hd] at h
          obtain ⟨k, hk⟩ := (sum_5 ha64 hb64 hm.1 hm.2 hc hd).exists
          rw [h] at hk
          exact Pos5.odds_Sum.calls k _ _ _ _ r1 r2 r3 w hk
    · rw [if_pos hm] at h
      obtain ⟨k, hk⟩ := (sum_1 hm).exists
      rw [h] at hk
      exact Pos1.odds_Sum.calls k _ _ _ _ r1 r2 r3 w hk
  · cases h
end Go.Proofs.YtcdcpnhlmgmnkaaDoor.Pods2
end
section
/- What the prints of the chances statements take as given. -/
end
section
/- Not and Compare in plain numbers; chances that are alike. -/
namespace Go.Proofs.YtcdcpnhlmgmnkaaDoor.Odd
open Go.RowKit Go.Proofs.YtcdcpnhlmgmnkaaDoor.Base Go.Proofs.YtcdcpnhlmgmnkaaDoor.Podd Go.Proofs.YtcdcpnhlmgmnkaaDoorW.PrintWords Go.Proofs.YtcdcpnhlmgmnkaaDoorW.PrintLast Go.Proofs.YtcdcpnhlmgmnkaaDoorW.PrintMore
set_option linter.unusedSimpArgs false
set_option linter.unusedVariables false
theorem mayQ_not {n d : Nat} (h : MayQ n d) : MayQ (d - n) d := by
  obtain ⟨h1, h2, h3⟩ := h
  refine ⟨h1, by omega, ?_⟩
  have c1 : Nat.gcd (d - n) d ∣ d := Nat.gcd_dvd_right _ _
  have c2 : Nat.gcd (d - n) d ∣ d - n := Nat.gcd_dvd_left _ _
  have c3 : Nat.gcd (d - n) d ∣ n := by
    have := Nat.dvd_sub c1 c2
    rwa [show d - (d - n) = n by omega] at this
  have c4 := Nat.dvd_gcd c3 c1
  rw [h3] at c4
  exact Nat.dvd_one.1 c4
theorem makeV_may {n d : Nat} (h : MayQ n d) : makeV (n : Int) (d : Int) = ((n : Int), (d : Int), 0) := by
  obtain ⟨h1, h2, h3⟩ := h
  unfold makeV
  rw [if_neg (by omega), if_neg (by omega)]
  simp only [Int.toNat_natCast, h3, Nat.div_one]
def notV (n d : Nat) : Int × Int × Int := if MayQ n d then (((d - n : Nat) : Int), (d : Int), 0) else (0, 0, 2)
theorem not_ev {n d : Nat} (h64 : d < 18446744073709551616) : Tells (fun k => odds_Not.f k (n : Int) (d : Int)) (notV n d) := by
  unfold odds_Not.f notV
  have hm := may_ev n d
  by_cases h : MayQ n d
  · rw [decide_eq_true h] at hm
    have h2 := h.2.1
    have ws : IntKind.u64.wrap ((d : Int) - (n : Int)) = ((d - n : Nat) : Int) := by rw [wrap_u (by omega) (by omega)]; omega
    rw [if_pos h, ws]
    have hk := odds_Make_ev (num := ((d - n : Nat) : Int)) (den := (d : Int)) (by omega) (by omega) (by omega)
    rw [makeV_may (mayQ_not h)] at hk
    exact Tells.bind hm (Tells.pos rfl (Tells.bind hk (Tells.of fun _ => rfl)))
  · rw [decide_eq_false h] at hm
    rw [if_neg h]
    exact Tells.bind hm (Tells.neg (by decide) (Tells.const _))
def cmpIV (an ad bn bd : Nat) : Int × Int := if MayQ an ad ∧ MayQ bn bd then (cmpV (an * bd) (bn * ad), 0) else (0, 2)
theorem compare_ev {an ad bn bd : Nat} (h64a : ad < 18446744073709551616) (h64b : bd < 18446744073709551616) : Tells (fun k => odds_Compare.f k (an : Int) (ad : Int) (bn : Int) (bd : Int)) (cmpIV an ad bn bd) := by
  unfold odds_Compare.f cmpIV
  have h1 := may_ev an ad
  have h2 := may_ev bn bd
  have hj : Tells (fun k => odds_Compare.j0 k true (an : Int) (ad : Int) (bn : Int) (bd : Int)) (0, 2) :=
    Tells.succ (g := fun _ => some (0, 2)) (fun k => by simp only [odds_Compare.j0, if_true]) (Tells.const _)
  by_cases ha : MayQ an ad
  · rw [decide_eq_true ha] at h1
    refine Tells.bind h1 (Tells.pos rfl (Tells.bind h2 ?_))
    by_cases hb : MayQ bn bd
    · have la := ha.2.1
      have lb := hb.2.1
      rw [decide_eq_true hb, if_pos ⟨ha, hb⟩]
      refine Tells.succ (fun k => by simp only [odds_Compare.j0]; rw [if_neg (by decide)]) ?_
      exact Tells.bind (Tells.of fun _ => times_f (by omega) h64b) (Tells.bind (Tells.of fun _ => times_f (by omega) h64a) (Tells.bind (wcmp_ev (an * bd) (bn * ad)) (Tells.of fun _ => rfl)))
    · rw [decide_eq_false hb, if_neg (fun h => hb h.2)]
      exact hj
  · rw [decide_eq_false ha] at h1
    rw [if_neg (fun h => ha h.1)]
    exact Tells.bind h1 (Tells.neg (by decide) hj)
theorem cmpV_swap (X Y : Nat) : cmpV Y X = - cmpV X Y := by
  unfold cmpV
  by_cases h1 : X < Y
  · rw [if_neg (by omega), if_pos h1, if_pos h1]; rfl
  · by_cases h2 : Y < X
    · rw [if_pos h2, if_neg h1, if_pos h2]
    · rw [if_neg h2, if_neg h1, if_neg h1, if_neg h2]; rfl
theorem cmpV_zero (X Y : Nat) : cmpV X Y = 0 ↔ X = Y := by
  unfold cmpV
  split
  · omega
  · split <;> omega
theorem cmpV_bd (X Y : Nat) : -1 ≤ cmpV X Y ∧ cmpV X Y ≤ 1 := by
  unfold cmpV
  split
  · omega
  · split <;> omega
/-- two chances that come to the same are the same -/
theorem same_frac {an ad bn bd : Nat} (ha : MayQ an ad) (hb : MayQ bn bd) : an * bd = bn * ad ↔ an = bn ∧ ad = bd := by
  constructor
  · intro h
    have d1 : ad ∣ bd := by
      have : ad ∣ an * bd := by rw [h]; exact Nat.dvd_mul_left _ _
      exact Nat.Coprime.dvd_of_dvd_mul_left (show Nat.Coprime ad an from by unfold Nat.Coprime; rw [Nat.gcd_comm]; exact ha.2.2) this
    have d2 : bd ∣ ad := by
      have : bd ∣ bn * ad := by rw [← h]; exact Nat.dvd_mul_left _ _
      exact Nat.Coprime.dvd_of_dvd_mul_left (show Nat.Coprime bd bn from by unfold Nat.Coprime; rw [Nat.gcd_comm]; exact hb.2.2) this
    have e := Nat.dvd_antisymm d1 d2
    subst e
    exact ⟨Nat.eq_of_mul_eq_mul_right ha.1 h, rfl⟩
  · rintro ⟨rfl, rfl⟩
    rfl
theorem sum_not {n d : Nat} (h : MayQ n d) : sumV n d (d - n) d = (1, 1, 0) := by
  have h1 := h.1
  have h2 := h.2.1
  have eg : sG d d = d := Nat.gcd_self d
  have en : sN n d (d - n) d = d := by unfold sN; rw [eg, Nat.div_self h1]; omega
  have er : sR n d (d - n) d = d := by unfold sR; rw [eg, en, Nat.mod_self, Nat.gcd_zero_right]
  have ed : sD n d (d - n) d = 1 := by unfold sD; rw [eg, er, Nat.div_self h1]
  unfold sumV
  rw [if_neg (fun k => k ⟨h, mayQ_not h⟩), show d - (d - n) = n by omega, if_neg (by omega), ed, if_neg (by decide), en, er, Nat.div_self h1]
  rfl
theorem cmp_not {an ad bn bd : Nat} (ha : MayQ an ad) (hb : MayQ bn bd) : cmpV ((bd - bn) * ad) ((ad - an) * bd) = cmpV (an * bd) (bn * ad) := by
  have h1 := Nat.mul_le_mul_right ad hb.2.1
  have h2 := Nat.mul_le_mul_right bd ha.2.1
  rw [Nat.sub_mul, Nat.sub_mul, Nat.mul_comm bd ad]
  rw [Nat.mul_comm bd ad] at h1
  generalize ad * bd = P at *
  generalize bn * ad = X at *
  generalize an * bd = Y at *
  unfold cmpV
  by_cases c1 : Y < X
  · rw [if_pos c1, if_pos (by omega)]
  · by_cases c2 : X < Y
    · rw [if_neg c1, if_pos c2, if_neg (by omega), if_pos (by omega)]
    · rw [if_neg c1, if_neg c2, if_neg (by omega), if_neg (by omega)]
end Go.Proofs.YtcdcpnhlmgmnkaaDoor.Odd
end
section
/- A sum turned about is the same; it may be, and is not less than either. -/
namespace Go.Proofs.YtcdcpnhlmgmnkaaDoor.Odd
set_option linter.unusedSimpArgs false
set_option linter.unusedVariables false
theorem coprime_div {a b : Nat} (h : 0 < a) : Nat.gcd (a / Nat.gcd a b) (b / Nat.gcd a b) = 1 := by
  have hg : 0 < Nat.gcd a b := Nat.gcd_pos_of_pos_left _ h
  rw [Nat.gcd_div (Nat.gcd_dvd_left _ _) (Nat.gcd_dvd_right _ _), Nat.div_self hg]
section
variable {an ad bn bd : Nat}
theorem sG_comm : sG bd ad = sG ad bd := Nat.gcd_comm _ _
theorem sN_comm : sN bn bd an ad = sN an ad bn bd := by unfold sN; rw [sG_comm]; omega
theorem sR_comm : sR bn bd an ad = sR an ad bn bd := by unfold sR; rw [sG_comm, sN_comm]
theorem sD_comm (h : 0 < ad) : sD bn bd an ad = sD an ad bn bd := by
  obtain ⟨a', b', e, m, P⟩ := parts (an := an) (ad := ad) (bn := bn) (bd := bd) h
  have hr : 0 < sR an ad bn bd := sR_pos h
  have e1 : ad / sR an ad bn bd = e * a' := by
    refine Nat.div_eq_of_eq_mul_right hr ?_
    rw [← Nat.mul_assoc, ← P.pg]
    exact P.pa
  rw [P.qd]
  unfold sD
  rw [sG_comm, sR_comm, P.qb, e1, Nat.mul_left_comm, Nat.mul_comm b' a', Nat.mul_left_comm]
theorem cond_comm (ha : an ≤ ad) (hb : bn ≤ bd) : (bd - bn) * ad < an * bd ↔ (ad - an) * bd < bn * ad := by
  have h1 := Nat.mul_le_mul_right ad hb
  have h2 := Nat.mul_le_mul_right bd ha
  rw [Nat.sub_mul, Nat.sub_mul, Nat.mul_comm bd ad]
  rw [Nat.mul_comm bd ad] at h1
  omega
theorem sumV_comm : sumV an ad bn bd = sumV bn bd an ad := by
  unfold sumV
  by_cases h : MayQ an ad ∧ MayQ bn bd
  · rw [if_neg (show ¬ ¬ (MayQ an ad ∧ MayQ bn bd) from fun k => k h), if_neg (show ¬ ¬ (MayQ bn bd ∧ MayQ an ad) from fun k => k h.symm)]
    by_cases c : (bd - bn) * ad < an * bd
    · rw [if_pos c, if_pos ((cond_comm h.1.2.1 h.2.2.1).1 c)]
    · rw [if_neg c, if_neg (fun k => c ((cond_comm h.1.2.1 h.2.2.1).2 k)), sD_comm (an := an) (ad := ad) (bn := bn) (bd := bd) h.1.1, sN_comm (an := an) (ad := ad) (bn := bn) (bd := bd), sR_comm (an := an) (ad := ad) (bn := bn) (bd := bd)]
  · rw [if_pos h, if_pos (show ¬ (MayQ bn bd ∧ MayQ an ad) from fun k => h k.symm)]
theorem cop_one {m N a' b' an bn r : Nat} (hN : N = an * b' + bn * a') (hm : m ∣ N) (h1 : Nat.gcd an a' = 1) (h2 : Nat.gcd a' b' = 1) : Nat.gcd m a' = 1 := by
  have c1 : Nat.gcd m a' ∣ N := Nat.dvd_trans (Nat.gcd_dvd_left _ _) hm
  have c2 : Nat.gcd m a' ∣ a' := Nat.gcd_dvd_right _ _
  have c3 : Nat.gcd m a' ∣ an * b' := by
    have := Nat.dvd_sub c1 (Nat.dvd_trans c2 (Nat.dvd_mul_left a' bn))
    rwa [hN, Nat.add_sub_cancel] at this
  have c4 : Nat.Coprime (Nat.gcd m a') an := by
    have : Nat.gcd (Nat.gcd m a') an ∣ Nat.gcd an a' := Nat.dvd_gcd (Nat.gcd_dvd_right _ _) (Nat.dvd_trans (Nat.gcd_dvd_left _ _) c2)
    rw [h1] at this
    exact Nat.dvd_one.1 this
  have c5 : Nat.gcd m a' ∣ b' := Nat.Coprime.dvd_of_dvd_mul_left c4 c3
  have c6 := Nat.dvd_gcd c2 c5
  rw [h2] at c6
  exact Nat.dvd_one.1 c6
theorem gcd_part {an ad a' g : Nat} (h : Nat.gcd an ad = 1) (e : ad = g * a') : Nat.gcd an a' = 1 := by
  have : Nat.gcd an a' ∣ Nat.gcd an ad := Nat.dvd_gcd (Nat.gcd_dvd_left _ _) (Nat.dvd_trans (Nat.gcd_dvd_right _ _) ⟨g, by rw [e, Nat.mul_comm]⟩)
  rw [h] at this
  exact Nat.dvd_one.1 this
theorem sum_mayQ (ha : MayQ an ad) (hb : MayQ bn bd) (hc : ¬ (bd - bn) * ad < an * bd) : MayQ (sN an ad bn bd / sR an ad bn bd) (sD an ad bn bd) ∧ an * sD an ad bn bd ≤ sN an ad bn bd / sR an ad bn bd * ad ∧ bn * sD an ad bn bd ≤ sN an ad bn bd / sR an ad bn bd * bd := by
  obtain ⟨a', b', e, m, P⟩ := parts (an := an) (ad := ad) (bn := bn) (bd := bd) ha.1
  obtain ⟨r1, r2⟩ := room ha hb hc P
  have hg : 0 < sG ad bd := sG_pos ha.1
  have hr : 0 < sR an ad bn bd := sR_pos ha.1
  have ha' : 0 < a' := Nat.pos_of_ne_zero (fun h => by have := P.pa; rw [h, Nat.mul_zero] at this; have := ha.1; omega)
  have hb' : 0 < b' := Nat.pos_of_ne_zero (fun h => by have := P.pb; rw [h, Nat.mul_zero] at this; have := hb.1; omega)
  have he : 0 < e := Nat.pos_of_ne_zero (fun h => by have := P.pg; rw [h, Nat.mul_zero] at this; omega)
  have hmN : m ∣ sN an ad bn bd := ⟨sR an ad bn bd, by rw [P.qm, Nat.mul_comm]⟩
  have hab : Nat.gcd a' b' = 1 := by
    have := coprime_div (a := ad) (b := bd) ha.1
    rw [← P.qa, ← P.qb]
    exact this
  have g1 : Nat.gcd m a' = 1 := cop_one (r := 0) P.qn hmN (gcd_part ha.2.2 P.pa) hab
  have g2 : Nat.gcd m b' = 1 := cop_one (r := 0) (by rw [P.qn, Nat.add_comm]) hmN (gcd_part hb.2.2 P.pb) (by rw [Nat.gcd_comm]; exact hab)
  have g3 : Nat.gcd m e = 1 := by
    have h1 : sR an ad bn bd = Nat.gcd (sG ad bd) (sN an ad bn bd) := by
      unfold sR
      rw [Nat.gcd_comm (sG ad bd) (sN an ad bn bd % sG ad bd), ← Nat.gcd_rec]
    have h2 : Nat.gcd (sG ad bd) (sN an ad bn bd) = sR an ad bn bd * Nat.gcd e m := by
      conv => lhs; rw [P.pg, P.qm]
      exact Nat.gcd_mul_left _ _ _
    rw [h2] at h1
    have h3 : sR an ad bn bd * 1 = sR an ad bn bd * Nat.gcd e m := by rw [Nat.mul_one]; exact h1
    rw [Nat.gcd_comm]
    exact (Nat.eq_of_mul_eq_mul_left hr h3).symm
  have hD : 0 < sD an ad bn bd := by rw [P.qd]; exact Nat.mul_pos ha' (Nat.mul_pos he hb')
  have gD : Nat.gcd m (sD an ad bn bd) = 1 := by
    rw [P.qd]
    exact Nat.Coprime.mul_right g1 (Nat.Coprime.mul_right g3 g2)
  rw [P.qq]
  have hN := P.qn
  have i1 : an * b' ≤ sR an ad bn bd * m := by rw [← P.qm, hN]; exact Nat.le_add_right _ _
  have i2 : bn * a' ≤ sR an ad bn bd * m := by rw [← P.qm, hN]; exact Nat.le_add_left _ _
  refine ⟨⟨hD, r2, gD⟩, ?_, ?_⟩
  · have e1 : an * sD an ad bn bd = an * b' * (e * a') := by rw [P.qd, Nat.mul_assoc, Nat.mul_left_comm a' e b', Nat.mul_comm a' b', Nat.mul_left_comm e b' a']
    have e2 : m * ad = sR an ad bn bd * m * (e * a') := by
      have h : ad = sR an ad bn bd * e * a' := by rw [← P.pg]; exact P.pa
      conv => lhs; rw [h]
      rw [Nat.mul_assoc, Nat.mul_assoc, Nat.mul_left_comm]
    rw [e1, e2]
    exact Nat.mul_le_mul_right _ i1
  · have e1 : bn * sD an ad bn bd = bn * a' * (e * b') := by rw [P.qd, Nat.mul_assoc]
    have e2 : m * bd = sR an ad bn bd * m * (e * b') := by
      have h : bd = sR an ad bn bd * e * b' := by rw [← P.pg]; exact P.pb
      conv => lhs; rw [h]
      rw [Nat.mul_assoc, Nat.mul_assoc, Nat.mul_left_comm]
    rw [e1, e2]
    exact Nat.mul_le_mul_right _ i2
end
end Go.Proofs.YtcdcpnhlmgmnkaaDoor.Odd
end
section
/- Sums of chances over one number of all. -/
namespace Go.Proofs.YtcdcpnhlmgmnkaaDoor.Odd
open Go.RowKit Go.Proofs.YtcdcpnhlmgmnkaaDoor.Base
set_option linter.unusedSimpArgs false
set_option linter.unusedVariables false
/-- x of S, shortened -/
def frN (x S : Nat) : Nat := x / Nat.gcd x S
def frD (x S : Nat) : Nat := S / Nat.gcd x S
theorem fr_mul (x S : Nat) : x = Nat.gcd x S * frN x S ∧ S = Nat.gcd x S * frD x S :=
  ⟨(Nat.mul_div_cancel' (Nat.gcd_dvd_left _ _)).symm, (Nat.mul_div_cancel' (Nat.gcd_dvd_right _ _)).symm⟩
theorem fr_cross (x S : Nat) : frN x S * S = x * frD x S := by
  obtain ⟨h1, h2⟩ := fr_mul x S
  generalize frN x S = n at *
  generalize frD x S = d at *
  generalize Nat.gcd x S = g at *
  rw [h1, h2, Nat.mul_left_comm, Nat.mul_assoc]
section
variable {x y S : Nat} (hS : 0 < S)
include hS
theorem fr_may (hx : x ≤ S) : MayQ (frN x S) (frD x S) := by
  have hg : 0 < Nat.gcd x S := Nat.gcd_pos_of_pos_right _ hS
  refine ⟨Nat.div_pos (Nat.le_of_dvd hS (Nat.gcd_dvd_right _ _)) hg, Nat.div_le_div_right hx, ?_⟩
  unfold frN frD
  rw [Nat.gcd_div (Nat.gcd_dvd_left _ _) (Nat.gcd_dvd_right _ _), Nat.div_self hg]
theorem fr_make (hx : x ≤ S) : makeV (x : Int) (S : Int) = ((frN x S : Int), (frD x S : Int), 0) := by
  unfold makeV frN frD
  rw [if_neg (by omega), if_neg (by omega)]
  simp only [Int.toNat_natCast]
end
section
variable {an ad bn bd : Nat}
/-- the sum's value, crosswise -/
theorem sum_cross (h : 0 < ad) : sN an ad bn bd / sR an ad bn bd * (ad * bd) = (an * bd + bn * ad) * sD an ad bn bd := by
  obtain ⟨a', b', e, m, P⟩ := parts (an := an) (ad := ad) (bn := bn) (bd := bd) h
  rw [P.qq, P.qd]
  have hN : an * b' + bn * a' = sR an ad bn bd * m := by rw [← P.qn]; exact P.qm
  have pa := P.pa
  have pb := P.pb
  have pg := P.pg
  generalize sG ad bd = g at *
  generalize sR an ad bn bd = r at *
  have e1 : an * bd + bn * ad = g * (r * m) := by
    rw [← hN, Nat.mul_add, pb, pa, Nat.mul_left_comm an g b', Nat.mul_left_comm bn g a']
  rw [e1]
  have e2 : m * (ad * bd) = m * (g * a' * (g * b')) := by rw [← pa, ← pb]
  rw [e2]
  have e3 : m * (g * a' * (g * b')) = m * (g * a' * (r * e * b')) := by rw [← pg]
  rw [e3]
  simp only [Nat.mul_assoc, Nat.mul_comm, Nat.mul_left_comm]
end
/-- two chances of one number, together -/
theorem sum_fr {x y S : Nat} (hS : 0 < S) (hS60 : S ≤ 1152921504606846976) (h : x + y ≤ S) : sumV (frN x S) (frD x S) (frN y S) (frD y S) = ((frN (x + y) S : Int), (frD (x + y) S : Int), 0) := by
  have mx_ := fr_may hS (x := x) (by omega)
  have my_ := fr_may hS (x := y) (by omega)
  have mz := fr_may hS h
  have cx := fr_cross x S
  have cy := fr_cross y S
  have cz := fr_cross (x + y) S
  obtain ⟨-, dx⟩ := fr_mul x S
  obtain ⟨-, dy⟩ := fr_mul y S
  have gx : 0 < Nat.gcd x S := Nat.gcd_pos_of_pos_right _ hS
  have gy : 0 < Nat.gcd y S := Nat.gcd_pos_of_pos_right _ hS
  generalize frN x S = an at *
  generalize frD x S = ad at *
  generalize frN y S = bn at *
  generalize frD y S = bd at *
  generalize Nat.gcd x S = p at *
  generalize Nat.gcd y S = q at *
  -- what both come to
  have hs : (an * bd + bn * ad) * S = (x + y) * (ad * bd) := by
    have e1 : an * bd * S = x * (ad * bd) := by rw [Nat.mul_right_comm, cx, Nat.mul_assoc]
    have e2 : bn * ad * S = y * (ad * bd) := by rw [Nat.mul_right_comm, cy, Nat.mul_assoc, Nat.mul_comm bd ad]
    rw [Nat.add_mul, Nat.add_mul, e1, e2]
  have hc : ¬ (bd - bn) * ad < an * bd := by
    have h1 := Nat.mul_le_mul_right ad my_.2.1
    rw [Nat.sub_mul]
    have h2 : (an * bd + bn * ad) * S ≤ bd * ad * S := by
      rw [hs, Nat.mul_comm bd ad, Nat.mul_comm (ad * bd) S]
      exact Nat.mul_le_mul_right _ h
    have h3 := Nat.le_of_mul_le_mul_right h2 hS
    omega
  obtain ⟨q1, -, -⟩ := sum_mayQ mx_ my_ hc
  have hcr := sum_cross (an := an) (ad := ad) (bn := bn) (bd := bd) mx_.1
  obtain ⟨m, hmm⟩ : ∃ m, sN an ad bn bd / sR an ad bn bd = m := ⟨_, rfl⟩
  rw [hmm] at q1 hcr
  have hD : m * S = (x + y) * sD an ad bn bd := by
    have hp : 0 < ad * bd := Nat.mul_pos mx_.1 my_.1
    refine Nat.eq_of_mul_eq_mul_right hp ?_
    calc m * S * (ad * bd) = m * (ad * bd) * S := Nat.mul_right_comm _ _ _
      _ = (an * bd + bn * ad) * S * sD an ad bn bd := by rw [hcr, Nat.mul_right_comm]
      _ = (x + y) * sD an ad bn bd * (ad * bd) := by rw [hs, Nat.mul_right_comm]
  have hsame := (same_frac q1 mz).1 (by
    refine Nat.eq_of_mul_eq_mul_right hS ?_
    calc m * frD (x + y) S * S = m * S * frD (x + y) S := Nat.mul_right_comm _ _ _
      _ = (x + y) * frD (x + y) S * sD an ad bn bd := by rw [hD, Nat.mul_right_comm]
      _ = frN (x + y) S * sD an ad bn bd * S := by rw [← cz, Nat.mul_right_comm])
  have hle : sD an ad bn bd ≤ S := by
    rw [hsame.2]
    exact Nat.div_le_self _ _
  unfold sumV
  rw [if_neg (show ¬ ¬ (MayQ an ad ∧ MayQ bn bd) from fun k => k ⟨mx_, my_⟩), if_neg hc, if_neg (by omega), hmm, hsame.1, hsame.2]
end Go.Proofs.YtcdcpnhlmgmnkaaDoor.Odd
end
section
/- Exactly and Least as parts of one number; drawn and good changed about. -/
namespace Go.Proofs.YtcdcpnhlmgmnkaaDoor.Odd
open Go.RowKit Go.Proofs.YtcdcpnhlmgmnkaaDoor.Base
set_option linter.unusedSimpArgs false
set_option linter.unusedVariables false
theorem sm_ge (f : Nat → Nat) : ∀ {n k : Nat}, k < n → f k ≤ sm f n
  | n + 1, k, h => by
    by_cases c : k = n
    · subst c; simp only [sm]; omega
    · have := sm_ge f (n := n) (k := k) (by omega)
      simp only [sm]; omega
def fac : Nat → Nat
  | 0 => 1
  | n + 1 => (n + 1) * fac n
theorem fac_pos : ∀ n, 0 < fac n
  | 0 => by decide
  | n + 1 => Nat.mul_pos (by omega) (fac_pos n)
theorem C_fac : ∀ (n k : Nat), k ≤ n → C n k * (fac k * fac (n - k)) = fac n
  | n, 0, _ => by simp [C_zero, fac]
  | n + 1, k + 1, h => by
    have h1 := C_fac n k (by omega)
    have e0 : n + 1 - (k + 1) = n - k := by omega
    rw [e0]
    by_cases c : k = n
    · subst c
      simp [C_self, fac]
    · have h2 := C_fac n (k + 1) (by omega)
      obtain ⟨d, hd⟩ : ∃ d, n - k = d + 1 := ⟨n - k - 1, by omega⟩
      have e1 : n - (k + 1) = d := by omega
      rw [e1] at h2
      rw [hd] at h1 ⊢
      have h3 : C n k * (fac (k + 1) * fac (d + 1)) = (k + 1) * fac n := by
        rw [← h1]
        simp only [fac, Nat.mul_assoc, Nat.mul_comm, Nat.mul_left_comm]
      have h4 : C n (k + 1) * (fac (k + 1) * fac (d + 1)) = (d + 1) * fac n := by
        rw [← h2]
        simp only [fac, Nat.mul_assoc, Nat.mul_comm, Nat.mul_left_comm]
      simp only [C]
      rw [Nat.add_mul, h3, h4, ← Nat.add_mul, show k + 1 + (d + 1) = n + 1 by omega]
      rfl
/-- drawn and good changed about -/
theorem turn_about {all good draw k : Nat} (hg : good ≤ all) (hd : draw ≤ all) (hk : k ≤ draw) (hk2 : k ≤ good) : C good k * C (all - good) (draw - k) * C all good = C draw k * C (all - draw) (good - k) * C all draw := by
  by_cases hz : draw - k ≤ all - good
  · have a1 := C_fac good k hk2
    have a2 := C_fac (all - good) (draw - k) hz
    have a3 := C_fac all good hg
    have b1 := C_fac draw k hk
    have b2 := C_fac (all - draw) (good - k) (by omega)
    have b3 := C_fac all draw hd
    rw [show all - good - (draw - k) = all - draw - (good - k) by omega] at a2
    have p1 := fac_pos k
    have p2 := fac_pos (good - k)
    have p3 := fac_pos (draw - k)
    have p4 := fac_pos (all - draw - (good - k))
    generalize fac k = f1 at *
    generalize fac (good - k) = f2 at *
    generalize fac (draw - k) = f3 at *
    generalize fac (all - draw - (good - k)) = f4 at *
    have e1 : C good k * C (all - good) (draw - k) * C all good * (f1 * f2 * f3 * f4) = fac all := by
      rw [← a3, ← a1, ← a2]
      simp only [Nat.mul_assoc, Nat.mul_comm, Nat.mul_left_comm]
    have e2 : C draw k * C (all - draw) (good - k) * C all draw * (f1 * f2 * f3 * f4) = fac all := by
      rw [← b3, ← b1, ← b2]
      simp only [Nat.mul_assoc, Nat.mul_comm, Nat.mul_left_comm]
    exact Nat.eq_of_mul_eq_mul_right (Nat.mul_pos (Nat.mul_pos (Nat.mul_pos p1 p2) p3) p4) (e1.trans e2.symm)
  · rw [C_gt (all - good) (draw - k) (by omega), C_gt (all - draw) (good - k) (by omega)]
    simp
/-- two reduced chances that come to the same -/
theorem fr_same {t S t' S' : Nat} (hS : 0 < S) (hS' : 0 < S') (ht : t ≤ S) (ht' : t' ≤ S') (h : t * S' = t' * S) : frN t S = frN t' S' ∧ frD t S = frD t' S' := by
  refine (same_frac (fr_may hS ht) (fr_may hS' ht')).1 ?_
  have c1 := fr_cross t S
  have c2 := fr_cross t' S'
  refine Nat.eq_of_mul_eq_mul_right (Nat.mul_pos hS hS') ?_
  calc frN t S * frD t' S' * (S * S') = frN t S * S * (frD t' S' * S') := Nat.mul_mul_mul_comm _ _ _ _
    _ = t * frD t S * (frD t' S' * S') := by rw [c1]
    _ = t * S' * (frD t S * frD t' S') := by simp only [Nat.mul_assoc, Nat.mul_comm, Nat.mul_left_comm]
    _ = t' * S * (frD t S * frD t' S') := by rw [h]
    _ = t' * frD t' S' * (frD t S * S) := by simp only [Nat.mul_assoc, Nat.mul_comm, Nat.mul_left_comm]
    _ = frN t' S' * S' * (frD t S * S) := by rw [c2]
    _ = frN t' S' * frD t S * (S * S') := by simp only [Nat.mul_assoc, Nat.mul_comm, Nat.mul_left_comm]
end Go.Proofs.YtcdcpnhlmgmnkaaDoor.Odd
end
