/-
  Plain facts: edits that are one edit together.
-/
import Derived.Test.YtnaooclbphaelaaEn
namespace Go.Proofs.Ytnaooclbphaelaa
set_option linter.unusedSimpArgs false
set_option linter.unusedVariables false
open Go Go.RowKit
theorem make_red {n d : Int} (hd : 0 < d) (h : (makeS n d).2.2 = 0) : ∃ g : Nat, 0 < g ∧ (makeS n d).1 * g = n ∧ (makeS n d).2.1 * g = d ∧ Nat.gcd (makeS n d).1.natAbs (makeS n d).2.1.natAbs = 1 ∧ 0 < (makeS n d).2.1 := by
  have hg : 0 < Nat.gcd n.natAbs d.natAbs := Nat.gcd_pos_of_pos_right _ (by omega)
  have hX : n.natAbs / Nat.gcd n.natAbs d.natAbs * Nat.gcd n.natAbs d.natAbs = n.natAbs := Nat.div_mul_cancel (Nat.gcd_dvd_left _ _)
  have hY : d.natAbs / Nat.gcd n.natAbs d.natAbs * Nat.gcd n.natAbs d.natAbs = d.natAbs := Nat.div_mul_cancel (Nat.gcd_dvd_right _ _)
  have hc : Nat.gcd (n.natAbs / Nat.gcd n.natAbs d.natAbs) (d.natAbs / Nat.gcd n.natAbs d.natAbs) = 1 := Nat.coprime_div_gcd_div_gcd hg
  unfold makeS at h ⊢
  rw [if_neg (by omega)] at h ⊢
  generalize n.natAbs / Nat.gcd n.natAbs d.natAbs = X at *
  generalize d.natAbs / Nat.gcd n.natAbs d.natAbs = Y at *
  generalize Nat.gcd n.natAbs d.natAbs = g at *
  split at h
  · exact absurd h (by decide)
  · rename_i hm
    rw [if_neg hm]
    have hY0 : 0 < Y := by
      rcases Nat.eq_zero_or_pos Y with h0 | h0
      · subst h0; simp at hY; omega
      · exact h0
    have hXi : (X : Int) * g = n.natAbs := by exact_mod_cast hX
    have hYi : (Y : Int) * g = d.natAbs := by exact_mod_cast hY
    refine ⟨g, hg, ?_, by show (Y : Int) * g = d; omega, ?_, by show (0 : Int) < Y; omega⟩
    · show (if (n < 0) ↔ (d < 0) then (X : Int) else -(X : Int)) * g = n
      split
      · omega
      · rw [Int.neg_mul]; omega
    · show Nat.gcd (if (n < 0) ↔ (d < 0) then (X : Int) else -(X : Int)).natAbs (Y : Int).natAbs = 1
      split
      · simpa using hc
      · simpa using hc
theorem red_eq {N D M E : Int} (h1 : Nat.gcd N.natAbs D.natAbs = 1) (h2 : Nat.gcd M.natAbs E.natAbs = 1) (hD : 0 < D) (hE : 0 < E) (h : N * E = M * D) : N = M ∧ D = E := by
  have hn : N.natAbs * E.natAbs = M.natAbs * D.natAbs := by rw [← Int.natAbs_mul, ← Int.natAbs_mul, h]
  have d1 : D.natAbs ∣ E.natAbs := Nat.Coprime.dvd_of_dvd_mul_left (k := D.natAbs) (n := E.natAbs) (m := N.natAbs) (by rw [Nat.Coprime, Nat.gcd_comm]; exact h1) ⟨M.natAbs, by rw [hn, Nat.mul_comm]⟩
  have d2 : E.natAbs ∣ D.natAbs := Nat.Coprime.dvd_of_dvd_mul_left (k := E.natAbs) (n := D.natAbs) (m := M.natAbs) (by rw [Nat.Coprime, Nat.gcd_comm]; exact h2) ⟨N.natAbs, by rw [← hn, Nat.mul_comm]⟩
  have e : D.natAbs = E.natAbs := Nat.dvd_antisymm d1 d2
  have e2 : D = E := by omega
  subst e2
  exact ⟨Int.eq_of_mul_eq_mul_right (by omega) h, rfl⟩
theorem mul_red {an ad bn bd : Int} (h : (mulS an ad bn bd).2.2 = 0) : 0 < ad ∧ 0 < bd ∧ (mulS an ad bn bd).1 * (ad * bd) = an * bn * (mulS an ad bn bd).2.1 ∧ Nat.gcd (mulS an ad bn bd).1.natAbs (mulS an ad bn bd).2.1.natAbs = 1 ∧ 0 < (mulS an ad bn bd).2.1 := by
  unfold mulS at h ⊢
  split at h
  · rename_i hc
    rw [if_pos hc]
    have h1 : 0 < ad := by have := hc.1.1; omega
    have h2 : 0 < bd := by have := hc.2.1; omega
    obtain ⟨g, hg, e1, e2, e3, e4⟩ := make_red (Int.mul_pos h1 h2) h
    generalize makeS (an * bn) (ad * bd) = m at *
    refine ⟨h1, h2, ?_, e3, e4⟩
    rw [← e1, ← e2]
    ac_rfl
  · exact absurd h (by decide)
/-- products of ratios, in any brackets -/
theorem mul_assoc_ok {xn xd an ad bn bd : Int} (h1 : (mulS xn xd an ad).2.2 = 0) (h2 : (mulS (mulS xn xd an ad).1 (mulS xn xd an ad).2.1 bn bd).2.2 = 0) (h3 : (mulS an ad bn bd).2.2 = 0) (h4 : (mulS xn xd (mulS an ad bn bd).1 (mulS an ad bn bd).2.1).2.2 = 0) :
    (mulS (mulS xn xd an ad).1 (mulS xn xd an ad).2.1 bn bd).1 = (mulS xn xd (mulS an ad bn bd).1 (mulS an ad bn bd).2.1).1 ∧ (mulS (mulS xn xd an ad).1 (mulS xn xd an ad).2.1 bn bd).2.1 = (mulS xn xd (mulS an ad bn bd).1 (mulS an ad bn bd).2.1).2.1 := by
  obtain ⟨x0, a0, e1, _, p1⟩ := mul_red h1
  obtain ⟨_, b0, e2, g2, p2⟩ := mul_red h2
  obtain ⟨_, _, e3, _, p3⟩ := mul_red h3
  obtain ⟨_, _, e4, g4, p4⟩ := mul_red h4
  refine red_eq g2 g4 p2 p4 ?_
  generalize (mulS (mulS xn xd an ad).1 (mulS xn xd an ad).2.1 bn bd).1 = Ny at *
  generalize (mulS (mulS xn xd an ad).1 (mulS xn xd an ad).2.1 bn bd).2.1 = Dy at *
  generalize (mulS xn xd (mulS an ad bn bd).1 (mulS an ad bn bd).2.1).1 = Nz at *
  generalize (mulS xn xd (mulS an ad bn bd).1 (mulS an ad bn bd).2.1).2.1 = Dz at *
  generalize (mulS xn xd an ad).1 = N1 at *
  generalize (mulS xn xd an ad).2.1 = D1 at *
  generalize (mulS an ad bn bd).1 = Np at *
  generalize (mulS an ad bn bd).2.1 = Dp at *
  have h5 : Ny * (bd * xd * ad) = xn * an * bn * Dy := by
    refine Int.eq_of_mul_eq_mul_right (a := D1) (by omega) ?_
    calc Ny * (bd * xd * ad) * D1 = Ny * (D1 * bd) * (xd * ad) := by ac_rfl
      _ = N1 * (xd * ad) * (bn * Dy) := by rw [e2]; ac_rfl
      _ = xn * an * bn * Dy * D1 := by rw [e1]; ac_rfl
  have h6 : Nz * (bd * xd * ad) = xn * an * bn * Dz := by
    refine Int.eq_of_mul_eq_mul_right (a := Dp) (by omega) ?_
    calc Nz * (bd * xd * ad) * Dp = Nz * (xd * Dp) * (ad * bd) := by ac_rfl
      _ = Np * (ad * bd) * (xn * Dz) := by rw [e4]; ac_rfl
      _ = xn * an * bn * Dz * Dp := by rw [e3]; ac_rfl
  have hp : 0 < bd * xd * ad := Int.mul_pos (Int.mul_pos b0 x0) a0
  refine Int.eq_of_mul_eq_mul_right (a := bd * xd * ad) (by omega) ?_
  calc Ny * Dz * (bd * xd * ad) = Ny * (bd * xd * ad) * Dz := by ac_rfl
    _ = Nz * (bd * xd * ad) * Dy := by rw [h5, h6]; ac_rfl
    _ = Nz * Dy * (bd * xd * ad) := by ac_rfl
theorem tog_tra {ss : List Sg} (h : chkS ss = 0) {role fr many n m : Int} (h1 : 0 ≤ fr ∧ fr ≤ 255) (h2 : 0 ≤ many ∧ many ≤ 255) (hn : 1 ≤ n ∧ n ≤ 7) (hm : 1 ≤ m ∧ m ≤ 7) : runE ss [⟨2, role % 65, 0, fr, fr + many, n, 0, 0, zeroSg⟩, ⟨2, role % 65, 0, fr, fr + many, m, 0, 0, zeroSg⟩] = (ss.map (traF (passE 1 role fr many) ((n + m) % 8)), 0) := by
  have hk := (chkS_ok h).1.1
  rw [run_maps (f := traF (passE 1 role fr many) n) (g := traF (passE 1 role fr many) m) h (pass_ok2 h1 h2 hn) (pass_ok2 h1 h2 hm) (fun k hk2 => ⟨?_, traF_ok (hk k hk2)⟩) fun k hk2 => ⟨?_, traF_ok (traF_ok (hk k hk2)).2⟩]
  · rw [List.map_map]
    congr 1
    exact List.map_congr_left fun k hk2 => traF_two (hk k hk2)
  · exact (work2 rfl k).trans (by rw [traF_in (e := passE 1 role fr many) (e' := ⟨2, role % 65, 0, fr, fr + many, n, 0, 0, zeroSg⟩) rfl rfl rfl])
  · exact (work2 rfl _).trans (by rw [traF_in (e := passE 1 role fr many) (e' := ⟨2, role % 65, 0, fr, fr + many, m, 0, 0, zeroSg⟩) rfl rfl rfl])
theorem tog_one {ss : List Sg} (h : chkS ss = 0) {role fr many n : Int} (h1 : 0 ≤ fr ∧ fr ≤ 255) (h2 : 0 ≤ many ∧ many ≤ 255) (hn : 1 ≤ n ∧ n ≤ 7) : runE ss [⟨2, role % 65, 0, fr, fr + many, n, 0, 0, zeroSg⟩] = (ss.map (traF (passE 1 role fr many) n), 0) := by
  have hk := (chkS_ok h).1.1
  have := apply_map (f := traF (passE 1 role fr many) n) h (pass_ok2 (role := role) h1 h2 hn) (fun k hk2 => (work2 rfl k).trans (by rw [traF_in (e := passE 1 role fr many) (e' := ⟨2, role % 65, 0, fr, fr + many, n, 0, 0, zeroSg⟩) rfl rfl rfl])) (fun k hk2 => (traF_ok (hk k hk2)).1) (fun k hk2 => (traF_ok (hk k hk2)).2)
  rw [run_one, this]
  simp only [if_true]
theorem tog_zero {ss : List Sg} (h : chkS ss = 0) {e : Ed} : ss.map (traF e 0) = ss := by
  have hk := (chkS_ok h).1.1
  conv => rhs; rw [← List.map_id ss]
  exact List.map_congr_left fun k hk2 => traF_none (hk k hk2)
theorem tog_mir1 {ss : List Sg} (h : chkS ss = 0) {role fr many n : Int} (h1 : 0 ≤ fr ∧ fr ≤ 255) (h2 : 0 ≤ many ∧ many ≤ 255) (hn : 1 ≤ n ∧ n ≤ 7) : runE ss [⟨2, role % 65, 0, fr, fr + many, n, 0, 0, zeroSg⟩, ⟨1, role % 65, 0, fr, fr + many, 0, 0, 0, zeroSg⟩] = (ss.map (fun k => mirF (passE 1 role fr many) (traF (passE 1 role fr many) n k)), 0) := by
  have hk := (chkS_ok h).1.1
  rw [run_maps (f := traF (passE 1 role fr many) n) (g := mirF (passE 1 role fr many)) h (pass_ok2 h1 h2 hn) (pass_ok1 h1 h2) (fun k hk2 => ⟨?_, traF_ok (hk k hk2)⟩) fun k hk2 => ⟨work1 rfl _, mirF_ok (traF_ok (hk k hk2)).2⟩]
  · rw [List.map_map]; rfl
  · exact (work2 rfl k).trans (by rw [traF_in (e := passE 1 role fr many) (e' := ⟨2, role % 65, 0, fr, fr + many, n, 0, 0, zeroSg⟩) rfl rfl rfl])
theorem tog_mir2 {ss : List Sg} (h : chkS ss = 0) {role fr many n m : Int} (h1 : 0 ≤ fr ∧ fr ≤ 255) (h2 : 0 ≤ many ∧ many ≤ 255) (hn : 1 ≤ n ∧ n ≤ 7) (hm : m = 8 - n) : runE ss [⟨1, role % 65, 0, fr, fr + many, 0, 0, 0, zeroSg⟩, ⟨2, role % 65, 0, fr, fr + many, m, 0, 0, zeroSg⟩] = (ss.map (fun k => mirF (passE 1 role fr many) (traF (passE 1 role fr many) n k)), 0) := by
  subst hm
  have hk := (chkS_ok h).1.1
  rw [run_maps (f := mirF (passE 1 role fr many)) (g := traF (passE 1 role fr many) (8 - n)) h (pass_ok1 h1 h2) (pass_ok2 h1 h2 (by omega)) (fun k hk2 => ⟨work1 rfl k, mirF_ok (hk k hk2)⟩) fun k hk2 => ⟨?_, traF_ok (mirF_ok (hk k hk2)).2⟩]
  · rw [List.map_map]
    congr 1
    exact List.map_congr_left fun k hk2 => (mir_tra (hk k hk2) hn).symm
  · exact (work2 rfl _).trans (by rw [traF_in (e := passE 1 role fr many) (e' := ⟨2, role % 65, 0, fr, fr + many, 8 - n, 0, 0, zeroSg⟩) rfl rfl rfl])
theorem work7 {e : Ed} (h : e.kind = 7) {k : Sg} {z : Sg} (hw : workE e k = some [z]) : (¬ inP e k ∧ z = k) ∨ (inP e k ∧ (mulS k.fn k.fd e.sn e.sd).2.2 = 0 ∧ (mulS k.tn k.td e.sn e.sd).2.2 = 0 ∧ z = { k with fn := (mulS k.fn k.fd e.sn e.sd).1, fd := (mulS k.fn k.fd e.sn e.sd).2.1, tn := (mulS k.tn k.td e.sn e.sd).1, td := (mulS k.tn k.td e.sn e.sd).2.1 }) := by
  unfold workE at hw
  rw [if_neg (by omega), if_neg (by omega), if_neg (by omega), if_neg (by omega), if_neg (by omega), if_pos h] at hw
  split at hw
  · rename_i hp
    split at hw
    · rename_i hm
      refine .inr ⟨hp, hm.1, hm.2, ?_⟩
      simpa using hw.symm
    · cases hw
  · rename_i hp
    refine .inl ⟨hp, ?_⟩
    simpa using hw.symm
theorem run_ok_of {x y : Ed} {ss : List Sg} (h : (runE ss [x, y]).2 = 0) : (applyE x ss).2 = 0 ∧ (applyE y (applyE x ss).1).2 = 0 ∧ (runE ss [x, y]).1 = (applyE y (applyE x ss).1).1 := by
  rw [run_two] at h ⊢
  split at h
  · rename_i h1
    rw [if_pos h1]
    split at h
    · rename_i h2
      rw [if_pos h2]
      exact ⟨h1, h2, rfl⟩
    · rename_i h2
      exact absurd h h2
  · rename_i h1
    exact absurd h h1
theorem tog_time {ss : List Sg} (h : chkS ss = 0) {ro fr to an ad bn bd : Int} (h1 : (runE ss [⟨7, ro, 0, fr, to, 0, an, ad, zeroSg⟩, ⟨7, ro, 0, fr, to, 0, bn, bd, zeroSg⟩]).2 = 0) (h2 : (runE ss [⟨7, ro, 0, fr, to, 0, (mulS an ad bn bd).1, (mulS an ad bn bd).2.1, zeroSg⟩]).2 = 0) (h3 : (mulS an ad bn bd).2.2 = 0) :
    (runE ss [⟨7, ro, 0, fr, to, 0, an, ad, zeroSg⟩, ⟨7, ro, 0, fr, to, 0, bn, bd, zeroSg⟩]).1 = (runE ss [⟨7, ro, 0, fr, to, 0, (mulS an ad bn bd).1, (mulS an ad bn bd).2.1, zeroSg⟩]).1 := by
  obtain ⟨p1, p2, p3⟩ := run_ok_of h1
  rw [p3]
  have l1 : ∀ a b : Int, locE ⟨7, ro, 0, fr, to, 0, a, b, zeroSg⟩ := fun a b => .inr (.inr rfl)
  have key : ∀ {e : Ed} {tt : List Sg}, locE e → chkS tt = 0 → (applyE e tt).2 = 0 → canE e tt ∧ applyE e tt = (tt.map (gE e), 0) := fun {e tt} g1 g2 g3 => by
    rcases loc_apply g1 g2 with g | g
    · exact g
    · exact absurd g3 g.2
  obtain ⟨c1, a1⟩ := key (l1 an ad) h p1
  have hc1 : chkS (ss.map (gE ⟨7, ro, 0, fr, to, 0, an, ad, zeroSg⟩)) = 0 := chkS_map h (fun k hk => by
    rcases loc_in (l1 an ad) (k := k) with g | ⟨z, g, g2, _⟩
    · rw [(c1.2 k hk).1] at g; cases g
    · rw [gE_of g]; exact g2) fun k hk => (c1.2 k hk).2
  rw [a1] at p2 ⊢
  obtain ⟨c2, a2⟩ := key (l1 bn bd) hc1 p2
  have h2' : (applyE ⟨7, ro, 0, fr, to, 0, (mulS an ad bn bd).1, (mulS an ad bn bd).2.1, zeroSg⟩ ss).2 = 0 := by
    rw [run_one] at h2
    split at h2
    · assumption
    · exact h2
  obtain ⟨c3, a3⟩ := key (l1 _ _) h h2'
  rw [a2, run_one, a3]
  simp only [if_true, List.map_map]
  refine List.map_congr_left fun k hk => ?_
  have w1 := (c1.2 k hk).1
  have w2 := (c2.2 _ (List.mem_map_of_mem hk)).1
  have w3 := (c3.2 k hk).1
  show gE _ (gE _ k) = gE _ k
  generalize gE ⟨7, ro, 0, fr, to, 0, an, ad, zeroSg⟩ k = z1 at *
  generalize gE ⟨7, ro, 0, fr, to, 0, bn, bd, zeroSg⟩ z1 = z2 at *
  generalize gE ⟨7, ro, 0, fr, to, 0, (mulS an ad bn bd).1, (mulS an ad bn bd).2.1, zeroSg⟩ k = z3 at *
  rcases work7 rfl w1 with ⟨q1, rfl⟩ | ⟨q1, m1, m2, rfl⟩
  · rcases work7 rfl w2 with ⟨_, rfl⟩ | ⟨q2, _⟩
    · rcases work7 rfl w3 with ⟨_, rfl⟩ | ⟨q3, _⟩
      · rfl
      · exact absurd q3 q1
    · exact absurd q2 q1
  · rcases work7 rfl w2 with ⟨q2, _⟩ | ⟨_, m3, m4, rfl⟩
    · exact absurd q1 q2
    · rcases work7 rfl w3 with ⟨q3, _⟩ | ⟨_, m5, m6, rfl⟩
      · exact absurd q1 q3
      · obtain ⟨e1, e2⟩ := mul_assoc_ok m1 m3 h3 m5
        obtain ⟨e3, e4⟩ := mul_assoc_ok m2 m4 h3 m6
        simp only [Sg.mk.injEq, true_and]
        exact ⟨e1, e2, e3, e4⟩
end Go.Proofs.Ytnaooclbphaelaa
