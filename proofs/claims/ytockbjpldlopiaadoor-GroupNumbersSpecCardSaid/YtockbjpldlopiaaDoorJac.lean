/-
  Plain arithmetic, without the program: Gauss's lemma and the law of quadratic reciprocity in Jacobi's form, for odd numbers; and that 2147483579 is a prime.
  Conditions are named in each statement.
-/
namespace Go.Proofs.YtockbjpldlopiaaDoor.Jac

def isum (f : Nat → Nat) : Nat → Nat
  | 0 => 0
  | h + 1 => isum f h + f (h + 1)

theorem isum_congr {f g : Nat → Nat} : ∀ h, (∀ k, 1 ≤ k → k ≤ h → f k = g k) → isum f h = isum g h
  | 0, _ => rfl
  | h + 1, H => by
    simp only [isum]
    rw [isum_congr h (fun k a b => H k a (by omega)), H (h + 1) (by omega) (by omega)]

theorem isum_add (f g : Nat → Nat) : ∀ h, isum (fun k => f k + g k) h = isum f h + isum g h
  | 0 => rfl
  | h + 1 => by simp only [isum, isum_add f g h]; omega

theorem isum_const (c : Nat) : ∀ h, isum (fun _ => c) h = c * h
  | 0 => rfl
  | h + 1 => by simp only [isum, isum_const c h]; rw [Nat.mul_succ]

theorem isum_swap (f : Nat → Nat → Nat) (g : Nat) : ∀ h, isum (fun k => isum (fun j => f k j) g) h = isum (fun j => isum (fun k => f k j) h) g
  | 0 => by simp only [isum]; rw [isum_const]; omega
  | h + 1 => by simp only [isum]; rw [isum_swap f g h, ← isum_add]

theorem isum_parity {f g : Nat → Nat} : ∀ h, (∀ k, 1 ≤ k → k ≤ h → f k % 2 = g k % 2) → isum f h % 2 = isum g h % 2
  | 0, _ => rfl
  | h + 1, H => by
    simp only [isum]
    have a := isum_parity h (fun k a b => H k a (by omega))
    have b := H (h + 1) (by omega) (by omega)
    omega

theorem isum_eq (f : Nat → Nat) : ∀ h, isum f h = ((List.range' 1 h).map f).sum
  | 0 => rfl
  | h + 1 => by rw [List.range'_concat]; simp [isum, isum_eq f h, Nat.add_comm]

/-- how many of 1 .. g are at most q -/
theorem isum_le (q : Nat) : ∀ g, q ≤ g → isum (fun j => if j ≤ q then 1 else 0) g = q
  | 0, h => by simp only [isum]; omega
  | g + 1, h => by
    simp only [isum]
    by_cases e : q = g + 1
    · subst e
      rw [isum_congr (g := fun _ => 1) g (fun k _ b => if_pos (by omega)), isum_const, if_pos (Nat.le_refl _)]; omega
    · rw [isum_le q g (by omega), if_neg (by omega), Nat.add_zero]

theorem perm_of_subset {l₁ : List Nat} : ∀ {l₂ : List Nat}, l₁.Nodup → (∀ x, x ∈ l₁ → x ∈ l₂) → l₂.length ≤ l₁.length → l₁.Perm l₂ := by
  induction l₁ with
  | nil => intro l₂ _ _ h; have : l₂ = [] := List.length_eq_zero_iff.1 (Nat.le_zero.1 h); subst this; exact List.Perm.refl _
  | cons a t ih =>
    intro l₂ hn hs hl
    rw [List.nodup_cons] at hn
    have ha := hs a (List.mem_cons_self ..)
    have hp := List.perm_cons_erase ha
    refine List.Perm.trans ?_ hp.symm
    refine List.Perm.cons a (ih hn.2 ?_ ?_)
    · intro x hx
      refine (List.mem_erase_of_ne ?_).2 (hs x (List.mem_cons_of_mem _ hx))
      intro e; subst e; exact hn.1 hx
    · rw [List.length_erase_of_mem ha]; simp only [List.length_cons] at hl; omega

theorem perm_map {f : Nat → Nat} {h : Nat} (hin : ∀ k, 1 ≤ k → k ≤ h → 1 ≤ f k ∧ f k ≤ h)
    (hinj : ∀ k j, 1 ≤ k → k ≤ h → 1 ≤ j → j ≤ h → f k = f j → k = j) : ((List.range' 1 h).map f).Perm (List.range' 1 h) := by
  refine perm_of_subset ?_ ?_ (by simp)
  · rw [List.Nodup, List.pairwise_map]
    refine List.Pairwise.imp_of_mem ?_ (List.nodup_range' (s := 1) (n := h) 1)
    intro a b ha hb hne e
    simp only [List.mem_range'_1] at ha hb
    exact hne (hinj a b ha.1 (by omega) hb.1 (by omega) e)
  · intro x hx
    obtain ⟨k, hk, rfl⟩ := List.mem_map.1 hx
    simp only [List.mem_range'_1] at hk ⊢
    have := hin k hk.1 (by omega)
    omega

theorem isum_perm {f : Nat → Nat} {h : Nat} (hin : ∀ k, 1 ≤ k → k ≤ h → 1 ≤ f k ∧ f k ≤ h)
    (hinj : ∀ k j, 1 ≤ k → k ≤ h → 1 ≤ j → j ≤ h → f k = f j → k = j) (g : Nat → Nat) : isum (fun k => g (f k)) h = isum g h := by
  rw [isum_eq, isum_eq]
  have := ((perm_map hin hinj).map g).sum_nat
  rw [List.map_map] at this
  exact this

/-- the number in 1 .. h that is congruent to a * k or to - a * k modulo 2 * h + 1 -/
def fl (h a k : Nat) : Nat := if a * k % (2 * h + 1) ≤ h then a * k % (2 * h + 1) else 2 * h + 1 - a * k % (2 * h + 1)
/-- 1 if a * k is congruent to a number from h + 1 to 2 * h -/
def big (h a k : Nat) : Nat := if a * k % (2 * h + 1) ≤ h then 0 else 1
def mu (h a : Nat) : Nat := isum (big h a) h

theorem dvd_small {h a k : Nat} (hc : Nat.Coprime a (2 * h + 1)) (hk : k < 2 * h + 1) (hd : (2 * h + 1) ∣ a * k) : k = 0 :=
  Nat.eq_zero_of_dvd_of_lt (Nat.Coprime.dvd_of_dvd_mul_left hc.symm hd) hk

theorem mod_pos {h a k : Nat} (hc : Nat.Coprime a (2 * h + 1)) (h1 : 1 ≤ k) (hk : k < 2 * h + 1) : 1 ≤ a * k % (2 * h + 1) := by
  rcases Nat.eq_zero_or_pos (a * k % (2 * h + 1)) with e | e
  · have := dvd_small hc hk (Nat.dvd_of_mod_eq_zero e); omega
  · exact e

theorem fl_in {h a : Nat} (hc : Nat.Coprime a (2 * h + 1)) (k : Nat) (h1 : 1 ≤ k) (h2 : k ≤ h) : 1 ≤ fl h a k ∧ fl h a k ≤ h := by
  have a1 := mod_pos hc h1 (by omega : k < 2 * h + 1)
  have a2 := Nat.mod_lt (a * k) (by omega : 2 * h + 1 > 0)
  unfold fl; split <;> omega

theorem same_mod {h a k j : Nat} (hc : Nat.Coprime a (2 * h + 1)) (h2 : k ≤ h) (h4 : j ≤ h)
    (e : a * k % (2 * h + 1) = a * j % (2 * h + 1)) : k = j := by
  rcases Nat.le_total j k with hl | hl
  · have d : (2 * h + 1) ∣ a * (k - j) := by
      rw [Nat.mul_sub]; exact Nat.dvd_of_mod_eq_zero (Nat.sub_mod_eq_zero_of_mod_eq e)
    have := dvd_small hc (by omega) d; omega
  · have d : (2 * h + 1) ∣ a * (j - k) := by
      rw [Nat.mul_sub]; exact Nat.dvd_of_mod_eq_zero (Nat.sub_mod_eq_zero_of_mod_eq e.symm)
    have := dvd_small hc (by omega) d; omega

theorem opp_mod {h a k j : Nat} (hc : Nat.Coprime a (2 * h + 1)) (h1 : 1 ≤ k) (h2 : k ≤ h) (h4 : j ≤ h)
    (e : a * k % (2 * h + 1) + a * j % (2 * h + 1) = 2 * h + 1) : False := by
  have d : (2 * h + 1) ∣ a * (k + j) := by
    refine Nat.dvd_of_mod_eq_zero ?_
    rw [Nat.mul_add, Nat.add_mod, e, Nat.mod_self]
  have := dvd_small hc (by omega) d; omega

theorem fl_inj {h a : Nat} (hc : Nat.Coprime a (2 * h + 1)) (k j : Nat) (h1 : 1 ≤ k) (h2 : k ≤ h) (_h3 : 1 ≤ j) (h4 : j ≤ h)
    (e : fl h a k = fl h a j) : k = j := by
  have a2 := Nat.mod_lt (a * k) (by omega : 2 * h + 1 > 0)
  have b2 := Nat.mod_lt (a * j) (by omega : 2 * h + 1 > 0)
  unfold fl at e
  split at e <;> split at e
  · exact same_mod hc h2 h4 e
  · exact (opp_mod hc h1 h2 h4 (by omega)).elim
  · exact (opp_mod hc h1 h2 h4 (by omega)).elim
  · exact same_mod hc h2 h4 (by omega)

theorem fl_sum {h a : Nat} (hc : Nat.Coprime a (2 * h + 1)) (g : Nat → Nat) : isum (fun k => g (fl h a k)) h = isum g h :=
  isum_perm (fl_in hc) (fl_inj hc) g

/-- the count of the reversed signs, as a sum of floors -/
theorem mu_floor {h a : Nat} (hc : Nat.Coprime a (2 * h + 1)) (ho : a % 2 = 1) :
    mu h a % 2 = isum (fun k => a * k / (2 * h + 1)) h % 2 := by
  have e : isum (fun k => k) h % 2 = isum (fun k => (a * k / (2 * h + 1) + fl h a k) + big h a k) h % 2 := by
    refine isum_parity h (fun k _ _ => ?_)
    have hd := Nat.div_add_mod (a * k) (2 * h + 1)
    have hm := Nat.mod_lt (a * k) (by omega : 2 * h + 1 > 0)
    have h1 : a * k % 2 = k % 2 := by rw [Nat.mul_mod, ho]; omega
    have h2 : (2 * h + 1) * (a * k / (2 * h + 1)) % 2 = a * k / (2 * h + 1) % 2 := by
      rw [Nat.mul_mod, show (2 * h + 1) % 2 = 1 by omega]; omega
    unfold fl big
    split <;> omega
  rw [isum_add, isum_add, fl_sum hc (fun k => k)] at e
  unfold mu
  omega

/-- the points below and above the diagonal -/
theorem lattice {h g : Nat} (hc : Nat.Coprime (2 * g + 1) (2 * h + 1)) :
    isum (fun k => (2 * g + 1) * k / (2 * h + 1)) h + isum (fun j => (2 * h + 1) * j / (2 * g + 1)) g = g * h := by
  have count : ∀ (p q : Nat) (k : Nat), k ≤ p → (2 * q + 1) * k / (2 * p + 1) = isum (fun j => if (2 * p + 1) * j ≤ (2 * q + 1) * k then 1 else 0) q := by
    intro p q k hk
    have hq : (2 * q + 1) * k / (2 * p + 1) ≤ q := by
      have : (2 * q + 1) * k < (q + 1) * (2 * p + 1) := by
        have : (2 * q + 1) * k ≤ (2 * q + 1) * p := Nat.mul_le_mul_left _ hk
        have e1 : (2 * q + 1) * p = 2 * (q * p) + p := by rw [Nat.add_mul, Nat.mul_assoc]; omega
        have e2 : (q + 1) * (2 * p + 1) = 2 * (q * p) + q + 2 * p + 1 := by
          rw [Nat.add_mul, Nat.mul_add, Nat.mul_left_comm]; omega
        omega
      have := (Nat.div_lt_iff_lt_mul (by omega : 0 < 2 * p + 1)).2 this
      omega
    rw [← isum_le _ q hq]
    refine isum_congr q (fun j _ _ => ?_)
    have : (j ≤ (2 * q + 1) * k / (2 * p + 1)) = ((2 * p + 1) * j ≤ (2 * q + 1) * k) := by
      rw [Nat.le_div_iff_mul_le (by omega), Nat.mul_comm j]
    simp only [this]
  have e1 : isum (fun k => (2 * g + 1) * k / (2 * h + 1)) h = isum (fun k => isum (fun j => if (2 * h + 1) * j ≤ (2 * g + 1) * k then 1 else 0) g) h :=
    isum_congr h (fun k _ hk => count h g k hk)
  have e2 : isum (fun j => (2 * h + 1) * j / (2 * g + 1)) g = isum (fun k => isum (fun j => if (2 * g + 1) * k ≤ (2 * h + 1) * j then 1 else 0) g) h := by
    rw [isum_swap]
    exact isum_congr g (fun j _ hj => count g h j hj)
  rw [e1, e2, ← isum_add]
  rw [isum_congr (g := fun _ => g) h, isum_const]
  intro k hk1 hk2
  rw [← isum_add, isum_congr (g := fun _ => 1) g, isum_const]
  · omega
  · intro j hj1 hj2
    have hne : (2 * h + 1) * j ≠ (2 * g + 1) * k := by
      intro e
      have := dvd_small hc (by omega : k < 2 * h + 1) ⟨j, e.symm⟩
      omega
    rcases Nat.lt_or_gt_of_ne hne with hl | hl
    · rw [if_pos (Nat.le_of_lt hl), if_neg (by omega)]
    · rw [if_neg (by omega), if_pos (Nat.le_of_lt hl)]

theorem reciprocity {h g : Nat} (hc : Nat.Coprime (2 * g + 1) (2 * h + 1)) : (mu h (2 * g + 1) + mu g (2 * h + 1)) % 2 = g * h % 2 := by
  have a := mu_floor hc (by omega)
  have b := mu_floor hc.symm (by omega)
  have c := lattice hc
  omega

theorem mu_mod (h a : Nat) : mu h (a % (2 * h + 1)) = mu h a := by
  unfold mu
  refine isum_congr h (fun k _ _ => ?_)
  unfold big
  rw [Nat.mod_mul_mod]

theorem mu_one (h : Nat) : mu h 1 = 0 := by
  unfold mu
  rw [isum_congr (g := fun _ => 0) h, isum_const]
  · omega
  · intro k _ hk
    unfold big
    rw [Nat.one_mul, Nat.mod_eq_of_lt (by omega), if_pos hk]

theorem count_big (h q : Nat) : q ≤ h → isum (fun k => if k ≤ q then 0 else 1) h = h - q := by
  intro hq
  have e : isum (fun k => if k ≤ q then 0 else 1) h + isum (fun k => if k ≤ q then 1 else 0) h = h := by
    rw [← isum_add, isum_congr (g := fun _ => 1) h, isum_const]
    · omega
    · intro k _ _; split <;> rfl
  rw [isum_le q h hq] at e
  omega

theorem mu_two (h : Nat) : mu h 2 = h - h / 2 := by
  unfold mu
  rw [← count_big h (h / 2) (by omega)]
  refine isum_congr h (fun k _ hk => ?_)
  unfold big
  rw [Nat.mod_eq_of_lt (by omega)]
  by_cases e : k ≤ h / 2
  · rw [if_pos (by omega), if_pos e]
  · rw [if_neg (by omega), if_neg e]

theorem mu_mul {h a b : Nat} (ha : Nat.Coprime a (2 * h + 1)) (hb : Nat.Coprime b (2 * h + 1)) : mu h (a * b) % 2 = (mu h a + mu h b) % 2 := by
  have e : isum (big h (a * b)) h % 2 = isum (fun k => big h a (fl h b k) + big h b k) h % 2 := by
    refine isum_parity h (fun k h1 h2 => ?_)
    have hr1 := mod_pos hb h1 (by omega : k < 2 * h + 1)
    have hr2 := Nat.mod_lt (b * k) (by omega : 2 * h + 1 > 0)
    have ek : a * b * k % (2 * h + 1) = a * (b * k % (2 * h + 1)) % (2 * h + 1) := by
      rw [Nat.mul_assoc, Nat.mul_mod_mod]
    have hs1 := mod_pos ha hr1 hr2
    have hs2 := Nat.mod_lt (a * (b * k % (2 * h + 1))) (by omega : 2 * h + 1 > 0)
    unfold big fl
    rw [ek]
    by_cases c : b * k % (2 * h + 1) ≤ h
    · rw [if_pos c, if_pos c]; rfl
    · rw [if_neg c, if_neg c]
      have en : a * (2 * h + 1 - b * k % (2 * h + 1)) % (2 * h + 1) = 2 * h + 1 - a * (b * k % (2 * h + 1)) % (2 * h + 1) := by
        have s : (a * (2 * h + 1 - b * k % (2 * h + 1)) % (2 * h + 1) + a * (b * k % (2 * h + 1)) % (2 * h + 1)) % (2 * h + 1) = 0 := by
          rw [← Nat.add_mod, ← Nat.mul_add, Nat.sub_add_cancel (by omega), Nat.mul_mod_left]
        have t := Nat.mod_lt (a * (2 * h + 1 - b * k % (2 * h + 1))) (by omega : 2 * h + 1 > 0)
        generalize a * (2 * h + 1 - b * k % (2 * h + 1)) % (2 * h + 1) = u at s t ⊢
        generalize a * (b * k % (2 * h + 1)) % (2 * h + 1) = v at s hs1 hs2 ⊢
        obtain ⟨q, hq⟩ := Nat.dvd_of_mod_eq_zero s
        have : q = 1 := by
          rcases q with _ | _ | q
          · omega
          · rfl
          · rw [Nat.mul_add, Nat.mul_add] at hq; omega
        subst this
        omega
      rw [en]
      split <;> split <;> omega
  unfold mu
  rw [e, isum_add, fl_sum hb (big h a)]

theorem mul_mod_congr {n x x' y y' : Nat} (h1 : x % n = x' % n) (h2 : y % n = y' % n) : x * y % n = x' * y' % n := by
  rw [Nat.mul_mod, h1, h2, ← Nat.mul_mod]

/-- the product of the first numbers -/
def fac : Nat → Nat
  | 0 => 1
  | h + 1 => fac h * (h + 1)
def iprod (f : Nat → Nat) : Nat → Nat
  | 0 => 1
  | h + 1 => iprod f h * f (h + 1)

theorem iprod_eq (f : Nat → Nat) : ∀ h, iprod f h = ((List.range' 1 h).map f).prod
  | 0 => rfl
  | h + 1 => by rw [List.range'_concat]; simp [iprod, iprod_eq f h, Nat.add_comm]

theorem fac_eq : ∀ h, fac h = iprod (fun k => k) h
  | 0 => rfl
  | h + 1 => by simp only [fac, iprod, fac_eq h]

theorem iprod_fl {h a : Nat} (hc : Nat.Coprime a (2 * h + 1)) : iprod (fl h a) h = fac h := by
  rw [fac_eq, iprod_eq, iprod_eq]
  have := (perm_map (fl_in hc) (fl_inj hc)).prod_nat
  simpa using this

theorem iprod_scale (a : Nat) : ∀ h, iprod (fun k => a * k) h = a ^ h * fac h
  | 0 => rfl
  | h + 1 => by
    simp only [iprod, fac, iprod_scale a h]
    rw [Nat.pow_succ, Nat.mul_mul_mul_comm]

theorem gauss_prod {h a : Nat} : ∀ m, iprod (fun k => a * k) m % (2 * h + 1) = (2 * h) ^ isum (big h a) m * iprod (fl h a) m % (2 * h + 1)
  | 0 => rfl
  | m + 1 => by
    have e : a * (m + 1) % (2 * h + 1) = (2 * h) ^ big h a (m + 1) * fl h a (m + 1) % (2 * h + 1) := by
      unfold big fl
      have hm := Nat.mod_lt (a * (m + 1)) (by omega : 2 * h + 1 > 0)
      split
      · rw [Nat.pow_zero, Nat.one_mul, Nat.mod_mod]
      · rw [Nat.pow_one]
        generalize a * (m + 1) % (2 * h + 1) = r at hm ⊢
        obtain ⟨s, hs⟩ : ∃ s, 2 * h + 1 = s + r := ⟨2 * h + 1 - r, by omega⟩
        have : 2 * h * (2 * h + 1 - r) = r + (2 * h + 1) * (2 * h - r) := by
          obtain ⟨t, ht⟩ : ∃ t, 2 * h = t + r := ⟨2 * h - r, by omega⟩
          rw [show 2 * h + 1 - r = t + 1 by omega, show 2 * h - r = t by omega, ht]
          rw [Nat.mul_add, Nat.add_mul (t + r) 1]; omega
        rw [this, Nat.add_mul_mod_self_left, Nat.mod_eq_of_lt hm]
    simp only [iprod, isum]
    rw [mul_mod_congr (gauss_prod (h := h) (a := a) m) e, Nat.pow_add]
    rw [Nat.mul_mul_mul_comm]

theorem coprime_fac {n : Nat} : ∀ h, (∀ k, 1 ≤ k → k ≤ h → Nat.Coprime k n) → Nat.Coprime (fac h) n
  | 0, _ => Nat.coprime_one_left _
  | h + 1, H => Nat.Coprime.mul_left (coprime_fac h (fun k a b => H k a (by omega))) (H (h + 1) (by omega) (by omega))

theorem cancel {n c x y : Nat} (hc : Nat.Coprime c n) (e : x * c % n = y * c % n) : x % n = y % n := by
  rcases Nat.le_total y x with hl | hl
  · have d : n ∣ (x - y) * c := by
      rw [Nat.sub_mul]; exact Nat.dvd_of_mod_eq_zero (Nat.sub_mod_eq_zero_of_mod_eq e)
    obtain ⟨q, hq⟩ := Nat.Coprime.dvd_of_dvd_mul_right hc.symm d
    rw [show x = y + n * q by omega, Nat.add_mul_mod_self_left]
  · have d : n ∣ (y - x) * c := by
      rw [Nat.sub_mul]; exact Nat.dvd_of_mod_eq_zero (Nat.sub_mod_eq_zero_of_mod_eq e.symm)
    obtain ⟨q, hq⟩ := Nat.Coprime.dvd_of_dvd_mul_right hc.symm d
    rw [show y = x + n * q by omega, Nat.add_mul_mod_self_left]

theorem neg_pow (h : Nat) : ∀ m, (2 * h) ^ m % (2 * h + 1) = (if m % 2 = 0 then 1 else 2 * h) % (2 * h + 1)
  | 0 => rfl
  | m + 1 => by
    rw [Nat.pow_succ, mul_mod_congr (neg_pow h m) rfl]
    by_cases e : m % 2 = 0
    · rw [if_pos e, if_neg (by omega), Nat.one_mul]
    · rw [if_neg e, if_pos (by omega)]
      rcases h with _ | h
      · rfl
      · have : 2 * (h + 1) * (2 * (h + 1)) = 1 + (2 * (h + 1) + 1) * (2 * h + 1) := by
          rw [show 2 * (h + 1) = 2 * h + 1 + 1 by omega]
          generalize 2 * h + 1 = t
          rw [Nat.add_mul, Nat.mul_add, Nat.add_mul (t + 1) 1 t, Nat.add_mul t 1 t]; omega
        rw [this, Nat.add_mul_mod_self_left]

/-- Gauss's lemma, where all numbers below are prime to n -/
theorem gauss {h a : Nat} (hp : ∀ k, 1 ≤ k → k ≤ h → Nat.Coprime k (2 * h + 1)) (hc : Nat.Coprime a (2 * h + 1)) :
    a ^ h % (2 * h + 1) = (if mu h a % 2 = 0 then 1 else 2 * h) % (2 * h + 1) := by
  rw [← neg_pow]
  refine cancel (coprime_fac h hp) ?_
  rw [← iprod_scale, gauss_prod h, iprod_fl hc, mu]

/-! ### the prime -/
def allR : Nat → Nat → Bool
  | 0, lo => 2147483579 % lo != 0
  | k + 1, lo => allR k lo && allR k (lo + 2 ^ k)

theorem allR_all : ∀ k lo, allR k lo = true → ∀ d, lo ≤ d → d < lo + 2 ^ k → 2147483579 % d ≠ 0
  | 0, lo, h, d, h1, h2 => by
    have : d = lo := by simp only [Nat.pow_zero] at h2; omega
    subst this
    simpa [allR] using h
  | k + 1, lo, h, d, h1, h2 => by
    simp only [allR, Bool.and_eq_true] at h
    rw [Nat.pow_succ] at h2
    by_cases c : d < lo + 2 ^ k
    · exact allR_all k lo h.1 d h1 c
    · exact allR_all k (lo + 2 ^ k) h.2 d (by omega) (by omega)

theorem trial : allR 16 2 = true := by decide +kernel

theorem prime_coprime {k : Nat} (h1 : 1 ≤ k) (h2 : k < 2147483579) : Nat.Coprime k 2147483579 := by
  have hgd : Nat.gcd k 2147483579 ∣ 2147483579 := Nat.gcd_dvd_right _ _
  have hgk : Nat.gcd k 2147483579 ≤ k := Nat.le_of_dvd (by omega) (Nat.gcd_dvd_left _ _)
  have hg0 : 0 < Nat.gcd k 2147483579 := Nat.gcd_pos_of_pos_left _ (by omega)
  unfold Nat.Coprime
  generalize Nat.gcd k 2147483579 = g at hgd hgk hg0 ⊢
  rcases Nat.lt_or_ge 1 g with hg | hg
  · exfalso
    obtain ⟨c, hc⟩ := hgd
    have T := allR_all 16 2 trial
    have hc1 : 1 < c := by
      rcases c with _ | _ | c
      · omega
      · omega
      · omega
    by_cases hs : g < 65538
    · exact T g (by omega) (by omega) (by rw [hc]; exact Nat.mul_mod_right ..)
    · by_cases ht : c < 65538
      · exact T c (by omega) (by omega) (by rw [hc]; exact Nat.mul_mod_left ..)
      · have : 65538 * 65538 ≤ g * c := Nat.mul_le_mul (by omega) (by omega)
        omega
  · omega

end Go.Proofs.YtockbjpldlopiaaDoor.Jac
