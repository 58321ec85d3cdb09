/-
  Plain arithmetic of the group of squares modulo 2147483579: the state of the loop that decides membership, powers, and the laws of the group. No program in sight.
-/
import Derived.Test.YtockbjpldlopiaaDoorJac
namespace Go.Proofs.YtockbjpldlopiaaDoor.Jac

/-- the state of the loop over quadratic residues: 'q' if and only if a is one modulo m, as x is one modulo the prime (by signs alone) -/
def Inv (x a m : Nat) (q : Bool) : Prop :=
  1 ≤ a ∧ a ≤ x ∧ x < 2147483579 ∧ m ≤ 2147483579 ∧ ∃ h, m = 2 * h + 1 ∧ Nat.Coprime a m ∧ ((q = true ↔ mu h a % 2 = 0) ↔ mu 1073741789 x % 2 = 0)

theorem inv_start {x : Nat} (h1 : 1 ≤ x) (h2 : x < 2147483579) : Inv x x 2147483579 true :=
  ⟨h1, Nat.le_refl _, h2, Nat.le_refl _, 1073741789, rfl, prime_coprime h1 h2, by simp⟩

theorem coprime_half {a m : Nat} (he : a % 2 = 0) (hc : Nat.Coprime a m) : Nat.Coprime (a / 2) m :=
  Nat.Coprime.coprime_dvd_left (Nat.div_dvd_of_dvd (Nat.dvd_of_mod_eq_zero he)) hc

theorem coprime_two (h : Nat) : Nat.Coprime 2 (2 * h + 1) := by
  unfold Nat.Coprime
  rw [Nat.gcd_rec, show (2 * h + 1) % 2 = 1 by omega]
  rfl

theorem inv_even {x a m : Nat} {q : Bool} (hi : Inv x a m q) (he : a % 2 = 0) (r : Bool)
    (hr : r = if m % 8 = 3 ∨ m % 8 = 5 then !q else q) : Inv x (a / 2) m r := by
  obtain ⟨h1, h2, hx, h3, h, rfl, hc, hq⟩ := hi
  refine ⟨by omega, by omega, hx, h3, h, rfl, coprime_half he hc, ?_⟩
  have hm := mu_mul (coprime_two h) (coprime_half he hc)
  rw [show 2 * (a / 2) = a by omega, mu_two] at hm
  rw [← hq]
  subst hr
  by_cases c : (2 * h + 1) % 8 = 3 ∨ (2 * h + 1) % 8 = 5
  · rw [if_pos c]
    have : (h - h / 2) % 2 = 1 := by omega
    cases q <;> simp <;> omega
  · rw [if_neg c]
    have : (h - h / 2) % 2 = 0 := by omega
    cases q <;> simp <;> omega

theorem inv_odd {x a m : Nat} {q : Bool} (hi : Inv x a m q) (he : a % 2 = 1) (h1' : a ≠ 1) (r : Bool)
    (hr : r = if a % 4 = 3 ∧ m % 4 = 3 then !q else q) : Inv x (m % a) a r := by
  obtain ⟨h1, h2, hx, h3, h, rfl, hc, hq⟩ := hi
  obtain ⟨g, rfl⟩ : ∃ g, a = 2 * g + 1 := ⟨a / 2, by omega⟩
  have hlt := Nat.mod_lt (2 * h + 1) (by omega : 2 * g + 1 > 0)
  have hc' : Nat.Coprime ((2 * h + 1) % (2 * g + 1)) (2 * g + 1) := by
    unfold Nat.Coprime at hc ⊢
    rw [Nat.gcd_rec] at hc
    exact hc
  refine ⟨?_, by omega, hx, by omega, g, rfl, hc', ?_⟩
  · rcases Nat.eq_zero_or_pos ((2 * h + 1) % (2 * g + 1)) with e | e
    · rw [e] at hc'
      have : 2 * g + 1 = 1 := by simpa [Nat.Coprime] using hc'
      omega
    · exact e
  · have hre := reciprocity hc
    have hgh : g * h % 2 = if (2 * g + 1) % 4 = 3 ∧ (2 * h + 1) % 4 = 3 then 1 else 0 := by
      rw [Nat.mul_mod]
      rcases Nat.mod_two_eq_zero_or_one g with a | a <;> rcases Nat.mod_two_eq_zero_or_one h with b | b <;> rw [a, b]
      · rw [if_neg (by omega)]
      · rw [if_neg (by omega)]
      · rw [if_neg (by omega)]
      · rw [if_pos (by omega)]
    rw [mu_mod, ← hq]
    subst hr
    by_cases c : (2 * g + 1) % 4 = 3 ∧ (2 * h + 1) % 4 = 3
    · rw [if_pos c] at hgh ⊢
      cases q <;> simp <;> omega
    · rw [if_neg c] at hgh ⊢
      cases q <;> simp <;> omega

/-- is x an element? by the count of signs -/
def vld (x : Int) : Bool := decide (1 ≤ x) && decide (x < 2147483579) && decide (mu 1073741789 x.toNat % 2 = 0)

theorem inv_end {x m : Nat} {q : Bool} (hi : Inv x 1 m q) : q = vld x := by
  obtain ⟨h1, h2, hx, h3, h, rfl, hc, hq⟩ := hi
  rw [mu_one] at hq
  unfold vld
  rw [Int.toNat_natCast, decide_eq_true (by omega : (1 : Int) ≤ (x : Int)), decide_eq_true (by omega : (x : Int) < 2147483579)]
  simp only [Bool.true_and]
  cases q
  · rw [eq_comm, decide_eq_false_iff_not]; simpa using hq
  · rw [eq_comm, decide_eq_true_iff]; simpa using hq

theorem vld_out {x : Int} (h : ¬ (1 ≤ x ∧ x < 2147483579)) : vld x = false := by
  unfold vld
  by_cases h1 : 1 ≤ x
  · rw [decide_eq_false (by omega : ¬ x < 2147483579)]; simp
  · rw [decide_eq_false h1]; simp

/-! ### powers -/
/-- a power modulo the prime -/
def pm (a n : Nat) : Nat := a ^ n % 2147483579

def PInv (a n c x m : Nat) : Prop := c < 2147483579 ∧ x < 2147483579 ∧ c * x ^ m % 2147483579 = pm a n

theorem pm_lt (a n : Nat) : pm a n < 2147483579 := Nat.mod_lt _ (by omega)

theorem pinv_start {a n : Nat} (h : a < 2147483579) : PInv a n 1 a n := ⟨by omega, h, by rw [Nat.one_mul]; rfl⟩

theorem sq_pow (x k : Nat) : (x * x % 2147483579) ^ k % 2147483579 = x ^ (2 * k) % 2147483579 := by
  rw [← Nat.pow_mod, Nat.pow_mul, Nat.pow_two]

theorem pinv_odd {a n c x m : Nat} (h : PInv a n c x m) (ho : m % 2 = 1) : PInv a n (c * x % 2147483579) (x * x % 2147483579) (m / 2) := by
  refine ⟨Nat.mod_lt _ (by omega), Nat.mod_lt _ (by omega), ?_⟩
  rw [← h.2.2, mul_mod_congr (Nat.mod_mod _ _) (sq_pow x (m / 2))]
  have e : x ^ m = x * x ^ (2 * (m / 2)) := by
    rw [Nat.mul_comm, ← Nat.pow_succ]; congr 1; omega
  rw [e, Nat.mul_assoc]

theorem pinv_even {a n c x m : Nat} (h : PInv a n c x m) (ho : m % 2 = 0) : PInv a n c (x * x % 2147483579) (m / 2) := by
  refine ⟨h.1, Nat.mod_lt _ (by omega), ?_⟩
  rw [← h.2.2, mul_mod_congr rfl (sq_pow x (m / 2)), show 2 * (m / 2) = m by omega]

theorem pinv_end {a n c x : Nat} (h : PInv a n c x 0) : c = pm a n := by
  have := h.2.2
  rwa [Nat.pow_zero, Nat.mul_one, Nat.mod_eq_of_lt h.1] at this

/-- Euler's criterion: the count of signs decides -/
theorem vld_pm {x : Nat} (h1 : 1 ≤ x) (h2 : x < 2147483579) : pm x 1073741789 = if mu 1073741789 x % 2 = 0 then 1 else 2147483578 := by
  obtain ⟨h, hh⟩ : ∃ h : Nat, h = 1073741789 := ⟨_, rfl⟩
  have e : 2 * h + 1 = 2147483579 := by omega
  have hg := gauss (h := h) (a := x) (fun k a b => by rw [e]; exact prime_coprime a (by omega)) (by rw [e]; exact prime_coprime h1 h2)
  rw [e] at hg
  rw [← hh]
  unfold pm
  rw [hg]
  split
  · rfl
  · rw [Nat.mod_eq_of_lt (by omega)]; omega

theorem vld_iff {x : Nat} (h1 : 1 ≤ x) (h2 : x < 2147483579) : vld x = decide (pm x 1073741789 = 1) := by
  rw [vld_pm h1 h2]
  unfold vld
  rw [Int.toNat_natCast, decide_eq_true (by omega : (1 : Int) ≤ (x : Int)), decide_eq_true (by omega : (x : Int) < 2147483579)]
  simp only [Bool.true_and]
  by_cases h : mu 1073741789 x % 2 = 0
  · rw [if_pos h, decide_eq_true h]; rfl
  · rw [if_neg h, decide_eq_false h]; rfl

/-- a number modulo the order -/
def red (n : Int) : Int := n % 1073741789

theorem tmod_lo (n : Int) : -1073741789 < n.tmod 1073741789 := by
  rcases Int.le_total 0 n with h | h
  · have := Int.tmod_nonneg 1073741789 h; omega
  · rw [show n = -(-n) by omega, Int.neg_tmod]
    have := Int.tmod_lt_of_pos (-n) (b := 1073741789) (by omega); omega

theorem red_eq (n : Int) : red n = if n.tmod 1073741789 < 0 then n.tmod 1073741789 + 1073741789 else n.tmod 1073741789 := by
  have h1 := Int.tmod_lt_of_pos n (b := 1073741789) (by omega)
  have h2 := tmod_lo n
  have h3 := Int.mul_tdiv_add_tmod n 1073741789
  unfold red
  generalize n.tmod 1073741789 = r at *
  generalize n.tdiv 1073741789 = q at *
  split <;> omega

theorem vld_bounds {x : Int} (h : vld x = true) : 1 ≤ x ∧ x < 2147483579 := by
  by_cases c : 1 ≤ x ∧ x < 2147483579
  · exact c
  · rw [vld_out c] at h; cases h

theorem vld_iff' {x : Int} (h1 : 1 ≤ x) (h2 : x < 2147483579) : vld x = decide (((pm x.toNat (1073741789 : Int).toNat : Nat) : Int) = 1) := by
  have := vld_iff (x := x.toNat) (by omega) (by omega)
  rw [Int.toNat_of_nonneg (by omega)] at this
  rw [this, show (1073741789 : Int).toNat = 1073741789 from rfl]
  congr 1
  exact propext ⟨fun h => by omega, fun h => by omega⟩

/-- what Mul returns: the product, and the error -/
def mulV (a b : Int) : Int := if vld a = true ∧ vld b = true then a * b % 2147483579 else 0
def mulE (a b : Int) : Int := if vld a = true ∧ vld b = true then 0 else 100

theorem mul_cases (a b : Int) : (vld a = false ∧ mulV a b = 0 ∧ mulE a b = 100) ∨ (vld a = true ∧ vld b = false ∧ mulV a b = 0 ∧ mulE a b = 100) ∨
    (vld a = true ∧ vld b = true ∧ (0 ≤ a ∧ a ≤ 2147483578) ∧ (0 ≤ b ∧ b ≤ 2147483578) ∧ (0 ≤ a * b ∧ a * b ≤ 4611685744765530084) ∧ mulV a b = a * b % 2147483579 ∧ mulE a b = 0) := by
  cases ha : vld a with
  | false => exact .inl ⟨rfl, by simp [mulV, ha], by simp [mulE, ha]⟩
  | true =>
    cases hb : vld b with
    | false => exact .inr (.inl ⟨rfl, rfl, by simp [mulV, ha, hb], by simp [mulE, ha, hb]⟩)
    | true =>
      have h1 := vld_bounds ha
      have h2 := vld_bounds hb
      refine .inr (.inr ⟨rfl, rfl, ⟨by omega, by omega⟩, ⟨by omega, by omega⟩, ⟨Int.mul_nonneg (by omega) (by omega), ?_⟩, by simp [mulV, ha, hb], by simp [mulE, ha, hb]⟩)
      have := Int.mul_le_mul (a := a) (b := b) (c := 2147483578) (d := 2147483578) (by omega) (by omega) (by omega) (by omega)
      omega

theorem red_bounds (n : Int) : 0 ≤ red n ∧ red n < 1073741789 := by unfold red; omega

theorem mulE_self (a : Int) : mulE a a = if vld a = true then 0 else 100 := by unfold mulE; simp

def powV (a n : Int) : Int := if vld a = true then ((pm a.toNat (red n).toNat : Nat) : Int) else 0

theorem pow_cases (a n : Int) : (vld a = false ∧ powV a n = 0 ∧ mulE a a = 100) ∨
    (vld a = true ∧ 0 ≤ a ∧ a ≤ 2147483578 ∧ powV a n = ((pm a.toNat (red n).toNat : Nat) : Int) ∧ mulE a a = 0) := by
  cases ha : vld a with
  | false => exact .inl ⟨rfl, by simp [powV, ha], by simp [mulE, ha]⟩
  | true =>
    have h1 := vld_bounds ha
    exact .inr ⟨rfl, by omega, by omega, by simp [powV, ha], by simp [mulE, ha]⟩

/-- what Element returns -/
def elV (n : Int) : Int := if n < 1 ∨ 1073741789 < n then 0 else if vld n = true then n else 2147483579 - n
def elE (n : Int) : Int := if n < 1 ∨ 1073741789 < n then 1 else 0

theorem el_cases (n : Int) : (n < 1 ∧ elV n = 0 ∧ elE n = 1) ∨ (1073741789 < n ∧ elV n = 0 ∧ elE n = 1) ∨
    (1 ≤ n ∧ n ≤ 1073741789 ∧ vld n = true ∧ elV n = n ∧ elE n = 0) ∨ (1 ≤ n ∧ n ≤ 1073741789 ∧ vld n = false ∧ elV n = 2147483579 - n ∧ elE n = 0) := by
  by_cases h1 : n < 1
  · exact .inl ⟨h1, by simp [elV, h1], by simp [elE, h1]⟩
  · by_cases h2 : 1073741789 < n
    · exact .inr (.inl ⟨h2, by simp [elV, h2], by simp [elE, h2]⟩)
    · cases hv : vld n with
      | true => exact .inr (.inr (.inl ⟨by omega, by omega, rfl, by simp [elV, h1, h2, hv], by simp [elE, h1, h2]⟩))
      | false => exact .inr (.inr (.inr ⟨by omega, by omega, rfl, by simp [elV, h1, h2, hv], by simp [elE, h1, h2]⟩))

/-- what Number returns -/
def nuV (x : Int) : Int := if vld x = true then (if x ≤ 1073741789 then x else 2147483579 - x) else 0

theorem nu_cases (x : Int) : (vld x = false ∧ nuV x = 0 ∧ mulE x x = 100) ∨ (vld x = true ∧ 1 ≤ x ∧ x ≤ 1073741789 ∧ x ≤ 2147483579 - x ∧ nuV x = x ∧ mulE x x = 0) ∨
    (vld x = true ∧ 1073741789 < x ∧ x < 2147483579 ∧ 2147483579 - x < x ∧ nuV x = 2147483579 - x ∧ mulE x x = 0) := by
  cases hv : vld x with
  | false => exact .inl ⟨rfl, by simp [nuV, hv], by simp [mulE, hv]⟩
  | true =>
    have hb := vld_bounds hv
    by_cases h : x ≤ 1073741789
    · exact .inr (.inl ⟨rfl, by omega, h, by omega, by simp [nuV, hv, h], by simp [mulE, hv]⟩)
    · exact .inr (.inr ⟨rfl, by omega, by omega, by omega, by simp [nuV, hv, h], by simp [mulE, hv]⟩)

theorem red_least (n : Int) : red n = (n.tmod 1073741789 + 1073741789) % 1073741789 := by
  rw [red_eq]
  have h1 := Int.tmod_lt_of_pos n (b := 1073741789) (by omega)
  have h2 := tmod_lo n
  split <;> omega

end Go.Proofs.YtockbjpldlopiaaDoor.Jac
