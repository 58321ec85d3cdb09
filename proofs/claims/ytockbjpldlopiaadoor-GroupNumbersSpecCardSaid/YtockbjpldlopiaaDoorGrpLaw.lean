/-
  Plain laws of the group of squares modulo 2147483579: products, inverses, powers, numbers of elements. No program in sight.
-/
import Derived.Test.YtockbjpldlopiaaDoorGrp
namespace Go.Proofs.YtockbjpldlopiaaDoor.Jac

theorem vld_nat (x : Nat) (h1 : 1 ≤ x) (h2 : x < 2147483579) : vld (x : Int) = decide (mu 1073741789 x % 2 = 0) := by
  unfold vld
  rw [Int.toNat_natCast, decide_eq_true (by omega : (1 : Int) ≤ (x : Int)), decide_eq_true (by omega : (x : Int) < 2147483579)]
  simp only [Bool.true_and]

theorem mod_pos' {a b : Nat} (ha : 1 ≤ a) (ha' : a < 2147483579) (hb : 1 ≤ b) (hb' : b < 2147483579) : 1 ≤ a * b % 2147483579 :=
  mod_pos (h := 1073741789) (prime_coprime ha ha') hb hb'

/-- a product is an element where both factors are, or neither is -/
theorem vld_mul {a b : Nat} (ha : 1 ≤ a) (ha' : a < 2147483579) (hb : 1 ≤ b) (hb' : b < 2147483579) :
    vld ((a * b % 2147483579 : Nat) : Int) = (vld (a : Int) == vld (b : Int)) := by
  have h1 := mod_pos' ha ha' hb hb'
  have h2 := Nat.mod_lt (a * b) (by omega : 2147483579 > 0)
  rw [vld_nat _ h1 h2, vld_nat a ha ha', vld_nat b hb hb']
  have e := mu_mod 1073741789 (a * b)
  have m := mu_mul (h := 1073741789) (prime_coprime ha ha') (prime_coprime hb hb')
  rw [show 2 * 1073741789 + 1 = 2147483579 from rfl] at e
  rw [e]
  generalize mu 1073741789 (a * b) = u at *
  generalize mu 1073741789 a = p at *
  generalize mu 1073741789 b = q at *
  rcases Nat.mod_two_eq_zero_or_one p with hp | hp <;> rcases Nat.mod_two_eq_zero_or_one q with hq | hq
  · rw [decide_eq_true hp, decide_eq_true hq, decide_eq_true (by omega)]; rfl
  · rw [decide_eq_true hp, decide_eq_false (by omega), decide_eq_false (by omega)]; rfl
  · rw [decide_eq_false (by omega), decide_eq_true hq, decide_eq_false (by omega)]; rfl
  · rw [decide_eq_false (by omega : ¬ p % 2 = 0), decide_eq_false (by omega : ¬ q % 2 = 0), decide_eq_true (by omega)]; rfl

theorem vld_one : vld 1 = true := by
  have := vld_nat 1 (by omega) (by omega)
  rw [mu_one] at this
  exact this

theorem vld_two : vld 2 = false := by
  have := vld_nat 2 (by omega) (by omega)
  rw [mu_two] at this
  exact this

theorem vld_four : vld 4 = true := by
  have := vld_mul (a := 2) (b := 2) (by omega) (by omega) (by omega) (by omega)
  simpa using this

/-- minus one is none -/
theorem vld_minus : vld 2147483578 = false := by
  have h := vld_pm (x := 2147483578) (by omega) (by omega)
  have e : pm 2147483578 1073741789 = 2147483578 := by
    obtain ⟨h, hh⟩ : ∃ h : Nat, h = 1073741789 := ⟨_, rfl⟩
    have n := neg_pow h h
    have e1 : 2 * h = 2147483578 := by omega
    rw [e1, if_neg (by omega)] at n
    rw [← hh]
    unfold pm
    rw [n]
  rw [e] at h
  have := vld_nat 2147483578 (by omega) (by omega)
  rw [show (2147483578 : Int) = ((2147483578 : Nat) : Int) from rfl, this]
  by_cases c : mu 1073741789 2147483578 % 2 = 0
  · rw [if_pos c] at h; omega
  · exact decide_eq_false c

theorem vld_neg {n : Int} (h1 : 1 ≤ n) (h2 : n < 2147483579) : vld (2147483579 - n) = !vld n := by
  obtain ⟨k, rfl⟩ : ∃ k : Nat, n = k := ⟨n.toNat, by omega⟩
  have := vld_mul (a := 2147483578) (b := k) (by omega) (by omega) (by omega) (by omega)
  have e : 2147483578 * k % 2147483579 = 2147483579 - k := by
    have : 2147483578 * k = (2147483579 - k) + 2147483579 * (k - 1) := by omega
    rw [this, Nat.add_mul_mod_self_left, Nat.mod_eq_of_lt (by omega)]
  rw [e] at this
  rw [show (2147483579 : Int) - (k : Int) = ((2147483579 - k : Nat) : Int) by omega, this, show ((2147483578 : Nat) : Int) = 2147483578 from rfl, vld_minus]
  cases vld (k : Int) <;> rfl

/-! ### powers -/
theorem pm_zero (a : Nat) : pm a 0 = 1 := rfl
theorem pm_one {a : Nat} (h : a < 2147483579) : pm a 1 = a := by unfold pm; rw [Nat.pow_one, Nat.mod_eq_of_lt h]
theorem pm_add (a m n : Nat) : pm a (m + n) = pm a m * pm a n % 2147483579 := by
  unfold pm; rw [Nat.pow_add, Nat.mul_mod]
theorem pm_pm (a m n : Nat) : pm (pm a m) n = pm a (m * n) := by
  unfold pm; rw [← Nat.pow_mod, ← Nat.pow_mul]
theorem pm_mul (a b n : Nat) : pm (a * b % 2147483579) n = pm a n * pm b n % 2147483579 := by
  unfold pm; rw [← Nat.pow_mod, Nat.mul_pow, Nat.mul_mod]
theorem pm_one_base (n : Nat) : pm 1 n = 1 := by unfold pm; rw [Nat.one_pow]

/-- the order of an element -/
theorem pm_order {a : Nat} (h : vld (a : Int) = true) : pm a 1073741789 = 1 := by
  have hb := vld_bounds h
  rw [vld_iff (by omega) (by omega)] at h
  exact of_decide_eq_true h

theorem pm_red {a : Nat} (h : vld (a : Int) = true) (n : Nat) : pm a (n % 1073741789) = pm a n := by
  have e := Nat.div_add_mod n 1073741789
  have ho := pm_order h
  generalize hq : (1073741789 : Nat) = q at *
  have : pm a n = pm a (q * (n / q) + n % q) := by rw [e]
  rw [this, pm_add, ← pm_pm, ho, pm_one_base, Nat.one_mul, Nat.mod_eq_of_lt (pm_lt _ _)]

theorem vld_pm_elem {a : Nat} (h : vld (a : Int) = true) (n : Nat) : vld ((pm a n : Nat) : Int) = true := by
  have hb := vld_bounds h
  have ho := pm_order h
  have hp : 1 ≤ pm a n := by
    induction n with
    | zero => rw [pm_zero]; omega
    | succ k ih => rw [pm_add, pm_one (by omega)]; exact mod_pos' ih (pm_lt _ _) (by omega) (by omega)
  have e : pm (pm a n) 1073741789 = 1 := by
    generalize hq : (1073741789 : Nat) = q at *
    rw [pm_pm, Nat.mul_comm, ← pm_pm, ho, pm_one_base]
  rw [vld_iff hp (pm_lt _ _)]
  exact decide_eq_true e

/-! ### the same in integers, as the program has them -/
theorem mulV_ok {a b : Int} (ha : vld a = true) (hb : vld b = true) : mulV a b = a * b % 2147483579 := by simp [mulV, ha, hb]
theorem mulV_no {a b : Int} (h : ¬ (vld a = true ∧ vld b = true)) : mulV a b = 0 := by unfold mulV; rw [if_neg h]

theorem mulV_nat {a b : Nat} (ha : vld (a : Int) = true) (hb : vld (b : Int) = true) : mulV a b = ((a * b % 2147483579 : Nat) : Int) := by
  rw [mulV_ok ha hb]; omega

theorem vld_mulV {a b : Int} (ha : vld a = true) (hb : vld b = true) : vld (mulV a b) = true := by
  have h1 := vld_bounds ha
  have h2 := vld_bounds hb
  obtain ⟨x, rfl⟩ : ∃ k : Nat, a = k := ⟨a.toNat, by omega⟩
  obtain ⟨y, rfl⟩ : ∃ k : Nat, b = k := ⟨b.toNat, by omega⟩
  rw [mulV_nat ha hb, vld_mul (by omega) (by omega) (by omega) (by omega), ha, hb]
  rfl

theorem mulV_comm (a b : Int) : mulV a b = mulV b a := by
  unfold mulV
  by_cases h : vld a = true ∧ vld b = true
  · rw [if_pos h, if_pos h.symm, Int.mul_comm]
  · rw [if_neg h, if_neg (fun h' => h h'.symm)]

theorem mulV_assoc {a b c : Int} (ha : vld a = true) (hb : vld b = true) (hc : vld c = true) : mulV (mulV a b) c = mulV a (mulV b c) := by
  rw [mulV_ok (vld_mulV ha hb) hc, mulV_ok ha (vld_mulV hb hc), mulV_ok ha hb, mulV_ok hb hc]
  rw [Int.mul_comm, Int.mul_emod, Int.emod_emod, ← Int.mul_emod, Int.mul_emod a, Int.emod_emod, ← Int.mul_emod, Int.mul_comm c, Int.mul_assoc]

theorem mulV_one {a : Int} (ha : vld a = true) : mulV a 1 = a := by
  have h1 := vld_bounds ha
  rw [mulV_ok ha vld_one, Int.mul_one, Int.emod_eq_of_lt (by omega) (by omega)]
theorem one_mulV {a : Int} (ha : vld a = true) : mulV 1 a = a := by rw [mulV_comm, mulV_one ha]

theorem powV_ok {a n : Int} (ha : vld a = true) : powV a n = ((pm a.toNat (red n).toNat : Nat) : Int) := by unfold powV; rw [if_pos ha]
theorem powV_nat {a : Nat} {n : Int} (ha : vld (a : Int) = true) : powV a n = ((pm a (red n).toNat : Nat) : Int) := by rw [powV_ok ha, Int.toNat_natCast]

theorem vld_powV {a n : Int} (ha : vld a = true) : vld (powV a n) = true := by
  have h1 := vld_bounds ha
  obtain ⟨x, rfl⟩ : ∃ k : Nat, a = k := ⟨a.toNat, by omega⟩
  rw [powV_nat ha]
  exact vld_pm_elem ha _

theorem red_toNat_add (m n : Int) : ((red m).toNat + (red n).toNat) % 1073741789 = (red (m + n)).toNat := by
  have h1 := red_bounds m
  have h2 := red_bounds n
  have h3 := red_bounds (m + n)
  unfold red at *
  omega

theorem red_mul (m n : Int) : ((red m).toNat * (red n).toNat) % 1073741789 = (red (m * n)).toNat := by
  have h1 := red_bounds m
  have h2 := red_bounds n
  have h3 := red_bounds (m * n)
  have : (((red m).toNat * (red n).toNat % 1073741789 : Nat) : Int) = red (m * n) := by
    rw [Int.natCast_emod, Int.natCast_mul, Int.toNat_of_nonneg h1.1, Int.toNat_of_nonneg h2.1]
    unfold red
    rw [show ((1073741789 : Nat) : Int) = 1073741789 from rfl, ← Int.mul_emod]
  omega

theorem powV_add {a m n : Int} (ha : vld a = true) : mulV (powV a m) (powV a n) = powV a (m + n) := by
  have h1 := vld_bounds ha
  obtain ⟨x, rfl⟩ : ∃ k : Nat, a = k := ⟨a.toNat, by omega⟩
  have e1 := vld_powV (n := m) ha
  have e2 := vld_powV (n := n) ha
  rw [powV_nat ha] at e1 e2 ⊢
  rw [powV_nat ha, powV_nat ha, mulV_nat e1 e2, ← pm_add, ← pm_red ha, red_toNat_add]

theorem powV_powV {a m n : Int} (ha : vld a = true) : powV (powV a m) n = powV a (m * n) := by
  have h1 := vld_bounds ha
  obtain ⟨x, rfl⟩ : ∃ k : Nat, a = k := ⟨a.toNat, by omega⟩
  have e1 := vld_powV (n := m) ha
  rw [powV_nat ha] at e1 ⊢
  rw [powV_nat e1, powV_nat ha, pm_pm, ← pm_red ha, red_mul]

theorem powV_mulV {a b n : Int} (ha : vld a = true) (hb : vld b = true) : powV (mulV a b) n = mulV (powV a n) (powV b n) := by
  have h1 := vld_bounds ha
  have h2 := vld_bounds hb
  obtain ⟨x, rfl⟩ : ∃ k : Nat, a = k := ⟨a.toNat, by omega⟩
  obtain ⟨y, rfl⟩ : ∃ k : Nat, b = k := ⟨b.toNat, by omega⟩
  have e0 := vld_mulV ha hb
  have e1 := vld_powV (n := n) ha
  have e2 := vld_powV (n := n) hb
  rw [mulV_nat ha hb] at e0 ⊢
  rw [powV_nat ha] at e1 ⊢
  rw [powV_nat hb] at e2 ⊢
  rw [powV_nat e0, pm_mul, mulV_nat e1 e2]

theorem powV_zero {a : Int} (ha : vld a = true) : powV a 0 = 1 := by rw [powV_ok ha]; rfl
theorem powV_one {a : Int} (ha : vld a = true) : powV a 1 = a := by
  have h1 := vld_bounds ha
  rw [powV_ok ha, show (red 1).toNat = 1 from rfl, pm_one (by omega)]; omega
theorem powV_two {a : Int} (ha : vld a = true) : powV a 2 = mulV a a := by
  rw [show (2 : Int) = 1 + 1 from rfl, ← powV_add ha, powV_one ha]
theorem powV_q {a : Int} (ha : vld a = true) : powV a 1073741789 = 1 := by rw [powV_ok ha]; rfl
theorem powV_period {a : Int} (n : Int) : powV a (n + 1073741789) = powV a n := by
  unfold powV red; rw [Int.add_emod_right]
theorem powV_period' {a : Int} (n : Int) : powV a (n - 1073741789) = powV a n := by
  have := powV_period (a := a) (n - 1073741789)
  rw [Int.sub_add_cancel] at this
  exact this.symm
theorem powV_inv {a : Int} (ha : vld a = true) : mulV a (powV a (-1)) = 1 := by
  have := powV_add (m := 1) (n := -1) ha
  rw [powV_one ha] at this
  rw [this]; exact powV_zero ha

/-- an element is the square of its power to (Q + 1) / 2 -/
theorem powV_root {a : Int} (ha : vld a = true) : powV (powV a 536870895) 2 = a := by
  rw [powV_powV ha, show (536870895 * 2 : Int) = 1 + 1073741789 from rfl, powV_period, powV_one ha]

theorem vld_square {n : Int} (h1 : 1 ≤ n) (h2 : n < 2147483579) : vld (n * n % 2147483579) = true := by
  obtain ⟨k, rfl⟩ : ∃ k : Nat, n = k := ⟨n.toNat, by omega⟩
  have := vld_mul (a := k) (b := k) (by omega) (by omega) (by omega) (by omega)
  rw [show ((k : Int) * k % 2147483579) = ((k * k % 2147483579 : Nat) : Int) by omega, this]
  cases vld (k : Int) <;> rfl

theorem elV_vld {n : Int} (h1 : 1 ≤ n) (h2 : n ≤ 1073741789) : vld (elV n) = true := by
  unfold elV
  rw [if_neg (by omega)]
  cases h : vld n with
  | true => rw [if_pos rfl]; exact h
  | false => rw [if_neg (by simp), vld_neg h1 (by omega), h]; rfl

theorem elV_cases {n : Int} (h1 : 1 ≤ n) (h2 : n ≤ 1073741789) : elV n = n ∨ elV n = 2147483579 - n := by
  unfold elV
  rw [if_neg (by omega)]
  split
  · exact .inl rfl
  · exact .inr rfl

theorem nuV_elV {n : Int} (h1 : 1 ≤ n) (h2 : n ≤ 1073741789) : nuV (elV n) = n := by
  have hv := elV_vld h1 h2
  unfold nuV
  rw [if_pos hv]
  rcases elV_cases h1 h2 with h | h
  · rw [h, if_pos h2]
  · rw [h, if_neg (by omega)]; omega

theorem elV_nuV {x : Int} (hv : vld x = true) : elV (nuV x) = x ∧ 1 ≤ nuV x ∧ nuV x ≤ 1073741789 := by
  have hb := vld_bounds hv
  unfold nuV
  rw [if_pos hv]
  by_cases h : x ≤ 1073741789
  · rw [if_pos h]
    refine ⟨?_, hb.1, h⟩
    unfold elV
    rw [if_neg (by omega), if_pos hv]
  · rw [if_neg h]
    refine ⟨?_, by omega, by omega⟩
    unfold elV
    have := vld_neg hb.1 hb.2
    rw [if_neg (by omega), if_neg (by rw [this, hv]; simp)]
    omega

/-- powers by squaring, to compute with -/
def pf : Nat → Nat → Nat → Nat → Nat
  | 0, c, _, _ => c
  | f + 1, c, x, m => if m = 0 then c else pf f (if m % 2 = 1 then c * x % 2147483579 else c) (x * x % 2147483579) (m / 2)

theorem pf_eq {a n : Nat} : ∀ (f c x m : Nat), PInv a n c x m → m < 2 ^ f → pf f c x m = pm a n
  | 0, c, x, m, h, hm => by
    have : m = 0 := by rw [Nat.pow_zero] at hm; omega
    subst this
    exact pinv_end h
  | f + 1, c, x, m, h, hm => by
    unfold pf
    rw [Nat.pow_succ] at hm
    by_cases h0 : m = 0
    · subst h0; rw [if_pos rfl]; exact pinv_end h
    · rw [if_neg h0]
      by_cases h1 : m % 2 = 1
      · rw [if_pos h1]; exact pf_eq f _ _ _ (pinv_odd h h1) (by omega)
      · rw [if_neg h1]; exact pf_eq f _ _ _ (pinv_even h (by omega)) (by omega)

theorem pm_pf {a n : Nat} (h : a < 2147483579) (hn : n < 1073741824) : pm a n = pf 30 1 a n :=
  (pf_eq 30 1 a n (pinv_start h) hn).symm

theorem pow_four : powV 4 (-1) = 536870895 := by
  rw [powV_ok vld_four, pm_pf (by decide) (by decide)]
  decide +kernel

theorem mul_bounds {m n : Int} (h1 : -2147483648 ≤ m) (h2 : m ≤ 2147483647) (h3 : -2147483648 ≤ n) (h4 : n ≤ 2147483647) : -4611686018427387904 ≤ m * n ∧ m * n ≤ 4611686018427387904 := by
  have a : m.natAbs * n.natAbs ≤ 2147483648 * 2147483648 := Nat.mul_le_mul (by omega) (by omega)
  rw [← Int.natAbs_mul] at a
  omega

end Go.Proofs.YtockbjpldlopiaaDoor.Jac
