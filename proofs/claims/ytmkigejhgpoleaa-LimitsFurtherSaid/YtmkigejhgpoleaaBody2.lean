/-
  Plain: one body against another one, rule by rule.
-/
import Derived.Test.YtmkigejhgpoleaaBody
namespace Go.Proofs.Ytmkigejhgpoleaa.Bod
set_option linter.unusedSimpArgs false
set_option linter.unusedVariables false

theorem fld_set (b : Bd) (v : Int) {j l j' l' : Nat} (hj : j < 6) (hl : l ≤ rlimb j) (hj' : j' < 6) (hl' : l' ≤ rlimb j') : (b.set j l v).fld j' l' = if j = j' ∧ l = l' then v else b.fld j' l' := by
  rcases j with _ | _ | _ | _ | _ | _ | j <;> simp only [rlimb] at hl
  all_goals first
    | (exfalso; omega)
    | (rcases l with _ | _ | _ | l <;> first
        | (exfalso; omega)
        | (rcases j' with _ | _ | _ | _ | _ | _ | j' <;> simp only [rlimb] at hl' <;> first
            | (exfalso; omega)
            | (rcases l' with _ | _ | _ | l' <;> first
                | (exfalso; omega)
                | (simp [Bd.set, Bd.fld]))))

def mostB (p q : Bd) (j : Nat) : Bool := (List.range (rlimb j + 1)).all fun l => decide (p.fld j l ≤ q.fld j l)
def copyTo (p q : Bd) (j l : Nat) : Bd := (List.range l).foldl (fun p i => p.set j i (q.fld j i)) p
def copyR (p q : Bd) (j : Nat) : Bd := copyTo p q j (rlimb j + 1)
def copyRs (p q : Bd) (j : Nat) : Bd := (List.range j).foldl (fun p i => copyR p q i) p
theorem copyTo_succ (p q : Bd) (j l : Nat) : copyTo p q j (l + 1) = (copyTo p q j l).set j l (q.fld j l) := by
  unfold copyTo
  rw [List.range_succ, List.foldl_append]
  rfl
theorem copyRs_succ (p q : Bd) (j : Nat) : copyRs p q (j + 1) = copyR (copyRs p q j) q j := by
  unfold copyRs
  rw [List.range_succ, List.foldl_append]
  rfl
theorem copyTo_fld (p q : Bd) {j : Nat} (hj : j < 6) {j' l' : Nat} (hj' : j' < 6) (hl' : l' ≤ rlimb j') : ∀ l, l ≤ rlimb j + 1 → (j ≠ j' ∨ l ≤ l') → (copyTo p q j l).fld j' l' = p.fld j' l'
  | 0, _, _ => rfl
  | l + 1, h, hd => by
    rw [copyTo_succ, fld_set _ _ hj (by omega) hj' hl', if_neg (by omega)]
    exact copyTo_fld p q hj hj' hl' l (by omega) (by omega)
theorem copyRs_fld (p q : Bd) {j' l' : Nat} (hj' : j' < 6) (hl' : l' ≤ rlimb j') : ∀ j, j ≤ j' → (copyRs p q j).fld j' l' = p.fld j' l'
  | 0, _ => rfl
  | j + 1, h => by
    rw [copyRs_succ]
    unfold copyR
    rw [copyTo_fld _ _ (by omega) hj' hl' _ (Nat.le_refl _) (.inl (by omega))]
    exact copyRs_fld p q hj' hl' j (by omega)
theorem mostB_copy (p q : Bd) {j : Nat} (hj : j < 6) : mostB (copyRs p q j) q j = mostB p q j := by
  unfold mostB
  rw [Bool.eq_iff_iff, List.all_eq_true, List.all_eq_true]
  constructor <;> intro h l hl <;> have := h l hl <;> rw [copyRs_fld p q hj (by have := List.mem_range.1 hl; omega) j (Nat.le_refl _)] at * <;> exact this

def eqB (p q : Bd) : Bool := decide (p.name = q.name ∧ p.weight = q.weight ∧ p.lift = q.lift ∧ p.girth = q.girth ∧ p.step = q.step ∧ p.jump = q.jump ∧ p.r0 = q.r0 ∧ p.r1 = q.r1 ∧ p.r2 = q.r2 ∧ p.s0 = q.s0 ∧ p.s1 = q.s1 ∧ p.s2 = q.s2 ∧
  p.t0 = q.t0 ∧ p.t1 = q.t1 ∧ p.t2 = q.t2 ∧ p.effort = q.effort ∧ p.recover = q.recover)
theorem eqB_iff (p q : Bd) : eqB p q = true ↔ p = q := by
  cases p; cases q
  simp [eqB]
def eqBase (p q : Bd) : Bool := decide (p.name = q.name ∧ p.weight = q.weight ∧ p.girth = q.girth ∧ p.r0 = q.r0 ∧ p.r1 = q.r1 ∧ p.r2 = q.r2 ∧ p.recover = q.recover)
theorem copyRs_all (p q : Bd) : copyRs p q 6 = { q with name := p.name, weight := p.weight, girth := p.girth, r0 := p.r0, r1 := p.r1, r2 := p.r2, recover := p.recover } := by
  simp [copyRs, copyR, copyTo, rlimb, List.range, List.range.loop, Bd.set, Bd.fld]
theorem eqB_copy (p q : Bd) : eqB (copyRs p q 6) q = eqBase p q := by
  rw [copyRs_all]
  unfold eqB eqBase
  simp
/-- is a body at most another one? -/
def weakB (p q : Bd) : Bool := eqBase p q && (List.range 6).all (mostB p q)
def weakV (p q : Bd) : Bool := p.okB && q.okB && weakB p q
def weakE (p q : Bd) : Int := if p.okB = true then q.chk else 250
end Go.Proofs.Ytmkigejhgpoleaa.Bod
