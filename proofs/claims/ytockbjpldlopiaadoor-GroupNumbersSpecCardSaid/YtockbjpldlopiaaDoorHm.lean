/-
  law10's cards: the specification's hash is the program's (plain facts).
-/
import Derived.Test.YtockbjpldlopiaaDoorHg
namespace Go.Proofs.YtockbjpldlopiaaDoor
set_option linter.unusedSimpArgs false
set_option linter.unusedVariables false
open Go Go.RowKit
theorem ch_eq (e f g : W32) : g ^^^ (e &&& (f ^^^ g)) = (e &&& f) ^^^ (~~~e &&& g) := by
  apply BitVec.eq_of_getLsbD_eq
  intro i hi
  simp only [BitVec.getLsbD_xor, BitVec.getLsbD_and, BitVec.getLsbD_not]
  cases e.getLsbD i <;> cases f.getLsbD i <;> cases g.getLsbD i <;> simp [hi]
theorem maj_eq (a b c : W32) : (a &&& b) ||| (c &&& (a ||| b)) = (a &&& b) ^^^ (a &&& c) ^^^ (b &&& c) := by
  apply BitVec.eq_of_getLsbD_eq
  intro i hi
  simp only [BitVec.getLsbD_xor, BitVec.getLsbD_and, BitVec.getLsbD_or]
  cases a.getLsbD i <;> cases b.getLsbD i <;> cases c.getLsbD i <;> rfl
def rword (a b c d : W8) : W32 := a.setWidth 32 <<< 24 ||| b.setWidth 32 <<< 16 ||| c.setWidth 32 <<< 8 ||| d.setWidth 32
theorem rword_eq (a b c d : W8) : rword a b c d = wordOf a b c d := by
  unfold wordOf rword
  have h0 : (0 : W32) <<< (8 + 8 + 8) = 0 := rfl
  simp only [BitVec.shiftLeft_or_distrib, ← BitVec.shiftLeft_add, h0]
  rw [show ∀ x : W32, (0 : W32) ||| x = x from fun x => BitVec.zero_or]
def rorE (x : W32) (n : Nat) : W32 := x >>> n ||| x <<< (32 - n)
theorem rorE_rot (x : W32) {n : Nat} {k : Int} (hk : turnOf k = 32 - n) (hn : n < 32) : rorE x n = rotL x (turnOf k) := by
  unfold rorE rotL
  rw [hk, show 32 - (32 - n) = n by omega, BitVec.or_comm]
def rsig (x : W32) (a b c : Nat) : W32 := rorE x a ^^^ rorE x b ^^^ rorE x c
theorem rsig_e (x : W32) : rsig x 6 11 25 = sig x 6 11 25 := by
  unfold rsig sig
  rw [rorE_rot x (n := 6) (k := -6) rfl (by omega), rorE_rot x (n := 11) (k := -11) rfl (by omega), rorE_rot x (n := 25) (k := -25) rfl (by omega)]
theorem rsig_a (x : W32) : rsig x 2 13 22 = sig x 2 13 22 := by
  unfold rsig sig
  rw [rorE_rot x (n := 2) (k := -2) rfl (by omega), rorE_rot x (n := 13) (k := -13) rfl (by omega), rorE_rot x (n := 22) (k := -22) rfl (by omega)]
def rnextW (u : List W32) (t : Nat) : W32 := u.getD (t - 16) 0 + (rorE (u.getD (t - 15) 0) 7 ^^^ rorE (u.getD (t - 15) 0) 18 ^^^ u.getD (t - 15) 0 >>> 3) + u.getD (t - 7) 0 + (rorE (u.getD (t - 2) 0) 17 ^^^ rorE (u.getD (t - 2) 0) 19 ^^^ u.getD (t - 2) 0 >>> 10)
theorem rnextW_eq (u : List W32) (t : Nat) : rnextW u t = nextW u t := by
  unfold rnextW nextW
  rw [rorE_rot _ (n := 7) (k := -7) rfl (by omega), rorE_rot _ (n := 18) (k := -18) rfl (by omega), rorE_rot _ (n := 17) (k := -17) rfl (by omega), rorE_rot _ (n := 19) (k := -19) rfl (by omega)]
def S8.rp (s : S8) (k w : W32) : W32 := s.h + rsig s.e 6 11 25 + ((s.e &&& s.f) ^^^ (~~~s.e &&& s.g)) + k + w
def S8.rq (s : S8) : W32 := rsig s.a 2 13 22 + ((s.a &&& s.b) ^^^ (s.a &&& s.c) ^^^ (s.b &&& s.c))
theorem rrnd_eq (s : S8) (k w : W32) : s.rnd k w = ⟨s.rp k w + s.rq, s.a, s.b, s.c, s.d + s.rp k w, s.e, s.f, s.g⟩ := by
  have hp : s.p k w = s.rp k w := by unfold S8.p S8.rp; rw [rsig_e, ch_eq]
  have hq : s.q = s.rq := by unfold S8.q S8.rq; rw [rsig_a, maj_eq]
  unfold S8.rnd
  rw [hp, hq]
/-- the zeros that the specification adds -/
def padN (n : Nat) : Nat := (119 - n % 64) % 64
def padR (l : List W8) : List W8 := l ++ [128] ++ List.replicate (padN l.length) 0 ++ be64 (8 * l.length)
theorem absAll_append (s : S8) (l t : List W8) : absAll s (l ++ t) = absAll (absAll s l).1 ((absAll s l).2 ++ t) := by
  induction hn : l.length using Nat.strongRecOn generalizing s l with
  | _ n ih =>
    by_cases h : 64 ≤ l.length
    · rw [absAll_ge h, absAll_ge (by rw [List.length_append]; omega), List.take_append_of_le_length h, List.drop_append_of_le_length h]
      exact ih _ (by rw [List.length_drop]; omega) _ _ rfl
    · rw [absAll_lt h]
theorem absAll_rest (s : S8) (l : List W8) : (absAll s l).2.length = l.length % 64 := by
  induction hn : l.length using Nat.strongRecOn generalizing s l with
  | _ n ih =>
    by_cases h : 64 ≤ l.length
    · rw [absAll_ge h, ih _ (by rw [List.length_drop]; omega) _ _ rfl, List.length_drop, hn]; omega
    · rw [absAll_lt h]; show l.length = _; omega
theorem absAll_one {s : S8} {l : List W8} (h : l.length = 64) : (absAll s l).1 = absorbE s l := by
  rw [absAll_ge (by omega), List.take_of_length_le (by omega), absAll_lt (by rw [List.length_drop]; omega)]
theorem absAll_two {s : S8} {l t : List W8} (h : l.length = 64) (ht : t.length = 64) : (absAll s (l ++ t)).1 = absorbE (absorbE s l) t := by
  rw [absAll_ge (by rw [List.length_append]; omega), List.take_left' h, List.drop_left' h, absAll_one ht]
theorem marked_eq (r : List W8) (h : r.length < 64) : marked r = r ++ [128] ++ List.replicate (63 - r.length) 0 := by
  unfold marked
  rw [List.set_append_right _ _ (Nat.le_refl _), Nat.sub_self, show 64 - r.length = (63 - r.length) + 1 by omega, List.replicate_succ, List.set_cons_zero, List.append_assoc, List.singleton_append]
theorem endS_eq (s : S8) (r : List W8) (n : Nat) (h : r.length = n % 64) : endS s r n = (absAll s (r ++ [128] ++ List.replicate (padN n) 0 ++ be64 (8 * n))).1 := by
  have hr : r.length < 64 := by omega
  have hb : (be64 (8 * n)).length = 8 := rfl
  unfold endS padN
  by_cases h55 : 55 < r.length
  · rw [if_pos h55]
    have e : (119 - n % 64) % 64 = (63 - r.length) + 56 := by omega
    rw [e, ← List.replicate_append_replicate, ← List.append_assoc, List.append_assoc, ← marked_eq r hr, absAll_two]
    · rw [marked_eq r hr]; simp; omega
    · simp [hb]
  · rw [if_neg h55]
    have e : (119 - n % 64) % 64 = 55 - r.length := by omega
    have e2 : (marked r).take 56 = r ++ [128] ++ List.replicate (55 - r.length) 0 := by
      rw [marked_eq r hr, show 63 - r.length = (55 - r.length) + 8 by omega, ← List.replicate_append_replicate, ← List.append_assoc]
      exact List.take_left' (by simp; omega)
    rw [e, ← e2, absAll_one]
    rw [List.length_append, hb, e2]; simp; omega
theorem sumE_eq (l : List W8) : sumE l = outS (absAll startS (padR l)).1 := by
  unfold sumE padR
  rw [endS_eq _ _ _ (absAll_rest _ _)]
  simp only [List.append_assoc]
  rw [absAll_append startS l]
theorem padR_len (l : List W8) : (padR l).length % 64 = 0 := by
  unfold padR padN
  simp only [List.length_append, List.length_replicate, List.length_cons, List.length_nil, show (be64 (8 * l.length)).length = 8 from rfl]
  omega
end Go.Proofs.YtockbjpldlopiaaDoor
