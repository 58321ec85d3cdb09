/-
  Plain: bodies and caps: the contract, what a cap lowers, which body is weaker. No program in sight.
-/
namespace Go.Proofs.Ytmkigejhgpoleaa.Bod
set_option linter.unusedSimpArgs false
set_option linter.unusedVariables false

def letterB (c : UInt8) : Bool := (97 ≤ c && c ≤ 122) || (65 ≤ c && c ≤ 90)
def figureB (c : UInt8) : Bool := 48 ≤ c && c ≤ 57
def partB (c : UInt8) : Bool := letterB c || figureB c || c == 95
/-- is it a name? -/
def nameB (l : List UInt8) : Bool := decide (1 ≤ l.length ∧ l.length ≤ 32) && letterB (l.getD 0 0) && l.all partB

def inB (lo hi n : Int) : Bool := decide (lo ≤ n) && decide (n ≤ hi)

structure Bd where
  name : ByteArray
  weight : Int
  lift : Int
  girth : Int
  step : Int
  jump : Int
  r0 : Int
  r1 : Int
  r2 : Int
  s0 : Int
  s1 : Int
  s2 : Int
  t0 : Int
  t1 : Int
  t2 : Int
  effort : Int
  recover : Int

/-- what no cap concerns -/
def Bd.baseB (b : Bd) : Bool := nameB b.name.data.toList && inB 1 500 b.weight && inB 1 4 b.girth && (inB 1 8 b.r0 && inB 1 8 b.r1 && inB 1 8 b.r2) && inB 0 1048576 b.recover
/-- what caps concern -/
def Bd.capsB (b : Bd) : Bool := (inB 1 3 b.t0 && inB 1 3 b.t1 && inB 1 3 b.t2) && (inB 1 1048576 b.s0 && inB 1 1048576 b.s1 && inB 1 1048576 b.s2) && inB 1 16 b.step && inB 0 16 b.jump && inB 0 500 b.lift && inB 0 1048576 b.effort
def Bd.okB (b : Bd) : Bool := b.baseB && b.capsB
def Bd.chk (b : Bd) : Int := if b.okB = true then 0 else 250

/-- the class of a byte: a sign's or another byte's class is of no account here -/
def IsClass (c : UInt8) (n : Int) : Prop := (n = 2 ↔ letterB c = true) ∧ (n = 3 ↔ (letterB c = false ∧ figureB c = true)) ∧ (n = 5 ↔ (letterB c = false ∧ figureB c = false ∧ (c == 95) = true))

theorem letter_iff (c : UInt8) : letterB c = decide ((97 ≤ c.toNat ∧ c.toNat ≤ 122) ∨ (65 ≤ c.toNat ∧ c.toNat ≤ 90)) := by
  unfold letterB
  rw [Bool.eq_iff_iff]
  simp [UInt8.le_iff_toNat_le]
theorem figure_iff (c : UInt8) : figureB c = decide (48 ≤ c.toNat ∧ c.toNat ≤ 57) := by
  unfold figureB
  rw [Bool.eq_iff_iff]
  simp [UInt8.le_iff_toNat_le]
theorem line_iff (c : UInt8) : (c == 95) = decide (c.toNat = 95) := by
  rw [Bool.eq_iff_iff, beq_iff_eq, decide_eq_true_iff]
  exact ⟨fun h => by rw [h]; rfl, fun h => UInt8.toNat_inj.1 (by rw [h]; rfl)⟩

theorem isClass_mk {c : UInt8} {n : Int} (h : (n = 2 ∧ ((97 ≤ (c.toNat : Int) ∧ (c.toNat : Int) ≤ 122) ∨ (65 ≤ (c.toNat : Int) ∧ (c.toNat : Int) ≤ 90))) ∨
    (n = 3 ∧ 48 ≤ (c.toNat : Int) ∧ (c.toNat : Int) ≤ 57) ∨ (n = 5 ∧ (c.toNat : Int) = 95) ∨
    (n ≠ 2 ∧ n ≠ 3 ∧ n ≠ 5 ∧ ¬ (97 ≤ (c.toNat : Int) ∧ (c.toNat : Int) ≤ 122) ∧ ¬ (65 ≤ (c.toNat : Int) ∧ (c.toNat : Int) ≤ 90) ∧ ¬ (48 ≤ (c.toNat : Int) ∧ (c.toNat : Int) ≤ 57) ∧ (c.toNat : Int) ≠ 95)) : IsClass c n := by
  unfold IsClass
  rw [letter_iff, figure_iff, line_iff]
  simp only [decide_eq_true_eq, decide_eq_false_iff_not]
  omega

theorem IsClass.two {c : UInt8} {n : Int} (h : IsClass c n) : (n != 2) = !letterB c := by
  rw [Bool.eq_iff_iff, bne_iff_ne]
  cases hl : letterB c with
  | true => simp [h.1.2 hl]
  | false => simp; intro e; have := h.1.1 e; rw [hl] at this; cases this

/-- not one of the three classes of a name -/
theorem IsClass.part {c : UInt8} {n : Int} (h : IsClass c n) : (n = 2 ∨ n = 3 ∨ n = 5) ↔ partB c = true := by
  obtain ⟨h1, h2, h3⟩ := h
  rw [h1, h2, h3]
  unfold partB
  cases letterB c <;> cases figureB c <;> cases (c == 95) <;> simp

/-- the field that rule number r concerns at a limb; the range of the rule; its limbs -/
def Bd.fld (b : Bd) : Nat → Nat → Int
  | 0, 0 => b.t0 | 0, 1 => b.t1 | 0, _ => b.t2
  | 1, 0 => b.s0 | 1, 1 => b.s1 | 1, _ => b.s2
  | 2, _ => b.step | 3, _ => b.jump | 4, _ => b.lift | _, _ => b.effort
def rlo : Nat → Int | 0 => 1 | 1 => 1 | 2 => 1 | _ => 0
def rhi : Nat → Int | 0 => 3 | 1 => 1048576 | 2 => 16 | 3 => 16 | 4 => 500 | _ => 1048576
def rlimb : Nat → Nat | 0 => 2 | 1 => 2 | _ => 0
/-- all fields that rule number r concerns are in its range -/
def Bd.ruleB (b : Bd) (r : Nat) : Bool := (List.range (rlimb r + 1)).all fun l => inB (rlo r) (rhi r) (b.fld r l)

theorem Bd.capsB_eq (b : Bd) : b.capsB = (List.range 6).all b.ruleB := by
  simp [Bd.capsB, Bd.ruleB, List.range, List.range.loop, rlimb, rlo, rhi, Bd.fld, Bool.and_assoc]


structure Cp where
  kind : Int
  limb : Int
  n : Int

/-- the number of the rule of a cap -/
def Cp.r (c : Cp) : Nat := c.kind.toNat - 1
def Cp.inR (c : Cp) : Bool := inB 0 (rlimb c.r) c.limb && inB (rlo c.r) (rhi c.r) c.n
def Cp.ok (c : Cp) : Bool := inB 1 6 c.kind && c.inR

/-- the body with another number at a field -/
def Bd.set (b : Bd) : Nat → Nat → Int → Bd
  | 0, 0, v => { b with t0 := v } | 0, 1, v => { b with t1 := v } | 0, _, v => { b with t2 := v }
  | 1, 0, v => { b with s0 := v } | 1, 1, v => { b with s1 := v } | 1, _, v => { b with s2 := v }
  | 2, _, v => { b with step := v } | 3, _, v => { b with jump := v } | 4, _, v => { b with lift := v } | _, _, v => { b with effort := v }
def least (i j : Int) : Int := if j < i then j else i
/-- the body lowered by a cap -/
def Bd.meet (b : Bd) (c : Cp) : Bd := b.set c.r c.limb.toNat (least (b.fld c.r c.limb.toNat) c.n)
/-- lowered by caps, one after the other -/
def Bd.meets (b : Bd) (l : List Cp) : Bd := l.foldl Bd.meet b
def Bd.zero : Bd := ⟨⟨#[]⟩, 0, 0, 0, 0, 0, 0, 0, 0, 0, 0, 0, 0, 0, 0, 0, 0⟩

/-- what All returns: the body and the error -/
def Bd.allE (b : Bd) (l : List Cp) : Int := if b.okB = true then (if 64 < l.length then 2 else if l.all Cp.ok = true then 0 else 1) else 250
def Bd.allB (b : Bd) (l : List Cp) : Bd := if b.allE l = 0 then b.meets l else Bd.zero
theorem Bd.all_yes {b : Bd} {l : List Cp} (h1 : b.okB = true) (h2 : ¬ 64 < l.length) (h3 : l.all Cp.ok = true) : b.allE l = 0 ∧ b.allB l = b.meets l := by
  have : b.allE l = 0 := by unfold Bd.allE; rw [if_pos h1, if_neg h2, if_pos h3]
  exact ⟨this, by unfold Bd.allB; rw [if_pos this]⟩
theorem Bd.all_no {b : Bd} {l : List Cp} {e : Int} (h : b.allE l = e) (he : e ≠ 0) : b.allB l = Bd.zero := by unfold Bd.allB; rw [if_neg (by omega)]
theorem Bd.chk_iff (b : Bd) : (b.chk = 0 ∧ b.okB = true) ∨ (b.chk = 250 ∧ b.okB = false) := by
  unfold Bd.chk
  cases b.okB <;> simp
theorem Bd.meets_succ {b : Bd} {l : List Cp} {k : Nat} {c : Cp} (h : l[k]? = some c) : b.meets (l.take (k + 1)) = (b.meets (l.take k)).meet c := by
  unfold Bd.meets
  rw [List.take_add_one, h]
  simp
theorem least_lo (i j : Int) : least i j ≤ i ∧ least i j ≤ j ∧ (least i j = i ∨ least i j = j) := by unfold least; split <;> omega
end Go.Proofs.Ytmkigejhgpoleaa.Bod
