/-
  edits.Apply: its specification.
-/
import Derived.Test.YtnaooclbphaelaaEa
import Derived.Test.YtnaooclbphaelaaSz
namespace Go.Proofs.Ytnaooclbphaelaa
set_option linter.unusedSimpArgs false
set_option linter.unusedVariables false
open Go Go.RowKit
def zeroSg : Sg := ⟨0, 0, 0, 0, 0, 0, 0, 0, 0, 0, 0, 0, 0, 0⟩
theorem cellsSg_inj (a b : Sg) (h : cellsSg a = cellsSg b) : a = b := by
  cases a; cases b
  simpa [cellsSg] using h
theorem cellsSg_one (a : Sg) : ∀ u ∈ cellsSg a, u.oneCell' = true := by
  intro u hu
  simp only [cellsSg, List.mem_cons, List.not_mem_nil, or_false] at hu
  rcases hu with rfl | rfl | rfl | rfl | rfl | rfl | rfl | rfl | rfl | rfl | rfl | rfl | rfl | rfl <;> rfl
theorem sgs_arg {W : World} {u : Value} {ss : List Sg} (h : SX.Arg.rd W ⟨u, 14, sgsL ss⟩) : ∃ A n c, u = .slice A n c ∧ Rd W 14 A n (sgsL ss) ∧ n ≤ c ∧ ss.length = n := by
  unfold SX.Arg.rd at h
  split at h
  · rename_i A n c hu
    have hu : u = .slice A n c := hu
    refine ⟨A, n, c, hu, h.1, h.2, ?_⟩
    have := h.1.1; simp only [sgsL_len] at this; omega
  · cases h
theorem chkS_ok {ss : List Sg} (h : chkS ss = 0) : okL ss ∧ ss.length ≤ 4096 := by
  unfold chkS at h
  split at h
  · omega
  · split at h
    · rename_i h1 h2; exact ⟨h2, by omega⟩
    · omega
theorem sgs_fit (l : List Sg) (k : Int) : SX.Sh.fit (.tp [.sl 14, .one]) (.tuple #[.agg (sgsL l).toArray, .int .i64 k]) = true := by
  have h1 : (sgsL l).length % 14 = 0 := by rw [sgsL_len]; omega
  have h2 : (sgsL l).all (·.oneCell') = true := by
    rw [List.all_eq_true]
    intro u hu
    obtain ⟨a, _, h⟩ := List.mem_flatMap.1 hu
    exact cellsSg_one a u h
  simp only [SX.Sh.fit, SX.Sh.fitL, h1, h2]
  rfl
/-- an edit -/
structure Ed where
  (kind role other fr to n sn sd : Int) (sign : Sg)
  deriving DecidableEq, Inhabited
def cellsE (e : Ed) : List Value := [.int .i64 e.kind, .int .i64 e.role, .int .i64 e.other, .int .i64 e.fr, .int .i64 e.to, .int .i64 e.n, .int .i64 e.sn, .int .i64 e.sd] ++ cellsSg e.sign
def valE (e : Ed) : Value := .agg (cellsE e).toArray
theorem cellsE_inj (a b : Ed) (h : cellsE a = cellsE b) : a = b := by
  obtain ⟨a1, a2, a3, a4, a5, a6, a7, a8, a9⟩ := a
  obtain ⟨b1, b2, b3, b4, b5, b6, b7, b8, b9⟩ := b
  simp only [cellsE, List.cons_append, List.nil_append, List.cons.injEq, Value.int.injEq, true_and] at h
  obtain ⟨rfl, rfl, rfl, rfl, rfl, rfl, rfl, rfl, h⟩ := h
  rw [cellsSg_inj _ _ h]
def barsE (e : Ed) : Prop := 0 ≤ e.fr ∧ e.fr ≤ e.to ∧ e.to ≤ 4095
def roleE (e : Ed) : Prop := 0 ≤ e.role ∧ e.role ≤ 64 ∧ barsE e
/-- is a sign in the passage of an edit -/
abbrev inP (e : Ed) (k : Sg) : Prop := e.fr ≤ k.bar ∧ k.bar ≤ e.to ∧ (e.role = 0 ∨ k.role = e.role - 1)
/-- what an edit of its kind uses -/
def usesE (e : Ed) : Ed :=
  if e.kind = 1 then ⟨1, e.role, 0, e.fr, e.to, 0, 0, 0, zeroSg⟩ else if e.kind = 2 then ⟨2, e.role, 0, e.fr, e.to, e.n, 0, 0, zeroSg⟩ else
  if e.kind = 3 then ⟨3, 0, 0, e.fr, e.to, 0, 0, 0, zeroSg⟩ else if e.kind = 4 then ⟨4, 0, 0, e.fr, 0, e.n, 0, 0, zeroSg⟩ else
  if e.kind = 5 then ⟨5, 0, 0, 0, 0, 0, 0, 0, e.sign⟩ else if e.kind = 6 then ⟨6, e.role, e.other, e.fr, e.to, 0, 0, 0, zeroSg⟩ else
  ⟨e.kind, e.role, 0, e.fr, e.to, 0, e.sn, e.sd, zeroSg⟩
/-- is it right -/
def rightE (e : Ed) : Prop :=
  if e.kind = 1 then roleE e else if e.kind = 2 then roleE e ∧ 1 ≤ e.n ∧ e.n ≤ 7 else if e.kind = 3 then barsE e else
  if e.kind = 4 then 0 ≤ e.fr ∧ e.fr ≤ 4095 ∧ 1 ≤ e.n ∧ e.n ≤ 4095 else if e.kind = 5 then e.sign.ok else
  if e.kind = 6 then roleE e ∧ 1 ≤ e.role ∧ 1 ≤ e.other ∧ e.other ≤ 64 ∧ e.role ≠ e.other else
  roleE e ∧ okR e.sn e.sd ∧ 0 < e.sn ∧ e.sn ≤ e.sd
def okE (e : Ed) : Prop := 1 ≤ e.kind ∧ e.kind ≤ 7 ∧ usesE e = e ∧ rightE e
def swapN (n a b : Int) : Int := if n = a then b else if n = b then a else n
def mirrorS (k : Sg) : Sg := { k with side := swapN k.side 1 2, dir := if 1 < k.dir then 10 - k.dir else k.dir, size := if k.kind = 6 ∧ 1 ≤ k.size ∧ k.size ≤ 7 then 8 - k.size else k.size }
/-- what an edit makes of a sign -/
def workE (e : Ed) (k : Sg) : Option (List Sg) :=
  if e.kind = 1 then (if inP e k then some [mirrorS k] else some [k])
  else if e.kind = 2 then (if inP e k ∧ 0 < k.dir then some [{ k with dir := (k.dir - 1 + e.n) % 8 + 1 }] else some [k])
  else if e.kind = 3 then (if e.fr ≤ k.bar ∧ k.bar ≤ e.to then some [] else if e.to < k.bar then some [{ k with bar := k.bar - (e.to - e.fr + 1) }] else some [k])
  else if e.kind = 4 then (if e.fr ≤ k.bar then some [{ k with bar := k.bar + e.n }] else some [k])
  else if e.kind = 6 then (if e.fr ≤ k.bar ∧ k.bar ≤ e.to then some [{ k with role := swapN k.role (e.role - 1) (e.other - 1), with_ := swapN k.with_ e.role e.other }] else some [k])
  else if e.kind = 7 then (if inP e k then (if (mulS k.fn k.fd e.sn e.sd).2.2 = 0 ∧ (mulS k.tn k.td e.sn e.sd).2.2 = 0 then some [{ k with fn := (mulS k.fn k.fd e.sn e.sd).1, fd := (mulS k.fn k.fd e.sn e.sd).2.1, tn := (mulS k.tn k.td e.sn e.sd).1, td := (mulS k.tn k.td e.sn e.sd).2.1 }] else none) else some [k])
  else none
def accE (e : Ed) (l : List Sg) : Option (List Sg) := l.foldl (fun acc k => acc.bind fun y => (workE e k).map (y ++ ·)) (some [])
noncomputable def applyE (e : Ed) (ss : List Sg) : List Sg × Int := open Classical in
  if chkS ss ≠ 0 then ([], chkS ss) else if ¬ okE e then ([], 360) else match accE e ss with
  | none => ([], 360)
  | some y => if chkS y = 0 then (y, 0) else ([], chkS y)
theorem fold_none (e : Ed) : ∀ l : List Sg, l.foldl (fun acc k => acc.bind fun y => (workE e k).map (y ++ ·)) none = none
  | [] => rfl
  | _ :: l => fold_none e l
theorem acc_take {e : Ed} {ss : List Sg} {i : Nat} {z : Sg} (hz : ss[i]? = some z) : accE e (ss.take (i + 1)) = (accE e (ss.take i)).bind fun y => (workE e z).map (y ++ ·) := by
  unfold accE
  rw [List.take_add_one, hz, Option.toList_some, List.foldl_append]
  rfl
theorem acc_step {e : Ed} {ss : List Sg} {i : Nat} {z : Sg} {y m : List Sg} (hz : ss[i]? = some z) (h : accE e (ss.take i) = some y) (hw : workE e z = some m) : accE e (ss.take (i + 1)) = some (y ++ m) := by
  rw [acc_take hz, h, Option.bind_some, hw]; rfl
theorem acc_fail {e : Ed} {ss : List Sg} {i : Nat} {z : Sg} {y : List Sg} (hz : ss[i]? = some z) (h : accE e (ss.take i) = some y) (hw : workE e z = none) : accE e ss = none := by
  have h1 := acc_take (e := e) hz
  rw [h, Option.bind_some, hw] at h1
  have h2 : ss = ss.take (i + 1) ++ ss.drop (i + 1) := (List.take_append_drop _ _).symm
  rw [h2]
  unfold accE at h1 ⊢
  rw [List.foldl_append, h1]
  exact fold_none e _
theorem work_len {e : Ed} {k : Sg} {m : List Sg} (h : workE e k = some m) : m.length ≤ 1 := by
  unfold workE at h
  (repeat' split at h) <;> first | (cases h; done) | (cases h; simp)
theorem acc_len {e : Ed} {ss : List Sg} : ∀ {i : Nat} {y : List Sg}, accE e (ss.take i) = some y → y.length ≤ i
  | 0, y, h => by
    simp only [List.take_zero, accE, List.foldl_nil, Option.some.injEq] at h
    rw [← h]; simp
  | i + 1, y, h => by
    cases hz : ss[i]? with
    | none =>
      have : ss.take (i + 1) = ss.take i := by rw [List.take_add_one, hz]; simp
      rw [this] at h
      have := acc_len h
      omega
    | some z =>
      rw [acc_take hz] at h
      obtain ⟨y', h1, h2⟩ := Option.bind_eq_some_iff.1 h
      obtain ⟨m, h3, rfl⟩ := Option.map_eq_some_iff.1 h2
      have := acc_len h1
      have := work_len h3
      simp only [List.length_append]
      omega
theorem applyE_chk {e : Ed} {ss : List Sg} (h : ¬ chkS ss = 0) : applyE e ss = ([], chkS ss) := by unfold applyE; rw [if_pos h]
theorem applyE_no {e : Ed} {ss : List Sg} (h : chkS ss = 0) (h2 : ¬ okE e) : applyE e ss = ([], 360) := by unfold applyE; rw [if_neg (by simpa using h), if_pos h2]
theorem applyE_fail {e : Ed} {ss : List Sg} (h : chkS ss = 0) (h2 : okE e) (h3 : accE e ss = none) : applyE e ss = ([], 360) := by unfold applyE; rw [if_neg (by simpa using h), if_neg (by simpa using h2), h3]
theorem applyE_out {e : Ed} {ss y : List Sg} (h : chkS ss = 0) (h2 : okE e) (h3 : accE e ss = some y) (h4 : ¬ chkS y = 0) : applyE e ss = ([], chkS y) := by unfold applyE; rw [if_neg (by simpa using h), if_neg (by simpa using h2), h3]; simp only; rw [if_neg h4]
theorem applyE_ok {e : Ed} {ss y : List Sg} (h : chkS ss = 0) (h2 : okE e) (h3 : accE e ss = some y) (h4 : chkS y = 0) : applyE e ss = (y, 0) := by unfold applyE; rw [if_neg (by simpa using h), if_neg (by simpa using h2), h3]; simp only; rw [if_pos h4]
theorem rem8 {x : Int} (h : 0 ≤ x) (h2 : x ≤ 1000) : SX.binV .rem (.int .i64 x) (.int .i64 8) = some (.int .i64 (x % 8)) := by
  simp only [SX.binV, if_true]
  rw [if_neg (by decide), Int.tmod_eq_emod_of_nonneg h]
theorem okR_iff2 {n d : Int} : ((if okR n d then 0 else 120 : Int) = 0) ↔ okR n d := by
  split <;> simp_all
/-- what edits.Apply calls -/
def RE2 (f : FuncId) (xs : List SX.Arg) (v : Value) : Prop :=
  (f = 14 ∧ ∃ (u : Value) (ss : List Sg), xs = [⟨u, 14, sgsL ss⟩] ∧ ss.length ≤ 9223372036854775807 ∧ v = .int .i64 (chkS ss)) ∨
  (f = 79 ∧ ∃ n d : Int, xs = [⟨.agg #[.int .i64 n, .int .i64 d], 0, []⟩] ∧ v = .int .i64 (if okR n d then 0 else 120)) ∨
  (f = 23 ∧ ∃ an ad bn bd : Int, xs = [⟨.agg #[.int .i64 an, .int .i64 ad], 0, []⟩, ⟨.agg #[.int .i64 bn, .int .i64 bd], 0, []⟩] ∧ v = .tuple #[.agg #[.int .i64 (mulS an ad bn bd).1, .int .i64 (mulS an ad bn bd).2.1], .int .i64 (mulS an ad bn bd).2.2])
def shpE2 : FuncId → Option SX.Sh := fun f => if f = 14 then some .one else if f = 79 then some .one else if f = 23 then some (.tp [.ag 2, .one]) else none
noncomputable def cxE2 (K A : Value → Nat → List Value → Prop) : SX.Cx := { P := Try.prog, R := fun _ => RE2, shp := shpE2, K := K, A := A }
theorem okE2 (K A : Value → Nat → List Value → Prop) : (cxE2 K A).Ok := by
  refine SX.Cx.ok_of (fun _ => rfl) ?_
  intro K f xs v W hR hrd hKf
  rcases hR with ⟨rfl, u, ss, rfl, hl, rfl⟩ | ⟨rfl, n, d, rfl, rfl⟩ | ⟨rfl, an, ad, bn, bd, rfl, rfl⟩
  · obtain ⟨A, n, c, rfl, h2, h3, h4⟩ := sgs_arg (hrd ⟨u, 14, sgsL ss⟩ (by simp))
    exact (echeck_any ss A n c W h2 (by omega) h3).mono fun e w' h => SX.plainOk rfl h
  · exact (rcheck_any n d W).mono fun e w' h => SX.plainOk rfl h
  · exact (mul_any an ad bn bd W).mono fun e w' h => SX.plainOk rfl h
end Go.Proofs.Ytnaooclbphaelaa
