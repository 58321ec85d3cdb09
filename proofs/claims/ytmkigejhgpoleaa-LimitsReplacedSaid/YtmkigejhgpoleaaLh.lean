/-
  limits.InForce.
-/
import Derived.Test.YtmkigejhgpoleaaLg
namespace Go.Proofs.Ytmkigejhgpoleaa
set_option linter.unusedSimpArgs false
set_option linter.unusedVariables false
open Go Go.RowKit
theorem rlen_of {C : SX.Cx} {ρ : List Value} {α : Nat → SX.AV} {β : Type} {f : β → List Value} {sz : Nat} (hf : ∀ a, (f a).length = sz) (h0 : 0 < sz) {l : List β} {cc : SX.V} (hc : SX.cellsV (cc.den ρ α) = l.flatMap f) : SX.Opq.rel C ρ α (.rlen sz) [cc] (.int .i64 ((l.length : Nat) : Int)) := by
  show _ = _
  rw [hc, SX.flat_len hf, Nat.mul_div_cancel _ h0]
def capOf (x : Lim) : Bod.Cp := ⟨x.kind, x.limb, x.n⟩
def capsL (l : List Lim) : List Bod.Cp := l.map capOf
theorem cellsCp_one (a : Bod.Cp) : ∀ u ∈ cellsCp a, u.oneCell' = true := by
  intro u hu
  simp only [cellsCp, List.mem_cons, List.not_mem_nil, or_false] at hu
  rcases hu with rfl | rfl | rfl <;> rfl
theorem standR_le (ls : List Lim) (p d t : Int) : (standR ls p d t).1.length ≤ 512 := by
  unfold standR
  split
  · simp
  · split
    · simp
    · rename_i h _
      have := (chkL_zero (by simpa using h)).1
      exact Nat.le_trans (List.length_filter_le _ _) this
theorem caps_arg {W : World} {u : Value} {cs : List Bod.Cp} (h : SX.Arg.rd W ⟨u, 3, cpL cs⟩) : ∃ A n c, u = .slice A n c ∧ Rd W 3 A n (cpL cs) ∧ n ≤ c ∧ cs.length = n := by
  unfold SX.Arg.rd at h
  split at h
  · rename_i A n c hu
    have hu : u = .slice A n c := hu
    refine ⟨A, n, c, hu, h.1, h.2, ?_⟩
    have := h.1.1; simp only [cpL_len] at this; omega
  · cases h
/-- the body in force -/
noncomputable def inForceR (b : Bod.Bd) (ls : List Lim) (p d t : Int) : Bod.Bd × Int := if b.chk ≠ 0 then (Bod.Bd.zero, b.chk) else if (standR ls p d t).2 ≠ 0 then (Bod.Bd.zero, (standR ls p d t).2) else (b.allB (capsL (standR ls p d t).1), b.allE (capsL (standR ls p d t).1))
/-- what is known of bodies and what stands -/
def RH (f : FuncId) (xs : List SX.Arg) (v : Value) : Prop :=
  (f = 21 ∧ ∃ b : Bod.Bd, xs = [⟨valBd b, 0, []⟩] ∧ b.name.size ≤ maxLen ∧ v = .int .i64 b.chk) ∨
  (f = 41 ∧ ∃ (b : Bod.Bd) (u : Value) (cs : List Bod.Cp), xs = [⟨valBd b, 0, []⟩, ⟨u, 3, cpL cs⟩] ∧ b.name.size ≤ maxLen ∧ cs.length ≤ 9223372036854775807 ∧ v = .tuple #[valBd (b.allB cs), .int .i64 (b.allE cs)]) ∨
  (f = 17 ∧ ∃ (u : Value) (ls : List Lim) (p d t : Int), xs = [⟨u, 9, lmL ls⟩, ⟨.int .i64 p, 0, []⟩, ⟨.int .i64 d, 0, []⟩, ⟨.int .i64 t, 0, []⟩] ∧ ls.length ≤ 9223372036854775807 ∧ fitLm ls ∧ v = .tuple #[.agg (lmL (standR ls p d t).1).toArray, .int .i64 (standR ls p d t).2])
def shpH : FuncId → Option SX.Sh := fun f => if f = 21 then some .one else if f = 41 then some (.tp [.ag 17, .one]) else if f = 17 then some (.tp [.sl 9, .one]) else none
noncomputable def cxH (K A : Value → Nat → List Value → Prop) : SX.Cx := { P := Try.prog, R := fun _ => RH, shp := shpH, K := K, A := A, trm := true }
theorem okH (K A : Value → Nat → List Value → Prop) : (cxH K A).Ok := by
  refine SX.Cx.ok_of (fun _ => rfl) ?_
  intro K f xs v W hR hrd hKf
  rcases hR with ⟨rfl, b, rfl, hs, rfl⟩ | ⟨rfl, b, u, cs, rfl, hs, hl, rfl⟩ | ⟨rfl, u, ls, p, d, t, rfl, hl, hf, rfl⟩
  · exact (bCheck_any b W hs).mono fun e w' h => SX.plainOk rfl h
  · obtain ⟨A, n, c, rfl, h2, h3, h4⟩ := caps_arg (hrd ⟨u, 3, cpL cs⟩ (by simp))
    exact (bAll_any b cs A n c W hs h2 (by omega) h3).mono fun e w' h => SX.plainOk rfl h
  · refine Calls.mono ?_ fun e w' h => SX.SlRet.ok0 rfl h
    obtain ⟨A, n, c, rfl, h2, h3, h4⟩ := lms_arg (hrd ⟨u, 9, lmL ls⟩ (by simp))
    exact lStand_any ls A n c p d t W h2 (by omega) h3 hf
end Go.Proofs.Ytmkigejhgpoleaa
