/-
  The statement 'PatchDiff': for every input the law returns true, and each argument reads as it read before. No condition.
-/
import Derived.Test.YtodlcjhefojibaaPA6
import Derived.Test.YtodlcjhefojibaaPA1
import Derived.DataElems
set_option linter.unusedSimpArgs false
set_option linter.unusedVariables false
namespace Go.Proofs.Ytodlcjhefojibaa
open Go Go.RowKit
def pvL (l : List (Pt × Value)) : List Value := l.flatMap fun q => cellsP q.1 q.2
def ptV (p : Pt) : Value := .agg ([Value.int .i64 p.id, Value.int .i64 p.kind, Value.int .i64 p.sign, Value.int .i64 p.field] ++ cellsSg p.new ++ [Value.agg (intsL p.needs).toArray]).toArray
theorem ints_arg {W : World} {h : Value} {l : List Int} (hr : SX.Arg.rd W ⟨h, 1, intsL l⟩) : ∃ B m d, h = .slice B m d ∧ Rd W 1 B m (intsL l) ∧ m ≤ d ∧ l.length = m := by
  unfold SX.Arg.rd at hr
  split at hr
  · rename_i A n c hu
    have hu : h = .slice A n c := hu
    refine ⟨A, n, c, hu, hr.1, hr.2, ?_⟩
    have := hr.1.1; simp only [intsL_len] at this; omega
  cases hr
def toPh (q : Pt × Value) : Ph := match q.2 with
  | .slice B m d => (q.1, B, m, d)
  | _ => (q.1, none, 0, 0)
theorem toPh_eq {q : Pt × Value} {B : Option Addr} {m d : Nat} (h : q.2 = .slice B m d) : toPh q = (q.1, B, m, d) := by unfold toPh; rw [h]
theorem pvL_ph {W : World} {K : Value → Nat → List Value → Prop} (hKf : ∀ s sz cells, K s sz cells → SX.Arg.rd W ⟨s, sz, cells⟩) : ∀ {pl : List (Pt × Value)}, (∀ q ∈ pl, K q.2 1 (intsL q.1.needs) ∧ q.1.needs.length ≤ 9223372036854775807) → pvL pl = phL (pl.map toPh) ∧ (pl.map toPh).map (·.1) = pl.map (·.1) ∧ NeedsIn W (pl.map toPh)
  | [], _ => ⟨rfl, rfl, fun _ h => nomatch h⟩
  | q :: pl, h => by
    obtain ⟨h1, h2, h3⟩ := pvL_ph hKf fun x hx => h x (List.mem_cons_of_mem _ hx)
    obtain ⟨hk, hl⟩ := h q (List.mem_cons_self ..)
    obtain ⟨B, m, d, e, g1, g2, g3⟩ := ints_arg (hKf _ _ _ hk)
    have hq := toPh_eq e
    refine ⟨?_, ?_, ?_⟩
    · show cellsP q.1 q.2 ++ pvL pl = cellsH (toPh q) ++ phL (pl.map toPh)
      rw [h1, hq, e]; rfl
    · show (toPh q).1 :: _ = q.1 :: _
      rw [h2, hq]
    intro x hx
    rcases List.mem_cons.1 hx with rfl | hx
    · rw [hq]; exact ⟨g1, g2, by show m ≤ _; omega⟩
    exact h3 x hx
theorem SX.SlRet.ok2 {C : SX.Cx} {f : FuncId} {as' : List SX.Arg} {W W' : World} {e : Ending} {k : Int} {p : Pt} (hs : C.sh f = .tp [.agl (List.replicate 18 .one ++ [.sl 1]), .one]) (h : Below W.heap.size W W' ∧ ∃ hdr, e = .returned (.tuple #[valP p hdr, .int .i64 k]) ∧ SX.SlRet W W' [] hdr 1 (intsL p.needs)) :
    Below W.heap.size W W' ∧ ∃ hdr, e = .returned ((C.sh f).fill hdr (.tuple #[ptV p, .int .i64 k])) ∧ ∀ q z, (q, z) ∈ (C.sh f).sls [] → SX.HdrOk C f as' W W' hdr z (SX.cellsV (q.foldl SX.comp (.tuple #[ptV p, .int .i64 k]))) := by
  obtain ⟨hb, hdr, he, h1, h2, h3⟩ := h
  refine ⟨hb, hdr, by rw [hs, he]; kernel_rfl, fun q z hp => ?_⟩
  rw [hs] at hp
  obtain ⟨rfl, rfl⟩ : q = [0, 18] ∧ z = 1 := by simpa [SX.Sh.sls, SX.Sh.slsL, List.replicate] using hp
  have e : SX.cellsV (([0, 18] : List Nat).foldl SX.comp (.tuple #[ptV p, .int .i64 k])) = intsL p.needs := by kernel_rfl
  rw [e]
  refine ⟨h1, h2, .inl (h3.resolve_right ?_)⟩
  rintro ⟨y, hy, _⟩
  cases hy
theorem SX.aliNo {C : SX.Cx} {f : FuncId} {rw : List SX.Rw} {as' : List SX.Arg} (ha : C.ali f = [0]) (hr : ∀ sz, rw[0]? ≠ some (.ext sz)) : SX.aliRel C f rw as' := fun j hj x sz _ h => by
  rw [ha] at hj
  obtain rfl : j = 0 := by simpa using hj
  exact absurd h (hr sz)
def RM (K : Value → Nat → List Value → Prop) (f : FuncId) (xs : List SX.Arg) (v : Value) : Prop :=
  (f = 12 ∧ ∃ (u : Value) (ss : List Sg) (p : Pt) (h : Value), xs = [⟨u, 14, sgsL ss⟩, ⟨valP p h, 0, []⟩] ∧ ss.length ≤ 9223372036854775807 ∧ K h 1 (intsL p.needs) ∧ p.needs.length ≤ 9223372036854775807 ∧ v = .tuple #[.agg (sgsL (runS ss [p]).1).toArray, .int .i64 (runS ss [p]).2]) ∨
  (f = 13 ∧ ∃ (u : Value) (ss : List Sg) (p : Pt) (h : Value), xs = [⟨u, 14, sgsL ss⟩, ⟨valP p h, 0, []⟩] ∧ ss.length ≤ 9223372036854775807 ∧ K h 1 (intsL p.needs) ∧ p.needs.length ≤ 9223372036854775807 ∧ v = .tuple #[.agg (sgsL (runS ss [p]).1).toArray, .int .i64 (runS ss [p]).2]) ∨
  (f = 18 ∧ ∃ (u u2 : Value) (ss : List Sg) (pl : List (Pt × Value)), xs = [⟨u, 14, sgsL ss⟩, ⟨u2, 19, pvL pl⟩] ∧ ss.length ≤ 9223372036854775807 ∧ pl.length ≤ 9223372036854775807 ∧ (∀ q ∈ pl, K q.2 1 (intsL q.1.needs) ∧ q.1.needs.length ≤ 9223372036854775807) ∧ v = .tuple #[.agg (sgsL (runS ss (pl.map (·.1))).1).toArray, .int .i64 (runS ss (pl.map (·.1))).2]) ∨
  (f = 19 ∧ ∃ (u u2 : Value) (ss : List Sg) (pl : List (Pt × Value)), xs = [⟨u, 14, sgsL ss⟩, ⟨u2, 19, pvL pl⟩] ∧ ss.length ≤ 9223372036854775807 ∧ pl.length ≤ 9223372036854775807 ∧ (∀ q ∈ pl, K q.2 1 (intsL q.1.needs) ∧ q.1.needs.length ≤ 9223372036854775807) ∧ v = .tuple #[.agg (sgsL (runS ss (pl.map (·.1))).1).toArray, .int .i64 (runS ss (pl.map (·.1))).2]) ∨
  (f = 14 ∧ ∃ (p : Pt) (h : Value), xs = [⟨valP p h, 0, []⟩] ∧ K h 1 (intsL p.needs) ∧ p.needs.length ≤ 9223372036854775807 ∧ v = .int .i64 (chkP p)) ∨
  (f = 15 ∧ ∃ (p : Pt) (h : Value), xs = [⟨valP p h, 0, []⟩] ∧ K h 1 (intsL p.needs) ∧ p.needs.length ≤ 9223372036854775807 ∧ v = .int .i64 (chkP p)) ∨
  (f = 22 ∧ ∃ (p q : Pt) (h h' : Value), xs = [⟨valP p h, 0, []⟩, ⟨valP q h', 0, []⟩] ∧ K h 1 (intsL p.needs) ∧ K h' 1 (intsL q.needs) ∧ p.needs.length ≤ 9223372036854775807 ∧ q.needs.length ≤ 9223372036854775807 ∧ v = .tuple #[.bool (ovV p q), .int .i64 (ovE p q)]) ∨
  (f = 23 ∧ ∃ (p q : Pt) (h h' : Value), xs = [⟨valP p h, 0, []⟩, ⟨valP q h', 0, []⟩] ∧ K h 1 (intsL p.needs) ∧ K h' 1 (intsL q.needs) ∧ p.needs.length ≤ 9223372036854775807 ∧ q.needs.length ≤ 9223372036854775807 ∧ v = .tuple #[.bool (ovV p q), .int .i64 (ovE p q)]) ∨
  (f = 24 ∧ ∃ (u : Value) (ss : List Sg) (p q : Pt) (h h' : Value), xs = [⟨u, 14, sgsL ss⟩, ⟨valP p h, 0, []⟩, ⟨valP q h', 0, []⟩] ∧ ss.length ≤ 9223372036854775807 ∧ K h 1 (intsL p.needs) ∧ K h' 1 (intsL q.needs) ∧ p.needs.length ≤ 9223372036854775807 ∧ q.needs.length ≤ 9223372036854775807 ∧ v = .tuple #[.bool (comS ss p q).1, .int .i64 (comS ss p q).2]) ∨
  (f = 25 ∧ ∃ (u : Value) (ss : List Sg) (p q : Pt) (h h' : Value), xs = [⟨u, 14, sgsL ss⟩, ⟨valP p h, 0, []⟩, ⟨valP q h', 0, []⟩] ∧ ss.length ≤ 9223372036854775807 ∧ K h 1 (intsL p.needs) ∧ K h' 1 (intsL q.needs) ∧ p.needs.length ≤ 9223372036854775807 ∧ q.needs.length ≤ 9223372036854775807 ∧ v = .tuple #[.bool (comS ss p q).1, .int .i64 (comS ss p q).2]) ∨
  (f = 20 ∧ ∃ (u : Value) (ss : List Sg) (p : Pt) (h : Value) (id : Int), xs = [⟨u, 14, sgsL ss⟩, ⟨valP p h, 0, []⟩, ⟨.int .i64 id, 0, []⟩] ∧ ss.length ≤ 9223372036854775807 ∧ K h 1 (intsL p.needs) ∧ p.needs.length ≤ 9223372036854775807 ∧ v = .tuple #[ptV (invS ss p id).1, .int .i64 (invS ss p id).2]) ∨
  (f = 21 ∧ ∃ (u : Value) (ss : List Sg) (p : Pt) (h : Value) (id : Int), xs = [⟨u, 14, sgsL ss⟩, ⟨valP p h, 0, []⟩, ⟨.int .i64 id, 0, []⟩] ∧ ss.length ≤ 9223372036854775807 ∧ K h 1 (intsL p.needs) ∧ p.needs.length ≤ 9223372036854775807 ∧ v = .tuple #[ptV (invS ss p id).1, .int .i64 (invS ss p id).2]) ∨
  (f = 16 ∧ ∃ (u u2 : Value) (ss tt : List Sg), xs = [⟨u, 14, sgsL ss⟩, ⟨u2, 14, sgsL tt⟩] ∧ ss.length ≤ 9223372036854775807 ∧ tt.length ≤ 9223372036854775807 ∧ v = .bool (decide (ss = tt))) ∨
  (f = 26 ∧ ∃ (p q : Pt) (h h' : Value), xs = [⟨valP p h, 0, []⟩, ⟨valP q h', 0, []⟩] ∧ K h 1 (intsL p.needs) ∧ K h' 1 (intsL q.needs) ∧ p.needs.length ≤ 9223372036854775807 ∧ q.needs.length ≤ 9223372036854775807 ∧ v = .bool (decide (p = q))) ∨
  (f = 11 ∧ ∃ (u : Value) (ss : List Sg), xs = [⟨u, 14, sgsL ss⟩] ∧ ss.length ≤ 9223372036854775807 ∧ v = .bool (fewS ss)) ∨
  (f = 27 ∧ ∃ (u : Value) (ss : List Sg), xs = [⟨u, 14, sgsL ss⟩] ∧ ss.length ≤ 9223372036854775807 ∧ v = .int .i64 (chkS ss)) ∨
  (f = 29 ∧ ∃ (x y : Sg) (f : Int), xs = [⟨valSg x, 0, []⟩, ⟨.int .i64 f, 0, []⟩, ⟨valSg y, 0, []⟩] ∧ v = valSg (setF x f y))
def shpM : FuncId → Option SX.Sh := fun f => if f = 12 then some (.tp [.sl 14, .one]) else if f = 13 then some (.tp [.sl 14, .one]) else if f = 18 then some (.tp [.sl 14, .one]) else if f = 19 then some (.tp [.sl 14, .one]) else if f = 14 then some .one else if f = 15 then some .one else if f = 22 then some (.tp [.one, .one]) else if f = 23 then some (.tp [.one, .one]) else if f = 24 then some (.tp [.one, .one]) else if f = 25 then some (.tp [.one, .one]) else if f = 20 then some (.tp [.agl (List.replicate 18 .one ++ [.sl 1]), .one]) else if f = 21 then some (.tp [.agl (List.replicate 18 .one ++ [.sl 1]), .one]) else if f = 16 then some .one else if f = 26 then some .one else if f = 11 then some .one else if f = 27 then some .one else if f = 29 then some (.ag 14) else none
noncomputable def cxM (K A : Value → Nat → List Value → Prop) : SX.Cx := { P := Try.prog, R := RM, shp := shpM, K := K, A := A, ali := fun f => if f = 12 then [0] else if f = 13 then [0] else if f = 18 then [0] else if f = 19 then [0] else [] }
theorem okM (K A : Value → Nat → List Value → Prop) : (cxM K A).Ok := by
  refine SX.Cx.ok_of (fun _ => rfl) ?_
  intro K f xs v W hR hrd hKf
  rcases hR with ⟨rfl, u, ss, p, h, rfl, hl, hK, hl2, rfl⟩ | ⟨rfl, u, ss, p, h, rfl, hl, hK, hl2, rfl⟩ | ⟨rfl, u, u2, ss, pl, rfl, hl, hl2, hK, rfl⟩ | ⟨rfl, u, u2, ss, pl, rfl, hl, hl2, hK, rfl⟩ | ⟨rfl, p, h, rfl, hK, hl, rfl⟩ | ⟨rfl, p, h, rfl, hK, hl, rfl⟩ | ⟨rfl, p, q, h, h', rfl, hK, hK', hl, hl', rfl⟩ | ⟨rfl, p, q, h, h', rfl, hK, hK', hl, hl', rfl⟩ | ⟨rfl, u, ss, p, q, h, h', rfl, hl0, hK, hK', hl, hl', rfl⟩ | ⟨rfl, u, ss, p, q, h, h', rfl, hl0, hK, hK', hl, hl', rfl⟩ | ⟨rfl, u, ss, p, h, id, rfl, hl, hK, hl2, rfl⟩ | ⟨rfl, u, ss, p, h, id, rfl, hl, hK, hl2, rfl⟩ | ⟨rfl, u, u2, ss, tt, rfl, hl, hl2, rfl⟩ | ⟨rfl, p, q, h, h', rfl, hK, hK', hl, hl', rfl⟩ | ⟨rfl, u, ss, rfl, hl, rfl⟩ | ⟨rfl, u, ss, rfl, hl, rfl⟩ | ⟨rfl, x, y, f, rfl, rfl⟩
  · refine Calls.mono ?_ fun e w' h => SX.SlRet.ok rfl rfl h
    obtain ⟨A, n, c, rfl, h2, h3, h4⟩ := sgs_arg (hrd ⟨u, 14, sgsL ss⟩ (by simp))
    obtain ⟨B, m, d, rfl, hB, hmd, hlm⟩ := ints_arg (hKf _ _ _ hK)
    exact papply_any ss A n c p B m d W h2 (by omega) h3 hB (by omega) hmd
  · refine Calls.mono ?_ fun e w' h => SX.SlRet.ok rfl rfl h
    obtain ⟨A, n, c, rfl, h2, h3, h4⟩ := sgs_arg (hrd ⟨u, 14, sgsL ss⟩ (by simp))
    obtain ⟨B, m, d, rfl, hB, hmd, hlm⟩ := ints_arg (hKf _ _ _ hK)
    exact rapply2_any ss A n c p B m d W h2 (by omega) h3 hB (by omega) hmd
  · refine Calls.mono ?_ fun e w' h => SX.SlRet.ok rfl rfl h
    obtain ⟨A, n, c, rfl, h2, h3, h4⟩ := sgs_arg (hrd ⟨u, 14, sgsL ss⟩ (by simp))
    obtain ⟨e1, e2, e3⟩ := pvL_ph hKf hK
    obtain ⟨A', n', c', rfl, h2', h3', h4'⟩ := ph_arg (pl := pl.map toPh) (by rw [← e1]; exact hrd ⟨u2, 19, pvL pl⟩ (by simp))
    have := run_any ss A n c (pl.map toPh) A' n' c' W h2 (by omega) h3 h2' (by simp at h4'; omega) h3' e3
    rw [e2] at this
    exact this
  · refine Calls.mono ?_ fun e w' h => SX.SlRet.ok rfl rfl h
    obtain ⟨A, n, c, rfl, h2, h3, h4⟩ := sgs_arg (hrd ⟨u, 14, sgsL ss⟩ (by simp))
    obtain ⟨e1, e2, e3⟩ := pvL_ph hKf hK
    obtain ⟨A', n', c', rfl, h2', h3', h4'⟩ := ph_arg (pl := pl.map toPh) (by rw [← e1]; exact hrd ⟨u2, 19, pvL pl⟩ (by simp))
    have := rrun_any ss A n c (pl.map toPh) A' n' c' W h2 (by omega) h3 h2' (by simp at h4'; omega) h3' e3
    rw [e2] at this
    exact this
  · obtain ⟨B, m, d, rfl, hB, hmd, hlm⟩ := ints_arg (hKf _ _ _ hK)
    exact (pcheck_any p B m d W hB (by omega) hmd).mono fun e w' h => SX.plainOk rfl h
  · obtain ⟨B, m, d, rfl, hB, hmd, hlm⟩ := ints_arg (hKf _ _ _ hK)
    exact (rcheckP_any p B m d W hB (by omega) hmd).mono fun e w' h => SX.plainOk rfl h
  · obtain ⟨B, m, d, rfl, hB, hmd, hlm⟩ := ints_arg (hKf _ _ _ hK)
    obtain ⟨B', m', d', rfl, hB', hmd', hlm'⟩ := ints_arg (hKf _ _ _ hK')
    exact (overlap_any p q B m d B' m' d' W hB (by omega) hmd hB' (by omega) hmd').mono fun e w' h => SX.plainOk rfl h
  · obtain ⟨B, m, d, rfl, hB, hmd, hlm⟩ := ints_arg (hKf _ _ _ hK)
    obtain ⟨B', m', d', rfl, hB', hmd', hlm'⟩ := ints_arg (hKf _ _ _ hK')
    exact (roverlap_any p q B m d B' m' d' W hB (by omega) hmd hB' (by omega) hmd').mono fun e w' h => SX.plainOk rfl h
  · obtain ⟨A, n, c, rfl, h2, h3, h4⟩ := sgs_arg (hrd ⟨u, 14, sgsL ss⟩ (by simp))
    obtain ⟨B, m, d, rfl, hB, hmd, hlm⟩ := ints_arg (hKf _ _ _ hK)
    obtain ⟨B', m', d', rfl, hB', hmd', hlm'⟩ := ints_arg (hKf _ _ _ hK')
    exact (commute_any ss A n c p q B m d B' m' d' W h2 (by omega) h3 hB (by omega) hmd hB' (by omega) hmd').mono fun e w' h => SX.plainOk rfl h
  · obtain ⟨A, n, c, rfl, h2, h3, h4⟩ := sgs_arg (hrd ⟨u, 14, sgsL ss⟩ (by simp))
    obtain ⟨B, m, d, rfl, hB, hmd, hlm⟩ := ints_arg (hKf _ _ _ hK)
    obtain ⟨B', m', d', rfl, hB', hmd', hlm'⟩ := ints_arg (hKf _ _ _ hK')
    exact (rcommute_any ss A n c p q B m d B' m' d' W h2 (by omega) h3 hB (by omega) hmd hB' (by omega) hmd').mono fun e w' h => SX.plainOk rfl h
  · refine Calls.mono ?_ fun e w' h => SX.SlRet.ok2 rfl h
    obtain ⟨A, n, c, rfl, h2, h3, h4⟩ := sgs_arg (hrd ⟨u, 14, sgsL ss⟩ (by simp))
    obtain ⟨B, m, d, rfl, hB, hmd, hlm⟩ := ints_arg (hKf _ _ _ hK)
    exact inv_any ss A n c p B m d id W h2 (by omega) h3 hB (by omega) hmd
  · refine Calls.mono ?_ fun e w' h => SX.SlRet.ok2 rfl h
    obtain ⟨A, n, c, rfl, h2, h3, h4⟩ := sgs_arg (hrd ⟨u, 14, sgsL ss⟩ (by simp))
    obtain ⟨B, m, d, rfl, hB, hmd, hlm⟩ := ints_arg (hKf _ _ _ hK)
    exact rinv_any ss A n c p B m d id W h2 (by omega) h3 hB (by omega) hmd
  · obtain ⟨A, n, c, rfl, h2, h3, h4⟩ := sgs_arg (hrd ⟨u, 14, sgsL ss⟩ (by simp))
    obtain ⟨A', n', c', rfl, h2', h3', h4'⟩ := sgs_arg (hrd ⟨u2, 14, sgsL tt⟩ (by simp))
    exact (same_any ss tt A A' n c n' c' W h2 (by omega) h3 h2' (by omega) h3').mono fun e w' h => SX.plainOk rfl h
  · obtain ⟨B, m, d, rfl, hB, hmd, hlm⟩ := ints_arg (hKf _ _ _ hK)
    obtain ⟨B', m', d', rfl, hB', hmd', hlm'⟩ := ints_arg (hKf _ _ _ hK')
    exact (same37_any p q B m d B' m' d' W hB (by omega) hmd hB' (by omega) hmd').mono fun e w' h => SX.plainOk rfl h
  · obtain ⟨A, n, c, rfl, h2, h3, h4⟩ := sgs_arg (hrd ⟨u, 14, sgsL ss⟩ (by simp))
    exact (few_any ss A n c W h2 (by omega) h3).mono fun e w' h => SX.plainOk rfl h
  · obtain ⟨A, n, c, rfl, h2, h3, h4⟩ := sgs_arg (hrd ⟨u, 14, sgsL ss⟩ (by simp))
    exact (echeck_any ss A n c W h2 (by omega) h3).mono fun e w' h => SX.plainOk rfl h
  exact (Set_any x y f W).mono fun e w' h => SX.plainOk rfl h
def nilK (s : Value) (sz : Nat) (cells : List Value) : Prop := s = .slice none 0 0 ∧ sz = 1 ∧ cells = []
def tree_sane : SX.Tree :=
(.df (.call 12 [(.own 14 [(.i 3), (.i 0), (.i 0), (.i 1), (.i 1), (.i 1), (.i 1), (.i 0), (.i 1), (.i 0), (.i 0), (.i 1), (.i 1), (.i 1), (.i 7), (.i 0), (.i 0), (.i 1), (.i 1), (.i 1), (.i 1), (.i 0), (.i 2), (.i 0), (.i 0), (.i 1), (.i 1), (.i 1)]), .no]) [(.sl 2 0 2 2), (.a [(.i 1), (.i 1), (.i 7), (.i 7), (.i 0), (.i 0), (.i 0), (.i 0), (.i 0), (.i 0), (.i 0), (.i 0), (.i 9), (.i 0), (.i 0), (.i 0), (.i 0), (.i 0), (.k (.slice none 0 0))])] (.tp [(.sl 14), .one])
(.df (.call 12 [(.own 14 [(.i 3), (.i 0), (.i 0), (.i 1), (.i 1), (.i 1), (.i 1), (.i 0), (.i 1), (.i 0), (.i 0), (.i 1), (.i 1), (.i 1), (.i 7), (.i 0), (.i 0), (.i 1), (.i 1), (.i 1), (.i 1), (.i 0), (.i 2), (.i 0), (.i 0), (.i 1), (.i 1), (.i 1)]), .no]) [(.sl 2 0 2 2), (.a [(.i 2), (.i 2), (.i 5), (.i 0), (.i 5), (.i 0), (.i 0), (.i 1), (.i 1), (.i 1), (.i 1), (.i 0), (.i 4), (.i 0), (.i 0), (.i 1), (.i 1), (.i 1), (.k (.slice none 0 0))])] (.tp [(.sl 14), .one])
(.df (.call 18 [(.own 14 [(.i 3), (.i 0), (.i 0), (.i 1), (.i 1), (.i 1), (.i 1), (.i 0), (.i 1), (.i 0), (.i 0), (.i 1), (.i 1), (.i 1), (.i 7), (.i 0), (.i 0), (.i 1), (.i 1), (.i 1), (.i 1), (.i 0), (.i 2), (.i 0), (.i 0), (.i 1), (.i 1), (.i 1)]), (.own 19 [(.i 2), (.i 2), (.i 5), (.i 0), (.i 5), (.i 0), (.i 0), (.i 1), (.i 1), (.i 1), (.i 1), (.i 0), (.i 4), (.i 0), (.i 0), (.i 1), (.i 1), (.i 1), (.k (.slice none 0 0)), (.i 4), (.i 3), (.i 3), (.i 0), (.i 0), (.i 0), (.i 0), (.i 0), (.i 0), (.i 0), (.i 0), (.i 0), (.i 0), (.i 0), (.i 0), (.i 0), (.i 0), (.i 0), (.k (.slice none 0 0)), (.i 9), (.i 1), (.i 5), (.i 7), (.i 0), (.i 0), (.i 0), (.i 0), (.i 0), (.i 0), (.i 0), (.i 0), (.i 6), (.i 0), (.i 0), (.i 0), (.i 0), (.i 0), (.k (.slice none 0 0))])]) [(.sl 2 0 2 2), (.sl 13 0 3 3)] (.tp [(.sl 14), .one])
(.df (.call 12 [(.own 14 []), .no]) [(.k (.slice none 0 0)), (.a [(.i 4), (.i 3), (.i 3), (.i 0), (.i 0), (.i 0), (.i 0), (.i 0), (.i 0), (.i 0), (.i 0), (.i 0), (.i 0), (.i 0), (.i 0), (.i 0), (.i 0), (.i 0), (.k (.slice none 0 0))])] (.tp [(.sl 14), .one])
(.df (.call 12 [(.own 14 []), .no]) [(.k (.slice none 0 0)), (.a [(.i 1), (.i 1), (.i 7), (.i 7), (.i 0), (.i 0), (.i 0), (.i 0), (.i 0), (.i 0), (.i 0), (.i 0), (.i 9), (.i 0), (.i 0), (.i 0), (.i 0), (.i 0), (.k (.slice none 0 0))])] (.tp [(.sl 14), .one])
(.df (.call 12 [(.row 14 [(.x 1 [0])]), .no]) [(.row 8), (.a [(.i 2), (.i 2), (.i 5), (.i 0), (.i 5), (.i 0), (.i 0), (.i 1), (.i 1), (.i 1), (.i 1), (.i 0), (.i 4), (.i 0), (.i 0), (.i 1), (.i 1), (.i 1), (.k (.slice none 0 0))])] (.tp [(.sl 14), .one])
(.df (.call 20 [(.own 14 [(.i 3), (.i 0), (.i 0), (.i 1), (.i 1), (.i 1), (.i 1), (.i 0), (.i 1), (.i 0), (.i 0), (.i 1), (.i 1), (.i 1), (.i 7), (.i 0), (.i 0), (.i 1), (.i 1), (.i 1), (.i 1), (.i 0), (.i 2), (.i 0), (.i 0), (.i 1), (.i 1), (.i 1)]), .no, .no]) [(.sl 2 0 2 2), (.a [(.i 2), (.i 2), (.i 5), (.i 0), (.i 5), (.i 0), (.i 0), (.i 1), (.i 1), (.i 1), (.i 1), (.i 0), (.i 4), (.i 0), (.i 0), (.i 1), (.i 1), (.i 1), (.k (.slice none 0 0))]), (.i 6)] (.tp [(.agl [.one, .one, .one, .one, .one, .one, .one, .one, .one, .one, .one, .one, .one, .one, .one, .one, .one, .one, (.sl 1)]), .one])
(.df (.call 20 [(.own 14 [(.i 3), (.i 0), (.i 0), (.i 1), (.i 1), (.i 1), (.i 1), (.i 0), (.i 1), (.i 0), (.i 0), (.i 1), (.i 1), (.i 1), (.i 7), (.i 0), (.i 0), (.i 1), (.i 1), (.i 1), (.i 1), (.i 0), (.i 2), (.i 0), (.i 0), (.i 1), (.i 1), (.i 1)]), .no, .no]) [(.sl 2 0 2 2), (.a [(.i 1), (.i 1), (.i 7), (.i 7), (.i 0), (.i 0), (.i 0), (.i 0), (.i 0), (.i 0), (.i 0), (.i 0), (.i 9), (.i 0), (.i 0), (.i 0), (.i 0), (.i 0), (.k (.slice none 0 0))]), (.i 8)] (.tp [(.agl [.one, .one, .one, .one, .one, .one, .one, .one, .one, .one, .one, .one, .one, .one, .one, .one, .one, .one, (.sl 1)]), .one])
(.df (.call 20 [(.own 14 [(.i 3), (.i 0), (.i 0), (.i 1), (.i 1), (.i 1), (.i 1), (.i 0), (.i 1), (.i 0), (.i 0), (.i 1), (.i 1), (.i 1), (.i 7), (.i 0), (.i 0), (.i 1), (.i 1), (.i 1), (.i 1), (.i 0), (.i 2), (.i 0), (.i 0), (.i 1), (.i 1), (.i 1)]), .no, .no]) [(.sl 2 0 2 2), (.a [(.i 4), (.i 3), (.i 3), (.i 0), (.i 0), (.i 0), (.i 0), (.i 0), (.i 0), (.i 0), (.i 0), (.i 0), (.i 0), (.i 0), (.i 0), (.i 0), (.i 0), (.i 0), (.k (.slice none 0 0))]), (.i 5)] (.tp [(.agl [.one, .one, .one, .one, .one, .one, .one, .one, .one, .one, .one, .one, .one, .one, .one, .one, .one, .one, (.sl 1)]), .one])
(.df (.call 20 [(.own 14 []), .no, .no]) [(.k (.slice none 0 0)), (.a [(.i 4), (.i 3), (.i 3), (.i 0), (.i 0), (.i 0), (.i 0), (.i 0), (.i 0), (.i 0), (.i 0), (.i 0), (.i 0), (.i 0), (.i 0), (.i 0), (.i 0), (.i 0), (.k (.slice none 0 0))]), (.i 5)] (.tp [(.agl [.one, .one, .one, .one, .one, .one, .one, .one, .one, .one, .one, .one, .one, .one, .one, .one, .one, .one, (.sl 1)]), .one])
(.df (.call 20 [(.own 14 [(.i 3), (.i 0), (.i 0), (.i 1), (.i 1), (.i 1), (.i 1), (.i 0), (.i 1), (.i 0), (.i 0), (.i 1), (.i 1), (.i 1), (.i 7), (.i 0), (.i 0), (.i 1), (.i 1), (.i 1), (.i 1), (.i 0), (.i 2), (.i 0), (.i 0), (.i 1), (.i 1), (.i 1)]), .no, .no]) [(.sl 2 0 2 2), (.a [(.i 2), (.i 2), (.i 5), (.i 0), (.i 5), (.i 0), (.i 0), (.i 1), (.i 1), (.i 1), (.i 1), (.i 0), (.i 4), (.i 0), (.i 0), (.i 1), (.i 1), (.i 1), (.k (.slice none 0 0))]), (.i 2)] (.tp [(.agl [.one, .one, .one, .one, .one, .one, .one, .one, .one, .one, .one, .one, .one, .one, .one, .one, .one, .one, (.sl 1)]), .one])
(.df (.bin .neq 32) [(.x 0 [1]), (.i 0)] .one
(.br 11 []
(.ret (.k (.bool false)) (List.replicate 35 none) [])
(.df (.bin .neq 32) [(.x 1 [1]), (.i 0)] .one
(.br 12 []
(.ret (.k (.bool false)) (List.replicate 35 none) [])
(.df (.bin .neq 32) [(.x 2 [1]), (.i 0)] .one
(.br 13 []
(.ret (.k (.bool false)) (List.replicate 35 none) [])
(.df (.bin .neq 32) [(.x 3 [1]), (.i 0)] .one
(.br 14 []
(.ret (.k (.bool false)) (List.replicate 35 none) [])
(.df (.bin .neq 32) [(.x 4 [1]), (.i 370)] .one
(.br 15 []
(.ret (.k (.bool false)) (List.replicate 35 none) [])
(.df (.bin .neq 32) [(.x 5 [1]), (.i 370)] .one
(.br 16 []
(.ret (.k (.bool false)) (List.replicate 35 none) [])
(.df (.bin .neq 32) [(.x 6 [1]), (.i 0)] .one
(.br 17 []
(.ret (.k (.bool false)) (List.replicate 35 none) [])
(.df (.bin .neq 32) [(.x 7 [1]), (.i 0)] .one
(.br 18 []
(.ret (.k (.bool false)) (List.replicate 35 none) [])
(.df (.bin .neq 32) [(.x 8 [1]), (.i 0)] .one
(.br 19 []
(.ret (.k (.bool false)) (List.replicate 35 none) [])
(.df (.bin .neq 32) [(.x 9 [1]), (.i 370)] .one
(.br 20 []
(.ret (.k (.bool false)) (List.replicate 35 none) [])
(.df (.bin .neq 32) [(.x 10 [1]), (.i 370)] .one
(.br 21 []
(.ret (.k (.bool false)) (List.replicate 35 none) [])
(.df (.call 16 [(.row 14 [(.x 0 [0])]), (.own 14 [(.i 3), (.i 0), (.i 0), (.i 1), (.i 1), (.i 1), (.i 1), (.i 0), (.i 1), (.i 0), (.i 0), (.i 1), (.i 1), (.i 1), (.i 7), (.i 0), (.i 0), (.i 1), (.i 1), (.i 1), (.i 1), (.i 0), (.i 9), (.i 0), (.i 0), (.i 1), (.i 1), (.i 1)])]) [(.row 7), (.sl 37 0 2 2)] .one
(.df .not [(.q 22)] .one
(.br 23 []
(.ret (.k (.bool false)) (List.replicate 38 none) [])
(.df (.call 16 [(.row 14 [(.x 1 [0])]), (.own 14 [(.i 3), (.i 0), (.i 0), (.i 1), (.i 1), (.i 1), (.i 1), (.i 0), (.i 1), (.i 0), (.i 0), (.i 1), (.i 1), (.i 1), (.i 5), (.i 0), (.i 0), (.i 1), (.i 1), (.i 1), (.i 1), (.i 0), (.i 4), (.i 0), (.i 0), (.i 1), (.i 1), (.i 1), (.i 7), (.i 0), (.i 0), (.i 1), (.i 1), (.i 1), (.i 1), (.i 0), (.i 2), (.i 0), (.i 0), (.i 1), (.i 1), (.i 1)])]) [(.row 8), (.sl 41 0 3 3)] .one
(.df .not [(.q 24)] .one
(.br 25 []
(.ret (.k (.bool false)) (List.replicate 42 none) [])
(.df (.call 16 [(.row 14 [(.x 2 [0])]), (.own 14 [(.i 5), (.i 0), (.i 0), (.i 1), (.i 1), (.i 1), (.i 1), (.i 0), (.i 6), (.i 0), (.i 0), (.i 1), (.i 1), (.i 1), (.i 7), (.i 0), (.i 0), (.i 1), (.i 1), (.i 1), (.i 1), (.i 0), (.i 2), (.i 0), (.i 0), (.i 1), (.i 1), (.i 1)])]) [(.row 14), (.sl 44 0 2 2)] .one
(.df .not [(.q 26)] .one
(.br 27 []
(.ret (.k (.bool false)) (List.replicate 45 none) [])
(.df (.rlen 14) [(.cat [(.x 3 [0])])] .one
(.df (.bin .neq 3) [(.q 28), (.i 0)] .one
(.br 29 []
(.ret (.k (.bool false)) (List.replicate 45 none) [])
(.df (.callg 26 [.no, .no] [(.row 1 [(.x 6 [0, 18])]), (.own 1 [(.i 2)])]) [(.a [(.x 6 [0, 0]), (.x 6 [0, 1]), (.x 6 [0, 2]), (.x 6 [0, 3]), (.x 6 [0, 4]), (.x 6 [0, 5]), (.x 6 [0, 6]), (.x 6 [0, 7]), (.x 6 [0, 8]), (.x 6 [0, 9]), (.x 6 [0, 10]), (.x 6 [0, 11]), (.x 6 [0, 12]), (.x 6 [0, 13]), (.x 6 [0, 14]), (.x 6 [0, 15]), (.x 6 [0, 16]), (.x 6 [0, 17]), (.row 24)]), (.a [(.i 6), (.i 3), (.i 5), (.i 0), (.i 0), (.i 0), (.i 0), (.i 0), (.i 0), (.i 0), (.i 0), (.i 0), (.i 0), (.i 0), (.i 0), (.i 0), (.i 0), (.i 0), (.sl 46 0 1 1)]), (.row 24), (.sl 46 0 1 1)] .one
(.df .not [(.q 30)] .one
(.br 31 []
(.ret (.k (.bool false)) (List.replicate 66 none) [])
(.df (.callg 26 [.no, .no] [(.row 1 [(.x 7 [0, 18])]), (.own 1 [(.i 1)])]) [(.a [(.x 7 [0, 0]), (.x 7 [0, 1]), (.x 7 [0, 2]), (.x 7 [0, 3]), (.x 7 [0, 4]), (.x 7 [0, 5]), (.x 7 [0, 6]), (.x 7 [0, 7]), (.x 7 [0, 8]), (.x 7 [0, 9]), (.x 7 [0, 10]), (.x 7 [0, 11]), (.x 7 [0, 12]), (.x 7 [0, 13]), (.x 7 [0, 14]), (.x 7 [0, 15]), (.x 7 [0, 16]), (.x 7 [0, 17]), (.row 27)]), (.a [(.i 8), (.i 1), (.i 7), (.i 7), (.i 0), (.i 0), (.i 0), (.i 0), (.i 0), (.i 0), (.i 0), (.i 0), (.i 2), (.i 0), (.i 0), (.i 0), (.i 0), (.i 0), (.sl 53 0 1 1)]), (.row 27), (.sl 53 0 1 1)] .one
(.df .not [(.q 32)] .one
(.br 33 []
(.ret (.k (.bool false)) (List.replicate 66 none) [])
(.df (.callg 26 [.no, .no] [(.row 1 [(.x 8 [0, 18])]), (.own 1 [(.i 4)])]) [(.a [(.x 8 [0, 0]), (.x 8 [0, 1]), (.x 8 [0, 2]), (.x 8 [0, 3]), (.x 8 [0, 4]), (.x 8 [0, 5]), (.x 8 [0, 6]), (.x 8 [0, 7]), (.x 8 [0, 8]), (.x 8 [0, 9]), (.x 8 [0, 10]), (.x 8 [0, 11]), (.x 8 [0, 12]), (.x 8 [0, 13]), (.x 8 [0, 14]), (.x 8 [0, 15]), (.x 8 [0, 16]), (.x 8 [0, 17]), (.row 29)]), (.a [(.i 5), (.i 2), (.i 3), (.i 0), (.i 3), (.i 0), (.i 0), (.i 1), (.i 1), (.i 1), (.i 1), (.i 0), (.i 1), (.i 0), (.i 0), (.i 1), (.i 1), (.i 1), (.sl 61 0 1 1)]), (.row 29), (.sl 61 0 1 1)] .one
(.df .not [(.q 34)] .one
(.br 35 []
(.ret (.k (.bool false)) (List.replicate 66 none) [])
(.df (.call 22 [.no, .no]) [(.a [(.i 1), (.i 1), (.i 7), (.i 7), (.i 0), (.i 0), (.i 0), (.i 0), (.i 0), (.i 0), (.i 0), (.i 0), (.i 9), (.i 0), (.i 0), (.i 0), (.i 0), (.i 0), (.k (.slice none 0 0))]), (.a [(.i 2), (.i 1), (.i 7), (.i 7), (.i 0), (.i 0), (.i 0), (.i 0), (.i 0), (.i 0), (.i 0), (.i 0), (.i 9), (.i 0), (.i 0), (.i 0), (.i 0), (.i 0), (.k (.slice none 0 0))])] (.tp [.one, .one])
(.df (.call 22 [.no, .no]) [(.a [(.i 1), (.i 1), (.i 7), (.i 7), (.i 0), (.i 0), (.i 0), (.i 0), (.i 0), (.i 0), (.i 0), (.i 0), (.i 9), (.i 0), (.i 0), (.i 0), (.i 0), (.i 0), (.k (.slice none 0 0))]), (.a [(.i 2), (.i 1), (.i 3), (.i 7), (.i 0), (.i 0), (.i 0), (.i 0), (.i 0), (.i 0), (.i 0), (.i 0), (.i 9), (.i 0), (.i 0), (.i 0), (.i 0), (.i 0), (.k (.slice none 0 0))])] (.tp [.one, .one])
(.df (.call 24 [(.own 14 [(.i 3), (.i 0), (.i 0), (.i 1), (.i 1), (.i 1), (.i 1), (.i 0), (.i 1), (.i 0), (.i 0), (.i 1), (.i 1), (.i 1), (.i 7), (.i 0), (.i 0), (.i 1), (.i 1), (.i 1), (.i 1), (.i 0), (.i 2), (.i 0), (.i 0), (.i 1), (.i 1), (.i 1)]), .no, .no]) [(.sl 2 0 2 2), (.a [(.i 1), (.i 1), (.i 7), (.i 7), (.i 0), (.i 0), (.i 0), (.i 0), (.i 0), (.i 0), (.i 0), (.i 0), (.i 9), (.i 0), (.i 0), (.i 0), (.i 0), (.i 0), (.k (.slice none 0 0))]), (.a [(.i 2), (.i 1), (.i 7), (.i 7), (.i 0), (.i 0), (.i 0), (.i 0), (.i 0), (.i 0), (.i 0), (.i 0), (.i 9), (.i 0), (.i 0), (.i 0), (.i 0), (.i 0), (.k (.slice none 0 0))])] (.tp [.one, .one])
(.df (.call 24 [(.own 14 [(.i 3), (.i 0), (.i 0), (.i 1), (.i 1), (.i 1), (.i 1), (.i 0), (.i 1), (.i 0), (.i 0), (.i 1), (.i 1), (.i 1), (.i 7), (.i 0), (.i 0), (.i 1), (.i 1), (.i 1), (.i 1), (.i 0), (.i 2), (.i 0), (.i 0), (.i 1), (.i 1), (.i 1)]), .no, .no]) [(.sl 2 0 2 2), (.a [(.i 1), (.i 1), (.i 7), (.i 7), (.i 0), (.i 0), (.i 0), (.i 0), (.i 0), (.i 0), (.i 0), (.i 0), (.i 9), (.i 0), (.i 0), (.i 0), (.i 0), (.i 0), (.k (.slice none 0 0))]), (.a [(.i 2), (.i 1), (.i 7), (.i 7), (.i 0), (.i 0), (.i 0), (.i 0), (.i 0), (.i 0), (.i 0), (.i 0), (.i 8), (.i 0), (.i 0), (.i 0), (.i 0), (.i 0), (.k (.slice none 0 0))])] (.tp [.one, .one])
(.df (.bin .neq 32) [(.x 36 [1]), (.i 0)] .one
(.br 40 []
(.ret (.k (.bool false)) (List.replicate 74 none) [])
(.df (.bin .neq 32) [(.x 37 [1]), (.i 0)] .one
(.br 41 []
(.ret (.k (.bool false)) (List.replicate 74 none) [])
(.df (.bin .neq 32) [(.x 38 [1]), (.i 0)] .one
(.br 42 []
(.ret (.k (.bool false)) (List.replicate 74 none) [])
(.df (.bin .neq 32) [(.x 39 [1]), (.i 0)] .one
(.br 43 []
(.ret (.k (.bool false)) (List.replicate 74 none) [])
(.df .not [(.x 36 [0])] .one
(.br 44 []
(.ret (.k (.bool false)) (List.replicate 74 none) [])
(.br 37 [0]
(.ret (.k (.bool false)) (List.replicate 74 none) [])
(.df .not [(.x 38 [0])] .one
(.br 45 []
(.ret (.k (.bool false)) (List.replicate 74 none) [])
(.br 39 [0]
(.ret (.k (.bool false)) (List.replicate 74 none) [])
(.df (.call 14 [.no]) [(.a [(.i 0), (.i 0), (.i 0), (.i 0), (.i 0), (.i 0), (.i 0), (.i 0), (.i 0), (.i 0), (.i 0), (.i 0), (.i 0), (.i 0), (.i 0), (.i 0), (.i 0), (.i 0), (.k (.slice none 0 0))])] .one
(.df (.bin .eql 32) [(.q 46), (.i 370)] .one
(.br 47 []
(.df (.call 14 [.no]) [(.a [(.i 1), (.i 1), (.i 0), (.i 1), (.i 0), (.i 0), (.i 0), (.i 0), (.i 0), (.i 0), (.i 0), (.i 0), (.i 0), (.i 0), (.i 0), (.i 0), (.i 0), (.i 0), (.k (.slice none 0 0))])] .one
(.df (.bin .eql 32) [(.q 48), (.i 0)] .one
(.br 49 []
(.df (.call 14 [.no]) [(.a [(.i 1), (.i 1), (.i 0), (.i 3), (.i 0), (.i 0), (.i 0), (.i 0), (.i 0), (.i 0), (.i 0), (.i 0), (.i 0), (.i 0), (.i 0), (.i 0), (.i 0), (.i 0), (.k (.slice none 0 0))])] .one
(.df (.bin .eql 32) [(.q 50), (.i 370)] .one
(.br 51 []
(.df (.callg 14 [.no] [(.own 1 [(.i 0), (.i 0), (.i 0), (.i 0), (.i 0), (.i 0), (.i 0), (.i 0), (.i 0), (.i 0), (.i 0), (.i 0), (.i 0), (.i 0), (.i 0), (.i 0), (.i 0), (.i 0), (.i 0), (.i 0), (.i 0), (.i 0), (.i 0), (.i 0), (.i 0), (.i 0), (.i 0), (.i 0), (.i 0), (.i 0), (.i 0), (.i 0), (.i 0)])]) [(.a [(.i 0), (.i 0), (.i 0), (.i 0), (.i 0), (.i 0), (.i 0), (.i 0), (.i 0), (.i 0), (.i 0), (.i 0), (.i 0), (.i 0), (.i 0), (.i 0), (.i 0), (.i 0), (.sl 76 0 33 33)]), (.sl 76 0 33 33)] .one
(.df (.bin .eql 32) [(.q 52), (.i 2)] .one
(.ret (.q 53) (List.replicate 77 none) [])))
(.ret (.k (.bool false)) (List.replicate 76 none) []))))
(.ret (.k (.bool false)) (List.replicate 76 none) []))))
(.ret (.k (.bool false)) (List.replicate 76 none) []))))))))))))))))))))))))))))))))))))))))))))))))))))))))))))))))))))))))))))
set_option maxRecDepth 100000 in
theorem run_sane (K A : Value → Nat → List Value → Prop) : (SX.run (cxM K A) ⟨fun _ => true, [], 12, 100⟩ 100000 0 (SX.door 10 Try.f10 [] []) [.code (Try.f10.body.getD .skip), .top Try.f10]).strip = tree_sane := by kernel_rfl
set_option maxRecDepth 100000 in
set_option maxHeartbeats 4000000 in
theorem sane_any (w : World) : Calls Try.prog 10 #[] w fun e w' => e = .returned (.bool true) ∧ Below w.heap.size w w' := by
  refine SX.calls_of_run (C := cxM nilK (fun _ _ _ => False)) (G := ⟨fun _ => true, [], 12, 100⟩) (args := []) (sh := []) (ρ := []) 100000 tree_sane (okM _ _) Try.func10 rfl (run_sane _ _) (by kernel_rfl) (by kernel_rfl) (by kernel_rfl) ?_ ?_
  · rintro W hW s sz cells ⟨rfl, rfl, rfl⟩
    exact SX.rd_empty
  unfold tree_sane
  refine SX.E (.tuple #[.agg (sgsL ([⟨3, 0, 0, 1, 1, 1, 1, 0, 1, 0, 0, 1, 1, 1⟩, ⟨7, 0, 0, 1, 1, 1, 1, 0, 9, 0, 0, 1, 1, 1⟩] : List Sg)).toArray, .int .i64 0]) (fun α => ⟨[⟨(.slice (some ⟨(α 2).b, 0, none⟩) 2 2), 14, sgsL ([⟨3, 0, 0, 1, 1, 1, 1, 0, 1, 0, 0, 1, 1, 1⟩, ⟨7, 0, 0, 1, 1, 1, 1, 0, 2, 0, 0, 1, 1, 1⟩] : List Sg)⟩, ⟨valP (⟨1, 1, 7, 7, ⟨0, 0, 0, 0, 0, 0, 0, 0, 9, 0, 0, 0, 0, 0⟩, []⟩ : Pt) (.slice none 0 0), 0, []⟩], ⟨by kernel_rfl, by kernel_rfl, by kernel_rfl, trivial⟩, .inl ⟨rfl, _, ([⟨3, 0, 0, 1, 1, 1, 1, 0, 1, 0, 0, 1, 1, 1⟩, ⟨7, 0, 0, 1, 1, 1, 1, 0, 2, 0, 0, 1, 1, 1⟩] : List Sg), (⟨1, 1, 7, 7, ⟨0, 0, 0, 0, 0, 0, 0, 0, 9, 0, 0, 0, 0, 0⟩, []⟩ : Pt), (.slice none 0 0), rfl, by decide, ⟨rfl, rfl, rfl⟩, by decide, by kernel_rfl⟩, SX.aliNo rfl (fun _ => nofun)⟩) ?_
  refine SX.E (.tuple #[.agg (sgsL ([⟨3, 0, 0, 1, 1, 1, 1, 0, 1, 0, 0, 1, 1, 1⟩, ⟨5, 0, 0, 1, 1, 1, 1, 0, 4, 0, 0, 1, 1, 1⟩, ⟨7, 0, 0, 1, 1, 1, 1, 0, 2, 0, 0, 1, 1, 1⟩] : List Sg)).toArray, .int .i64 0]) (fun α => ⟨[⟨(.slice (some ⟨(α 2).b, 0, none⟩) 2 2), 14, sgsL ([⟨3, 0, 0, 1, 1, 1, 1, 0, 1, 0, 0, 1, 1, 1⟩, ⟨7, 0, 0, 1, 1, 1, 1, 0, 2, 0, 0, 1, 1, 1⟩] : List Sg)⟩, ⟨valP (⟨2, 2, 5, 0, ⟨5, 0, 0, 1, 1, 1, 1, 0, 4, 0, 0, 1, 1, 1⟩, []⟩ : Pt) (.slice none 0 0), 0, []⟩], ⟨by kernel_rfl, by kernel_rfl, by kernel_rfl, trivial⟩, .inl ⟨rfl, _, ([⟨3, 0, 0, 1, 1, 1, 1, 0, 1, 0, 0, 1, 1, 1⟩, ⟨7, 0, 0, 1, 1, 1, 1, 0, 2, 0, 0, 1, 1, 1⟩] : List Sg), (⟨2, 2, 5, 0, ⟨5, 0, 0, 1, 1, 1, 1, 0, 4, 0, 0, 1, 1, 1⟩, []⟩ : Pt), (.slice none 0 0), rfl, by decide, ⟨rfl, rfl, rfl⟩, by decide, by kernel_rfl⟩, SX.aliNo rfl (fun _ => nofun)⟩) ?_
  refine SX.E (.tuple #[.agg (sgsL ([⟨5, 0, 0, 1, 1, 1, 1, 0, 6, 0, 0, 1, 1, 1⟩, ⟨7, 0, 0, 1, 1, 1, 1, 0, 2, 0, 0, 1, 1, 1⟩] : List Sg)).toArray, .int .i64 0]) (fun α => ⟨[⟨(.slice (some ⟨(α 2).b, 0, none⟩) 2 2), 14, sgsL ([⟨3, 0, 0, 1, 1, 1, 1, 0, 1, 0, 0, 1, 1, 1⟩, ⟨7, 0, 0, 1, 1, 1, 1, 0, 2, 0, 0, 1, 1, 1⟩] : List Sg)⟩, ⟨(.slice (some ⟨(α 13).b, 0, none⟩) 3 3), 19, pvL [((⟨2, 2, 5, 0, ⟨5, 0, 0, 1, 1, 1, 1, 0, 4, 0, 0, 1, 1, 1⟩, []⟩ : Pt), .slice none 0 0), ((⟨4, 3, 3, 0, ⟨0, 0, 0, 0, 0, 0, 0, 0, 0, 0, 0, 0, 0, 0⟩, []⟩ : Pt), .slice none 0 0), ((⟨9, 1, 5, 7, ⟨0, 0, 0, 0, 0, 0, 0, 0, 6, 0, 0, 0, 0, 0⟩, []⟩ : Pt), .slice none 0 0)]⟩], ⟨by kernel_rfl, by kernel_rfl, trivial⟩, .inr (.inr (.inl ⟨rfl, _, _, ([⟨3, 0, 0, 1, 1, 1, 1, 0, 1, 0, 0, 1, 1, 1⟩, ⟨7, 0, 0, 1, 1, 1, 1, 0, 2, 0, 0, 1, 1, 1⟩] : List Sg), [((⟨2, 2, 5, 0, ⟨5, 0, 0, 1, 1, 1, 1, 0, 4, 0, 0, 1, 1, 1⟩, []⟩ : Pt), .slice none 0 0), ((⟨4, 3, 3, 0, ⟨0, 0, 0, 0, 0, 0, 0, 0, 0, 0, 0, 0, 0, 0⟩, []⟩ : Pt), .slice none 0 0), ((⟨9, 1, 5, 7, ⟨0, 0, 0, 0, 0, 0, 0, 0, 6, 0, 0, 0, 0, 0⟩, []⟩ : Pt), .slice none 0 0)], rfl, by decide, by decide, (fun q hq => by simp only [List.mem_cons, List.not_mem_nil, or_false] at hq; rcases hq with rfl | rfl | rfl <;> exact ⟨⟨rfl, rfl, rfl⟩, by decide⟩), by kernel_rfl⟩)), SX.aliNo rfl (fun _ => nofun)⟩) ?_
  refine SX.E (.tuple #[.agg (sgsL ([] : List Sg)).toArray, .int .i64 0]) (fun α => ⟨[⟨(.slice none 0 0), 14, sgsL ([] : List Sg)⟩, ⟨valP (⟨4, 3, 3, 0, ⟨0, 0, 0, 0, 0, 0, 0, 0, 0, 0, 0, 0, 0, 0⟩, []⟩ : Pt) (.slice none 0 0), 0, []⟩], ⟨by kernel_rfl, by kernel_rfl, by kernel_rfl, trivial⟩, .inl ⟨rfl, _, ([] : List Sg), (⟨4, 3, 3, 0, ⟨0, 0, 0, 0, 0, 0, 0, 0, 0, 0, 0, 0, 0, 0⟩, []⟩ : Pt), (.slice none 0 0), rfl, by decide, ⟨rfl, rfl, rfl⟩, by decide, by kernel_rfl⟩, SX.aliNo rfl (fun _ => nofun)⟩) ?_
  refine SX.E (.tuple #[.agg (sgsL ([] : List Sg)).toArray, .int .i64 370]) (fun α => ⟨[⟨(.slice none 0 0), 14, sgsL ([] : List Sg)⟩, ⟨valP (⟨1, 1, 7, 7, ⟨0, 0, 0, 0, 0, 0, 0, 0, 9, 0, 0, 0, 0, 0⟩, []⟩ : Pt) (.slice none 0 0), 0, []⟩], ⟨by kernel_rfl, by kernel_rfl, by kernel_rfl, trivial⟩, .inl ⟨rfl, _, ([] : List Sg), (⟨1, 1, 7, 7, ⟨0, 0, 0, 0, 0, 0, 0, 0, 9, 0, 0, 0, 0, 0⟩, []⟩ : Pt), (.slice none 0 0), rfl, by decide, ⟨rfl, rfl, rfl⟩, by decide, by kernel_rfl⟩, SX.aliNo rfl (fun _ => nofun)⟩) ?_
  refine SX.E (.tuple #[.agg (sgsL ([] : List Sg)).toArray, .int .i64 370]) (fun α => ⟨[⟨(α 8).h, 14, sgsL ([⟨3, 0, 0, 1, 1, 1, 1, 0, 1, 0, 0, 1, 1, 1⟩, ⟨5, 0, 0, 1, 1, 1, 1, 0, 4, 0, 0, 1, 1, 1⟩, ⟨7, 0, 0, 1, 1, 1, 1, 0, 2, 0, 0, 1, 1, 1⟩] : List Sg)⟩, ⟨valP (⟨2, 2, 5, 0, ⟨5, 0, 0, 1, 1, 1, 1, 0, 4, 0, 0, 1, 1, 1⟩, []⟩ : Pt) (.slice none 0 0), 0, []⟩], ⟨by kernel_rfl, by kernel_rfl, by kernel_rfl, trivial⟩, .inl ⟨rfl, _, ([⟨3, 0, 0, 1, 1, 1, 1, 0, 1, 0, 0, 1, 1, 1⟩, ⟨5, 0, 0, 1, 1, 1, 1, 0, 4, 0, 0, 1, 1, 1⟩, ⟨7, 0, 0, 1, 1, 1, 1, 0, 2, 0, 0, 1, 1, 1⟩] : List Sg), (⟨2, 2, 5, 0, ⟨5, 0, 0, 1, 1, 1, 1, 0, 4, 0, 0, 1, 1, 1⟩, []⟩ : Pt), (.slice none 0 0), rfl, by decide, ⟨rfl, rfl, rfl⟩, by decide, by kernel_rfl⟩, SX.aliNo rfl (fun _ => nofun)⟩) ?_
  refine SX.E (.tuple #[ptV (⟨6, 3, 5, 0, ⟨0, 0, 0, 0, 0, 0, 0, 0, 0, 0, 0, 0, 0, 0⟩, [2]⟩ : Pt), .int .i64 0]) (fun α => ⟨[⟨(.slice (some ⟨(α 2).b, 0, none⟩) 2 2), 14, sgsL ([⟨3, 0, 0, 1, 1, 1, 1, 0, 1, 0, 0, 1, 1, 1⟩, ⟨7, 0, 0, 1, 1, 1, 1, 0, 2, 0, 0, 1, 1, 1⟩] : List Sg)⟩, ⟨valP (⟨2, 2, 5, 0, ⟨5, 0, 0, 1, 1, 1, 1, 0, 4, 0, 0, 1, 1, 1⟩, []⟩ : Pt) (.slice none 0 0), 0, []⟩, ⟨.int .i64 6, 0, []⟩], ⟨by kernel_rfl, by kernel_rfl, by kernel_rfl, by kernel_rfl, by kernel_rfl, trivial⟩, .inr (.inr (.inr (.inr (.inr (.inr (.inr (.inr (.inr (.inr (.inl ⟨rfl, _, ([⟨3, 0, 0, 1, 1, 1, 1, 0, 1, 0, 0, 1, 1, 1⟩, ⟨7, 0, 0, 1, 1, 1, 1, 0, 2, 0, 0, 1, 1, 1⟩] : List Sg), (⟨2, 2, 5, 0, ⟨5, 0, 0, 1, 1, 1, 1, 0, 4, 0, 0, 1, 1, 1⟩, []⟩ : Pt), (.slice none 0 0), 6, rfl, by decide, ⟨rfl, rfl, rfl⟩, by decide, by kernel_rfl⟩)))))))))), SX.noAli rfl⟩) ?_
  refine SX.E (.tuple #[ptV (⟨8, 1, 7, 7, ⟨0, 0, 0, 0, 0, 0, 0, 0, 2, 0, 0, 0, 0, 0⟩, [1]⟩ : Pt), .int .i64 0]) (fun α => ⟨[⟨(.slice (some ⟨(α 2).b, 0, none⟩) 2 2), 14, sgsL ([⟨3, 0, 0, 1, 1, 1, 1, 0, 1, 0, 0, 1, 1, 1⟩, ⟨7, 0, 0, 1, 1, 1, 1, 0, 2, 0, 0, 1, 1, 1⟩] : List Sg)⟩, ⟨valP (⟨1, 1, 7, 7, ⟨0, 0, 0, 0, 0, 0, 0, 0, 9, 0, 0, 0, 0, 0⟩, []⟩ : Pt) (.slice none 0 0), 0, []⟩, ⟨.int .i64 8, 0, []⟩], ⟨by kernel_rfl, by kernel_rfl, by kernel_rfl, by kernel_rfl, by kernel_rfl, trivial⟩, .inr (.inr (.inr (.inr (.inr (.inr (.inr (.inr (.inr (.inr (.inl ⟨rfl, _, ([⟨3, 0, 0, 1, 1, 1, 1, 0, 1, 0, 0, 1, 1, 1⟩, ⟨7, 0, 0, 1, 1, 1, 1, 0, 2, 0, 0, 1, 1, 1⟩] : List Sg), (⟨1, 1, 7, 7, ⟨0, 0, 0, 0, 0, 0, 0, 0, 9, 0, 0, 0, 0, 0⟩, []⟩ : Pt), (.slice none 0 0), 8, rfl, by decide, ⟨rfl, rfl, rfl⟩, by decide, by kernel_rfl⟩)))))))))), SX.noAli rfl⟩) ?_
  refine SX.E (.tuple #[ptV (⟨5, 2, 3, 0, ⟨3, 0, 0, 1, 1, 1, 1, 0, 1, 0, 0, 1, 1, 1⟩, [4]⟩ : Pt), .int .i64 0]) (fun α => ⟨[⟨(.slice (some ⟨(α 2).b, 0, none⟩) 2 2), 14, sgsL ([⟨3, 0, 0, 1, 1, 1, 1, 0, 1, 0, 0, 1, 1, 1⟩, ⟨7, 0, 0, 1, 1, 1, 1, 0, 2, 0, 0, 1, 1, 1⟩] : List Sg)⟩, ⟨valP (⟨4, 3, 3, 0, ⟨0, 0, 0, 0, 0, 0, 0, 0, 0, 0, 0, 0, 0, 0⟩, []⟩ : Pt) (.slice none 0 0), 0, []⟩, ⟨.int .i64 5, 0, []⟩], ⟨by kernel_rfl, by kernel_rfl, by kernel_rfl, by kernel_rfl, by kernel_rfl, trivial⟩, .inr (.inr (.inr (.inr (.inr (.inr (.inr (.inr (.inr (.inr (.inl ⟨rfl, _, ([⟨3, 0, 0, 1, 1, 1, 1, 0, 1, 0, 0, 1, 1, 1⟩, ⟨7, 0, 0, 1, 1, 1, 1, 0, 2, 0, 0, 1, 1, 1⟩] : List Sg), (⟨4, 3, 3, 0, ⟨0, 0, 0, 0, 0, 0, 0, 0, 0, 0, 0, 0, 0, 0⟩, []⟩ : Pt), (.slice none 0 0), 5, rfl, by decide, ⟨rfl, rfl, rfl⟩, by decide, by kernel_rfl⟩)))))))))), SX.noAli rfl⟩) ?_
  refine SX.E (.tuple #[ptV (⟨0, 0, 0, 0, ⟨0, 0, 0, 0, 0, 0, 0, 0, 0, 0, 0, 0, 0, 0⟩, []⟩ : Pt), .int .i64 370]) (fun α => ⟨[⟨(.slice none 0 0), 14, sgsL ([] : List Sg)⟩, ⟨valP (⟨4, 3, 3, 0, ⟨0, 0, 0, 0, 0, 0, 0, 0, 0, 0, 0, 0, 0, 0⟩, []⟩ : Pt) (.slice none 0 0), 0, []⟩, ⟨.int .i64 5, 0, []⟩], ⟨by kernel_rfl, by kernel_rfl, by kernel_rfl, by kernel_rfl, by kernel_rfl, trivial⟩, .inr (.inr (.inr (.inr (.inr (.inr (.inr (.inr (.inr (.inr (.inl ⟨rfl, _, ([] : List Sg), (⟨4, 3, 3, 0, ⟨0, 0, 0, 0, 0, 0, 0, 0, 0, 0, 0, 0, 0, 0⟩, []⟩ : Pt), (.slice none 0 0), 5, rfl, by decide, ⟨rfl, rfl, rfl⟩, by decide, by kernel_rfl⟩)))))))))), SX.noAli rfl⟩) ?_
  refine SX.E (.tuple #[ptV (⟨0, 0, 0, 0, ⟨0, 0, 0, 0, 0, 0, 0, 0, 0, 0, 0, 0, 0, 0⟩, []⟩ : Pt), .int .i64 370]) (fun α => ⟨[⟨(.slice (some ⟨(α 2).b, 0, none⟩) 2 2), 14, sgsL ([⟨3, 0, 0, 1, 1, 1, 1, 0, 1, 0, 0, 1, 1, 1⟩, ⟨7, 0, 0, 1, 1, 1, 1, 0, 2, 0, 0, 1, 1, 1⟩] : List Sg)⟩, ⟨valP (⟨2, 2, 5, 0, ⟨5, 0, 0, 1, 1, 1, 1, 0, 4, 0, 0, 1, 1, 1⟩, []⟩ : Pt) (.slice none 0 0), 0, []⟩, ⟨.int .i64 2, 0, []⟩], ⟨by kernel_rfl, by kernel_rfl, by kernel_rfl, by kernel_rfl, by kernel_rfl, trivial⟩, .inr (.inr (.inr (.inr (.inr (.inr (.inr (.inr (.inr (.inr (.inl ⟨rfl, _, ([⟨3, 0, 0, 1, 1, 1, 1, 0, 1, 0, 0, 1, 1, 1⟩, ⟨7, 0, 0, 1, 1, 1, 1, 0, 2, 0, 0, 1, 1, 1⟩] : List Sg), (⟨2, 2, 5, 0, ⟨5, 0, 0, 1, 1, 1, 1, 0, 4, 0, 0, 1, 1, 1⟩, []⟩ : Pt), (.slice none 0 0), 2, rfl, by decide, ⟨rfl, rfl, rfl⟩, by decide, by kernel_rfl⟩)))))))))), SX.noAli rfl⟩) ?_
  refine SX.D (.bool false) ?_
  refine SX.B false (fun h => Bool.noConfusion h) (fun _ => ?_)
  refine SX.D (.bool false) ?_
  refine SX.B false (fun h => Bool.noConfusion h) (fun _ => ?_)
  refine SX.D (.bool false) ?_
  refine SX.B false (fun h => Bool.noConfusion h) (fun _ => ?_)
  refine SX.D (.bool false) ?_
  refine SX.B false (fun h => Bool.noConfusion h) (fun _ => ?_)
  refine SX.D (.bool false) ?_
  refine SX.B false (fun h => Bool.noConfusion h) (fun _ => ?_)
  refine SX.D (.bool false) ?_
  refine SX.B false (fun h => Bool.noConfusion h) (fun _ => ?_)
  refine SX.D (.bool false) ?_
  refine SX.B false (fun h => Bool.noConfusion h) (fun _ => ?_)
  refine SX.D (.bool false) ?_
  refine SX.B false (fun h => Bool.noConfusion h) (fun _ => ?_)
  refine SX.D (.bool false) ?_
  refine SX.B false (fun h => Bool.noConfusion h) (fun _ => ?_)
  refine SX.D (.bool false) ?_
  refine SX.B false (fun h => Bool.noConfusion h) (fun _ => ?_)
  refine SX.D (.bool false) ?_
  refine SX.B false (fun h => Bool.noConfusion h) (fun _ => ?_)
  refine SX.E (.bool true) (fun α => ⟨[⟨(α 7).h, 14, sgsL ([⟨3, 0, 0, 1, 1, 1, 1, 0, 1, 0, 0, 1, 1, 1⟩, ⟨7, 0, 0, 1, 1, 1, 1, 0, 9, 0, 0, 1, 1, 1⟩] : List Sg)⟩, ⟨(.slice (some ⟨(α 37).b, 0, none⟩) 2 2), 14, sgsL ([⟨3, 0, 0, 1, 1, 1, 1, 0, 1, 0, 0, 1, 1, 1⟩, ⟨7, 0, 0, 1, 1, 1, 1, 0, 9, 0, 0, 1, 1, 1⟩] : List Sg)⟩], ⟨by kernel_rfl, by kernel_rfl, trivial⟩, .inr (.inr (.inr (.inr (.inr (.inr (.inr (.inr (.inr (.inr (.inr (.inr (.inl ⟨rfl, _, _, ([⟨3, 0, 0, 1, 1, 1, 1, 0, 1, 0, 0, 1, 1, 1⟩, ⟨7, 0, 0, 1, 1, 1, 1, 0, 9, 0, 0, 1, 1, 1⟩] : List Sg), ([⟨3, 0, 0, 1, 1, 1, 1, 0, 1, 0, 0, 1, 1, 1⟩, ⟨7, 0, 0, 1, 1, 1, 1, 0, 9, 0, 0, 1, 1, 1⟩] : List Sg), rfl, by decide, by decide, by kernel_rfl⟩)))))))))))), SX.noAli rfl⟩) ?_
  refine SX.D (.bool false) ?_
  refine SX.B false (fun h => Bool.noConfusion h) (fun _ => ?_)
  refine SX.E (.bool true) (fun α => ⟨[⟨(α 8).h, 14, sgsL ([⟨3, 0, 0, 1, 1, 1, 1, 0, 1, 0, 0, 1, 1, 1⟩, ⟨5, 0, 0, 1, 1, 1, 1, 0, 4, 0, 0, 1, 1, 1⟩, ⟨7, 0, 0, 1, 1, 1, 1, 0, 2, 0, 0, 1, 1, 1⟩] : List Sg)⟩, ⟨(.slice (some ⟨(α 41).b, 0, none⟩) 3 3), 14, sgsL ([⟨3, 0, 0, 1, 1, 1, 1, 0, 1, 0, 0, 1, 1, 1⟩, ⟨5, 0, 0, 1, 1, 1, 1, 0, 4, 0, 0, 1, 1, 1⟩, ⟨7, 0, 0, 1, 1, 1, 1, 0, 2, 0, 0, 1, 1, 1⟩] : List Sg)⟩], ⟨by kernel_rfl, by kernel_rfl, trivial⟩, .inr (.inr (.inr (.inr (.inr (.inr (.inr (.inr (.inr (.inr (.inr (.inr (.inl ⟨rfl, _, _, ([⟨3, 0, 0, 1, 1, 1, 1, 0, 1, 0, 0, 1, 1, 1⟩, ⟨5, 0, 0, 1, 1, 1, 1, 0, 4, 0, 0, 1, 1, 1⟩, ⟨7, 0, 0, 1, 1, 1, 1, 0, 2, 0, 0, 1, 1, 1⟩] : List Sg), ([⟨3, 0, 0, 1, 1, 1, 1, 0, 1, 0, 0, 1, 1, 1⟩, ⟨5, 0, 0, 1, 1, 1, 1, 0, 4, 0, 0, 1, 1, 1⟩, ⟨7, 0, 0, 1, 1, 1, 1, 0, 2, 0, 0, 1, 1, 1⟩] : List Sg), rfl, by decide, by decide, by kernel_rfl⟩)))))))))))), SX.noAli rfl⟩) ?_
  refine SX.D (.bool false) ?_
  refine SX.B false (fun h => Bool.noConfusion h) (fun _ => ?_)
  refine SX.E (.bool true) (fun α => ⟨[⟨(α 14).h, 14, sgsL ([⟨5, 0, 0, 1, 1, 1, 1, 0, 6, 0, 0, 1, 1, 1⟩, ⟨7, 0, 0, 1, 1, 1, 1, 0, 2, 0, 0, 1, 1, 1⟩] : List Sg)⟩, ⟨(.slice (some ⟨(α 44).b, 0, none⟩) 2 2), 14, sgsL ([⟨5, 0, 0, 1, 1, 1, 1, 0, 6, 0, 0, 1, 1, 1⟩, ⟨7, 0, 0, 1, 1, 1, 1, 0, 2, 0, 0, 1, 1, 1⟩] : List Sg)⟩], ⟨by kernel_rfl, by kernel_rfl, trivial⟩, .inr (.inr (.inr (.inr (.inr (.inr (.inr (.inr (.inr (.inr (.inr (.inr (.inl ⟨rfl, _, _, ([⟨5, 0, 0, 1, 1, 1, 1, 0, 6, 0, 0, 1, 1, 1⟩, ⟨7, 0, 0, 1, 1, 1, 1, 0, 2, 0, 0, 1, 1, 1⟩] : List Sg), ([⟨5, 0, 0, 1, 1, 1, 1, 0, 6, 0, 0, 1, 1, 1⟩, ⟨7, 0, 0, 1, 1, 1, 1, 0, 2, 0, 0, 1, 1, 1⟩] : List Sg), rfl, by decide, by decide, by kernel_rfl⟩)))))))))))), SX.noAli rfl⟩) ?_
  refine SX.D (.bool false) ?_
  refine SX.B false (fun h => Bool.noConfusion h) (fun _ => ?_)
  refine SX.E (.int .i64 0) (fun α => (by show _ = _; kernel_rfl)) ?_
  refine SX.D (.bool false) ?_
  refine SX.B false (fun h => Bool.noConfusion h) (fun _ => ?_)
  refine SX.E (.bool true) (fun α => ⟨[⟨valP (⟨6, 3, 5, 0, ⟨0, 0, 0, 0, 0, 0, 0, 0, 0, 0, 0, 0, 0, 0⟩, [2]⟩ : Pt) (α 24).h, 0, []⟩, ⟨valP (⟨6, 3, 5, 0, ⟨0, 0, 0, 0, 0, 0, 0, 0, 0, 0, 0, 0, 0, 0⟩, [2]⟩ : Pt) (.slice (some ⟨(α 46).b, 0, none⟩) 1 1), 0, []⟩], [⟨(α 24).h, 1, intsL [2]⟩, ⟨(.slice (some ⟨(α 46).b, 0, none⟩) 1 1), 1, intsL [2]⟩], ⟨by kernel_rfl, by kernel_rfl, by kernel_rfl, by kernel_rfl, trivial⟩, ⟨by kernel_rfl, by kernel_rfl, trivial⟩, .inr (.inr (.inr (.inr (.inr (.inr (.inr (.inr (.inr (.inr (.inr (.inr (.inr (.inl ⟨rfl, (⟨6, 3, 5, 0, ⟨0, 0, 0, 0, 0, 0, 0, 0, 0, 0, 0, 0, 0, 0⟩, [2]⟩ : Pt), (⟨6, 3, 5, 0, ⟨0, 0, 0, 0, 0, 0, 0, 0, 0, 0, 0, 0, 0, 0⟩, [2]⟩ : Pt), (α 24).h, (.slice (some ⟨(α 46).b, 0, none⟩) 1 1), rfl, .inr (by simp), .inr (by simp), by decide, by decide, by kernel_rfl⟩))))))))))))), SX.noAli rfl⟩) ?_
  refine SX.D (.bool false) ?_
  refine SX.B false (fun h => Bool.noConfusion h) (fun _ => ?_)
  refine SX.E (.bool true) (fun α => ⟨[⟨valP (⟨8, 1, 7, 7, ⟨0, 0, 0, 0, 0, 0, 0, 0, 2, 0, 0, 0, 0, 0⟩, [1]⟩ : Pt) (α 27).h, 0, []⟩, ⟨valP (⟨8, 1, 7, 7, ⟨0, 0, 0, 0, 0, 0, 0, 0, 2, 0, 0, 0, 0, 0⟩, [1]⟩ : Pt) (.slice (some ⟨(α 53).b, 0, none⟩) 1 1), 0, []⟩], [⟨(α 27).h, 1, intsL [1]⟩, ⟨(.slice (some ⟨(α 53).b, 0, none⟩) 1 1), 1, intsL [1]⟩], ⟨by kernel_rfl, by kernel_rfl, by kernel_rfl, by kernel_rfl, trivial⟩, ⟨by kernel_rfl, by kernel_rfl, trivial⟩, .inr (.inr (.inr (.inr (.inr (.inr (.inr (.inr (.inr (.inr (.inr (.inr (.inr (.inl ⟨rfl, (⟨8, 1, 7, 7, ⟨0, 0, 0, 0, 0, 0, 0, 0, 2, 0, 0, 0, 0, 0⟩, [1]⟩ : Pt), (⟨8, 1, 7, 7, ⟨0, 0, 0, 0, 0, 0, 0, 0, 2, 0, 0, 0, 0, 0⟩, [1]⟩ : Pt), (α 27).h, (.slice (some ⟨(α 53).b, 0, none⟩) 1 1), rfl, .inr (by simp), .inr (by simp), by decide, by decide, by kernel_rfl⟩))))))))))))), SX.noAli rfl⟩) ?_
  refine SX.D (.bool false) ?_
  refine SX.B false (fun h => Bool.noConfusion h) (fun _ => ?_)
  refine SX.E (.bool true) (fun α => ⟨[⟨valP (⟨5, 2, 3, 0, ⟨3, 0, 0, 1, 1, 1, 1, 0, 1, 0, 0, 1, 1, 1⟩, [4]⟩ : Pt) (α 29).h, 0, []⟩, ⟨valP (⟨5, 2, 3, 0, ⟨3, 0, 0, 1, 1, 1, 1, 0, 1, 0, 0, 1, 1, 1⟩, [4]⟩ : Pt) (.slice (some ⟨(α 61).b, 0, none⟩) 1 1), 0, []⟩], [⟨(α 29).h, 1, intsL [4]⟩, ⟨(.slice (some ⟨(α 61).b, 0, none⟩) 1 1), 1, intsL [4]⟩], ⟨by kernel_rfl, by kernel_rfl, by kernel_rfl, by kernel_rfl, trivial⟩, ⟨by kernel_rfl, by kernel_rfl, trivial⟩, .inr (.inr (.inr (.inr (.inr (.inr (.inr (.inr (.inr (.inr (.inr (.inr (.inr (.inl ⟨rfl, (⟨5, 2, 3, 0, ⟨3, 0, 0, 1, 1, 1, 1, 0, 1, 0, 0, 1, 1, 1⟩, [4]⟩ : Pt), (⟨5, 2, 3, 0, ⟨3, 0, 0, 1, 1, 1, 1, 0, 1, 0, 0, 1, 1, 1⟩, [4]⟩ : Pt), (α 29).h, (.slice (some ⟨(α 61).b, 0, none⟩) 1 1), rfl, .inr (by simp), .inr (by simp), by decide, by decide, by kernel_rfl⟩))))))))))))), SX.noAli rfl⟩) ?_
  refine SX.D (.bool false) ?_
  refine SX.B false (fun h => Bool.noConfusion h) (fun _ => ?_)
  refine SX.E (.tuple #[.bool true, .int .i64 0]) (fun α => ⟨[⟨valP (⟨1, 1, 7, 7, ⟨0, 0, 0, 0, 0, 0, 0, 0, 9, 0, 0, 0, 0, 0⟩, []⟩ : Pt) (.slice none 0 0), 0, []⟩, ⟨valP (⟨2, 1, 7, 7, ⟨0, 0, 0, 0, 0, 0, 0, 0, 9, 0, 0, 0, 0, 0⟩, []⟩ : Pt) (.slice none 0 0), 0, []⟩], ⟨by kernel_rfl, by kernel_rfl, by kernel_rfl, by kernel_rfl, trivial⟩, .inr (.inr (.inr (.inr (.inr (.inr (.inl ⟨rfl, (⟨1, 1, 7, 7, ⟨0, 0, 0, 0, 0, 0, 0, 0, 9, 0, 0, 0, 0, 0⟩, []⟩ : Pt), (⟨2, 1, 7, 7, ⟨0, 0, 0, 0, 0, 0, 0, 0, 9, 0, 0, 0, 0, 0⟩, []⟩ : Pt), (.slice none 0 0), (.slice none 0 0), rfl, ⟨rfl, rfl, rfl⟩, ⟨rfl, rfl, rfl⟩, by decide, by decide, by kernel_rfl⟩)))))), SX.noAli rfl⟩) ?_
  refine SX.E (.tuple #[.bool false, .int .i64 0]) (fun α => ⟨[⟨valP (⟨1, 1, 7, 7, ⟨0, 0, 0, 0, 0, 0, 0, 0, 9, 0, 0, 0, 0, 0⟩, []⟩ : Pt) (.slice none 0 0), 0, []⟩, ⟨valP (⟨2, 1, 3, 7, ⟨0, 0, 0, 0, 0, 0, 0, 0, 9, 0, 0, 0, 0, 0⟩, []⟩ : Pt) (.slice none 0 0), 0, []⟩], ⟨by kernel_rfl, by kernel_rfl, by kernel_rfl, by kernel_rfl, trivial⟩, .inr (.inr (.inr (.inr (.inr (.inr (.inl ⟨rfl, (⟨1, 1, 7, 7, ⟨0, 0, 0, 0, 0, 0, 0, 0, 9, 0, 0, 0, 0, 0⟩, []⟩ : Pt), (⟨2, 1, 3, 7, ⟨0, 0, 0, 0, 0, 0, 0, 0, 9, 0, 0, 0, 0, 0⟩, []⟩ : Pt), (.slice none 0 0), (.slice none 0 0), rfl, ⟨rfl, rfl, rfl⟩, ⟨rfl, rfl, rfl⟩, by decide, by decide, by kernel_rfl⟩)))))), SX.noAli rfl⟩) ?_
  refine SX.E (.tuple #[.bool true, .int .i64 0]) (fun α => ⟨[⟨(.slice (some ⟨(α 2).b, 0, none⟩) 2 2), 14, sgsL ([⟨3, 0, 0, 1, 1, 1, 1, 0, 1, 0, 0, 1, 1, 1⟩, ⟨7, 0, 0, 1, 1, 1, 1, 0, 2, 0, 0, 1, 1, 1⟩] : List Sg)⟩, ⟨valP (⟨1, 1, 7, 7, ⟨0, 0, 0, 0, 0, 0, 0, 0, 9, 0, 0, 0, 0, 0⟩, []⟩ : Pt) (.slice none 0 0), 0, []⟩, ⟨valP (⟨2, 1, 7, 7, ⟨0, 0, 0, 0, 0, 0, 0, 0, 9, 0, 0, 0, 0, 0⟩, []⟩ : Pt) (.slice none 0 0), 0, []⟩], ⟨by kernel_rfl, by kernel_rfl, by kernel_rfl, by kernel_rfl, by kernel_rfl, trivial⟩, .inr (.inr (.inr (.inr (.inr (.inr (.inr (.inr (.inl ⟨rfl, _, ([⟨3, 0, 0, 1, 1, 1, 1, 0, 1, 0, 0, 1, 1, 1⟩, ⟨7, 0, 0, 1, 1, 1, 1, 0, 2, 0, 0, 1, 1, 1⟩] : List Sg), (⟨1, 1, 7, 7, ⟨0, 0, 0, 0, 0, 0, 0, 0, 9, 0, 0, 0, 0, 0⟩, []⟩ : Pt), (⟨2, 1, 7, 7, ⟨0, 0, 0, 0, 0, 0, 0, 0, 9, 0, 0, 0, 0, 0⟩, []⟩ : Pt), (.slice none 0 0), (.slice none 0 0), rfl, by decide, ⟨rfl, rfl, rfl⟩, ⟨rfl, rfl, rfl⟩, by decide, by decide, by kernel_rfl⟩)))))))), SX.noAli rfl⟩) ?_
  refine SX.E (.tuple #[.bool false, .int .i64 0]) (fun α => ⟨[⟨(.slice (some ⟨(α 2).b, 0, none⟩) 2 2), 14, sgsL ([⟨3, 0, 0, 1, 1, 1, 1, 0, 1, 0, 0, 1, 1, 1⟩, ⟨7, 0, 0, 1, 1, 1, 1, 0, 2, 0, 0, 1, 1, 1⟩] : List Sg)⟩, ⟨valP (⟨1, 1, 7, 7, ⟨0, 0, 0, 0, 0, 0, 0, 0, 9, 0, 0, 0, 0, 0⟩, []⟩ : Pt) (.slice none 0 0), 0, []⟩, ⟨valP (⟨2, 1, 7, 7, ⟨0, 0, 0, 0, 0, 0, 0, 0, 8, 0, 0, 0, 0, 0⟩, []⟩ : Pt) (.slice none 0 0), 0, []⟩], ⟨by kernel_rfl, by kernel_rfl, by kernel_rfl, by kernel_rfl, by kernel_rfl, trivial⟩, .inr (.inr (.inr (.inr (.inr (.inr (.inr (.inr (.inl ⟨rfl, _, ([⟨3, 0, 0, 1, 1, 1, 1, 0, 1, 0, 0, 1, 1, 1⟩, ⟨7, 0, 0, 1, 1, 1, 1, 0, 2, 0, 0, 1, 1, 1⟩] : List Sg), (⟨1, 1, 7, 7, ⟨0, 0, 0, 0, 0, 0, 0, 0, 9, 0, 0, 0, 0, 0⟩, []⟩ : Pt), (⟨2, 1, 7, 7, ⟨0, 0, 0, 0, 0, 0, 0, 0, 8, 0, 0, 0, 0, 0⟩, []⟩ : Pt), (.slice none 0 0), (.slice none 0 0), rfl, by decide, ⟨rfl, rfl, rfl⟩, ⟨rfl, rfl, rfl⟩, by decide, by decide, by kernel_rfl⟩)))))))), SX.noAli rfl⟩) ?_
  refine SX.D (.bool false) ?_
  refine SX.B false (fun h => Bool.noConfusion h) (fun _ => ?_)
  refine SX.D (.bool false) ?_
  refine SX.B false (fun h => Bool.noConfusion h) (fun _ => ?_)
  refine SX.D (.bool false) ?_
  refine SX.B false (fun h => Bool.noConfusion h) (fun _ => ?_)
  refine SX.D (.bool false) ?_
  refine SX.B false (fun h => Bool.noConfusion h) (fun _ => ?_)
  refine SX.D (.bool false) ?_
  refine SX.B false (fun h => Bool.noConfusion h) (fun _ => ?_)
  refine SX.B false (fun h => Bool.noConfusion h) (fun _ => ?_)
  refine SX.D (.bool false) ?_
  refine SX.B false (fun h => Bool.noConfusion h) (fun _ => ?_)
  refine SX.B false (fun h => Bool.noConfusion h) (fun _ => ?_)
  refine SX.E (.int .i64 370) (fun α => ⟨[⟨valP (⟨0, 0, 0, 0, ⟨0, 0, 0, 0, 0, 0, 0, 0, 0, 0, 0, 0, 0, 0⟩, []⟩ : Pt) (.slice none 0 0), 0, []⟩], ⟨by kernel_rfl, by kernel_rfl, trivial⟩, .inr (.inr (.inr (.inr (.inl ⟨rfl, (⟨0, 0, 0, 0, ⟨0, 0, 0, 0, 0, 0, 0, 0, 0, 0, 0, 0, 0, 0⟩, []⟩ : Pt), (.slice none 0 0), rfl, ⟨rfl, rfl, rfl⟩, by decide, by kernel_rfl⟩)))), SX.noAli rfl⟩) ?_
  refine SX.D (.bool true) ?_
  refine SX.B true (fun _ => ?_) (fun h => Bool.noConfusion h)
  refine SX.E (.int .i64 0) (fun α => ⟨[⟨valP (⟨1, 1, 0, 1, ⟨0, 0, 0, 0, 0, 0, 0, 0, 0, 0, 0, 0, 0, 0⟩, []⟩ : Pt) (.slice none 0 0), 0, []⟩], ⟨by kernel_rfl, by kernel_rfl, trivial⟩, .inr (.inr (.inr (.inr (.inl ⟨rfl, (⟨1, 1, 0, 1, ⟨0, 0, 0, 0, 0, 0, 0, 0, 0, 0, 0, 0, 0, 0⟩, []⟩ : Pt), (.slice none 0 0), rfl, ⟨rfl, rfl, rfl⟩, by decide, by kernel_rfl⟩)))), SX.noAli rfl⟩) ?_
  refine SX.D (.bool true) ?_
  refine SX.B true (fun _ => ?_) (fun h => Bool.noConfusion h)
  refine SX.E (.int .i64 370) (fun α => ⟨[⟨valP (⟨1, 1, 0, 3, ⟨0, 0, 0, 0, 0, 0, 0, 0, 0, 0, 0, 0, 0, 0⟩, []⟩ : Pt) (.slice none 0 0), 0, []⟩], ⟨by kernel_rfl, by kernel_rfl, trivial⟩, .inr (.inr (.inr (.inr (.inl ⟨rfl, (⟨1, 1, 0, 3, ⟨0, 0, 0, 0, 0, 0, 0, 0, 0, 0, 0, 0, 0, 0⟩, []⟩ : Pt), (.slice none 0 0), rfl, ⟨rfl, rfl, rfl⟩, by decide, by kernel_rfl⟩)))), SX.noAli rfl⟩) ?_
  refine SX.D (.bool true) ?_
  refine SX.B true (fun _ => ?_) (fun h => Bool.noConfusion h)
  refine SX.E (.int .i64 2) (fun α => ⟨[⟨valP (⟨0, 0, 0, 0, ⟨0, 0, 0, 0, 0, 0, 0, 0, 0, 0, 0, 0, 0, 0⟩, [0, 0, 0, 0, 0, 0, 0, 0, 0, 0, 0, 0, 0, 0, 0, 0, 0, 0, 0, 0, 0, 0, 0, 0, 0, 0, 0, 0, 0, 0, 0, 0, 0]⟩ : Pt) (.slice (some ⟨(α 76).b, 0, none⟩) 33 33), 0, []⟩], [⟨(.slice (some ⟨(α 76).b, 0, none⟩) 33 33), 1, intsL [0, 0, 0, 0, 0, 0, 0, 0, 0, 0, 0, 0, 0, 0, 0, 0, 0, 0, 0, 0, 0, 0, 0, 0, 0, 0, 0, 0, 0, 0, 0, 0, 0]⟩], ⟨by kernel_rfl, by kernel_rfl, trivial⟩, ⟨by kernel_rfl, trivial⟩, .inr (.inr (.inr (.inr (.inl ⟨rfl, (⟨0, 0, 0, 0, ⟨0, 0, 0, 0, 0, 0, 0, 0, 0, 0, 0, 0, 0, 0⟩, [0, 0, 0, 0, 0, 0, 0, 0, 0, 0, 0, 0, 0, 0, 0, 0, 0, 0, 0, 0, 0, 0, 0, 0, 0, 0, 0, 0, 0, 0, 0, 0, 0]⟩ : Pt), (.slice (some ⟨(α 76).b, 0, none⟩) 33 33), rfl, .inr (by simp), by decide, by kernel_rfl⟩)))), SX.noAli rfl⟩) ?_
  refine SX.D (.bool true) ?_
  exact SX.VC_ret fun α W _ _ hS => SX.ret_of hS (x := .bool true) (by kernel_rfl) rfl
theorem upto {β : Type} {l : List β} {P : β → Prop} {i : Nat} {z : β} (h : ∀ (k : Nat) (y : β), k < i → l[k]? = some y → P y) (hz : l[i]? = some z) (hp : P z) : ∀ (k : Nat) (y : β), k < i + 1 → l[k]? = some y → P y := fun k y hk hy => by
  by_cases e : k = i
  · subst e; rw [hz] at hy; cases hy; exact hp
  exact h k y (by omega) hy
def findO (ss : List Sg) (id : Int) : Option Sg := ss.find? fun s => decide (s.id = id)
def findS (ss : List Sg) (id : Int) : Sg := (findO ss id).getD zeroSg
def isS (ss : List Sg) (id : Int) : Bool := (findO ss id).isSome
theorem id_inj {ss : List Sg} (hs : okL ss) {x y : Sg} (hx : x ∈ ss) (hy : y ∈ ss) (h : x.id = y.id) : x = y := by
  obtain ⟨i, hi⟩ := List.mem_iff_getElem?.1 hx
  obtain ⟨j, hj⟩ := List.mem_iff_getElem?.1 hy
  rcases Nat.lt_trichotomy i j with h1 | rfl | h1
  · have := srt_lt hs h1 hi hj; omega
  · rw [hi] at hj; exact Option.some.inj hj
  · have := srt_lt hs h1 hj hi; omega
theorem find_mem {ss : List Sg} (hs : okL ss) {id : Int} {z : Sg} : findO ss id = some z ↔ z ∈ ss ∧ z.id = id := by
  constructor
  · intro h
    exact ⟨List.mem_of_find?_eq_some h, by simpa using List.find?_some h⟩
  rintro ⟨h1, h2⟩
  cases hf : findO ss id with
  | none =>
    have := List.find?_eq_none.1 hf z h1
    simp [h2] at this
  | some w =>
    have h3 := List.mem_of_find?_eq_some hf
    have h4 : w.id = id := by simpa using List.find?_some hf
    rw [id_inj hs h3 h1 (by omega)]
theorem findO_none {ss : List Sg} {id : Int} : findO ss id = none ↔ ∀ z ∈ ss, z.id ≠ id := by
  unfold findO
  rw [List.find?_eq_none]
  simp
theorem okL_tail {x : Sg} {l : List Sg} (h : okL (x :: l)) : okL l ∧ ∀ y ∈ l, x.id < y.id :=
  ⟨⟨fun s hs => h.1 s (List.mem_cons_of_mem _ hs), (List.pairwise_cons.1 h.2).2⟩, (List.pairwise_cons.1 h.2).1⟩
theorem sgs_ext : ∀ {a b : List Sg}, okL a → okL b → (∀ z, z ∈ a ↔ z ∈ b) → a = b
  | [], [], _, _, _ => rfl
  | [], y :: b, _, _, h => absurd ((h y).2 (List.mem_cons_self ..)) (by simp)
  | x :: a, [], _, _, h => absurd ((h x).1 (List.mem_cons_self ..)) (by simp)
  | x :: a, y :: b, ha, hb, h => by
    obtain ⟨ha1, ha2⟩ := okL_tail ha
    obtain ⟨hb1, hb2⟩ := okL_tail hb
    have hxy : x = y := by
      rcases List.mem_cons.1 ((h x).1 (List.mem_cons_self ..)) with e | e
      · exact e
      rcases List.mem_cons.1 ((h y).2 (List.mem_cons_self ..)) with e' | e'
      · exact e'.symm
      · have := hb2 x e
        have := ha2 y e'
        omega
    subst hxy
    rw [sgs_ext ha1 hb1 fun z => ?_]
    constructor
    · intro hz
      rcases List.mem_cons.1 ((h z).1 (List.mem_cons_of_mem _ hz)) with e | e
      · subst e; have := ha2 z hz; omega
      exact e
    intro hz
    rcases List.mem_cons.1 ((h z).2 (List.mem_cons_of_mem _ hz)) with e | e
    · subst e; have := hb2 z hz; omega
    exact e
theorem find_ext {a b : List Sg} (ha : okL a) (hb : okL b) (h : ∀ id, findO a id = findO b id) : a = b :=
  sgs_ext ha hb fun z => by
    have h1 := find_mem ha (id := z.id) (z := z)
    have h2 := find_mem hb (id := z.id) (z := z)
    rw [h z.id] at h1
    constructor
    · intro hz; exact (h2.1 (h1.2 ⟨hz, rfl⟩)).1
    intro hz; exact (h1.1 (h2.2 ⟨hz, rfl⟩)).1
theorem there_find {ss : List Sg} (hs : okL ss) (id : Int) : there ss id = (findO ss id).isSome := by
  cases ht : there ss id with
  | true =>
    obtain ⟨z, hz⟩ := there_lt ht
    rw [there_at rfl hz] at ht
    have : findO ss id = some z := (find_mem hs).2 ⟨List.mem_of_getElem? hz, by simpa using ht⟩
    rw [this]; rfl
  | false =>
    cases hf : findO ss id with
    | none => rfl
    | some z =>
      exfalso
      obtain ⟨h1, h2⟩ := (find_mem hs).1 hf
      obtain ⟨k, hk⟩ := List.mem_iff_getElem?.1 h1
      have hle : idx ss id ≤ k := by
        rcases Nat.lt_or_ge k (idx ss id) with h | h
        · have := idx_lo h hk; omega
        exact h
      obtain ⟨y, hy⟩ : ∃ y, ss[idx ss id]? = some y := ⟨_, List.getElem?_eq_getElem (by have := (List.getElem?_eq_some_iff.1 hk).1; omega)⟩
      have h3 := idx_hi hs (Nat.le_refl _) hy
      rw [there_at rfl hy] at ht
      rcases Nat.lt_or_eq_of_le hle with h | h
      · have := srt_lt hs h hy hk
        omega
      rw [h, hk] at hy
      cases hy
      simp [h2] at ht
theorem find_idx {ss : List Sg} (hs : okL ss) {id : Int} (h : there ss id = true) : findO ss id = some (ss.getD (idx ss id) default) ∧ idx ss id < ss.length ∧ (ss.getD (idx ss id) default) ∈ ss ∧ (ss.getD (idx ss id) default).id = id := by
  obtain ⟨z, hz⟩ := there_lt h
  rw [there_at rfl hz] at h
  have hg : ss.getD (idx ss id) default = z := by simp [List.getD_eq_getElem?_getD, hz]
  rw [hg]
  have hm := List.mem_of_getElem? hz
  have he : z.id = id := by simpa using h
  exact ⟨(find_mem hs).2 ⟨hm, he⟩, (List.getElem?_eq_some_iff.1 hz).1, hm, he⟩
def updP (p : Pt) (o : Option Sg) : Option Sg := if p.kind = 1 then o.map fun z => setF z p.field p.new else if p.kind = 2 then some p.new else none
def preP (p : Pt) (o : Option Sg) : Prop := if p.kind = 1 then o.isSome = true else if p.kind = 2 then o = none else True
theorem apply_len (ss : List Sg) (p : Pt) : (applyS ss p).1.length ≤ ss.length + 1 := by
  have := idx_le ss p.sign
  unfold applyS
  repeat' split
  all_goals simp
  all_goals omega
theorem apply_pre {ss : List Sg} {p : Pt} (hs : okL ss) : (applyS ss p).2 = 0 ↔ preP p (findO ss p.sign) ∧ (p.kind = 2 → ss.length < 4096) := by
  have ht := there_find hs p.sign
  unfold applyS preP
  by_cases h1 : p.kind = 1
  · rw [if_pos h1, if_pos h1, ht]
    split
    · rename_i h; simp [h]; omega
    rename_i h; simp [h]
  rw [if_neg h1, if_neg h1]
  by_cases h2 : p.kind = 2
  · rw [if_pos h2, if_pos h2, ht]
    cases hf : findO ss p.sign with
    | none =>
      simp only [Option.isSome_none, Bool.false_eq_true, if_false, true_and]
      split
      · simp [h2]; omega
      simp [h2]; omega
    | some z => simp
  rw [if_neg h2, if_neg h2]
  split <;> simp [h2]
theorem apply_find {ss : List Sg} {p : Pt} (hs : okL ss) (hl : ss.length ≤ 4096) (hp : okP p) (h0 : (applyS ss p).2 = 0) (id : Int) : findO (applyS ss p).1 id = if id = p.sign then updP p (findO ss p.sign) else findO ss id := by
  have hok := (apply_ok hs hl hp h0).1
  have ht := there_find hs p.sign
  have key : ∀ z, z ∈ (applyS ss p).1 ↔ (if z.id = p.sign then updP p (findO ss p.sign) = some z else z ∈ ss) := by
    intro z
    obtain ⟨_, _, _, hk⟩ := hp
    rcases hk with ⟨k1, _⟩ | ⟨k1, k2, k3, k4⟩ | ⟨k1, k2, k3⟩
    · unfold applyS at h0 ⊢
      rw [if_pos k1] at h0 ⊢
      split at h0
      · rename_i hth
        rw [if_pos hth]
        obtain ⟨g1, g2, g3, g4⟩ := find_idx hs hth
        have hu : updP p (findO ss p.sign) = some (setF (ss.getD (idx ss p.sign) default) p.field p.new) := by rw [g1]; unfold updP; rw [if_pos k1]; rfl
        rw [hu]
        have hid : (setF (ss.getD (idx ss p.sign) default) p.field p.new).id = p.sign := by rw [setF_id, g4]
        constructor
        · intro hz
          rcases List.mem_or_eq_of_mem_set hz with h | h
          · split
            · rename_i he
              obtain ⟨j, hj⟩ := List.mem_iff_getElem?.1 hz
              rw [List.getElem?_set] at hj
              split at hj
              · first
                  | exact hj
                  | (split at hj
                     · exact hj
                     cases hj)
              rename_i hne
              exfalso
              have hz2 := id_inj hs (List.mem_of_getElem? hj) g3 (by rw [he, g4])
              have hgi : ss[idx ss p.sign]? = some (ss.getD (idx ss p.sign) default) := by simp [List.getD_eq_getElem?_getD, g2]
              rw [← hz2] at hgi
              rcases Nat.lt_trichotomy j (idx ss p.sign) with h3 | h3 | h3
              · have := srt_lt hs h3 hj hgi; omega
              · exact hne h3.symm
              · have := srt_lt hs h3 hgi hj; omega
            exact h
          subst h; rw [if_pos hid]
        intro hz
        split at hz
        · cases hz
          exact List.mem_iff_getElem?.2 ⟨idx ss p.sign, by rw [List.getElem?_set, if_pos rfl, if_pos g2]⟩
        rename_i hne
        obtain ⟨j, hj⟩ := List.mem_iff_getElem?.1 hz
        refine List.mem_iff_getElem?.2 ⟨j, ?_⟩
        rw [List.getElem?_set, if_neg ?_]
        · exact hj
        rintro rfl
        have : ss.getD (idx ss p.sign) default = z := by simp [List.getD_eq_getElem?_getD, hj]
        rw [this] at g4
        exact hne g4
      simp at h0
    · have e1 : ¬ p.kind = 1 := by omega
      have hpre := (apply_pre (p := p) hs).1 h0
      have hn : findO ss p.sign = none := by have := hpre.1; unfold preP at this; rw [if_neg e1, if_pos k1] at this; exact this
      have hu : updP p (findO ss p.sign) = some p.new := by unfold updP; rw [if_neg e1, if_pos k1]
      rw [hu]
      unfold applyS at h0 ⊢
      rw [if_neg e1, if_pos k1] at h0 ⊢
      split at h0
      · simp at h0
      rename_i hth
      rw [if_neg hth]
      split at h0
      · simp at h0
      rename_i h4
      rw [if_neg h4]
      have hmem : z ∈ ss.take (idx ss p.sign) ++ p.new :: ss.drop (idx ss p.sign) ↔ z = p.new ∨ z ∈ ss := by
        rw [List.mem_append, List.mem_cons]
        constructor
        · rintro (h | h | h)
          · exact .inr (List.mem_of_mem_take h)
          · exact .inl h
          exact .inr (List.mem_of_mem_drop h)
        rintro (h | h)
        · exact .inr (.inl h)
        rw [← List.take_append_drop (idx ss p.sign) ss] at h
        rcases List.mem_append.1 h with h | h
        · exact .inl h
        exact .inr (.inr h)
      rw [hmem]
      have hno := findO_none.1 hn
      constructor
      · rintro (rfl | h)
        · rw [if_pos k3]
        rw [if_neg (hno z h)]; exact h
      intro h
      split at h
      · exact .inl (Option.some.inj h).symm
      exact .inr h
    have e1 : ¬ p.kind = 1 := by omega
    have e2 : ¬ p.kind = 2 := by omega
    have hu : updP p (findO ss p.sign) = none := by unfold updP; rw [if_neg e1, if_neg e2]
    rw [hu]
    unfold applyS
    rw [if_neg e1, if_neg e2]
    split
    · rename_i hth
      obtain ⟨g1, g2, g3, g4⟩ := find_idx hs hth
      have hgi : ss[idx ss p.sign]? = some (ss.getD (idx ss p.sign) default) := by simp [List.getD_eq_getElem?_getD, g2]
      have hsp : ss = ss.take (idx ss p.sign) ++ ss.getD (idx ss p.sign) default :: ss.drop (idx ss p.sign + 1) := by
        conv => lhs; rw [← List.take_append_drop (idx ss p.sign) ss, List.drop_eq_getElem_cons g2]
        simp [List.getD_eq_getElem?_getD, g2]
      constructor
      · intro hz
        have hzm : z ∈ ss := by
          rcases List.mem_append.1 hz with h | h
          · exact List.mem_of_mem_take h
          exact List.mem_of_mem_drop h
        rw [if_neg ?_]
        · exact hzm
        intro he
        have hz2 := id_inj hs hzm g3 (by rw [he, g4])
        rcases List.mem_append.1 hz with h | h
        · obtain ⟨k, hk⟩ := List.mem_iff_getElem?.1 h
          rw [List.getElem?_take] at hk
          split at hk
          · rename_i hlt; have := idx_lo hlt hk; omega
          cases hk
        obtain ⟨k, hk⟩ := List.mem_iff_getElem?.1 h
        rw [List.getElem?_drop] at hk
        have := srt_lt hs (show idx ss p.sign < idx ss p.sign + 1 + k by omega) hgi hk
        omega
      intro hz
      split at hz
      · cases hz
      rename_i hne
      rw [hsp] at hz
      rcases List.mem_append.1 hz with h | h
      · exact List.mem_append.2 (.inl h)
      rcases List.mem_cons.1 h with h | h
      · exact absurd (by rw [h, g4]) hne
      exact List.mem_append.2 (.inr h)
    rename_i hth
    rw [ht] at hth
    have hno := findO_none.1 (by simpa using hth : findO ss p.sign = none)
    constructor
    · intro hz; rw [if_neg (hno z hz)]; exact hz
    intro hz
    split at hz
    · cases hz
    exact hz
  by_cases hid : id = p.sign
  · subst hid
    rw [if_pos rfl]
    cases hf : findO (applyS ss p).1 p.sign with
    | some z =>
      obtain ⟨h1, h2⟩ := (find_mem hok).1 hf
      have := (key z).1 h1
      rw [if_pos h2] at this
      exact this.symm
    | none =>
      cases hu : updP p (findO ss p.sign) with
      | none => rfl
      | some z =>
        exfalso
        have hzid : z.id = p.sign := by
          obtain ⟨_, _, _, hk⟩ := hp
          unfold updP at hu
          rcases hk with ⟨k1, _⟩ | ⟨k1, k2, k3, k4⟩ | ⟨k1, k2, k3⟩
          · rw [if_pos k1] at hu
            obtain ⟨y, hy, rfl⟩ := Option.map_eq_some_iff.1 hu
            rw [setF_id]
            exact ((find_mem hs).1 hy).2
          · rw [if_neg (by omega), if_pos k1] at hu
            cases hu
            exact k3
          rw [if_neg (by omega), if_neg (by omega)] at hu
          cases hu
        have := (key z).2 (by rw [if_pos hzid]; exact hu)
        exact findO_none.1 hf z this hzid
  rw [if_neg hid]
  cases hf : findO (applyS ss p).1 id with
  | some z =>
    obtain ⟨h1, h2⟩ := (find_mem hok).1 hf
    have := (key z).1 h1
    rw [if_neg (by rw [h2]; exact hid)] at this
    exact ((find_mem hs).2 ⟨this, h2⟩).symm
  | none =>
    symm
    rw [findO_none]
    intro z hz he
    have := (key z).2 (by rw [if_neg (by rw [he]; exact hid)]; exact hz)
    exact findO_none.1 hf z this he
theorem setF_cases (f : Int) : (f = 1 ∨ f = 2 ∨ f = 3 ∨ f = 4 ∨ f = 5 ∨ f = 6 ∨ f = 7 ∨ f = 8 ∨ f = 9) ∨ ∀ x y, setF x f y = x := by
  by_cases h : f = 1 ∨ f = 2 ∨ f = 3 ∨ f = 4 ∨ f = 5 ∨ f = 6 ∨ f = 7 ∨ f = 8 ∨ f = 9
  · exact .inl h
  refine .inr fun x y => ?_
  unfold setF
  rw [if_neg (by omega), if_neg (by omega), if_neg (by omega), if_neg (by omega), if_neg (by omega), if_neg (by omega), if_neg (by omega), if_neg (by omega), if_neg (by omega)]
theorem setF_setF {x y z : Sg} {f : Int} : setF (setF x f y) f z = setF x f z := by
  rcases setF_cases f with hf | hf
  · rcases hf with rfl | rfl | rfl | rfl | rfl | rfl | rfl | rfl | rfl <;> simp [setF]
  rw [hf, hf, hf]
theorem setF_of {x y z : Sg} {f : Int} : setF x f (setF y f z) = setF x f z := by
  rcases setF_cases f with hf | hf
  · rcases hf with rfl | rfl | rfl | rfl | rfl | rfl | rfl | rfl | rfl <;> simp [setF]
  rw [hf, hf]
theorem setF_self {x y : Sg} {f : Int} : setF (setF x f y) f x = x := by
  rcases setF_cases f with hf | hf
  · rcases hf with rfl | rfl | rfl | rfl | rfl | rfl | rfl | rfl | rfl <;> simp [setF]
  rw [hf, hf]
theorem plain_set {z : Sg} {f : Int} (h1 : 1 ≤ f) (h9 : f ≤ 9) (hz : z.ok) : (setF plainP f z).ok := by
  have hf : f = 1 ∨ f = 2 ∨ f = 3 ∨ f = 4 ∨ f = 5 ∨ f = 6 ∨ f = 7 ∨ f = 8 ∨ f = 9 := by omega
  have hpl : okS 0 1 1 2 := by decide
  rw [Sg.ok_iff] at hz ⊢
  rcases hf with rfl | rfl | rfl | rfl | rfl | rfl | rfl | rfl | rfl <;> simp [setF, plainP] <;> simp_all
theorem chkS_of {ss : List Sg} (h1 : okL ss) (h2 : ss.length ≤ 4096) : chkS ss = 0 := by unfold chkS; rw [if_neg (by omega), if_pos h1]
theorem chkP_of {p : Pt} (h1 : okP p) (h2 : p.needs.length ≤ 32) : chkP p = 0 := by unfold chkP; rw [if_neg (by omega), if_pos h1]
theorem run_1 {ss : List Sg} {p : Pt} (h : (runS ss [p]).2 = 0) : runS ss [p] = applyS ss p := run1 (run_ok h).1 (run_ok h).2.1
theorem alone {ss : List Sg} {p : Pt} (hl : ss.length ≤ 1000) (h : (runS ss [p]).2 = 0) :
    chkS (runS ss [p]).1 = 0 ∧ (∀ o, o ≠ p.sign → isS ss o = isS (runS ss [p]).1 o ∧ findS ss o = findS (runS ss [p]).1 o) ∧
    (p.kind = 2 → isS ss p.sign = false ∧ isS (runS ss [p]).1 p.sign = true ∧ findS (runS ss [p]).1 p.sign = p.new ∧ (runS ss [p]).1.length = ss.length + 1) ∧
    (p.kind ≠ 2 → (runS (runS ss [p]).1 [p]).2 = 0 ∧ (runS (runS ss [p]).1 [p]).1 = (runS ss [p]).1) ∧
    (p.kind = 3 → isS (runS ss [p]).1 p.sign = false) ∧
    (p.kind ≠ 2 → p.kind ≠ 3 → isS ss p.sign = true ∧ isS (runS ss [p]).1 p.sign = true ∧ findS (runS ss [p]).1 p.sign = setF (findS ss p.sign) p.field p.new ∧ (runS ss [p]).1.length = ss.length) := by
  obtain ⟨c1, c2, c3⟩ := run_ok h
  obtain ⟨hs, hl4⟩ := chkS_ok c1
  have hp := chkP_ok c2
  have hr := run_1 h
  rw [hr]
  obtain ⟨g1, g2⟩ := apply_ok hs hl4 hp c3
  have gl := apply_len ss p
  have hf := apply_find hs hl4 hp c3
  have hpre := (apply_pre (p := p) hs).1 c3
  have hcx := chkS_of g1 g2
  have hfs : findO (applyS ss p).1 p.sign = updP p (findO ss p.sign) := by rw [hf, if_pos rfl]
  refine ⟨hcx, fun o ho => ?_, fun k => ?_, fun k => ?_, fun k => ?_, fun k k3 => ?_⟩
  · have := hf o
    rw [if_neg ho] at this
    unfold isS findS
    rw [this]
    exact ⟨rfl, rfl⟩
  · have e1 : ¬ p.kind = 1 := by omega
    have h1 := hpre.1
    unfold preP at h1
    rw [if_neg e1, if_pos k] at h1
    unfold updP at hfs
    rw [if_neg e1, if_pos k] at hfs
    unfold isS findS
    rw [h1, hfs]
    refine ⟨rfl, rfl, rfl, ?_⟩
    have hi := idx_le ss p.sign
    unfold applyS at c3 ⊢
    rw [if_neg e1, if_pos k] at c3 ⊢
    split at c3
    · simp at c3
    rename_i ht
    rw [if_neg ht]
    split at c3
    · simp at c3
    rename_i h4
    rw [if_neg h4]
    simp
    omega
  · have hkk := hp.kinds
    have hpre2 : (applyS (applyS ss p).1 p).2 = 0 := by
      rw [apply_pre g1, hfs]
      refine ⟨?_, fun h => absurd h k⟩
      have h1 := hpre.1
      unfold preP updP at *
      rcases hkk with e | e | e
      · rw [if_pos e] at h1 ⊢
        rw [if_pos e, Option.isSome_map]; exact h1
      · exact absurd e k
      rw [if_neg (by omega), if_neg (by omega)]; trivial
    rw [run1 hcx c2]
    refine ⟨hpre2, find_ext (apply_ok g1 g2 hp hpre2).1 g1 fun id => ?_⟩
    rw [apply_find g1 g2 hp hpre2, hfs, hf id]
    split
    · unfold updP
      rcases hkk with e | e | e
      · rw [if_pos e, if_pos e, Option.map_map]
        congr 1
        funext z
        exact setF_setF
      · exact absurd e k
      rw [if_neg (by omega), if_neg (by omega)]
      simp [e]
    rfl
  · unfold isS
    rw [hfs]
    unfold updP
    rw [if_neg (by omega), if_neg (by omega)]
    rfl
  have e1 : p.kind = 1 := by have := hp.kinds; omega
  have h1 := hpre.1
  unfold preP at h1
  rw [if_pos e1] at h1
  unfold updP at hfs
  rw [if_pos e1] at hfs
  unfold isS findS
  rw [hfs]
  obtain ⟨z, hz⟩ := Option.isSome_iff_exists.1 h1
  rw [hz]
  refine ⟨rfl, rfl, rfl, ?_⟩
  unfold applyS at c3 ⊢
  rw [if_pos e1] at c3 ⊢
  split at c3
  · rename_i ht; rw [if_pos ht]; simp
  simp at c3
namespace SX
section
variable {C : Cx} {ρ : List Value} {α : Nat → AV} {sz k : Nat} {i : V}
theorem rlenD {β : Type} {f : β → List Value} (hf : ∀ a, (f a).length = sz) (h0 : 0 < sz) {l : List β} {cc : V} (hc : cellsV (cc.den ρ α) = l.flatMap f) : Opq.rel C ρ α (.rlen sz) [cc] (.int .i64 ((l.length : Nat) : Int)) := by
  show Value.int .i64 ((l.length : Nat) : Int) = .int .i64 (((cellsV (cc.den ρ α)).length / sz : Nat) : Int)
  rw [hc, flat_len hf, Nat.mul_div_cancel _ h0]
theorem relemD {β : Type} {f : β → List Value} (hf : ∀ a, (f a).length = sz) (h0 : 0 < sz) {l : List β} {cc : V} {z : β} {o : Nat} {v : Value} (hc : cellsV (cc.den ρ α) = l.flatMap f) (hi : i.den ρ α = .int .i64 (k : Int)) (hz : l[k]? = some z) (ho : (f z)[o]? = some v) : Opq.rel C ρ α (.relem sz o) [cc, i] v := by
  have hk := (List.getElem?_eq_some_iff.1 hz).1
  refine ⟨(row_bnd (C := C) hf h0 hc hi hk).1, ?_⟩
  rw [hc, hi]
  show (l.flatMap f)[(k : Int).toNat * sz + o]? = some v
  rw [Int.toNat_natCast, ← List.getElem?_drop, flat_elem hf hz, List.getElem?_append_left (List.getElem?_eq_some_iff.1 ho).1]
  exact ho
theorem rsetD {β : Type} {f : β → List Value} (hf : ∀ a, (f a).length = sz) (h0 : 0 < sz) {l : List β} {cc x : V} {y z : β} {o : Nat} (hc : cellsV (cc.den ρ α) = l.flatMap f) (hi : i.den ρ α = .int .i64 (k : Int)) (hy : l[k]? = some y) (ho : o + 1 ≤ sz) (hz : f z = (f y).take o ++ x.den ρ α :: (f y).drop (o + 1)) : Opq.rel C ρ α (.rset sz o) [cc, i, x] (.agg ((l.set k z).flatMap f).toArray) := by
  have hk := (List.getElem?_eq_some_iff.1 hy).1
  refine ⟨(row_bnd (C := C) hf h0 hc hi hk).1, ho, ?_⟩
  rw [hc, hi]
  show _ = Value.agg ((l.flatMap f).take ((k : Int).toNat * sz + o) ++ [x.den ρ α] ++ (l.flatMap f).drop ((k : Int).toNat * sz + o + 1)).toArray
  rw [Int.toNat_natCast]
  have hl : l.flatMap f = (l.take k).flatMap f ++ (f y ++ (l.drop (k + 1)).flatMap f) := by
    conv => lhs; rw [← List.take_append_drop k l, List.drop_eq_getElem_cons hk]
    rw [List.flatMap_append, List.flatMap_cons, (List.getElem?_eq_some_iff.1 hy).2]
  have hn : ((l.take k).flatMap f).length = k * sz := by rw [flat_len hf, List.length_take, Nat.min_eq_left (by omega)]
  have hyl := hf y
  have e1 : ((l.take k).flatMap f).take (k * sz + o) = (l.take k).flatMap f := List.take_of_length_le (by rw [hn]; omega)
  have e2 : ((l.take k).flatMap f).drop (k * sz + o + 1) = [] := List.drop_of_length_le (by rw [hn]; omega)
  rw [hl, List.take_append, List.drop_append, hn, e1, e2, show k * sz + o - k * sz = o by omega, show k * sz + o + 1 - k * sz = o + 1 by omega, List.take_append_of_le_length (by omega), List.drop_append_of_le_length (by omega), List.set_eq_take_append_cons_drop, if_pos hk, List.flatMap_append, List.flatMap_cons, hz]
  simp
theorem slcxD {β : Type} {f : β → List Value} (hf : ∀ a, (f a).length = sz) (h0 : 0 < sz) {l : List β} {cc : V} (hc : cellsV (cc.den ρ α) = l.flatMap f) (hi : i.den ρ α = .int .i64 (k : Int)) (hk : k ≤ l.length) : Opq.rel C ρ α (.slcx sz true false) [cc, i] (.agg ((l.drop k).flatMap f).toArray) := by
  refine ⟨k, l.length, l.length, some (.int .i64 (k : Int)), none, by simp [denL, optsV, hi], ?_, ?_⟩
  · rw [hc, flat_len hf, Nat.mul_div_cancel _ h0]
    simp [boundsV, bndV, hk]
  rw [hc, flat_drop hf, List.take_of_length_le (by rw [flat_len hf, List.length_drop]; exact Nat.le_refl _)]
end
end SX
theorem cellsP_one (p : Pt) (h : Value) (hh : h.oneCell' = true) : ∀ u ∈ cellsP p h, u.oneCell' = true := by
  intro u hu
  simp only [cellsP, List.mem_append, List.mem_cons, List.not_mem_nil, or_false] at hu
  rcases hu with ((rfl | rfl | rfl | rfl) | h1) | rfl
  · rfl
  · rfl
  · rfl
  · rfl
  · exact cellsSg_one _ u h1
  exact hh
theorem cellsH_one (q : Ph) : ∀ u ∈ cellsH q, u.oneCell' = true := cellsP_one q.1 q.h rfl
def nilP (p : Pt) : Ph := (p, none, 0, 0)
def nilL (l : List Pt) : List Ph := l.map nilP
def remP (x : Sg) : Pt := ⟨0, 3, x.id, 0, zeroSg, []⟩
def insP (y : Sg) : Pt := ⟨0, 2, y.id, 0, y, []⟩
def chF (x y : Sg) (f : Int) : List Pt := if setF zeroSg f x = setF zeroSg f y then [] else [⟨0, 1, x.id, f, setF zeroSg f y, []⟩]
def chT (x y : Sg) : Nat → List Pt
  | 0 => []
  | k + 1 => chT x y k ++ chF x y ((k + 1 : Nat) : Int)
def chP (x y : Sg) : List Pt := chT x y 9
theorem chF_len (x y : Sg) (f : Int) : (chF x y f).length ≤ 1 := by unfold chF; split <;> simp
theorem chT_len (x y : Sg) (k : Nat) : (chT x y k).length ≤ k := by
  induction k with
  | zero => simp [chT]
  | succ k ih =>
    have := chF_len x y ((k + 1 : Nat) : Int)
    simp only [chT, List.length_append]
    omega
theorem chT_same {x y : Sg} {k : Nat} (h : setF zeroSg ((k + 1 : Nat) : Int) x = setF zeroSg ((k + 1 : Nat) : Int) y) : chT x y (k + 1) = chT x y k := by
  show chT x y k ++ chF x y ((k + 1 : Nat) : Int) = _
  unfold chF; rw [if_pos h, List.append_nil]
theorem chT_other {x y : Sg} {k : Nat} (h : setF zeroSg ((k + 1 : Nat) : Int) x ≠ setF zeroSg ((k + 1 : Nat) : Int) y) : chT x y (k + 1) = chT x y k ++ [⟨0, 1, x.id, ((k + 1 : Nat) : Int), setF zeroSg ((k + 1 : Nat) : Int) y, []⟩] := by
  show chT x y k ++ chF x y ((k + 1 : Nat) : Int) = _
  unfold chF; rw [if_neg h]
def mrg : List Sg → List Sg → Option (List Pt)
  | [], [] => some []
  | x :: a, [] => (mrg a []).map (remP x :: ·)
  | [], y :: b => (mrg [] b).map (insP y :: ·)
  | x :: a, y :: b => if x.id < y.id then (mrg a (y :: b)).map (remP x :: ·) else if y.id < x.id then (mrg (x :: a) b).map (insP y :: ·) else if x.kind ≠ y.kind then none else (mrg a b).map (chP x y ++ ·)
  termination_by a b => a.length + b.length
theorem mrg_nil : mrg [] [] = some [] := by unfold mrg; rfl
theorem mrg_rm {x : Sg} {a b : List Sg} (h : ∀ y, b[0]? = some y → x.id < y.id) : mrg (x :: a) b = (mrg a b).map (remP x :: ·) := by
  cases b with
  | nil => conv => lhs; unfold mrg
  | cons y b => conv => lhs; unfold mrg
                rw [if_pos (h y rfl)]
theorem mrg_in {y : Sg} {a b : List Sg} (h : ∀ x, a[0]? = some x → y.id < x.id) : mrg a (y :: b) = (mrg a b).map (insP y :: ·) := by
  cases a with
  | nil => conv => lhs; unfold mrg
  | cons x a =>
    have := h x rfl
    conv => lhs; unfold mrg
    rw [if_neg (by omega), if_pos this]
theorem mrg_no {x y : Sg} {a b : List Sg} (h : x.id = y.id) (hk : x.kind ≠ y.kind) : mrg (x :: a) (y :: b) = none := by
  unfold mrg
  rw [if_neg (by omega), if_neg (by omega), if_pos hk]
theorem mrg_ch {x y : Sg} {a b : List Sg} (h : x.id = y.id) (hk : x.kind = y.kind) : mrg (x :: a) (y :: b) = (mrg a b).map (chP x y ++ ·) := by
  conv => lhs; unfold mrg
  rw [if_neg (by omega), if_neg (by omega), if_neg (by simp [hk])]
def incrTo (l : List Int) (lo hi : Int) (k : Nat) : Prop := ∀ (j : Nat) (x : Int), j < k → l[j]? = some x → lo ≤ x ∧ x ≤ hi ∧ ∀ y, 0 < j → l[j - 1]? = some y → y < x
def incr (l : List Int) (lo hi : Int) : Prop := incrTo l lo hi l.length
noncomputable def incrB (l : List Int) (lo hi : Int) : Bool := @decide (incr l lo hi) (Classical.propDecidable _)
theorem incrB_yes {l : List Int} {lo hi : Int} (h : incr l lo hi) : incrB l lo hi = true := by unfold incrB; exact @decide_eq_true _ (Classical.propDecidable _) h
theorem incrB_no {l : List Int} {lo hi : Int} (h : ¬ incr l lo hi) : incrB l lo hi = false := by unfold incrB; exact @decide_eq_false _ (Classical.propDecidable _) h
theorem incrTo_zero {l : List Int} {lo hi : Int} : incrTo l lo hi 0 := fun j x hj => absurd hj (by omega)
theorem incrTo_succ {l : List Int} {lo hi : Int} {k : Nat} {x : Int} (h : incrTo l lo hi k) (hx : l[k]? = some x) (h1 : lo ≤ x) (h2 : x ≤ hi) (h3 : ∀ y, 0 < k → l[k - 1]? = some y → y < x) : incrTo l lo hi (k + 1) := fun j z hj hz => by
  by_cases e : j = k
  · subst e; rw [hx] at hz; cases hz; exact ⟨h1, h2, h3⟩
  exact h j z (by omega) hz
theorem incrTo_no {l : List Int} {lo hi : Int} {k : Nat} {x : Int} (hx : l[k]? = some x) (h : ¬ (lo ≤ x ∧ x ≤ hi ∧ ∀ y, 0 < k → l[k - 1]? = some y → y < x)) : ¬ incr l lo hi := fun hi2 => h (hi2 k x (List.getElem?_eq_some_iff.1 hx).1 hx)
def num (first : Int) (needs : List Int) : Nat → List Pt → List Pt
  | _, [] => []
  | k, p :: l => {p with id := first + (k : Int), needs := needs} :: num first needs (k + 1) l
theorem num_len (first : Int) (needs : List Int) (k : Nat) (l : List Pt) : (num first needs k l).length = l.length := by
  induction l generalizing k with
  | nil => rfl
  | cons p l ih => simp [num, ih]
noncomputable def diffR (a b : List Sg) (first : Int) (needs : List Int) : List Pt × Int :=
  if chkS a ≠ 0 then ([], chkS a) else if chkS b ≠ 0 then ([], chkS b) else if 32 < needs.length then ([], 2)
  else if (decide (1 ≤ first ∧ first ≤ 1048576) && incrB needs 1 (first - 1)) = false then ([], 360)
  else match mrg a b with
    | none => ([], 360)
    | some l => if 512 < l.length ∨ 1048576 < first + (l.length : Int) - 1 then ([], 2) else (num first needs 0 l, 0)
theorem diffR_a {a b : List Sg} {first : Int} {needs : List Int} (h : chkS a ≠ 0) : diffR a b first needs = ([], chkS a) := by unfold diffR; rw [if_pos h]
theorem diffR_b {a b : List Sg} {first : Int} {needs : List Int} (h : chkS a = 0) (h2 : chkS b ≠ 0) : diffR a b first needs = ([], chkS b) := by unfold diffR; rw [if_neg (by simp [h]), if_pos h2]
theorem diffR_n {a b : List Sg} {first : Int} {needs : List Int} (h : chkS a = 0) (h2 : chkS b = 0) (h3 : 32 < needs.length) : diffR a b first needs = ([], 2) := by unfold diffR; rw [if_neg (by simp [h]), if_neg (by simp [h2]), if_pos h3]
theorem diffR_i {a b : List Sg} {first : Int} {needs : List Int} (h : chkS a = 0) (h2 : chkS b = 0) (h3 : ¬ 32 < needs.length) (h4 : ¬ ((1 ≤ first ∧ first ≤ 1048576) ∧ incr needs 1 (first - 1))) : diffR a b first needs = ([], 360) := by
  unfold diffR
  rw [if_neg (by simp [h]), if_neg (by simp [h2]), if_neg h3, if_pos]
  by_cases h5 : 1 ≤ first ∧ first ≤ 1048576
  · rw [incrB_no fun h6 => h4 ⟨h5, h6⟩, Bool.and_false]
  simp only [decide_eq_false h5, Bool.false_and]
theorem diffR_m {a b : List Sg} {first : Int} {needs : List Int} (h : chkS a = 0) (h2 : chkS b = 0) (h3 : ¬ 32 < needs.length) (h4 : (1 ≤ first ∧ first ≤ 1048576) ∧ incr needs 1 (first - 1)) : diffR a b first needs = match mrg a b with
    | none => ([], 360)
    | some l => if 512 < l.length ∨ 1048576 < first + (l.length : Int) - 1 then ([], 2) else (num first needs 0 l, 0) := by
  unfold diffR
  rw [if_neg (by simp [h]), if_neg (by simp [h2]), if_neg h3, if_neg]
  rw [incrB_yes h4.2, decide_eq_true h4.1]
  simp
def tree_cloneI : SX.Tree :=
(.df (.snil false) [(.q 0)] .one
(.br 1 []
(.ret (.k (.slice none 0 0)) [] [])
(.df (.app 1 8 (.ext 1)) [(.cat []), (.q 0)] .any
(.ret (.row 1) [none, (some ⟨[(.q 2)], 3, (.row 1)⟩)] []))))
def args_cloneI : List SX.V := [.x 0 []]
set_option maxRecDepth 100000 in
theorem run_cloneI (K A : Value → Nat → List Value → Prop) : (SX.run (cx0 K A) ⟨fun f => true, [], 2, 100⟩ 100000 0 (SX.door 48 Try.f48 args_cloneI [.one]) [.code (Try.f48.body.getD .skip), .top Try.f48]).strip = tree_cloneI := by kernel_rfl
set_option maxRecDepth 100000 in
set_option maxHeartbeats 4000000 in
theorem cloneI_any (l : List Int) (A : Option Addr) (n c : Nat) (w : World) (hr : Rd w 1 A n (intsL l)) (hc : n ≤ c) (hn : n ≤ 1000000) : Calls Try.prog 48 #[.slice A n c] w fun e w' => Below w.heap.size w w' ∧ ∃ hdr, e = .returned hdr ∧ SX.SlRet w w' [] hdr 1 (intsL l) := by
  refine SX.calls_of_run (C := cx0 (fun s sz cells => s = .slice A n c ∧ sz = 1 ∧ cells = intsL l) (fun _ _ _ => False)) (G := ⟨fun f => true, [], 2, 100⟩) (args := args_cloneI) (sh := [.one]) (ρ := [.slice A n c]) 100000 tree_cloneI (cx0_ok _ _) Try.func48 rfl (run_cloneI _ _) (by kernel_rfl) (by kernel_rfl) (by kernel_rfl) ?_ ?_
  · rintro W hW s sz cells ⟨rfl, rfl, rfl⟩; exact ⟨hr.same0 hW, hc⟩
  have hA := SX.rd_some hr
  have hln : l.length = n := by have := hr.1; rw [intsL_len] at this; omega
  unfold tree_cloneI
  refine SX.E (.bool (false ^^ A.isNone)) (fun α => ⟨A, n, c, by kernel_rfl, rfl⟩) ?_
  refine SX.B (false ^^ A.isNone) (fun h1 => ?_) (fun h1 => ?_)
  · have hA0 : A = none := by cases A <;> simp_all
    have hn0 : n = 0 := by
      rcases Nat.eq_zero_or_pos n with h | h
      · exact h
      · have := hA h; rw [hA0] at this; cases this
    have hl0 : l = [] := List.length_eq_zero_iff.1 (by omega)
    subst hl0
    exact SX.VC_ret fun α W _ _ hS => ⟨hS.below, _, rfl, SX.SlRet.nil⟩
  refine SX.VC_df (.agg (intsL l).toArray) (fun α => SX.app_rel (f := cellsI) (l1 := []) (l2 := l) (fun _ => rfl) (fun a u hu => by obtain rfl := List.mem_singleton.1 hu; rfl) (by decide) (by kernel_rfl) (SX.src_ext ⟨rfl, rfl, rfl⟩) (by simp; omega) (by simp; omega)) rfl ?_
  exact SX.VC_ret fun α W _ hrow hS => ⟨hS.below, _, by kernel_rfl, SX.SlRet.row hS (n := 1) (b := (⟨[(.x 2 [])], 3, (.row 1)⟩ : SX.Blk)) (by kernel_rfl) rfl (hrow 1 _ (by kernel_rfl)) (Eq.trans (b := [Value.agg (intsL l).toArray].flatMap SX.cellsV) (by kernel_rfl) (by simp [SX.cellsV]))⟩
theorem phL_app (l m : List Ph) : phL (l ++ m) = phL l ++ phL m := by simp [phL]
theorem K_ofD {C : SX.Cx} {v : Value} {y : SX.Arg} (hv : v = y.v) (h : C.K y.v y.sz y.cells) : C.K v y.sz y.cells := by subst hv; exact h
theorem hd_drop {β : Type} {l : List β} {x : β} (h : l[0]? = some x) : l = x :: l.drop 1 := by
  cases l with
  | nil => cases h
  | cons y l => cases h; rfl
theorem mrg_rmD {a b : List Sg} {x : Sg} (hx : a[0]? = some x) (h : ∀ y, b[0]? = some y → x.id < y.id) : mrg a b = (mrg (a.drop 1) b).map ([remP x] ++ ·) := by
  conv => lhs; rw [hd_drop hx]
  exact mrg_rm h
theorem mrg_inD {a b : List Sg} {y : Sg} (hy : b[0]? = some y) (h : ∀ x, a[0]? = some x → y.id < x.id) : mrg a b = (mrg a (b.drop 1)).map ([insP y] ++ ·) := by
  conv => lhs; rw [hd_drop hy]
  exact mrg_in h
theorem mrg_noD {a b : List Sg} {x y : Sg} (hx : a[0]? = some x) (hy : b[0]? = some y) (h : x.id = y.id) (hk : x.kind ≠ y.kind) : mrg a b = none := by
  rw [hd_drop hx, hd_drop hy]
  exact mrg_no h hk
theorem mrg_chD {a b : List Sg} {x y : Sg} (hx : a[0]? = some x) (hy : b[0]? = some y) (h : x.id = y.id) (hk : x.kind = y.kind) : mrg a b = (mrg (a.drop 1) (b.drop 1)).map (chP x y ++ ·) := by
  conv => lhs; rw [hd_drop hx, hd_drop hy]
  exact mrg_ch h hk
theorem mrg_step {M : Option (List Pt)} {a b a2 b2 : List Sg} {acc p : List Pt} (h : M = (mrg a b).map (acc ++ ·)) (h2 : mrg a b = (mrg a2 b2).map (p ++ ·)) : M = (mrg a2 b2).map ((acc ++ p) ++ ·) := by
  rw [h, h2, Option.map_map]
  congr 1
  funext l
  simp [Function.comp]
theorem no_head {β : Type} {l : List β} (h : l.length = 0) {x : β} (hx : l[0]? = some x) : False := by
  have := (List.getElem?_eq_some_iff.1 hx).1
  omega
abbrev Hd := Option Addr × Nat × Nat
def Hd.v (h : Hd) : Value := .slice h.1 h.2.1 h.2.2
theorem num_app (first : Int) (needs : List Int) (k : Nat) (l m : List Pt) : num first needs k (l ++ m) = num first needs k l ++ num first needs (k + l.length) m := by
  induction l generalizing k with
  | nil => rfl
  | cons p l ih =>
    simp only [List.cons_append, num, ih, List.length_cons]
    rw [show k + 1 + l.length = k + (l.length + 1) by omega]
def doneL (first : Int) (needs : List Int) (l : List Pt) (hs : List Hd) : List Ph := (num first needs 0 (l.take hs.length)).zip hs ++ nilL (l.drop hs.length)
theorem doneL_nil (first : Int) (needs : List Int) (l : List Pt) : doneL first needs l [] = nilL l := rfl
theorem doneL_pre {first : Int} {needs : List Int} {l : List Pt} {hs : List Hd} (h : hs.length ≤ l.length) : ((num first needs 0 (l.take hs.length)).zip hs).length = hs.length := by
  rw [List.length_zip, num_len, List.length_take]; omega
theorem doneL_len {first : Int} {needs : List Int} {l : List Pt} {hs : List Hd} (h : hs.length ≤ l.length) : (doneL first needs l hs).length = l.length := by
  unfold doneL
  rw [List.length_append, doneL_pre h, nilL, List.length_map, List.length_drop]; omega
theorem doneL_at {first : Int} {needs : List Int} {l : List Pt} {hs : List Hd} {p : Pt} (h : l[hs.length]? = some p) : (doneL first needs l hs)[hs.length]? = some (nilP p) := by
  have hl := (List.getElem?_eq_some_iff.1 h).1
  unfold doneL
  rw [List.getElem?_append_right (by rw [doneL_pre (by omega)]; exact Nat.le_refl _), doneL_pre (by omega), Nat.sub_self, nilL, List.getElem?_map, List.getElem?_drop, Nat.add_zero, h]
  rfl
theorem doneL_set {first : Int} {needs : List Int} {l : List Pt} {hs : List Hd} {p : Pt} (h : l[hs.length]? = some p) (z : Hd) (q : Ph) : ((doneL first needs l hs).set hs.length q).set hs.length ({p with id := first + (hs.length : Int), needs := needs}, z) = doneL first needs l (hs ++ [z]) := by
  have hl := (List.getElem?_eq_some_iff.1 h).1
  have e1 : l.drop hs.length = p :: l.drop (hs.length + 1) := by rw [List.drop_eq_getElem_cons hl, (List.getElem?_eq_some_iff.1 h).2]
  have e2 : l.take (hs.length + 1) = l.take hs.length ++ [p] := by rw [List.take_add_one, h]; rfl
  have e3 : (l.take hs.length).length = hs.length := by rw [List.length_take]; omega
  rw [List.set_set]
  unfold doneL
  rw [e1, List.length_append, List.length_singleton, e2, num_app, e3, List.zip_append (by rw [num_len, e3]), List.set_append_right _ _ (by rw [doneL_pre (by omega)]; exact Nat.le_refl _), doneL_pre (by omega), Nat.sub_self]
  simp [nilL, num]
theorem doneL_all {first : Int} {needs : List Int} {l : List Pt} {hs : List Hd} (h : hs.length = l.length) : doneL first needs l hs = (num first needs 0 l).zip hs := by
  unfold doneL
  rw [h, List.take_length, List.drop_length]
  simp [nilL]
def cells2 (p : Int × Int) : List Value := [.int .i64 p.1, .int .i64 p.2]
theorem cells2_inj (a b : Int × Int) (h : cells2 a = cells2 b) : a = b := by
  obtain ⟨a1, a2⟩ := a; obtain ⟨b1, b2⟩ := b
  simpa [cells2] using h
theorem span_iff {x y : Sg} : setF zeroSg 9 x = setF zeroSg 9 y ↔ (x.fn, x.fd) = (y.fn, y.fd) ∧ (x.tn, x.td) = (y.tn, y.td) := by
  simp [setF, zeroSg, and_assoc]
theorem nilL_app (l m : List Pt) : nilL (l ++ m) = nilL l ++ nilL m := by simp [nilL]
def KDf (A : Option Addr) (n c : Nat) (a : List Sg) (B : Option Addr) (m d : Nat) (b : List Sg) (D : Option Addr) (k e : Nat) (needs : List Int) (s : Value) (z : Nat) (xs : List Value) : Prop :=
  (s = .slice A n c ∧ z = 14 ∧ xs = sgsL a) ∨ (s = .slice B m d ∧ z = 14 ∧ xs = sgsL b) ∨ (s = .slice D k e ∧ z = 1 ∧ xs = intsL needs)
def RnI (K : Value → Nat → List Value → Prop) (f : FuncId) (xs : List SX.Arg) (Q : Value → List SX.Arg → Prop) : Prop := f = 48 ∧ ∃ (u : Value) (l : List Int), xs = [⟨u, 1, intsL l⟩] ∧ l.length ≤ 1000000 ∧ ∀ A n c, Q (.slice A n c) [⟨.slice A n c, 1, intsL l⟩]
def RD4 (f : FuncId) (xs : List SX.Arg) (v : Value) : Prop :=
  (f = 27 ∧ ∃ (u : Value) (ss : List Sg), xs = [⟨u, 14, sgsL ss⟩] ∧ ss.length ≤ 9223372036854775807 ∧ v = .int .i64 (chkS ss))
def shpD4 : FuncId → Option SX.Sh := fun f => if f = 27 then some .one else none
noncomputable def cxD4 (nb : Nat) (K A : Value → Nat → List Value → Prop) : SX.Cx := { nsh := fun f => if f = 48 then some .one else none, Rn := RnI, nb := nb, trm := true, tl := [47, 46], cut := [(7, 1000001, false), (8, 1000129, false), (28, 8935714284162, false), (37, 36600681612927618, true), (28, 8935714284225, true), (30, 571885651190402, true), (32, 36600681613185730, false)], P := Try.prog, R := fun _ => RD4, shp := shpD4, K := K, A := A }
theorem okD4 (nb : Nat) (K A : Value → Nat → List Value → Prop) : (cxD4 nb K A).Ok := by
  refine SX.Cx.ok_nd (fun _ => rfl) ?_ fun f sh hs K xs Q W h hrd hK => ?_
  case refine_2 =>
    obtain ⟨rfl, u, l, rfl, hl, hQ⟩ := h
    have hs : some SX.Sh.one = some sh := hs
    cases hs
    obtain ⟨A, n, c, rfl, hr, hc, hn⟩ := ints_arg (hrd ⟨u, 1, intsL l⟩ (by simp))
    refine (cloneI_any l A n c W hr hc (by omega)).mono fun e w' ⟨h1, hdr, h2, ⟨A2, n2, c2, h3, _⟩, h4, h5⟩ => ?_
    subst h3
    refine ⟨h1, _, _, h2, rfl, hQ A2 n2 c2, fun y hy => ?_⟩
    obtain rfl : y = ⟨.slice A2 n2 c2, 1, intsL l⟩ := by simpa using hy
    exact ⟨h4, h5.resolve_right fun ⟨y, hy, _⟩ => nomatch hy⟩
  intro K f xs v W hR hrd hKf
  rcases hR with ⟨rfl, u, ss, rfl, hb, rfl⟩
  obtain ⟨A, n, c, rfl, h2, h3, h4⟩ := sgs_arg (hrd ⟨u, 14, sgsL ss⟩ (by simp))
  exact (echeck_any ss A n c W h2 (by omega) h3).mono fun e w' h => SX.plainOk rfl h
def tree_diff : SX.Tree :=
(.df (.call 27 [(.ext 14)]) [(.q 0)] .one
(.df (.call 27 [(.ext 14)]) [(.q 1)] .one
(.df (.bin .neq 32) [(.q 4), (.i 0)] .one
(.br 6 []
(.df (.bin .neq 32) [(.q 4), (.i 0)] .one
(.br 7 []
(.ret (.t [(.k (.slice none 0 0)), (.q 4)]) [none] []) (.bad 70 [])))
(.df (.bin .neq 32) [(.q 5), (.i 0)] .one
(.br 7 []
(.df (.bin .neq 32) [(.q 5), (.i 0)] .one
(.br 8 []
(.ret (.t [(.k (.slice none 0 0)), (.q 5)]) [none] []) (.bad 70 [])))
(.df (.len false) [(.q 3)] .one
(.df (.bin .gtr 3) [(.q 8), (.i 32)] .one
(.br 9 []
(.ret (.t [(.k (.slice none 0 0)), (.i 2)]) [none] [])
(.df (.len false) [(.q 3)] .one
(.loop [(.i 0), (.i 0), (.cat [])] [.one, .one, .any]
(.df (.bin .lss 3) [(.q 11), (.q 10)] .one
(.br 14 []
(.df .bnd [(.q 3), (.q 11)] .one
(.df (.elem 1 0) [(.q 3), (.q 11)] .one
(.df (.bin .leq 3) [(.q 16), (.q 12)] .one
(.br 17 []
(.ret (.t [(.k (.slice none 0 0)), (.i 360)]) [none, none, none, none, none] [])
(.df (.bin .geq 3) [(.q 16), (.q 2)] .one
(.br 18 []
(.ret (.t [(.k (.slice none 0 0)), (.i 360)]) [none, none, none, none, none] [])
(.df (.bin .add 3) [(.q 11), (.i 1)] .one
(.again 0 [(.q 19), (.q 16), (.cat [(.q 13)])]))))))))
(.df (.bin .geq 3) [(.q 2), (.i 1)] .one
(.br 15 []
(.df (.bin .leq 3) [(.q 2), (.i 1048576)] .one
(.df .not [(.q 16)] .one
(.br 17 []
(.ret (.t [(.k (.slice none 0 0)), (.i 360)]) [none, none, none, none, none] [])
(.df (.kext 14) [(.q 0)] .any
(.df (.kext 14) [(.q 1)] .any
(.loop [(.cat [(.q 18)]), (.cat [(.q 19)]), (.cat [(.q 13)])] [.any, .any, .any]
(.df (.rlen 14) [(.cat [(.q 20)])] .one
(.df (.bin .gtr 3) [(.q 23), (.i 0)] .one
(.br 24 []
(.df (.rlen 14) [(.cat [(.q 21)])] .one
(.df (.bin .eql 3) [(.q 25), (.i 0)] .one
(.br 26 []
(.df (.rbnd 14) [(.cat [(.q 20)]), (.i 0)] .one
(.df (.rbnd 14) [(.cat [(.q 20)]), (.i 0)] .one
(.df (.relem 14 0) [(.cat [(.q 20)]), (.i 0)] .one
(.df (.app 19 168 (.own 19 [(.i 0), (.i 3), (.q 29), (.i 0), (.i 0), (.i 0), (.i 0), (.i 0), (.i 0), (.i 0), (.i 0), (.i 0), (.i 0), (.i 0), (.i 0), (.i 0), (.i 0), (.i 0), (.k (.slice none 0 0))])) [(.cat [(.q 22)]), (.sl 10 0 1 1)] .any
(.df (.slcx 14 true false) [(.cat [(.q 20)]), (.i 1)] .any
(.again 1 [(.cat [(.q 31)]), (.cat [(.q 21)]), (.cat [(.q 22), (.q 30)])]))))))
(.df (.rlen 14) [(.cat [(.q 20)])] .one
(.df (.bin .gtr 3) [(.q 27), (.i 0)] .one
(.br 28 []
(.df (.rbnd 14) [(.cat [(.q 20)]), (.i 0)] .one
(.df (.rbnd 14) [(.cat [(.q 20)]), (.i 0)] .one
(.df (.relem 14 0) [(.cat [(.q 20)]), (.i 0)] .one
(.df (.rbnd 14) [(.cat [(.q 21)]), (.i 0)] .one
(.df (.rbnd 14) [(.cat [(.q 21)]), (.i 0)] .one
(.df (.relem 14 0) [(.cat [(.q 21)]), (.i 0)] .one
(.df (.bin .lss 3) [(.q 31), (.q 34)] .one
(.br 35 []
(.df (.rbnd 14) [(.cat [(.q 20)]), (.i 0)] .one
(.df (.rbnd 14) [(.cat [(.q 20)]), (.i 0)] .one
(.df (.relem 14 0) [(.cat [(.q 20)]), (.i 0)] .one
(.df (.app 19 168 (.own 19 [(.i 0), (.i 3), (.q 38), (.i 0), (.i 0), (.i 0), (.i 0), (.i 0), (.i 0), (.i 0), (.i 0), (.i 0), (.i 0), (.i 0), (.i 0), (.i 0), (.i 0), (.i 0), (.k (.slice none 0 0))])) [(.cat [(.q 22)]), (.sl 10 0 1 1)] .any
(.df (.slcx 14 true false) [(.cat [(.q 20)]), (.i 1)] .any
(.again 1 [(.cat [(.q 40)]), (.cat [(.q 21)]), (.cat [(.q 22), (.q 39)])]))))))
(.df (.rlen 14) [(.cat [(.q 20)])] .one
(.df (.bin .eql 3) [(.q 36), (.i 0)] .one
(.br 37 [] (.bad 70 [])
(.df (.rbnd 14) [(.cat [(.q 21)]), (.i 0)] .one
(.df (.rbnd 14) [(.cat [(.q 21)]), (.i 0)] .one
(.df (.relem 14 0) [(.cat [(.q 21)]), (.i 0)] .one
(.df (.rbnd 14) [(.cat [(.q 20)]), (.i 0)] .one
(.df (.rbnd 14) [(.cat [(.q 20)]), (.i 0)] .one
(.df (.relem 14 0) [(.cat [(.q 20)]), (.i 0)] .one
(.df (.bin .lss 3) [(.q 40), (.q 43)] .one
(.br 44 []
(.df (.rbnd 14) [(.cat [(.q 21)]), (.i 0)] .one
(.df (.rbnd 14) [(.cat [(.q 21)]), (.i 0)] .one
(.df (.relem 14 0) [(.cat [(.q 21)]), (.i 0)] .one
(.df (.rbnd 14) [(.cat [(.q 21)]), (.i 0)] .one
(.df (.relems 14 0 14) [(.cat [(.q 21)]), (.i 0)] (.ag 14)
(.df (.app 19 168 (.own 19 [(.i 0), (.i 2), (.q 47), (.i 0), (.x 49 [0]), (.x 49 [1]), (.x 49 [2]), (.x 49 [3]), (.x 49 [4]), (.x 49 [5]), (.x 49 [6]), (.x 49 [7]), (.x 49 [8]), (.x 49 [9]), (.x 49 [10]), (.x 49 [11]), (.x 49 [12]), (.x 49 [13]), (.k (.slice none 0 0))])) [(.cat [(.q 22)]), (.sl 19 0 1 1)] .any
(.df (.slcx 14 true false) [(.cat [(.q 21)]), (.i 1)] .any
(.again 1 [(.cat [(.q 20)]), (.cat [(.q 51)]), (.cat [(.q 22), (.q 50)])]))))))))
(.df (.rbnd 14) [(.cat [(.q 20)]), (.i 0)] .one
(.df (.rbnd 14) [(.cat [(.q 20)]), (.i 0)] .one
(.df (.relem 14 4) [(.cat [(.q 20)]), (.i 0)] .one
(.df (.rbnd 14) [(.cat [(.q 21)]), (.i 0)] .one
(.df (.rbnd 14) [(.cat [(.q 21)]), (.i 0)] .one
(.df (.relem 14 4) [(.cat [(.q 21)]), (.i 0)] .one
(.df (.bin .neq 3) [(.q 47), (.q 50)] .one
(.br 51 []
(.ret (.t [(.k (.slice none 0 0)), (.i 360)]) (List.replicate 10 none) [])
(.df (.rbnd 14) [(.cat [(.q 20)]), (.i 0)] .one
(.df (.relems 14 0 14) [(.cat [(.q 20)]), (.i 0)] (.ag 14)
(.df (.rbnd 14) [(.cat [(.q 21)]), (.i 0)] .one
(.df (.relems 14 0 14) [(.cat [(.q 21)]), (.i 0)] (.ag 14)
(.loop [(.i 0), (.cat [(.q 22)])] [.one, .any]
(.df (.bin .lss 3) [(.q 56), (.i 8)] .one
(.br 58 []
(.sp 56 [] [
(.df (.bin .eql 3) [(.x 53 [1]), (.x 55 [1])] .one
(.br 59 []
(.again 2 [(.i 1), (.cat [(.q 57)])])
(.df (.app 19 168 (.own 19 [(.i 0), (.i 1), (.x 53 [0]), (.i 1), (.i 0), (.x 55 [1]), (.i 0), (.i 0), (.i 0), (.i 0), (.i 0), (.i 0), (.i 0), (.i 0), (.i 0), (.i 0), (.i 0), (.i 0), (.k (.slice none 0 0))])) [(.cat [(.q 57)]), (.sl 20 0 1 1)] .any
(.again 2 [(.i 1), (.cat [(.q 57), (.q 60)])])))),
(.df (.bin .eql 3) [(.x 53 [2]), (.x 55 [2])] .one
(.br 59 []
(.again 2 [(.i 2), (.cat [(.q 57)])])
(.df (.app 19 168 (.own 19 [(.i 0), (.i 1), (.x 53 [0]), (.i 2), (.i 0), (.i 0), (.x 55 [2]), (.i 0), (.i 0), (.i 0), (.i 0), (.i 0), (.i 0), (.i 0), (.i 0), (.i 0), (.i 0), (.i 0), (.k (.slice none 0 0))])) [(.cat [(.q 57)]), (.sl 20 0 1 1)] .any
(.again 2 [(.i 2), (.cat [(.q 57), (.q 60)])])))),
(.df (.bin .eql 3) [(.x 53 [3]), (.x 55 [3])] .one
(.br 59 []
(.again 2 [(.i 3), (.cat [(.q 57)])])
(.df (.app 19 168 (.own 19 [(.i 0), (.i 1), (.x 53 [0]), (.i 3), (.i 0), (.i 0), (.i 0), (.x 55 [3]), (.i 0), (.i 0), (.i 0), (.i 0), (.i 0), (.i 0), (.i 0), (.i 0), (.i 0), (.i 0), (.k (.slice none 0 0))])) [(.cat [(.q 57)]), (.sl 20 0 1 1)] .any
(.again 2 [(.i 3), (.cat [(.q 57), (.q 60)])])))),
(.df (.bin .eql 3) [(.x 53 [5]), (.x 55 [5])] .one
(.br 59 []
(.again 2 [(.i 4), (.cat [(.q 57)])])
(.df (.app 19 168 (.own 19 [(.i 0), (.i 1), (.x 53 [0]), (.i 4), (.i 0), (.i 0), (.i 0), (.i 0), (.i 0), (.x 55 [5]), (.i 0), (.i 0), (.i 0), (.i 0), (.i 0), (.i 0), (.i 0), (.i 0), (.k (.slice none 0 0))])) [(.cat [(.q 57)]), (.sl 20 0 1 1)] .any
(.again 2 [(.i 4), (.cat [(.q 57), (.q 60)])])))),
(.df (.bin .eql 3) [(.x 53 [6]), (.x 55 [6])] .one
(.br 59 []
(.again 2 [(.i 5), (.cat [(.q 57)])])
(.df (.app 19 168 (.own 19 [(.i 0), (.i 1), (.x 53 [0]), (.i 5), (.i 0), (.i 0), (.i 0), (.i 0), (.i 0), (.i 0), (.x 55 [6]), (.i 0), (.i 0), (.i 0), (.i 0), (.i 0), (.i 0), (.i 0), (.k (.slice none 0 0))])) [(.cat [(.q 57)]), (.sl 20 0 1 1)] .any
(.again 2 [(.i 5), (.cat [(.q 57), (.q 60)])])))),
(.df (.bin .eql 3) [(.x 53 [7]), (.x 55 [7])] .one
(.br 59 []
(.again 2 [(.i 6), (.cat [(.q 57)])])
(.df (.app 19 168 (.own 19 [(.i 0), (.i 1), (.x 53 [0]), (.i 6), (.i 0), (.i 0), (.i 0), (.i 0), (.i 0), (.i 0), (.i 0), (.x 55 [7]), (.i 0), (.i 0), (.i 0), (.i 0), (.i 0), (.i 0), (.k (.slice none 0 0))])) [(.cat [(.q 57)]), (.sl 20 0 1 1)] .any
(.again 2 [(.i 6), (.cat [(.q 57), (.q 60)])])))),
(.df (.bin .eql 3) [(.x 53 [8]), (.x 55 [8])] .one
(.br 59 []
(.again 2 [(.i 7), (.cat [(.q 57)])])
(.df (.app 19 168 (.own 19 [(.i 0), (.i 1), (.x 53 [0]), (.i 7), (.i 0), (.i 0), (.i 0), (.i 0), (.i 0), (.i 0), (.i 0), (.i 0), (.x 55 [8]), (.i 0), (.i 0), (.i 0), (.i 0), (.i 0), (.k (.slice none 0 0))])) [(.cat [(.q 57)]), (.sl 20 0 1 1)] .any
(.again 2 [(.i 7), (.cat [(.q 57), (.q 60)])])))),
(.df (.bin .eql 3) [(.x 53 [9]), (.x 55 [9])] .one
(.br 59 []
(.again 2 [(.i 8), (.cat [(.q 57)])])
(.df (.app 19 168 (.own 19 [(.i 0), (.i 1), (.x 53 [0]), (.i 8), (.i 0), (.i 0), (.i 0), (.i 0), (.i 0), (.i 0), (.i 0), (.i 0), (.i 0), (.x 55 [9]), (.i 0), (.i 0), (.i 0), (.i 0), (.k (.slice none 0 0))])) [(.cat [(.q 57)]), (.sl 20 0 1 1)] .any
(.again 2 [(.i 8), (.cat [(.q 57), (.q 60)])]))))])
(.df (.eqr true 2 [(.i .i64), (.i .i64)]) [(.x 53 [10]), (.x 53 [11]), (.x 55 [10]), (.x 55 [11])] .one
(.br 59 []
(.df (.app 19 168 (.own 19 [(.i 0), (.i 1), (.x 53 [0]), (.i 9), (.i 0), (.i 0), (.i 0), (.i 0), (.i 0), (.i 0), (.i 0), (.i 0), (.i 0), (.i 0), (.x 55 [10]), (.x 55 [11]), (.x 55 [12]), (.x 55 [13]), (.k (.slice none 0 0))])) [(.cat [(.q 57)]), (.sl 18 0 1 1)] .any
(.df (.slcx 14 true false) [(.cat [(.q 20)]), (.i 1)] .any
(.df (.slcx 14 true false) [(.cat [(.q 21)]), (.i 1)] .any
(.again 1 [(.cat [(.q 61)]), (.cat [(.q 62)]), (.cat [(.q 57), (.q 60)])]))))
(.df (.eqr true 2 [(.i .i64), (.i .i64)]) [(.x 53 [12]), (.x 53 [13]), (.x 55 [12]), (.x 55 [13])] .one
(.br 60 []
(.df (.app 19 168 (.own 19 [(.i 0), (.i 1), (.x 53 [0]), (.i 9), (.i 0), (.i 0), (.i 0), (.i 0), (.i 0), (.i 0), (.i 0), (.i 0), (.i 0), (.i 0), (.x 55 [10]), (.x 55 [11]), (.x 55 [12]), (.x 55 [13]), (.k (.slice none 0 0))])) [(.cat [(.q 57)]), (.sl 18 0 1 1)] .any
(.df (.slcx 14 true false) [(.cat [(.q 20)]), (.i 1)] .any
(.df (.slcx 14 true false) [(.cat [(.q 21)]), (.i 1)] .any
(.again 1 [(.cat [(.q 62)]), (.cat [(.q 63)]), (.cat [(.q 57), (.q 61)])]))))
(.df (.slcx 14 true false) [(.cat [(.q 20)]), (.i 1)] .any
(.df (.slcx 14 true false) [(.cat [(.q 21)]), (.i 1)] .any
(.again 1 [(.cat [(.q 61)]), (.cat [(.q 62)]), (.cat [(.q 57)])]))))))))))))))))))))))))))))))))))))))))) (.bad 70 [])))))))
(.df (.rlen 14) [(.cat [(.q 21)])] .one
(.df (.bin .gtr 3) [(.q 25), (.i 0)] .one
(.br 26 []
(.df (.rlen 14) [(.cat [(.q 21)])] .one
(.df (.bin .eql 3) [(.q 27), (.i 0)] .one
(.br 28 [] (.bad 70 [])
(.df (.rlen 14) [(.cat [(.q 20)])] .one
(.df (.bin .gtr 3) [(.q 29), (.i 0)] .one
(.br 30 [] (.bad 70 [])
(.df (.rlen 14) [(.cat [(.q 20)])] .one
(.df (.bin .eql 3) [(.q 31), (.i 0)] .one
(.br 32 []
(.df (.rbnd 14) [(.cat [(.q 21)]), (.i 0)] .one
(.df (.rbnd 14) [(.cat [(.q 21)]), (.i 0)] .one
(.df (.relem 14 0) [(.cat [(.q 21)]), (.i 0)] .one
(.df (.rbnd 14) [(.cat [(.q 21)]), (.i 0)] .one
(.df (.relems 14 0 14) [(.cat [(.q 21)]), (.i 0)] (.ag 14)
(.df (.app 19 168 (.own 19 [(.i 0), (.i 2), (.q 35), (.i 0), (.x 37 [0]), (.x 37 [1]), (.x 37 [2]), (.x 37 [3]), (.x 37 [4]), (.x 37 [5]), (.x 37 [6]), (.x 37 [7]), (.x 37 [8]), (.x 37 [9]), (.x 37 [10]), (.x 37 [11]), (.x 37 [12]), (.x 37 [13]), (.k (.slice none 0 0))])) [(.cat [(.q 22)]), (.sl 19 0 1 1)] .any
(.df (.slcx 14 true false) [(.cat [(.q 21)]), (.i 1)] .any
(.again 1 [(.cat [(.q 20)]), (.cat [(.q 39)]), (.cat [(.q 22), (.q 38)])])))))))) (.bad 70 []))))))))))
(.df (.rlen 19) [(.cat [(.q 22)])] .one
(.df (.bin .gtr 3) [(.q 27), (.i 512)] .one
(.br 28 []
(.ret (.t [(.k (.slice none 0 0)), (.i 2)]) (List.replicate 10 none) [])
(.df (.rlen 19) [(.cat [(.q 22)])] .one
(.df (.bin .add 3) [(.q 2), (.q 29)] .one
(.df (.bin .sub 3) [(.q 30), (.i 1)] .one
(.df (.bin .gtr 3) [(.q 31), (.i 1048576)] .one
(.br 32 []
(.ret (.t [(.k (.slice none 0 0)), (.i 2)]) (List.replicate 10 none) [])
(.df (.rlen 19) [(.cat [(.q 22)])] .one
(.loop [(.i 0), (.cat [(.q 22)])] [.one, .any]
(.df (.bin .lss 3) [(.q 34), (.q 33)] .one
(.br 36 []
(.df (.bin .add 3) [(.q 2), (.q 34)] .one
(.df (.callq 48 [(.ext 1)]) [(.q 3)] .one
(.df (.rbnd 19) [(.cat [(.q 35)]), (.q 34)] .one
(.df (.rbnd 19) [(.cat [(.q 35)]), (.q 34)] .one
(.df (.rset 19 0) [(.cat [(.q 35)]), (.q 34), (.q 37)] .any
(.df (.rbnd 19) [(.cat [(.q 35)]), (.q 34)] .one
(.df (.rbnd 19) [(.cat [(.q 35)]), (.q 34)] .one
(.df (.rset 19 18) [(.cat [(.q 41)]), (.q 34), (.q 38)] .any
(.df (.bin .add 3) [(.q 34), (.i 1)] .one
(.again 2 [(.q 45), (.cat [(.q 44)])]))))))))))
(.ret (.t [(.row 11), (.i 0)]) (List.replicate 11 none ++ [(some ⟨[(.q 35)], 29, (.row 19)⟩)]) [])))))))))))))))))))))))))
(.ret (.t [(.k (.slice none 0 0)), (.i 360)]) [none, none, none, none, none] []))))))))))))))))
def args_diff : List SX.V := [.x 0 [], .x 1 [], .x 2 [], .x 3 []]
set_option maxRecDepth 100000 in
theorem run_diff (nb : Nat) (K A : Value → Nat → List Value → Prop) : (SX.run (cxD4 nb K A) ⟨fun f => f != 48, [⟨30, 8, [(.s 28, .one), (.s 10, .one), (.s 8, .row 19 29)]⟩, ⟨30, 16, [(.s 0, .ext 14), (.s 1, .ext 14), (.s 8, .row 19 29)]⟩, ⟨57, 1, [(.s 9, .one), (.c 12 0, .row 19 29)]⟩, ⟨30, 30, [(.s 147, .one), (.s 8, .row 19 29)]⟩], 2, 100⟩ 100000 0 (SX.door 30 Try.f30 args_diff [.one, .one, .one, .one]) [.code (Try.f30.body.getD .skip), .top Try.f30]).strip = tree_diff := by kernel_rfl
set_option maxRecDepth 100000 in
set_option maxHeartbeats 4000000 in
theorem diff_any (a : List Sg) (A : Option Addr) (n c : Nat) (b : List Sg) (B : Option Addr) (m d : Nat) (first : Int) (needs : List Int) (D : Option Addr) (k e : Nat) (w : World) (hr : Rd w 14 A n (sgsL a)) (hn : n ≤ 9223372036854775807) (hc : n ≤ c) (hr2 : Rd w 14 B m (sgsL b)) (hn2 : m ≤ 9223372036854775807) (hc2 : m ≤ d) (hr3 : Rd w 1 D k (intsL needs)) (hn3 : k ≤ 9223372036854775807) (hc3 : k ≤ e) : Calls Try.prog 30 #[.slice A n c, .slice B m d, .int .i64 first, .slice D k e] w fun e w' => Below w.heap.size w w' ∧ ∃ hdr hs, e = .returned (.tuple #[hdr, .int .i64 (diffR a b first needs).2]) ∧ hs.length = (diffR a b first needs).1.length ∧ SX.SlRet w w' [] hdr 19 (phL ((diffR a b first needs).1.zip hs)) ∧ ∀ h ∈ hs, SX.SlRet w w' [] (Hd.v h) 1 (intsL needs) := by
  refine SX.calls_of_run (C := cxD4 w.heap.size (KDf A n c a B m d b D k e needs) (KDf A n c a B m d b D k e needs)) (G := ⟨fun f => f != 48, [⟨30, 8, [(.s 28, .one), (.s 10, .one), (.s 8, .row 19 29)]⟩, ⟨30, 16, [(.s 0, .ext 14), (.s 1, .ext 14), (.s 8, .row 19 29)]⟩, ⟨57, 1, [(.s 9, .one), (.c 12 0, .row 19 29)]⟩, ⟨30, 30, [(.s 147, .one), (.s 8, .row 19 29)]⟩], 2, 100⟩) (args := args_diff) (sh := [.one, .one, .one, .one]) (ρ := [.slice A n c, .slice B m d, .int .i64 first, .slice D k e]) 100000 tree_diff (okD4 w.heap.size _ _) Try.func30 rfl (run_diff _ _ _) (by kernel_rfl) (by kernel_rfl) (by kernel_rfl) ?_ ?_ (hN := ⟨rfl, Nat.le_refl _⟩)
  · rintro W hW s sz cells (⟨rfl, rfl, rfl⟩ | ⟨rfl, rfl, rfl⟩ | ⟨rfl, rfl, rfl⟩)
    · exact ⟨hr.same0 hW, hc⟩
    · exact ⟨hr2.same0 hW, hc2⟩
    exact ⟨hr3.same0 hW, hc3⟩
  have hA := SX.rd_some hr
  have hln : a.length = n := by have := hr.1; rw [sgsL_len] at this; omega
  have hB := SX.rd_some hr2
  have hlm : b.length = m := by have := hr2.1; rw [sgsL_len] at this; omega
  have hD := SX.rd_some hr3
  have hlk : needs.length = k := by have := hr3.1; rw [intsL_len] at this; omega
  unfold tree_diff
  refine SX.E (.int .i64 ((chkS a))) (fun α => ⟨[⟨.slice A n c, 14, sgsL a⟩], ⟨by kernel_rfl, by kernel_rfl, .inl ⟨rfl, rfl, rfl⟩, trivial⟩, ⟨rfl, _, a, rfl, by omega, rfl⟩, SX.noAli rfl⟩) ?_
  refine SX.E (.int .i64 ((chkS b))) (fun α => ⟨[⟨.slice B m d, 14, sgsL b⟩], ⟨by kernel_rfl, by kernel_rfl, .inr (.inl ⟨rfl, rfl, rfl⟩), trivial⟩, ⟨rfl, _, b, rfl, by omega, rfl⟩, SX.noAli rfl⟩) ?_
  refine SX.D (.bool (((chkS a) : Int) != 0)) ?_
  refine SX.B (((chkS a) : Int) != 0) (fun h6 => ?_) (fun h6 => ?_)
  · try simp only [NRM] at h6
    refine SX.D (.bool (((chkS a) : Int) != 0)) ?_
    refine SX.B (((chkS a) : Int) != 0) (fun h7 => ?_) (fun h7 => absurd (by assumption) (show ¬ (((chkS a) : Int) ≠ 0) by simpa using h7))
    have hq : diffR a b first needs = ([], chkS a) := diffR_a (by simpa using h6)
    exact SX.VC_ret fun α W _ hrow hS => ⟨hS.below, .slice none 0 0, [], Eq.trans (b := Ending.returned (.tuple #[.slice none 0 0, .int .i64 (chkS a)])) (by kernel_rfl) (by rw [hq]), by rw [hq]; rfl, by rw [hq]; exact SX.SlRet.nil, fun h hh => nomatch hh⟩
  try simp only [NRM] at h6
  refine SX.D (.bool (((chkS b) : Int) != 0)) ?_
  refine SX.B (((chkS b) : Int) != 0) (fun h7 => ?_) (fun h7 => ?_)
  · try simp only [NRM] at h7
    refine SX.D (.bool (((chkS b) : Int) != 0)) ?_
    refine SX.B (((chkS b) : Int) != 0) (fun h8 => ?_) (fun h8 => absurd (by assumption) (show ¬ (((chkS b) : Int) ≠ 0) by simpa using h8))
    have hq : diffR a b first needs = ([], chkS b) := diffR_b (by simpa using h6) (by simpa using h7)
    exact SX.VC_ret fun α W _ hrow hS => ⟨hS.below, .slice none 0 0, [], Eq.trans (b := Ending.returned (.tuple #[.slice none 0 0, .int .i64 (chkS b)])) (by kernel_rfl) (by rw [hq]), by rw [hq]; rfl, by rw [hq]; exact SX.SlRet.nil, fun h hh => nomatch hh⟩
  try simp only [NRM] at h7
  refine SX.D (.int .i64 (((k : Nat) : Int))) ?_
  refine SX.D (.bool (decide (((k : Nat) : Int) > 32))) ?_
  refine SX.B (decide (((k : Nat) : Int) > 32)) (fun h9 => ?_) (fun h9 => ?_)
  · try simp only [NRM] at h9
    have hq : diffR a b first needs = ([], 2) := diffR_n (by simpa using h6) (by simpa using h7) (by (try simp at h9); omega)
    exact SX.VC_ret fun α W _ hrow hS => ⟨hS.below, .slice none 0 0, [], Eq.trans (b := Ending.returned (.tuple #[.slice none 0 0, .int .i64 (2)])) (by kernel_rfl) (by rw [hq]), by rw [hq]; rfl, by rw [hq]; exact SX.SlRet.nil, fun h hh => nomatch hh⟩
  try simp only [NRM] at h9
  refine SX.D (.int .i64 (((k : Nat) : Int))) ?_
  refine SX.VC_loop (fun xs => ∃ (i : Nat) (last : Int), xs = [.int .i64 (i : Int), .int .i64 last, .agg (phL (nilL [])).toArray] ∧ i ≤ k ∧ incrTo needs 1 (first - 1) i ∧ (i = 0 → last = 0) ∧ (∀ z, 0 < i → needs[i - 1]? = some z → last = z) ∧ 0 ≤ last) (fun xs => match xs with | .int _ i :: _ => k - i.toNat | _ => 0) (fun α => ⟨0, 0, by kernel_rfl, by omega, incrTo_zero, fun _ => rfl, fun z h => absurd h (by omega), by omega⟩) ?_
  rintro xs - ⟨i, last, rfl, hik, hok, hl0, hlz, hlp⟩
  refine SX.D (.bool (decide (((i : Nat) : Int) < ((k : Nat) : Int)))) ?_
  refine SX.B (decide (((i : Nat) : Int) < ((k : Nat) : Int))) (fun h14 => ?_) (fun h14 => ?_)
  · try simp only [NRM] at h14
    obtain ⟨y, hy⟩ : ∃ y, needs[i]? = some y := ⟨_, List.getElem?_eq_getElem (by omega)⟩
    refine SX.E (.bool true) (fun α => SX.extBnd (A := D) (n := k) (c := e) (j := i) hD (by kernel_rfl) (by kernel_rfl) (by omega)) ?_
    refine SX.E (.int .i64 y) (fun α => SX.extElem (o := 0) (v := .int .i64 y) (f := cellsI) (l := needs) (A := D) (n := k) (c := e) (j := i) (z := y) (fun _ => rfl) hD (by kernel_rfl) (by kernel_rfl) (by omega) (.inr (.inr ⟨rfl, rfl, rfl⟩)) hy (by decide) (by kernel_rfl)) ?_
    refine SX.D (.bool (decide (y ≤ last))) ?_
    refine SX.B (decide (y ≤ last)) (fun h17 => ?_) (fun h17 => ?_)
    · try simp only [NRM] at h17
      have hq : diffR a b first needs = ([], 360) := diffR_i (by simpa using h6) (by simpa using h7) (by (try simp at h9); omega) (fun hk => incrTo_no hy (fun hj => by
          rcases Nat.eq_zero_or_pos i with h0 | h0
          · have := hl0 h0; omega
          obtain ⟨z, hz⟩ : ∃ z, needs[i - 1]? = some z := ⟨_, List.getElem?_eq_getElem (by omega)⟩
          have q1 := hlz z h0 hz
          have q2 := hj.2.2 z h0 hz
          omega) hk.2)
      exact SX.VC_ret fun α W _ hrow hS => ⟨hS.below, .slice none 0 0, [], Eq.trans (b := Ending.returned (.tuple #[.slice none 0 0, .int .i64 (360)])) (by kernel_rfl) (by rw [hq]), by rw [hq]; rfl, by rw [hq]; exact SX.SlRet.nil, fun h hh => nomatch hh⟩
    try simp only [NRM] at h17
    refine SX.D (.bool (decide (y ≥ first))) ?_
    refine SX.B (decide (y ≥ first)) (fun h18 => ?_) (fun h18 => ?_)
    · try simp only [NRM] at h18
      have hq : diffR a b first needs = ([], 360) := diffR_i (by simpa using h6) (by simpa using h7) (by (try simp at h9); omega) (fun hk => incrTo_no hy (fun hj => by omega) hk.2)
      exact SX.VC_ret fun α W _ hrow hS => ⟨hS.below, .slice none 0 0, [], Eq.trans (b := Ending.returned (.tuple #[.slice none 0 0, .int .i64 (360)])) (by kernel_rfl) (by rw [hq]), by rw [hq]; rfl, by rw [hq]; exact SX.SlRet.nil, fun h hh => nomatch hh⟩
    try simp only [NRM] at h18
    refine SX.E (.int .i64 (((i + 1 : Nat) : Int))) (fun α => SX.W1 i) ?_
    exact SX.VC_again fun α => ⟨⟨i + 1, y, by kernel_rfl, by omega, incrTo_succ hok hy (by omega) (by omega) (fun z h0 hz => by have := hlz z h0 hz; omega), fun h => absurd h (by omega), fun z _ hz => by rw [Nat.add_sub_cancel, hy] at hz; cases hz; rfl, by omega⟩, cast (by kernel_rfl) (show k - ((i + 1 : Nat) : Int).toNat < k - (i : Int).toNat by omega)⟩
  try simp only [NRM] at h14
  refine SX.D (.bool (decide (first ≥ 1))) ?_
  refine SX.B (decide (first ≥ 1)) (fun h15 => ?_) (fun h15 => ?_)
  · try simp only [NRM] at h15
    refine SX.D (.bool (decide (first ≤ 1048576))) ?_
    refine SX.D (.bool (!(decide (first ≤ 1048576)))) ?_
    refine SX.B (!(decide (first ≤ 1048576))) (fun h17 => ?_) (fun h17 => ?_)
    · try simp only [NRM] at h17
      have hq : diffR a b first needs = ([], 360) := diffR_i (by simpa using h6) (by simpa using h7) (by (try simp at h9); omega) (fun hk => by (try simp at h17); omega)
      exact SX.VC_ret fun α W _ hrow hS => ⟨hS.below, .slice none 0 0, [], Eq.trans (b := Ending.returned (.tuple #[.slice none 0 0, .int .i64 (360)])) (by kernel_rfl) (by rw [hq]), by rw [hq]; rfl, by rw [hq]; exact SX.SlRet.nil, fun h hh => nomatch hh⟩
    try simp only [NRM] at h17
    refine SX.VC_df (.agg ((a).flatMap cellsSg).toArray) (fun α => ⟨sgsL a, ⟨A, n, c, by kernel_rfl, hc⟩, .inl ⟨rfl, rfl, rfl⟩, .inl ⟨rfl, rfl, rfl⟩, rfl⟩) (rfl) ?_
    refine SX.VC_df (.agg ((b).flatMap cellsSg).toArray) (fun α => ⟨sgsL b, ⟨B, m, d, by kernel_rfl, hc2⟩, .inr (.inl ⟨rfl, rfl, rfl⟩), .inr (.inl ⟨rfl, rfl, rfl⟩), rfl⟩) (rfl) ?_
    have hla : a.length ≤ 4096 ∧ b.length ≤ 4096 := ⟨(chkS_ok (by simpa using h6)).2, (chkS_ok (by simpa using h7)).2⟩
    have h9n : needs.length ≤ 32 := by (try simp at h9); omega
    have hfs : (1 ≤ first ∧ first ≤ 1048576) ∧ incr needs 1 (first - 1) := ⟨⟨by omega, by (try simp at h17); omega⟩, by have e : i = needs.length := (by omega); subst e; exact hok⟩
    have hD0 := diffR_m (a := a) (b := b) (by simpa using h6) (by simpa using h7) (by omega) hfs
    refine SX.VC_loop (fun xs => ∃ (a1 b1 : List Sg) (acc : List Pt), xs = [.agg (sgsL a1).toArray, .agg (sgsL b1).toArray, .agg (phL (nilL acc)).toArray] ∧ mrg a b = (mrg a1 b1).map (acc ++ ·) ∧ acc.length + 9 * (a1.length + b1.length) ≤ 73728) (fun xs => match xs with | .agg p :: .agg q :: _ => p.size + q.size | _ => 0) (fun α => ⟨a, b, [], Eq.trans (b := [.agg ([Value.agg (sgsL a).toArray].flatMap SX.cellsV).toArray, .agg ([Value.agg (sgsL b).toArray].flatMap SX.cellsV).toArray, .agg ([Value.agg (phL (nilL [])).toArray].flatMap SX.cellsV).toArray]) (by kernel_rfl) (by simp [SX.cellsV]), by simp, by simp; omega⟩) ?_
    rintro xs - ⟨a1, b1, acc, rfl, hm, hlen⟩
    have hnl : (nilL acc).length = acc.length := by simp [nilL]
    refine SX.E (.int .i64 ((((a1).length : Nat) : Int))) (fun α => SX.rlenD (f := cellsSg) (l := a1) (fun _ => rfl) (by decide) (SX.cat1 (by kernel_rfl))) ?_
    refine SX.D (.bool (decide ((((a1).length : Nat) : Int) > 0))) ?_
    refine SX.B (decide ((((a1).length : Nat) : Int) > 0)) (fun h24 => ?_) (fun h24 => ?_)
    · try simp only [NRM] at h24
      refine SX.E (.int .i64 ((((b1).length : Nat) : Int))) (fun α => SX.rlenD (f := cellsSg) (l := b1) (fun _ => rfl) (by decide) (SX.cat1 (by kernel_rfl))) ?_
      refine SX.D (.bool (((((b1).length : Nat) : Int) : Int) == 0)) ?_
      refine SX.B (((((b1).length : Nat) : Int) : Int) == 0) (fun h26 => ?_) (fun h26 => ?_)
      · try simp only [NRM] at h26
        obtain ⟨x, hx⟩ : ∃ x, a1[0]? = some x := ⟨_, List.getElem?_eq_getElem (by omega)⟩
        have hid : ∀ y, b1[0]? = some y → x.id < y.id := fun y hy => (no_head (by have : ((b1.length : Nat) : Int) = 0 := (by simpa using h26); omega) hy).elim
        refine SX.E (.bool true) (fun α => SX.row_bnd (f := cellsSg) (l := a1) (k := 0) (fun _ => rfl) (by decide) (SX.cat1 (by kernel_rfl)) (by kernel_rfl) ((List.getElem?_eq_some_iff.1 hx).1)) ?_
        refine SX.E (.bool true) (fun α => SX.row_bnd (f := cellsSg) (l := a1) (k := 0) (fun _ => rfl) (by decide) (SX.cat1 (by kernel_rfl)) (by kernel_rfl) ((List.getElem?_eq_some_iff.1 hx).1)) ?_
        refine SX.E (.int .i64 x.id) (fun α => SX.relemD (f := cellsSg) (l := a1) (k := 0) (z := x) (v := .int .i64 x.id) (fun _ => rfl) (by decide) (SX.cat1 (by kernel_rfl)) (by kernel_rfl) hx rfl) ?_
        refine SX.VC_df (Value.agg (phL [nilP (remP x)]).toArray) (fun α => SX.app_rel (f := cellsH) (l1 := nilL acc) (l2 := [nilP (remP x)]) (fun _ => rfl) cellsH_one (by decide) (SX.cat1 (by kernel_rfl)) (SX.src_own (by kernel_rfl)) (by simp only [nilL, List.length_map, List.length_cons, List.length_nil]; omega) (by simp only [nilL, List.length_map, List.length_cons, List.length_nil]; omega)) (rfl) ?_
        refine SX.VC_df (.agg (((a1).drop 1).flatMap cellsSg).toArray) (fun α => SX.slcxD (f := cellsSg) (l := a1) (k := 1) (fun _ => rfl) (by decide) (SX.cat1 (by kernel_rfl)) (by kernel_rfl) (by have := (List.getElem?_eq_some_iff.1 hx).1; omega)) (rfl) ?_
        exact SX.VC_again fun α => ⟨⟨(a1).drop 1, b1, acc ++ [remP x], Eq.trans (b := [.agg ([Value.agg (sgsL ((a1).drop 1)).toArray].flatMap SX.cellsV).toArray, .agg ([Value.agg (sgsL (b1)).toArray].flatMap SX.cellsV).toArray, .agg ([Value.agg (phL (nilL acc)).toArray, Value.agg (phL [nilP (remP x)]).toArray].flatMap SX.cellsV).toArray]) (by kernel_rfl) (by simp [SX.cellsV, nilL_app, phL_app, nilL]), mrg_step hm (mrg_rmD hx hid), by have q1 := (List.getElem?_eq_some_iff.1 hx).1; simp only [LL]; omega⟩, cast (by kernel_rfl) (show ([Value.agg (sgsL ((a1).drop 1)).toArray].flatMap SX.cellsV).toArray.size + ([Value.agg (sgsL (b1)).toArray].flatMap SX.cellsV).toArray.size < (sgsL a1).toArray.size + (sgsL b1).toArray.size from by have q1 := (List.getElem?_eq_some_iff.1 hx).1; simp only [List.flatMap_cons, List.flatMap_nil, List.append_nil, SX.cellsV, List.toList_toArray, List.size_toArray, sgsL_len, List.length_drop]; omega)⟩
      try simp only [NRM] at h26
      refine SX.E (.int .i64 ((((a1).length : Nat) : Int))) (fun α => SX.rlenD (f := cellsSg) (l := a1) (fun _ => rfl) (by decide) (SX.cat1 (by kernel_rfl))) ?_
      refine SX.D (.bool (decide ((((a1).length : Nat) : Int) > 0))) ?_
      refine SX.B (decide ((((a1).length : Nat) : Int) > 0)) (fun h28 => ?_) (fun h28 => absurd (show (((a1).length : Nat) : Int) > 0 by omega) (of_decide_eq_false h28))
      obtain ⟨x, hx⟩ : ∃ x, a1[0]? = some x := ⟨_, List.getElem?_eq_getElem (by omega)⟩
      obtain ⟨y, hy⟩ : ∃ y, b1[0]? = some y := ⟨_, List.getElem?_eq_getElem (by have : ¬ ((b1.length : Nat) : Int) = 0 := (by simpa using h26); omega)⟩
      refine SX.E (.bool true) (fun α => SX.row_bnd (f := cellsSg) (l := a1) (k := 0) (fun _ => rfl) (by decide) (SX.cat1 (by kernel_rfl)) (by kernel_rfl) ((List.getElem?_eq_some_iff.1 hx).1)) ?_
      refine SX.E (.bool true) (fun α => SX.row_bnd (f := cellsSg) (l := a1) (k := 0) (fun _ => rfl) (by decide) (SX.cat1 (by kernel_rfl)) (by kernel_rfl) ((List.getElem?_eq_some_iff.1 hx).1)) ?_
      refine SX.E (.int .i64 x.id) (fun α => SX.relemD (f := cellsSg) (l := a1) (k := 0) (z := x) (v := .int .i64 x.id) (fun _ => rfl) (by decide) (SX.cat1 (by kernel_rfl)) (by kernel_rfl) hx rfl) ?_
      refine SX.E (.bool true) (fun α => SX.row_bnd (f := cellsSg) (l := b1) (k := 0) (fun _ => rfl) (by decide) (SX.cat1 (by kernel_rfl)) (by kernel_rfl) ((List.getElem?_eq_some_iff.1 hy).1)) ?_
      refine SX.E (.bool true) (fun α => SX.row_bnd (f := cellsSg) (l := b1) (k := 0) (fun _ => rfl) (by decide) (SX.cat1 (by kernel_rfl)) (by kernel_rfl) ((List.getElem?_eq_some_iff.1 hy).1)) ?_
      refine SX.E (.int .i64 y.id) (fun α => SX.relemD (f := cellsSg) (l := b1) (k := 0) (z := y) (v := .int .i64 y.id) (fun _ => rfl) (by decide) (SX.cat1 (by kernel_rfl)) (by kernel_rfl) hy rfl) ?_
      refine SX.D (.bool (decide (x.id < y.id))) ?_
      refine SX.B (decide (x.id < y.id)) (fun h35 => ?_) (fun h35 => ?_)
      · try simp only [NRM] at h35
        have hid : ∀ z, b1[0]? = some z → x.id < z.id := fun z hz => by rw [hy] at hz; cases hz; omega
        refine SX.E (.bool true) (fun α => SX.row_bnd (f := cellsSg) (l := a1) (k := 0) (fun _ => rfl) (by decide) (SX.cat1 (by kernel_rfl)) (by kernel_rfl) ((List.getElem?_eq_some_iff.1 hx).1)) ?_
        refine SX.E (.bool true) (fun α => SX.row_bnd (f := cellsSg) (l := a1) (k := 0) (fun _ => rfl) (by decide) (SX.cat1 (by kernel_rfl)) (by kernel_rfl) ((List.getElem?_eq_some_iff.1 hx).1)) ?_
        refine SX.E (.int .i64 x.id) (fun α => SX.relemD (f := cellsSg) (l := a1) (k := 0) (z := x) (v := .int .i64 x.id) (fun _ => rfl) (by decide) (SX.cat1 (by kernel_rfl)) (by kernel_rfl) hx rfl) ?_
        refine SX.VC_df (Value.agg (phL [nilP (remP x)]).toArray) (fun α => SX.app_rel (f := cellsH) (l1 := nilL acc) (l2 := [nilP (remP x)]) (fun _ => rfl) cellsH_one (by decide) (SX.cat1 (by kernel_rfl)) (SX.src_own (by kernel_rfl)) (by simp only [nilL, List.length_map, List.length_cons, List.length_nil]; omega) (by simp only [nilL, List.length_map, List.length_cons, List.length_nil]; omega)) (rfl) ?_
        refine SX.VC_df (.agg (((a1).drop 1).flatMap cellsSg).toArray) (fun α => SX.slcxD (f := cellsSg) (l := a1) (k := 1) (fun _ => rfl) (by decide) (SX.cat1 (by kernel_rfl)) (by kernel_rfl) (by have := (List.getElem?_eq_some_iff.1 hx).1; omega)) (rfl) ?_
        exact SX.VC_again fun α => ⟨⟨(a1).drop 1, b1, acc ++ [remP x], Eq.trans (b := [.agg ([Value.agg (sgsL ((a1).drop 1)).toArray].flatMap SX.cellsV).toArray, .agg ([Value.agg (sgsL (b1)).toArray].flatMap SX.cellsV).toArray, .agg ([Value.agg (phL (nilL acc)).toArray, Value.agg (phL [nilP (remP x)]).toArray].flatMap SX.cellsV).toArray]) (by kernel_rfl) (by simp [SX.cellsV, nilL_app, phL_app, nilL]), mrg_step hm (mrg_rmD hx hid), by have q1 := (List.getElem?_eq_some_iff.1 hx).1; simp only [LL]; omega⟩, cast (by kernel_rfl) (show ([Value.agg (sgsL ((a1).drop 1)).toArray].flatMap SX.cellsV).toArray.size + ([Value.agg (sgsL (b1)).toArray].flatMap SX.cellsV).toArray.size < (sgsL a1).toArray.size + (sgsL b1).toArray.size from by have q1 := (List.getElem?_eq_some_iff.1 hx).1; simp only [List.flatMap_cons, List.flatMap_nil, List.append_nil, SX.cellsV, List.toList_toArray, List.size_toArray, sgsL_len, List.length_drop]; omega)⟩
      try simp only [NRM] at h35
      refine SX.E (.int .i64 ((((a1).length : Nat) : Int))) (fun α => SX.rlenD (f := cellsSg) (l := a1) (fun _ => rfl) (by decide) (SX.cat1 (by kernel_rfl))) ?_
      refine SX.D (.bool (((((a1).length : Nat) : Int) : Int) == 0)) ?_
      refine SX.B (((((a1).length : Nat) : Int) : Int) == 0) (fun h37 => absurd (beq_iff_eq.1 h37) (by omega)) (fun h37 => ?_)
      refine SX.E (.bool true) (fun α => SX.row_bnd (f := cellsSg) (l := b1) (k := 0) (fun _ => rfl) (by decide) (SX.cat1 (by kernel_rfl)) (by kernel_rfl) ((List.getElem?_eq_some_iff.1 hy).1)) ?_
      refine SX.E (.bool true) (fun α => SX.row_bnd (f := cellsSg) (l := b1) (k := 0) (fun _ => rfl) (by decide) (SX.cat1 (by kernel_rfl)) (by kernel_rfl) ((List.getElem?_eq_some_iff.1 hy).1)) ?_
      refine SX.E (.int .i64 y.id) (fun α => SX.relemD (f := cellsSg) (l := b1) (k := 0) (z := y) (v := .int .i64 y.id) (fun _ => rfl) (by decide) (SX.cat1 (by kernel_rfl)) (by kernel_rfl) hy rfl) ?_
      refine SX.E (.bool true) (fun α => SX.row_bnd (f := cellsSg) (l := a1) (k := 0) (fun _ => rfl) (by decide) (SX.cat1 (by kernel_rfl)) (by kernel_rfl) ((List.getElem?_eq_some_iff.1 hx).1)) ?_
      refine SX.E (.bool true) (fun α => SX.row_bnd (f := cellsSg) (l := a1) (k := 0) (fun _ => rfl) (by decide) (SX.cat1 (by kernel_rfl)) (by kernel_rfl) ((List.getElem?_eq_some_iff.1 hx).1)) ?_
      refine SX.E (.int .i64 x.id) (fun α => SX.relemD (f := cellsSg) (l := a1) (k := 0) (z := x) (v := .int .i64 x.id) (fun _ => rfl) (by decide) (SX.cat1 (by kernel_rfl)) (by kernel_rfl) hx rfl) ?_
      refine SX.D (.bool (decide (y.id < x.id))) ?_
      refine SX.B (decide (y.id < x.id)) (fun h44 => ?_) (fun h44 => ?_)
      · try simp only [NRM] at h44
        have hid : ∀ z, a1[0]? = some z → y.id < z.id := fun z hz => by rw [hx] at hz; cases hz; omega
        refine SX.E (.bool true) (fun α => SX.row_bnd (f := cellsSg) (l := b1) (k := 0) (fun _ => rfl) (by decide) (SX.cat1 (by kernel_rfl)) (by kernel_rfl) ((List.getElem?_eq_some_iff.1 hy).1)) ?_
        refine SX.E (.bool true) (fun α => SX.row_bnd (f := cellsSg) (l := b1) (k := 0) (fun _ => rfl) (by decide) (SX.cat1 (by kernel_rfl)) (by kernel_rfl) ((List.getElem?_eq_some_iff.1 hy).1)) ?_
        refine SX.E (.int .i64 y.id) (fun α => SX.relemD (f := cellsSg) (l := b1) (k := 0) (z := y) (v := .int .i64 y.id) (fun _ => rfl) (by decide) (SX.cat1 (by kernel_rfl)) (by kernel_rfl) hy rfl) ?_
        refine SX.E (.bool true) (fun α => SX.row_bnd (f := cellsSg) (l := b1) (k := 0) (fun _ => rfl) (by decide) (SX.cat1 (by kernel_rfl)) (by kernel_rfl) ((List.getElem?_eq_some_iff.1 hy).1)) ?_
        refine SX.E (.agg (cellsSg y).toArray) (fun α => SX.row_elems (f := cellsSg) (l := b1) (k := 0) (z := y) (fun _ => rfl) (by decide) (SX.cat1 (by kernel_rfl)) (by kernel_rfl) hy) ?_
        refine SX.VC_df (Value.agg (phL [nilP (insP y)]).toArray) (fun α => SX.app_rel (f := cellsH) (l1 := nilL acc) (l2 := [nilP (insP y)]) (fun _ => rfl) cellsH_one (by decide) (SX.cat1 (by kernel_rfl)) (SX.src_own (by kernel_rfl)) (by simp only [nilL, List.length_map, List.length_cons, List.length_nil]; omega) (by simp only [nilL, List.length_map, List.length_cons, List.length_nil]; omega)) (rfl) ?_
        refine SX.VC_df (.agg (((b1).drop 1).flatMap cellsSg).toArray) (fun α => SX.slcxD (f := cellsSg) (l := b1) (k := 1) (fun _ => rfl) (by decide) (SX.cat1 (by kernel_rfl)) (by kernel_rfl) (by have := (List.getElem?_eq_some_iff.1 hy).1; omega)) (rfl) ?_
        exact SX.VC_again fun α => ⟨⟨a1, (b1).drop 1, acc ++ [insP y], Eq.trans (b := [.agg ([Value.agg (sgsL (a1)).toArray].flatMap SX.cellsV).toArray, .agg ([Value.agg (sgsL ((b1).drop 1)).toArray].flatMap SX.cellsV).toArray, .agg ([Value.agg (phL (nilL acc)).toArray, Value.agg (phL [nilP (insP y)]).toArray].flatMap SX.cellsV).toArray]) (by kernel_rfl) (by simp [SX.cellsV, nilL_app, phL_app, nilL]), mrg_step hm (mrg_inD hy hid), by have q2 := (List.getElem?_eq_some_iff.1 hy).1; simp only [LL]; omega⟩, cast (by kernel_rfl) (show ([Value.agg (sgsL (a1)).toArray].flatMap SX.cellsV).toArray.size + ([Value.agg (sgsL ((b1).drop 1)).toArray].flatMap SX.cellsV).toArray.size < (sgsL a1).toArray.size + (sgsL b1).toArray.size from by have q2 := (List.getElem?_eq_some_iff.1 hy).1; simp only [List.flatMap_cons, List.flatMap_nil, List.append_nil, SX.cellsV, List.toList_toArray, List.size_toArray, sgsL_len, List.length_drop]; omega)⟩
      try simp only [NRM] at h44
      have hid : x.id = y.id := by omega
      refine SX.E (.bool true) (fun α => SX.row_bnd (f := cellsSg) (l := a1) (k := 0) (fun _ => rfl) (by decide) (SX.cat1 (by kernel_rfl)) (by kernel_rfl) ((List.getElem?_eq_some_iff.1 hx).1)) ?_
      refine SX.E (.bool true) (fun α => SX.row_bnd (f := cellsSg) (l := a1) (k := 0) (fun _ => rfl) (by decide) (SX.cat1 (by kernel_rfl)) (by kernel_rfl) ((List.getElem?_eq_some_iff.1 hx).1)) ?_
      refine SX.E (.int .i64 x.kind) (fun α => SX.relemD (f := cellsSg) (l := a1) (k := 0) (z := x) (v := .int .i64 x.kind) (fun _ => rfl) (by decide) (SX.cat1 (by kernel_rfl)) (by kernel_rfl) hx rfl) ?_
      refine SX.E (.bool true) (fun α => SX.row_bnd (f := cellsSg) (l := b1) (k := 0) (fun _ => rfl) (by decide) (SX.cat1 (by kernel_rfl)) (by kernel_rfl) ((List.getElem?_eq_some_iff.1 hy).1)) ?_
      refine SX.E (.bool true) (fun α => SX.row_bnd (f := cellsSg) (l := b1) (k := 0) (fun _ => rfl) (by decide) (SX.cat1 (by kernel_rfl)) (by kernel_rfl) ((List.getElem?_eq_some_iff.1 hy).1)) ?_
      refine SX.E (.int .i64 y.kind) (fun α => SX.relemD (f := cellsSg) (l := b1) (k := 0) (z := y) (v := .int .i64 y.kind) (fun _ => rfl) (by decide) (SX.cat1 (by kernel_rfl)) (by kernel_rfl) hy rfl) ?_
      refine SX.D (.bool ((x.kind : Int) != y.kind)) ?_
      refine SX.B ((x.kind : Int) != y.kind) (fun h51 => ?_) (fun h51 => ?_)
      · try simp only [NRM] at h51
        have hq : diffR a b first needs = ([], 360) := by
          rw [hD0, hm, mrg_noD hx hy hid (by simpa using h51)]; rfl
        exact SX.VC_ret fun α W _ hrow hS => ⟨hS.below, .slice none 0 0, [], Eq.trans (b := Ending.returned (.tuple #[.slice none 0 0, .int .i64 (360)])) (by kernel_rfl) (by rw [hq]), by rw [hq]; rfl, by rw [hq]; exact SX.SlRet.nil, fun h hh => nomatch hh⟩
      try simp only [NRM] at h51
      have hkd : x.kind = y.kind := by simpa using h51
      refine SX.E (.bool true) (fun α => SX.row_bnd (f := cellsSg) (l := a1) (k := 0) (fun _ => rfl) (by decide) (SX.cat1 (by kernel_rfl)) (by kernel_rfl) ((List.getElem?_eq_some_iff.1 hx).1)) ?_
      refine SX.E (.agg (cellsSg x).toArray) (fun α => SX.row_elems (f := cellsSg) (l := a1) (k := 0) (z := x) (fun _ => rfl) (by decide) (SX.cat1 (by kernel_rfl)) (by kernel_rfl) hx) ?_
      refine SX.E (.bool true) (fun α => SX.row_bnd (f := cellsSg) (l := b1) (k := 0) (fun _ => rfl) (by decide) (SX.cat1 (by kernel_rfl)) (by kernel_rfl) ((List.getElem?_eq_some_iff.1 hy).1)) ?_
      refine SX.E (.agg (cellsSg y).toArray) (fun α => SX.row_elems (f := cellsSg) (l := b1) (k := 0) (z := y) (fun _ => rfl) (by decide) (SX.cat1 (by kernel_rfl)) (by kernel_rfl) hy) ?_
      refine SX.VC_loop (fun xs => ∃ k2 : Nat, xs = [.int .i64 (k2 : Int), .agg (phL (nilL (acc ++ chT x y k2))).toArray] ∧ k2 ≤ 8) (fun xs => match xs with | .int _ i :: _ => 8 - i.toNat | _ => 0) (fun α => ⟨0, Eq.trans (b := [.int .i64 0, .agg ([Value.agg (phL (nilL acc)).toArray].flatMap SX.cellsV).toArray]) (by kernel_rfl) (by simp [SX.cellsV, chT]), by omega⟩) ?_
      rintro xs - ⟨k2, rfl, hk2⟩
      refine SX.D (.bool (decide (((k2 : Nat) : Int) < 8))) ?_
      refine SX.B (decide (((k2 : Nat) : Int) < 8)) (fun h58 => ?_) (fun h58 => ?_)
      · try simp only [NRM] at h58
        refine SX.VC_sp k2 (by show k2 < 8; omega) (by kernel_rfl) fun t ht => ?_
        have hk3 : k2 = 0 ∨ k2 = 1 ∨ k2 = 2 ∨ k2 = 3 ∨ k2 = 4 ∨ k2 = 5 ∨ k2 = 6 ∨ k2 = 7 := by omega
        rcases hk3 with rfl | rfl | rfl | rfl | rfl | rfl | rfl | rfl
        · cases (Option.some.inj ht)
          refine SX.D (.bool ((x.role : Int) == y.role)) ?_
          refine SX.B ((x.role : Int) == y.role) (fun h59 => ?_) (fun h59 => ?_)
          · try simp only [NRM] at h59
            exact SX.VC_again fun α => ⟨⟨1, Eq.trans (b := [.int .i64 1, .agg ([Value.agg (phL (nilL (acc ++ chT x y 0))).toArray].flatMap SX.cellsV).toArray]) (by kernel_rfl) (by rw [show chT x y 1 = chT x y 0 from chT_same (k := 0) (by show setF zeroSg 1 x = setF zeroSg 1 y; simpa [setF, zeroSg] using h59)]; simp [SX.cellsV]), by omega⟩, cast (by kernel_rfl) (show 8 - (1 : Int).toNat < 8 - (0 : Int).toNat by decide)⟩
          try simp only [NRM] at h59
          refine SX.VC_df (Value.agg (phL [nilP ((⟨0, 1, x.id, 1, setF zeroSg 1 y, []⟩ : Pt))]).toArray) (fun α => SX.app_rel (f := cellsH) (l1 := nilL (acc ++ chT x y 0)) (l2 := [nilP ((⟨0, 1, x.id, 1, setF zeroSg 1 y, []⟩ : Pt))]) (fun _ => rfl) cellsH_one (by decide) (SX.cat1 (by kernel_rfl)) (SX.src_own (by kernel_rfl)) (by have := chT_len x y 8; have := chT_len x y 0; simp only [nilL, List.length_map, List.length_append, List.length_cons, List.length_nil]; omega) (by have := chT_len x y 8; have := chT_len x y 0; simp only [nilL, List.length_map, List.length_append, List.length_cons, List.length_nil]; omega)) (rfl) ?_
          exact SX.VC_again fun α => ⟨⟨1, Eq.trans (b := [.int .i64 1, .agg ([Value.agg (phL (nilL (acc ++ chT x y 0))).toArray, Value.agg (phL [nilP (⟨0, 1, x.id, 1, setF zeroSg 1 y, []⟩ : Pt)]).toArray].flatMap SX.cellsV).toArray]) (by kernel_rfl) (by rw [show chT x y 1 = chT x y 0 ++ [(⟨0, 1, x.id, 1, setF zeroSg 1 y, []⟩ : Pt)] from chT_other (k := 0) (by show ¬ setF zeroSg 1 x = setF zeroSg 1 y; simpa [setF, zeroSg] using h59)]; simp [SX.cellsV, nilL_app, phL_app, nilL]), by omega⟩, cast (by kernel_rfl) (show 8 - (1 : Int).toNat < 8 - (0 : Int).toNat by decide)⟩
        · cases (Option.some.inj ht)
          refine SX.D (.bool ((x.bar : Int) == y.bar)) ?_
          refine SX.B ((x.bar : Int) == y.bar) (fun h59 => ?_) (fun h59 => ?_)
          · try simp only [NRM] at h59
            exact SX.VC_again fun α => ⟨⟨2, Eq.trans (b := [.int .i64 2, .agg ([Value.agg (phL (nilL (acc ++ chT x y 1))).toArray].flatMap SX.cellsV).toArray]) (by kernel_rfl) (by rw [show chT x y 2 = chT x y 1 from chT_same (k := 1) (by show setF zeroSg 2 x = setF zeroSg 2 y; simpa [setF, zeroSg] using h59)]; simp [SX.cellsV]), by omega⟩, cast (by kernel_rfl) (show 8 - (2 : Int).toNat < 8 - (1 : Int).toNat by decide)⟩
          try simp only [NRM] at h59
          refine SX.VC_df (Value.agg (phL [nilP ((⟨0, 1, x.id, 2, setF zeroSg 2 y, []⟩ : Pt))]).toArray) (fun α => SX.app_rel (f := cellsH) (l1 := nilL (acc ++ chT x y 1)) (l2 := [nilP ((⟨0, 1, x.id, 2, setF zeroSg 2 y, []⟩ : Pt))]) (fun _ => rfl) cellsH_one (by decide) (SX.cat1 (by kernel_rfl)) (SX.src_own (by kernel_rfl)) (by have := chT_len x y 8; have := chT_len x y 1; simp only [nilL, List.length_map, List.length_append, List.length_cons, List.length_nil]; omega) (by have := chT_len x y 8; have := chT_len x y 1; simp only [nilL, List.length_map, List.length_append, List.length_cons, List.length_nil]; omega)) (rfl) ?_
          exact SX.VC_again fun α => ⟨⟨2, Eq.trans (b := [.int .i64 2, .agg ([Value.agg (phL (nilL (acc ++ chT x y 1))).toArray, Value.agg (phL [nilP (⟨0, 1, x.id, 2, setF zeroSg 2 y, []⟩ : Pt)]).toArray].flatMap SX.cellsV).toArray]) (by kernel_rfl) (by rw [show chT x y 2 = chT x y 1 ++ [(⟨0, 1, x.id, 2, setF zeroSg 2 y, []⟩ : Pt)] from chT_other (k := 1) (by show ¬ setF zeroSg 2 x = setF zeroSg 2 y; simpa [setF, zeroSg] using h59)]; simp [SX.cellsV, nilL_app, phL_app, nilL]), by omega⟩, cast (by kernel_rfl) (show 8 - (2 : Int).toNat < 8 - (1 : Int).toNat by decide)⟩
        · cases (Option.some.inj ht)
          refine SX.D (.bool ((x.mark : Int) == y.mark)) ?_
          refine SX.B ((x.mark : Int) == y.mark) (fun h59 => ?_) (fun h59 => ?_)
          · try simp only [NRM] at h59
            exact SX.VC_again fun α => ⟨⟨3, Eq.trans (b := [.int .i64 3, .agg ([Value.agg (phL (nilL (acc ++ chT x y 2))).toArray].flatMap SX.cellsV).toArray]) (by kernel_rfl) (by rw [show chT x y 3 = chT x y 2 from chT_same (k := 2) (by show setF zeroSg 3 x = setF zeroSg 3 y; simpa [setF, zeroSg] using h59)]; simp [SX.cellsV]), by omega⟩, cast (by kernel_rfl) (show 8 - (3 : Int).toNat < 8 - (2 : Int).toNat by decide)⟩
          try simp only [NRM] at h59
          refine SX.VC_df (Value.agg (phL [nilP ((⟨0, 1, x.id, 3, setF zeroSg 3 y, []⟩ : Pt))]).toArray) (fun α => SX.app_rel (f := cellsH) (l1 := nilL (acc ++ chT x y 2)) (l2 := [nilP ((⟨0, 1, x.id, 3, setF zeroSg 3 y, []⟩ : Pt))]) (fun _ => rfl) cellsH_one (by decide) (SX.cat1 (by kernel_rfl)) (SX.src_own (by kernel_rfl)) (by have := chT_len x y 8; have := chT_len x y 2; simp only [nilL, List.length_map, List.length_append, List.length_cons, List.length_nil]; omega) (by have := chT_len x y 8; have := chT_len x y 2; simp only [nilL, List.length_map, List.length_append, List.length_cons, List.length_nil]; omega)) (rfl) ?_
          exact SX.VC_again fun α => ⟨⟨3, Eq.trans (b := [.int .i64 3, .agg ([Value.agg (phL (nilL (acc ++ chT x y 2))).toArray, Value.agg (phL [nilP (⟨0, 1, x.id, 3, setF zeroSg 3 y, []⟩ : Pt)]).toArray].flatMap SX.cellsV).toArray]) (by kernel_rfl) (by rw [show chT x y 3 = chT x y 2 ++ [(⟨0, 1, x.id, 3, setF zeroSg 3 y, []⟩ : Pt)] from chT_other (k := 2) (by show ¬ setF zeroSg 3 x = setF zeroSg 3 y; simpa [setF, zeroSg] using h59)]; simp [SX.cellsV, nilL_app, phL_app, nilL]), by omega⟩, cast (by kernel_rfl) (show 8 - (3 : Int).toNat < 8 - (2 : Int).toNat by decide)⟩
        · cases (Option.some.inj ht)
          refine SX.D (.bool ((x.side : Int) == y.side)) ?_
          refine SX.B ((x.side : Int) == y.side) (fun h59 => ?_) (fun h59 => ?_)
          · try simp only [NRM] at h59
            exact SX.VC_again fun α => ⟨⟨4, Eq.trans (b := [.int .i64 4, .agg ([Value.agg (phL (nilL (acc ++ chT x y 3))).toArray].flatMap SX.cellsV).toArray]) (by kernel_rfl) (by rw [show chT x y 4 = chT x y 3 from chT_same (k := 3) (by show setF zeroSg 4 x = setF zeroSg 4 y; simpa [setF, zeroSg] using h59)]; simp [SX.cellsV]), by omega⟩, cast (by kernel_rfl) (show 8 - (4 : Int).toNat < 8 - (3 : Int).toNat by decide)⟩
          try simp only [NRM] at h59
          refine SX.VC_df (Value.agg (phL [nilP ((⟨0, 1, x.id, 4, setF zeroSg 4 y, []⟩ : Pt))]).toArray) (fun α => SX.app_rel (f := cellsH) (l1 := nilL (acc ++ chT x y 3)) (l2 := [nilP ((⟨0, 1, x.id, 4, setF zeroSg 4 y, []⟩ : Pt))]) (fun _ => rfl) cellsH_one (by decide) (SX.cat1 (by kernel_rfl)) (SX.src_own (by kernel_rfl)) (by have := chT_len x y 8; have := chT_len x y 3; simp only [nilL, List.length_map, List.length_append, List.length_cons, List.length_nil]; omega) (by have := chT_len x y 8; have := chT_len x y 3; simp only [nilL, List.length_map, List.length_append, List.length_cons, List.length_nil]; omega)) (rfl) ?_
          exact SX.VC_again fun α => ⟨⟨4, Eq.trans (b := [.int .i64 4, .agg ([Value.agg (phL (nilL (acc ++ chT x y 3))).toArray, Value.agg (phL [nilP (⟨0, 1, x.id, 4, setF zeroSg 4 y, []⟩ : Pt)]).toArray].flatMap SX.cellsV).toArray]) (by kernel_rfl) (by rw [show chT x y 4 = chT x y 3 ++ [(⟨0, 1, x.id, 4, setF zeroSg 4 y, []⟩ : Pt)] from chT_other (k := 3) (by show ¬ setF zeroSg 4 x = setF zeroSg 4 y; simpa [setF, zeroSg] using h59)]; simp [SX.cellsV, nilL_app, phL_app, nilL]), by omega⟩, cast (by kernel_rfl) (show 8 - (4 : Int).toNat < 8 - (3 : Int).toNat by decide)⟩
        · cases (Option.some.inj ht)
          refine SX.D (.bool ((x.dir : Int) == y.dir)) ?_
          refine SX.B ((x.dir : Int) == y.dir) (fun h59 => ?_) (fun h59 => ?_)
          · try simp only [NRM] at h59
            exact SX.VC_again fun α => ⟨⟨5, Eq.trans (b := [.int .i64 5, .agg ([Value.agg (phL (nilL (acc ++ chT x y 4))).toArray].flatMap SX.cellsV).toArray]) (by kernel_rfl) (by rw [show chT x y 5 = chT x y 4 from chT_same (k := 4) (by show setF zeroSg 5 x = setF zeroSg 5 y; simpa [setF, zeroSg] using h59)]; simp [SX.cellsV]), by omega⟩, cast (by kernel_rfl) (show 8 - (5 : Int).toNat < 8 - (4 : Int).toNat by decide)⟩
          try simp only [NRM] at h59
          refine SX.VC_df (Value.agg (phL [nilP ((⟨0, 1, x.id, 5, setF zeroSg 5 y, []⟩ : Pt))]).toArray) (fun α => SX.app_rel (f := cellsH) (l1 := nilL (acc ++ chT x y 4)) (l2 := [nilP ((⟨0, 1, x.id, 5, setF zeroSg 5 y, []⟩ : Pt))]) (fun _ => rfl) cellsH_one (by decide) (SX.cat1 (by kernel_rfl)) (SX.src_own (by kernel_rfl)) (by have := chT_len x y 8; have := chT_len x y 4; simp only [nilL, List.length_map, List.length_append, List.length_cons, List.length_nil]; omega) (by have := chT_len x y 8; have := chT_len x y 4; simp only [nilL, List.length_map, List.length_append, List.length_cons, List.length_nil]; omega)) (rfl) ?_
          exact SX.VC_again fun α => ⟨⟨5, Eq.trans (b := [.int .i64 5, .agg ([Value.agg (phL (nilL (acc ++ chT x y 4))).toArray, Value.agg (phL [nilP (⟨0, 1, x.id, 5, setF zeroSg 5 y, []⟩ : Pt)]).toArray].flatMap SX.cellsV).toArray]) (by kernel_rfl) (by rw [show chT x y 5 = chT x y 4 ++ [(⟨0, 1, x.id, 5, setF zeroSg 5 y, []⟩ : Pt)] from chT_other (k := 4) (by show ¬ setF zeroSg 5 x = setF zeroSg 5 y; simpa [setF, zeroSg] using h59)]; simp [SX.cellsV, nilL_app, phL_app, nilL]), by omega⟩, cast (by kernel_rfl) (show 8 - (5 : Int).toNat < 8 - (4 : Int).toNat by decide)⟩
        · cases (Option.some.inj ht)
          refine SX.D (.bool ((x.level : Int) == y.level)) ?_
          refine SX.B ((x.level : Int) == y.level) (fun h59 => ?_) (fun h59 => ?_)
          · try simp only [NRM] at h59
            exact SX.VC_again fun α => ⟨⟨6, Eq.trans (b := [.int .i64 6, .agg ([Value.agg (phL (nilL (acc ++ chT x y 5))).toArray].flatMap SX.cellsV).toArray]) (by kernel_rfl) (by rw [show chT x y 6 = chT x y 5 from chT_same (k := 5) (by show setF zeroSg 6 x = setF zeroSg 6 y; simpa [setF, zeroSg] using h59)]; simp [SX.cellsV]), by omega⟩, cast (by kernel_rfl) (show 8 - (6 : Int).toNat < 8 - (5 : Int).toNat by decide)⟩
          try simp only [NRM] at h59
          refine SX.VC_df (Value.agg (phL [nilP ((⟨0, 1, x.id, 6, setF zeroSg 6 y, []⟩ : Pt))]).toArray) (fun α => SX.app_rel (f := cellsH) (l1 := nilL (acc ++ chT x y 5)) (l2 := [nilP ((⟨0, 1, x.id, 6, setF zeroSg 6 y, []⟩ : Pt))]) (fun _ => rfl) cellsH_one (by decide) (SX.cat1 (by kernel_rfl)) (SX.src_own (by kernel_rfl)) (by have := chT_len x y 8; have := chT_len x y 5; simp only [nilL, List.length_map, List.length_append, List.length_cons, List.length_nil]; omega) (by have := chT_len x y 8; have := chT_len x y 5; simp only [nilL, List.length_map, List.length_append, List.length_cons, List.length_nil]; omega)) (rfl) ?_
          exact SX.VC_again fun α => ⟨⟨6, Eq.trans (b := [.int .i64 6, .agg ([Value.agg (phL (nilL (acc ++ chT x y 5))).toArray, Value.agg (phL [nilP (⟨0, 1, x.id, 6, setF zeroSg 6 y, []⟩ : Pt)]).toArray].flatMap SX.cellsV).toArray]) (by kernel_rfl) (by rw [show chT x y 6 = chT x y 5 ++ [(⟨0, 1, x.id, 6, setF zeroSg 6 y, []⟩ : Pt)] from chT_other (k := 5) (by show ¬ setF zeroSg 6 x = setF zeroSg 6 y; simpa [setF, zeroSg] using h59)]; simp [SX.cellsV, nilL_app, phL_app, nilL]), by omega⟩, cast (by kernel_rfl) (show 8 - (6 : Int).toNat < 8 - (5 : Int).toNat by decide)⟩
        · cases (Option.some.inj ht)
          refine SX.D (.bool ((x.size : Int) == y.size)) ?_
          refine SX.B ((x.size : Int) == y.size) (fun h59 => ?_) (fun h59 => ?_)
          · try simp only [NRM] at h59
            exact SX.VC_again fun α => ⟨⟨7, Eq.trans (b := [.int .i64 7, .agg ([Value.agg (phL (nilL (acc ++ chT x y 6))).toArray].flatMap SX.cellsV).toArray]) (by kernel_rfl) (by rw [show chT x y 7 = chT x y 6 from chT_same (k := 6) (by show setF zeroSg 7 x = setF zeroSg 7 y; simpa [setF, zeroSg] using h59)]; simp [SX.cellsV]), by omega⟩, cast (by kernel_rfl) (show 8 - (7 : Int).toNat < 8 - (6 : Int).toNat by decide)⟩
          try simp only [NRM] at h59
          refine SX.VC_df (Value.agg (phL [nilP ((⟨0, 1, x.id, 7, setF zeroSg 7 y, []⟩ : Pt))]).toArray) (fun α => SX.app_rel (f := cellsH) (l1 := nilL (acc ++ chT x y 6)) (l2 := [nilP ((⟨0, 1, x.id, 7, setF zeroSg 7 y, []⟩ : Pt))]) (fun _ => rfl) cellsH_one (by decide) (SX.cat1 (by kernel_rfl)) (SX.src_own (by kernel_rfl)) (by have := chT_len x y 8; have := chT_len x y 6; simp only [nilL, List.length_map, List.length_append, List.length_cons, List.length_nil]; omega) (by have := chT_len x y 8; have := chT_len x y 6; simp only [nilL, List.length_map, List.length_append, List.length_cons, List.length_nil]; omega)) (rfl) ?_
          exact SX.VC_again fun α => ⟨⟨7, Eq.trans (b := [.int .i64 7, .agg ([Value.agg (phL (nilL (acc ++ chT x y 6))).toArray, Value.agg (phL [nilP (⟨0, 1, x.id, 7, setF zeroSg 7 y, []⟩ : Pt)]).toArray].flatMap SX.cellsV).toArray]) (by kernel_rfl) (by rw [show chT x y 7 = chT x y 6 ++ [(⟨0, 1, x.id, 7, setF zeroSg 7 y, []⟩ : Pt)] from chT_other (k := 6) (by show ¬ setF zeroSg 7 x = setF zeroSg 7 y; simpa [setF, zeroSg] using h59)]; simp [SX.cellsV, nilL_app, phL_app, nilL]), by omega⟩, cast (by kernel_rfl) (show 8 - (7 : Int).toNat < 8 - (6 : Int).toNat by decide)⟩
        cases (Option.some.inj ht)
        refine SX.D (.bool ((x.with_ : Int) == y.with_)) ?_
        refine SX.B ((x.with_ : Int) == y.with_) (fun h59 => ?_) (fun h59 => ?_)
        · try simp only [NRM] at h59
          exact SX.VC_again fun α => ⟨⟨8, Eq.trans (b := [.int .i64 8, .agg ([Value.agg (phL (nilL (acc ++ chT x y 7))).toArray].flatMap SX.cellsV).toArray]) (by kernel_rfl) (by rw [show chT x y 8 = chT x y 7 from chT_same (k := 7) (by show setF zeroSg 8 x = setF zeroSg 8 y; simpa [setF, zeroSg] using h59)]; simp [SX.cellsV]), by omega⟩, cast (by kernel_rfl) (show 8 - (8 : Int).toNat < 8 - (7 : Int).toNat by decide)⟩
        try simp only [NRM] at h59
        refine SX.VC_df (Value.agg (phL [nilP ((⟨0, 1, x.id, 8, setF zeroSg 8 y, []⟩ : Pt))]).toArray) (fun α => SX.app_rel (f := cellsH) (l1 := nilL (acc ++ chT x y 7)) (l2 := [nilP ((⟨0, 1, x.id, 8, setF zeroSg 8 y, []⟩ : Pt))]) (fun _ => rfl) cellsH_one (by decide) (SX.cat1 (by kernel_rfl)) (SX.src_own (by kernel_rfl)) (by have := chT_len x y 8; have := chT_len x y 7; simp only [nilL, List.length_map, List.length_append, List.length_cons, List.length_nil]; omega) (by have := chT_len x y 8; have := chT_len x y 7; simp only [nilL, List.length_map, List.length_append, List.length_cons, List.length_nil]; omega)) (rfl) ?_
        exact SX.VC_again fun α => ⟨⟨8, Eq.trans (b := [.int .i64 8, .agg ([Value.agg (phL (nilL (acc ++ chT x y 7))).toArray, Value.agg (phL [nilP (⟨0, 1, x.id, 8, setF zeroSg 8 y, []⟩ : Pt)]).toArray].flatMap SX.cellsV).toArray]) (by kernel_rfl) (by rw [show chT x y 8 = chT x y 7 ++ [(⟨0, 1, x.id, 8, setF zeroSg 8 y, []⟩ : Pt)] from chT_other (k := 7) (by show ¬ setF zeroSg 8 x = setF zeroSg 8 y; simpa [setF, zeroSg] using h59)]; simp [SX.cellsV, nilL_app, phL_app, nilL]), by omega⟩, cast (by kernel_rfl) (show 8 - (8 : Int).toNat < 8 - (7 : Int).toNat by decide)⟩
      try simp only [NRM] at h58
      have e8 : k2 = 8 := by omega
      subst e8
      refine SX.E (.bool (true ^^ decide ((x.fn, x.fd) = (y.fn, y.fd)))) (fun α => SX.eqr_rel (f := cells2) cells2_inj (y := (x.fn, x.fd)) (z := (y.fn, y.fd)) (by kernel_rfl) (by kernel_rfl) (by kernel_rfl)) ?_
      refine SX.B (true ^^ decide ((x.fn, x.fd) = (y.fn, y.fd))) (fun h59 => ?_) (fun h59 => ?_)
      · try simp only [NRM] at h59
        have hsp : ¬ setF zeroSg 9 x = setF zeroSg 9 y := fun hk => by
          have := (span_iff.1 hk).1
          simp [this] at h59
        refine SX.VC_df (Value.agg (phL [nilP ((⟨0, 1, x.id, 9, setF zeroSg 9 y, []⟩ : Pt))]).toArray) (fun α => SX.app_rel (f := cellsH) (l1 := nilL (acc ++ chT x y 8)) (l2 := [nilP ((⟨0, 1, x.id, 9, setF zeroSg 9 y, []⟩ : Pt))]) (fun _ => rfl) cellsH_one (by decide) (SX.cat1 (by kernel_rfl)) (SX.src_own (by kernel_rfl)) (by have := chT_len x y 8; have := chT_len x y 8; simp only [nilL, List.length_map, List.length_append, List.length_cons, List.length_nil]; omega) (by have := chT_len x y 8; have := chT_len x y 8; simp only [nilL, List.length_map, List.length_append, List.length_cons, List.length_nil]; omega)) (rfl) ?_
        refine SX.VC_df (.agg (((a1).drop 1).flatMap cellsSg).toArray) (fun α => SX.slcxD (f := cellsSg) (l := a1) (k := 1) (fun _ => rfl) (by decide) (SX.cat1 (by kernel_rfl)) (by kernel_rfl) (by have := (List.getElem?_eq_some_iff.1 hx).1; omega)) (rfl) ?_
        refine SX.VC_df (.agg (((b1).drop 1).flatMap cellsSg).toArray) (fun α => SX.slcxD (f := cellsSg) (l := b1) (k := 1) (fun _ => rfl) (by decide) (SX.cat1 (by kernel_rfl)) (by kernel_rfl) (by have := (List.getElem?_eq_some_iff.1 hy).1; omega)) (rfl) ?_
        exact SX.VC_again fun α => ⟨⟨(a1).drop 1, (b1).drop 1, acc ++ chP x y, Eq.trans (b := [.agg ([Value.agg (sgsL ((a1).drop 1)).toArray].flatMap SX.cellsV).toArray, .agg ([Value.agg (sgsL ((b1).drop 1)).toArray].flatMap SX.cellsV).toArray, .agg ([Value.agg (phL (nilL (acc ++ chT x y 8))).toArray, Value.agg (phL [nilP ((⟨0, 1, x.id, 9, setF zeroSg 9 y, []⟩ : Pt))]).toArray].flatMap SX.cellsV).toArray]) (by kernel_rfl) (by rw [show acc ++ chP x y = (acc ++ chT x y 8) ++ [⟨0, 1, x.id, 9, setF zeroSg 9 y, []⟩] from by rw [List.append_assoc, show chP x y = _ from chT_other (k := 8) hsp]; rfl]; simp [SX.cellsV, nilL_app, phL_app, nilL]), mrg_step hm (mrg_chD hx hy hid hkd), by have q1 := (List.getElem?_eq_some_iff.1 hx).1; have q2 := (List.getElem?_eq_some_iff.1 hy).1; have q3 : (chP x y).length ≤ 9 := chT_len x y 9; simp only [LL]; omega⟩, cast (by kernel_rfl) (show ([Value.agg (sgsL ((a1).drop 1)).toArray].flatMap SX.cellsV).toArray.size + ([Value.agg (sgsL ((b1).drop 1)).toArray].flatMap SX.cellsV).toArray.size < (sgsL a1).toArray.size + (sgsL b1).toArray.size from by have q1 := (List.getElem?_eq_some_iff.1 hx).1; have q2 := (List.getElem?_eq_some_iff.1 hy).1; simp only [List.flatMap_cons, List.flatMap_nil, List.append_nil, SX.cellsV, List.toList_toArray, List.size_toArray, sgsL_len, List.length_drop]; omega)⟩
      try simp only [NRM] at h59
      refine SX.E (.bool (true ^^ decide ((x.tn, x.td) = (y.tn, y.td)))) (fun α => SX.eqr_rel (f := cells2) cells2_inj (y := (x.tn, x.td)) (z := (y.tn, y.td)) (by kernel_rfl) (by kernel_rfl) (by kernel_rfl)) ?_
      refine SX.B (true ^^ decide ((x.tn, x.td) = (y.tn, y.td))) (fun h60 => ?_) (fun h60 => ?_)
      · try simp only [NRM] at h60
        have hsp : ¬ setF zeroSg 9 x = setF zeroSg 9 y := fun hk => by
          have := (span_iff.1 hk).2
          simp [this] at h60
        refine SX.VC_df (Value.agg (phL [nilP ((⟨0, 1, x.id, 9, setF zeroSg 9 y, []⟩ : Pt))]).toArray) (fun α => SX.app_rel (f := cellsH) (l1 := nilL (acc ++ chT x y 8)) (l2 := [nilP ((⟨0, 1, x.id, 9, setF zeroSg 9 y, []⟩ : Pt))]) (fun _ => rfl) cellsH_one (by decide) (SX.cat1 (by kernel_rfl)) (SX.src_own (by kernel_rfl)) (by have := chT_len x y 8; have := chT_len x y 8; simp only [nilL, List.length_map, List.length_append, List.length_cons, List.length_nil]; omega) (by have := chT_len x y 8; have := chT_len x y 8; simp only [nilL, List.length_map, List.length_append, List.length_cons, List.length_nil]; omega)) (rfl) ?_
        refine SX.VC_df (.agg (((a1).drop 1).flatMap cellsSg).toArray) (fun α => SX.slcxD (f := cellsSg) (l := a1) (k := 1) (fun _ => rfl) (by decide) (SX.cat1 (by kernel_rfl)) (by kernel_rfl) (by have := (List.getElem?_eq_some_iff.1 hx).1; omega)) (rfl) ?_
        refine SX.VC_df (.agg (((b1).drop 1).flatMap cellsSg).toArray) (fun α => SX.slcxD (f := cellsSg) (l := b1) (k := 1) (fun _ => rfl) (by decide) (SX.cat1 (by kernel_rfl)) (by kernel_rfl) (by have := (List.getElem?_eq_some_iff.1 hy).1; omega)) (rfl) ?_
        exact SX.VC_again fun α => ⟨⟨(a1).drop 1, (b1).drop 1, acc ++ chP x y, Eq.trans (b := [.agg ([Value.agg (sgsL ((a1).drop 1)).toArray].flatMap SX.cellsV).toArray, .agg ([Value.agg (sgsL ((b1).drop 1)).toArray].flatMap SX.cellsV).toArray, .agg ([Value.agg (phL (nilL (acc ++ chT x y 8))).toArray, Value.agg (phL [nilP ((⟨0, 1, x.id, 9, setF zeroSg 9 y, []⟩ : Pt))]).toArray].flatMap SX.cellsV).toArray]) (by kernel_rfl) (by rw [show acc ++ chP x y = (acc ++ chT x y 8) ++ [⟨0, 1, x.id, 9, setF zeroSg 9 y, []⟩] from by rw [List.append_assoc, show chP x y = _ from chT_other (k := 8) hsp]; rfl]; simp [SX.cellsV, nilL_app, phL_app, nilL]), mrg_step hm (mrg_chD hx hy hid hkd), by have q1 := (List.getElem?_eq_some_iff.1 hx).1; have q2 := (List.getElem?_eq_some_iff.1 hy).1; have q3 : (chP x y).length ≤ 9 := chT_len x y 9; simp only [LL]; omega⟩, cast (by kernel_rfl) (show ([Value.agg (sgsL ((a1).drop 1)).toArray].flatMap SX.cellsV).toArray.size + ([Value.agg (sgsL ((b1).drop 1)).toArray].flatMap SX.cellsV).toArray.size < (sgsL a1).toArray.size + (sgsL b1).toArray.size from by have q1 := (List.getElem?_eq_some_iff.1 hx).1; have q2 := (List.getElem?_eq_some_iff.1 hy).1; simp only [List.flatMap_cons, List.flatMap_nil, List.append_nil, SX.cellsV, List.toList_toArray, List.size_toArray, sgsL_len, List.length_drop]; omega)⟩
      try simp only [NRM] at h60
      have hsp : setF zeroSg 9 x = setF zeroSg 9 y := span_iff.2 ⟨by simpa using h59, by simpa using h60⟩
      refine SX.VC_df (.agg (((a1).drop 1).flatMap cellsSg).toArray) (fun α => SX.slcxD (f := cellsSg) (l := a1) (k := 1) (fun _ => rfl) (by decide) (SX.cat1 (by kernel_rfl)) (by kernel_rfl) (by have := (List.getElem?_eq_some_iff.1 hx).1; omega)) (rfl) ?_
      refine SX.VC_df (.agg (((b1).drop 1).flatMap cellsSg).toArray) (fun α => SX.slcxD (f := cellsSg) (l := b1) (k := 1) (fun _ => rfl) (by decide) (SX.cat1 (by kernel_rfl)) (by kernel_rfl) (by have := (List.getElem?_eq_some_iff.1 hy).1; omega)) (rfl) ?_
      exact SX.VC_again fun α => ⟨⟨(a1).drop 1, (b1).drop 1, acc ++ chP x y, Eq.trans (b := [.agg ([Value.agg (sgsL ((a1).drop 1)).toArray].flatMap SX.cellsV).toArray, .agg ([Value.agg (sgsL ((b1).drop 1)).toArray].flatMap SX.cellsV).toArray, .agg ([Value.agg (phL (nilL (acc ++ chT x y 8))).toArray].flatMap SX.cellsV).toArray]) (by kernel_rfl) (by rw [show acc ++ chP x y = acc ++ chT x y 8 from by rw [show chP x y = _ from chT_same (k := 8) hsp]]; simp [SX.cellsV, nilL_app, phL_app, nilL]), mrg_step hm (mrg_chD hx hy hid hkd), by have q1 := (List.getElem?_eq_some_iff.1 hx).1; have q2 := (List.getElem?_eq_some_iff.1 hy).1; have q3 : (chP x y).length ≤ 9 := chT_len x y 9; simp only [LL]; omega⟩, cast (by kernel_rfl) (show ([Value.agg (sgsL ((a1).drop 1)).toArray].flatMap SX.cellsV).toArray.size + ([Value.agg (sgsL ((b1).drop 1)).toArray].flatMap SX.cellsV).toArray.size < (sgsL a1).toArray.size + (sgsL b1).toArray.size from by have q1 := (List.getElem?_eq_some_iff.1 hx).1; have q2 := (List.getElem?_eq_some_iff.1 hy).1; simp only [List.flatMap_cons, List.flatMap_nil, List.append_nil, SX.cellsV, List.toList_toArray, List.size_toArray, sgsL_len, List.length_drop]; omega)⟩
    try simp only [NRM] at h24
    refine SX.E (.int .i64 ((((b1).length : Nat) : Int))) (fun α => SX.rlenD (f := cellsSg) (l := b1) (fun _ => rfl) (by decide) (SX.cat1 (by kernel_rfl))) ?_
    refine SX.D (.bool (decide ((((b1).length : Nat) : Int) > 0))) ?_
    refine SX.B (decide ((((b1).length : Nat) : Int) > 0)) (fun h26 => ?_) (fun h26 => ?_)
    · try simp only [NRM] at h26
      refine SX.E (.int .i64 ((((b1).length : Nat) : Int))) (fun α => SX.rlenD (f := cellsSg) (l := b1) (fun _ => rfl) (by decide) (SX.cat1 (by kernel_rfl))) ?_
      refine SX.D (.bool (((((b1).length : Nat) : Int) : Int) == 0)) ?_
      refine SX.B (((((b1).length : Nat) : Int) : Int) == 0) (fun h28 => absurd (beq_iff_eq.1 h28) (by omega)) (fun h28 => ?_)
      refine SX.E (.int .i64 ((((a1).length : Nat) : Int))) (fun α => SX.rlenD (f := cellsSg) (l := a1) (fun _ => rfl) (by decide) (SX.cat1 (by kernel_rfl))) ?_
      refine SX.D (.bool (decide ((((a1).length : Nat) : Int) > 0))) ?_
      refine SX.B (decide ((((a1).length : Nat) : Int) > 0)) (fun h30 => absurd (of_decide_eq_true h30) (by omega)) (fun h30 => ?_)
      refine SX.E (.int .i64 ((((a1).length : Nat) : Int))) (fun α => SX.rlenD (f := cellsSg) (l := a1) (fun _ => rfl) (by decide) (SX.cat1 (by kernel_rfl))) ?_
      refine SX.D (.bool (((((a1).length : Nat) : Int) : Int) == 0)) ?_
      refine SX.B (((((a1).length : Nat) : Int) : Int) == 0) (fun h32 => ?_) (fun h32 => absurd (show ((((a1).length : Nat) : Int) : Int) = 0 by omega) (ne_of_beq_false h32))
      obtain ⟨y, hy⟩ : ∃ y, b1[0]? = some y := ⟨_, List.getElem?_eq_getElem (by omega)⟩
      have hid : ∀ x, a1[0]? = some x → y.id < x.id := fun x hx => (no_head (by omega) hx).elim
      refine SX.E (.bool true) (fun α => SX.row_bnd (f := cellsSg) (l := b1) (k := 0) (fun _ => rfl) (by decide) (SX.cat1 (by kernel_rfl)) (by kernel_rfl) ((List.getElem?_eq_some_iff.1 hy).1)) ?_
      refine SX.E (.bool true) (fun α => SX.row_bnd (f := cellsSg) (l := b1) (k := 0) (fun _ => rfl) (by decide) (SX.cat1 (by kernel_rfl)) (by kernel_rfl) ((List.getElem?_eq_some_iff.1 hy).1)) ?_
      refine SX.E (.int .i64 y.id) (fun α => SX.relemD (f := cellsSg) (l := b1) (k := 0) (z := y) (v := .int .i64 y.id) (fun _ => rfl) (by decide) (SX.cat1 (by kernel_rfl)) (by kernel_rfl) hy rfl) ?_
      refine SX.E (.bool true) (fun α => SX.row_bnd (f := cellsSg) (l := b1) (k := 0) (fun _ => rfl) (by decide) (SX.cat1 (by kernel_rfl)) (by kernel_rfl) ((List.getElem?_eq_some_iff.1 hy).1)) ?_
      refine SX.E (.agg (cellsSg y).toArray) (fun α => SX.row_elems (f := cellsSg) (l := b1) (k := 0) (z := y) (fun _ => rfl) (by decide) (SX.cat1 (by kernel_rfl)) (by kernel_rfl) hy) ?_
      refine SX.VC_df (Value.agg (phL [nilP (insP y)]).toArray) (fun α => SX.app_rel (f := cellsH) (l1 := nilL acc) (l2 := [nilP (insP y)]) (fun _ => rfl) cellsH_one (by decide) (SX.cat1 (by kernel_rfl)) (SX.src_own (by kernel_rfl)) (by simp only [nilL, List.length_map, List.length_cons, List.length_nil]; omega) (by simp only [nilL, List.length_map, List.length_cons, List.length_nil]; omega)) (rfl) ?_
      refine SX.VC_df (.agg (((b1).drop 1).flatMap cellsSg).toArray) (fun α => SX.slcxD (f := cellsSg) (l := b1) (k := 1) (fun _ => rfl) (by decide) (SX.cat1 (by kernel_rfl)) (by kernel_rfl) (by have := (List.getElem?_eq_some_iff.1 hy).1; omega)) (rfl) ?_
      exact SX.VC_again fun α => ⟨⟨a1, (b1).drop 1, acc ++ [insP y], Eq.trans (b := [.agg ([Value.agg (sgsL (a1)).toArray].flatMap SX.cellsV).toArray, .agg ([Value.agg (sgsL ((b1).drop 1)).toArray].flatMap SX.cellsV).toArray, .agg ([Value.agg (phL (nilL acc)).toArray, Value.agg (phL [nilP (insP y)]).toArray].flatMap SX.cellsV).toArray]) (by kernel_rfl) (by simp [SX.cellsV, nilL_app, phL_app, nilL]), mrg_step hm (mrg_inD hy hid), by have q2 := (List.getElem?_eq_some_iff.1 hy).1; simp only [LL]; omega⟩, cast (by kernel_rfl) (show ([Value.agg (sgsL (a1)).toArray].flatMap SX.cellsV).toArray.size + ([Value.agg (sgsL ((b1).drop 1)).toArray].flatMap SX.cellsV).toArray.size < (sgsL a1).toArray.size + (sgsL b1).toArray.size from by have q2 := (List.getElem?_eq_some_iff.1 hy).1; simp only [List.flatMap_cons, List.flatMap_nil, List.append_nil, SX.cellsV, List.toList_toArray, List.size_toArray, sgsL_len, List.length_drop]; omega)⟩
    try simp only [NRM] at h26
    refine SX.E (.int .i64 ((((nilL acc).length : Nat) : Int))) (fun α => SX.rlenD (f := cellsH) (l := nilL acc) (fun _ => rfl) (by decide) (SX.cat1 (by kernel_rfl))) ?_
    refine SX.D (.bool (decide ((((nilL acc).length : Nat) : Int) > 512))) ?_
    refine SX.B (decide ((((nilL acc).length : Nat) : Int) > 512)) (fun h28 => ?_) (fun h28 => ?_)
    · try simp only [NRM] at h28
      have hq : diffR a b first needs = ([], 2) := by
        have q1 : a1 = [] := List.length_eq_zero_iff.1 (by omega)
        have q2 : b1 = [] := List.length_eq_zero_iff.1 (by omega)
        rw [hD0, hm, q1, q2, mrg_nil]
        show (if 512 < (acc ++ ([] : List Pt)).length ∨ _ then _ else _) = _
        rw [if_pos (by simp only [List.nil_append, List.append_nil]; (try simp at h28); omega)]
      exact SX.VC_ret fun α W _ hrow hS => ⟨hS.below, .slice none 0 0, [], Eq.trans (b := Ending.returned (.tuple #[.slice none 0 0, .int .i64 (2)])) (by kernel_rfl) (by rw [hq]), by rw [hq]; rfl, by rw [hq]; exact SX.SlRet.nil, fun h hh => nomatch hh⟩
    try simp only [NRM] at h28
    refine SX.E (.int .i64 ((((nilL acc).length : Nat) : Int))) (fun α => SX.rlenD (f := cellsH) (l := nilL acc) (fun _ => rfl) (by decide) (SX.cat1 (by kernel_rfl))) ?_
    have hfr : 1 ≤ first ∧ first ≤ 1048576 := hfs.1
    have h28n : acc.length ≤ 512 := by (try simp at h28); omega
    refine SX.E (.int .i64 (first + (((nilL acc).length : Nat) : Int))) (fun α => Eq.trans (b := some (.int .i64 (IntKind.i64.wrap (first + (((nilL acc).length : Nat) : Int))))) (by kernel_rfl) (by rw [wrap_i64 (by omega) (by omega)])) ?_
    refine SX.E (.int .i64 (first + (((nilL acc).length : Nat) : Int) - 1)) (fun α => Eq.trans (b := some (.int .i64 (IntKind.i64.wrap (first + (((nilL acc).length : Nat) : Int) - 1)))) (by kernel_rfl) (by rw [wrap_i64 (by omega) (by omega)])) ?_
    refine SX.D (.bool (decide (first + (((nilL acc).length : Nat) : Int) - 1 > 1048576))) ?_
    refine SX.B (decide (first + (((nilL acc).length : Nat) : Int) - 1 > 1048576)) (fun h32 => ?_) (fun h32 => ?_)
    · try simp only [NRM] at h32
      have hq : diffR a b first needs = ([], 2) := by
        have q1 : a1 = [] := List.length_eq_zero_iff.1 (by omega)
        have q2 : b1 = [] := List.length_eq_zero_iff.1 (by omega)
        rw [hD0, hm, q1, q2, mrg_nil]
        show (if 512 < (acc ++ ([] : List Pt)).length ∨ _ then _ else _) = _
        rw [if_pos (by simp only [List.nil_append, List.append_nil]; (try simp at h32); omega)]
      exact SX.VC_ret fun α W _ hrow hS => ⟨hS.below, .slice none 0 0, [], Eq.trans (b := Ending.returned (.tuple #[.slice none 0 0, .int .i64 (2)])) (by kernel_rfl) (by rw [hq]), by rw [hq]; rfl, by rw [hq]; exact SX.SlRet.nil, fun h hh => nomatch hh⟩
    try simp only [NRM] at h32
    refine SX.E (.int .i64 ((((nilL acc).length : Nat) : Int))) (fun α => SX.rlenD (f := cellsH) (l := nilL acc) (fun _ => rfl) (by decide) (SX.cat1 (by kernel_rfl))) ?_
    have hmm : mrg a b = some acc := by
      have q1 : a1 = [] := List.length_eq_zero_iff.1 (by omega)
      have q2 : b1 = [] := List.length_eq_zero_iff.1 (by omega)
      rw [hm, q1, q2, mrg_nil]; simp
    have hq : diffR a b first needs = (num first needs 0 acc, 0) := by
      rw [hD0, hmm]
      show (if 512 < acc.length ∨ 1048576 < first + (acc.length : Int) - 1 then (([] : List Pt), (2 : Int)) else (num first needs 0 acc, 0)) = _
      rw [if_neg (by (try simp at h28); (try simp at h32); omega)]
    refine SX.VC_loopN (fun xs N => ∃ hs : List Hd, xs = [.int .i64 ((hs.length : Nat) : Int), .agg (phL (doneL first needs acc hs)).toArray] ∧ hs.length ≤ acc.length ∧ ∀ h ∈ hs, (⟨Hd.v h, 1, intsL needs⟩ : SX.Arg) ∈ N) (fun xs => match xs with | .int _ i :: _ => acc.length - i.toNat | _ => 0) (fun _ => rfl) (fun α => ⟨[], (fun y hy => nomatch hy), [], Eq.trans (b := [.int .i64 0, .agg ([Value.agg (phL (nilL acc)).toArray].flatMap SX.cellsV).toArray]) (by kernel_rfl) (by simp [SX.cellsV, doneL_nil]), by simp, fun h hh => nomatch hh⟩) ?_
    rintro xs N - ⟨hs, rfl, hle, hN⟩
    refine SX.D (.bool (decide (((hs.length : Nat) : Int) < (((nilL acc).length : Nat) : Int)))) ?_
    refine SX.B (decide (((hs.length : Nat) : Int) < (((nilL acc).length : Nat) : Int))) (fun h36 => ?_) (fun h36 => ?_)
    · try simp only [NRM] at h36
      refine SX.E (.int .i64 (first + ((hs.length : Nat) : Int))) (fun α => SX.W (first + ((hs.length : Nat) : Int))) ?_
      obtain ⟨p, hp⟩ : ∃ p, acc[hs.length]? = some p := ⟨_, List.getElem?_eq_getElem (by omega)⟩
      have hdl := doneL_len (first := first) (needs := needs) hle
      have hdp := doneL_at (first := first) (needs := needs) hp
      refine SX.VC_dn (fun v N3 => ∃ A2 n2 c2, v = .slice A2 n2 c2 ∧ N3 = [⟨.slice A2 n2 c2, 1, intsL needs⟩]) (fun _ => rfl) (fun α => ⟨[⟨.slice D k e, 1, intsL needs⟩], ⟨by kernel_rfl, by kernel_rfl, K_ofD (y := ⟨.slice D k e, 1, intsL needs⟩) (by kernel_rfl) (.inl (.inr (.inr ⟨rfl, rfl, rfl⟩))), trivial⟩, rfl, _, needs, rfl, by omega, fun A2 n2 c2 => ⟨A2, n2, c2, rfl, rfl⟩⟩) ?_
      rintro _ _ - ⟨A2, n2, c2, rfl, rfl⟩
      refine SX.E (.bool true) (fun α => SX.row_bnd (f := cellsH) (l := doneL first needs acc hs) (k := hs.length) (fun _ => rfl) (by decide) (SX.cat1 (by kernel_rfl)) (by kernel_rfl) (by (try simp only [List.length_set]); omega)) ?_
      refine SX.E (.bool true) (fun α => SX.row_bnd (f := cellsH) (l := doneL first needs acc hs) (k := hs.length) (fun _ => rfl) (by decide) (SX.cat1 (by kernel_rfl)) (by kernel_rfl) (by (try simp only [List.length_set]); omega)) ?_
      refine SX.VC_df (.agg (((doneL first needs acc hs).set hs.length (nilP {p with id := first + (hs.length : Int), needs := needs})).flatMap cellsH).toArray) (fun α => SX.rsetD (f := cellsH) (l := doneL first needs acc hs) (k := hs.length) (y := nilP p) (z := nilP {p with id := first + (hs.length : Int), needs := needs}) (fun _ => rfl) (by decide) (SX.cat1 (by kernel_rfl)) (by kernel_rfl) hdp (by decide) (by kernel_rfl)) (rfl) ?_
      refine SX.E (.bool true) (fun α => SX.row_bnd (f := cellsH) (l := doneL first needs acc hs) (k := hs.length) (fun _ => rfl) (by decide) (SX.cat1 (by kernel_rfl)) (by kernel_rfl) (by (try simp only [List.length_set]); omega)) ?_
      refine SX.E (.bool true) (fun α => SX.row_bnd (f := cellsH) (l := doneL first needs acc hs) (k := hs.length) (fun _ => rfl) (by decide) (SX.cat1 (by kernel_rfl)) (by kernel_rfl) (by (try simp only [List.length_set]); omega)) ?_
      refine SX.VC_df (.agg ((((doneL first needs acc hs).set hs.length (nilP {p with id := first + (hs.length : Int), needs := needs})).set hs.length ((({p with id := first + (hs.length : Int), needs := needs}, A2, n2, c2) : Ph))).flatMap cellsH).toArray) (fun α => SX.rsetD (f := cellsH) (l := (doneL first needs acc hs).set hs.length (nilP {p with id := first + (hs.length : Int), needs := needs})) (k := hs.length) (y := nilP {p with id := first + (hs.length : Int), needs := needs}) (z := (({p with id := first + (hs.length : Int), needs := needs}, A2, n2, c2) : Ph)) (fun _ => rfl) (by decide) (SX.cat1 (by kernel_rfl)) (by kernel_rfl) (List.getElem?_set_self (by omega)) (by decide) (by kernel_rfl)) (rfl) ?_
      refine SX.E (.int .i64 (((hs.length + 1 : Nat) : Int))) (fun α => Eq.trans (b := some (.int .i64 (IntKind.i64.wrap ((hs.length : Nat) + 1)))) (by kernel_rfl) (by rw [show ((hs.length + 1 : Nat) : Int) = ((hs.length : Nat) : Int) + 1 by omega, wrap_i64 (by omega) (by omega)])) ?_
      exact SX.VC_again fun α => ⟨rfl, _, (fun y hy => hy), ⟨hs ++ [(A2, n2, c2)], Eq.trans (b := [.int .i64 ((hs.length + 1 : Nat) : Int), .agg ([Value.agg (phL (((doneL first needs acc hs).set hs.length (nilP {p with id := first + (hs.length : Int), needs := needs})).set hs.length ({p with id := first + (hs.length : Int), needs := needs}, A2, n2, c2))).toArray].flatMap SX.cellsV).toArray]) (by kernel_rfl) (by rw [doneL_set hp]; simp [SX.cellsV]), by rw [List.length_append, List.length_singleton]; omega, fun h hh => by
        rcases List.mem_append.1 hh with hh | hh
        · exact List.mem_append_right _ (hN h hh)
        obtain rfl := List.mem_singleton.1 hh
        exact List.mem_append_left _ (List.mem_singleton.2 rfl)⟩, cast (by kernel_rfl) (show acc.length - ((hs.length + 1 : Nat) : Int).toNat < acc.length - ((hs.length : Nat) : Int).toNat by omega)⟩
    try simp only [NRM] at h36
    have hal : hs.length = acc.length := by omega
    refine SX.VC_ret fun α W _ hrow hS => ⟨hS.below, _, hs, Eq.trans (b := Ending.returned (.tuple #[(α 11).h, .int .i64 0])) (by kernel_rfl) (by rw [hq]), by rw [hq]; simp only [num_len]; exact hal, ?_, fun h hh => ?_⟩
    · rw [hq]
      exact SX.SlRet.row hS (n := 11) (b := (⟨[(.x 35 [])], 29, (.row 19)⟩ : SX.Blk)) (by kernel_rfl) rfl (hrow 11 _ (by kernel_rfl)) (Eq.trans (b := [Value.agg (phL (doneL first needs acc hs)).toArray].flatMap SX.cellsV) (by kernel_rfl) (by rw [doneL_all hal]; simp [SX.cellsV]))
    have hN2 := hS.fact (p := SX.NF _) (List.mem_append.2 (.inr (List.mem_cons_of_mem _ (List.mem_cons_self ..)))) ⟨Hd.v h, 1, intsL needs⟩ (hN h hh)
    exact ⟨⟨h.1, h.2.1, h.2.2, rfl, hN2.1.2⟩, hN2.1, .inl hN2.2⟩
  try simp only [NRM] at h15
  have hq : diffR a b first needs = ([], 360) := diffR_i (by simpa using h6) (by simpa using h7) (by (try simp at h9); omega) (fun hk => by (try simp at h15); omega)
  exact SX.VC_ret fun α W _ hrow hS => ⟨hS.below, .slice none 0 0, [], Eq.trans (b := Ending.returned (.tuple #[.slice none 0 0, .int .i64 (360)])) (by kernel_rfl) (by rw [hq]), by rw [hq]; rfl, by rw [hq]; exact SX.SlRet.nil, fun h hh => nomatch hh⟩
def goodId : Option Sg → List Pt → Option Sg → Prop
  | o, [], t => o = t
  | o, p :: q, t => preP p o ∧ goodId (updP p o) q t
def ofS (id : Int) (l : List Pt) : List Pt := l.filter fun p => decide (p.sign = id)
theorem run_good {T : Int → Option Sg} : ∀ (m : List Pt) (ss : List Sg), okL ss → ss.length + m.length ≤ 4096 → (∀ p ∈ m, okP p ∧ p.needs.length ≤ 32) → (∀ id, goodId (findO ss id) (ofS id m) (T id)) → ∃ tt, runL ss m = (tt, 0) ∧ okL tt ∧ ∀ id, findO tt id = T id
  | [], ss, hs, _, _, hg => ⟨ss, rfl, hs, fun id => hg id⟩
  | p :: m, ss, hs, hl, hp, hg => by
    obtain ⟨hok, hn⟩ := hp p (List.mem_cons_self ..)
    have hl' : ss.length + m.length + 1 ≤ 4096 := by simpa [Nat.add_assoc] using hl
    have h1 := hg p.sign
    rw [ofS, List.filter_cons_of_pos (by simp)] at h1
    obtain ⟨h2, h3⟩ := h1
    have h0 : (applyS ss p).2 = 0 := (apply_pre hs).2 ⟨h2, fun _ => by omega⟩
    have h4 := apply_ok hs (by omega) hok h0
    have h5 := apply_len ss p
    obtain ⟨tt, h6, h7, h8⟩ := run_good (T := T) m (applyS ss p).1 h4.1 (by omega) (fun q hq => hp q (List.mem_cons_of_mem _ hq)) (fun id => by
      rw [apply_find hs (by omega) hok h0 id]
      by_cases hid : id = p.sign
      · rw [if_pos hid, hid]; exact h3
      rw [if_neg hid]
      have := hg id
      rw [ofS, List.filter_cons_of_neg (by simpa using fun h => hid h.symm)] at this
      exact this)
    refine ⟨tt, ?_, h7, h8⟩
    rw [runL, if_pos (chkP_of hok hn), if_pos h0]
    exact h6
def mrgF (a b : List Sg) (id : Int) : List Pt := match findO a id, findO b id with
  | some x, some y => chP x y
  | some x, none => [remP x]
  | none, some y => [insP y]
  | none, none => []
theorem findO_cons {x : Sg} {l : List Sg} {id : Int} : findO (x :: l) id = if x.id = id then some x else findO l id := by
  unfold findO
  rw [List.find?_cons]
  by_cases h : x.id = id <;> simp [h]
theorem findO_lt {l : List Sg} {id : Int} (h : ∀ y ∈ l, id < y.id) : findO l id = none := findO_none.2 fun z hz => by have := h z hz; omega
theorem ofS_chT (x y : Sg) (id : Int) (k : Nat) : ofS id (chT x y k) = if x.id = id then chT x y k else [] := by
  induction k with
  | zero => simp [chT, ofS]
  | succ k ih =>
    unfold ofS at ih ⊢
    simp only [chT, List.filter_append, ih]
    unfold chF
    by_cases h : x.id = id
    · rw [if_pos h, if_pos h]
      split <;> simp [h]
    rw [if_neg h, if_neg h]
    split <;> simp [h]
theorem ofS_app (id : Int) (l m : List Pt) : ofS id (l ++ m) = ofS id l ++ ofS id m := by simp [ofS]
theorem ofS_one (id : Int) (p : Pt) : ofS id [p] = if p.sign = id then [p] else [] := by unfold ofS; by_cases h : p.sign = id <;> simp [h]
theorem mrg_of : ∀ {a b : List Sg} {l : List Pt}, okL a → okL b → mrg a b = some l → ∀ id, ofS id l = mrgF a b id ∧ ∀ x y, findO a id = some x → findO b id = some y → x.kind = y.kind := by
  intro a b
  induction h : a.length + b.length using Nat.strongRecOn generalizing a b with
  | ind n ih =>
    intro l ha hb hl id
    have hrm : ∀ (x : Sg) (a' : List Sg), a = x :: a' → (∀ y ∈ b, x.id < y.id) → ofS id l = mrgF a b id ∧ ∀ x y, findO a id = some x → findO b id = some y → x.kind = y.kind := by
      rintro x a' rfl hlt
      rw [mrg_rm (fun y hy => hlt y (List.mem_of_getElem? hy))] at hl
      obtain ⟨l', h1, rfl⟩ := Option.map_eq_some_iff.1 hl
      obtain ⟨ha1, ha2⟩ := okL_tail ha
      obtain ⟨h2, h3⟩ := ih (a'.length + b.length) (by simp at h; omega) rfl ha1 hb h1 id
      have hc : ofS id (remP x :: l') = ofS id [remP x] ++ ofS id l' := by rw [← ofS_app]; rfl
      rw [hc, ofS_one, h2]
      unfold mrgF
      rw [findO_cons]
      by_cases e : x.id = id
      · have q1 : findO b id = none := findO_lt fun y hy => by have := hlt y hy; omega
        have q2 : findO a' id = none := findO_lt fun y hy => by have := ha2 y hy; omega
        rw [if_pos e, if_pos (show (remP x).sign = id from e), q1, q2]
        exact ⟨rfl, fun _ y _ h => nomatch h⟩
      rw [if_neg e, if_neg (show ¬ (remP x).sign = id from e)]
      exact ⟨rfl, h3⟩
    have hin : ∀ (y : Sg) (b' : List Sg), b = y :: b' → (∀ x ∈ a, y.id < x.id) → ofS id l = mrgF a b id ∧ ∀ x y, findO a id = some x → findO b id = some y → x.kind = y.kind := by
      rintro y b' rfl hlt
      rw [mrg_in (fun x hx => hlt x (List.mem_of_getElem? hx))] at hl
      obtain ⟨l', h1, rfl⟩ := Option.map_eq_some_iff.1 hl
      obtain ⟨hb1, hb2⟩ := okL_tail hb
      obtain ⟨h2, h3⟩ := ih (a.length + b'.length) (by simp at h; omega) rfl ha hb1 h1 id
      have hc : ofS id (insP y :: l') = ofS id [insP y] ++ ofS id l' := by rw [← ofS_app]; rfl
      rw [hc, ofS_one, h2]
      unfold mrgF
      rw [findO_cons]
      by_cases e : y.id = id
      · have q1 : findO a id = none := findO_lt fun x hx => by have := hlt x hx; omega
        have q2 : findO b' id = none := findO_lt fun x hx => by have := hb2 x hx; omega
        rw [if_pos e, if_pos (show (insP y).sign = id from e), q1, q2]
        exact ⟨rfl, fun x _ h _ => nomatch h⟩
      rw [if_neg e, if_neg (show ¬ (insP y).sign = id from e)]
      exact ⟨rfl, h3⟩
    cases a with
    | nil =>
      cases b with
      | nil =>
        rw [mrg_nil] at hl
        cases hl
        exact ⟨rfl, fun x y h _ => nomatch h⟩
      | cons y b => exact hin y b rfl fun x hx => nomatch hx
    | cons x a =>
      cases b with
      | nil => exact hrm x a rfl fun y hy => nomatch hy
      | cons y b =>
        by_cases h1 : x.id < y.id
        · exact hrm x a rfl fun z hz => by
            rcases List.mem_cons.1 hz with rfl | hz
            · exact h1
            · have := (okL_tail hb).2 z hz; omega
        by_cases h2 : y.id < x.id
        · exact hin y b rfl fun z hz => by
            rcases List.mem_cons.1 hz with rfl | hz
            · exact h2
            · have := (okL_tail ha).2 z hz; omega
        have e : x.id = y.id := by omega
        by_cases hk : x.kind = y.kind
        · rw [mrg_ch e hk] at hl
          obtain ⟨l', h3, rfl⟩ := Option.map_eq_some_iff.1 hl
          obtain ⟨ha1, ha2⟩ := okL_tail ha
          obtain ⟨hb1, hb2⟩ := okL_tail hb
          obtain ⟨h4, h5⟩ := ih (a.length + b.length) (by simp at h; omega) rfl ha1 hb1 h3 id
          rw [ofS_app, show ofS id (chP x y) = if x.id = id then chP x y else [] from ofS_chT x y id 9, h4]
          unfold mrgF
          rw [findO_cons, findO_cons]
          by_cases ei : x.id = id
          · have q1 : findO a id = none := findO_lt fun z hz => by have := ha2 z hz; omega
            have q2 : findO b id = none := findO_lt fun z hz => by have := hb2 z hz; omega
            rw [if_pos ei, if_pos ei, if_pos (e ▸ ei), q1, q2]
            exact ⟨by simp, fun u v h6 h7 => by cases h6; cases h7; exact hk⟩
          rw [if_neg ei, if_neg ei, if_neg (fun h6 => ei (e.trans h6))]
          exact ⟨by simp, h5⟩
        rw [mrg_no e hk] at hl; cases hl
def core (p : Pt) : Pt := {p with id := 0, needs := []}
theorem num_core {first : Int} {needs : List Int} {k : Nat} {l : List Pt} (h : ∀ p ∈ l, core p = p) : (num first needs k l).map core = l := by
  induction l generalizing k with
  | nil => rfl
  | cons p l ih =>
    simp only [num, List.map_cons]
    rw [ih fun q hq => h q (List.mem_cons_of_mem _ hq)]
    congr 1
    exact h p (List.mem_cons_self ..)
theorem chT_core (x y : Sg) (k : Nat) : ∀ p ∈ chT x y k, core p = p := by
  induction k with
  | zero => intro p hp; cases hp
  | succ k ih =>
    intro p hp
    rcases List.mem_append.1 hp with hp | hp
    · exact ih p hp
    unfold chF at hp
    split at hp
    · cases hp
    obtain rfl := List.mem_singleton.1 hp; rfl
theorem chT_mem {x y : Sg} {k : Nat} {p : Pt} (h : p ∈ chT x y k) : ∃ f : Nat, 1 ≤ f ∧ f ≤ k ∧ p = ⟨0, 1, x.id, (f : Int), setF zeroSg (f : Int) y, []⟩ := by
  induction k with
  | zero => cases h
  | succ k ih =>
    rcases List.mem_append.1 h with h | h
    · obtain ⟨f, h1, h2, h3⟩ := ih h
      exact ⟨f, h1, by omega, h3⟩
    unfold chF at h
    split at h
    · cases h
    exact ⟨k + 1, by omega, by omega, List.mem_singleton.1 h⟩
theorem chT_all {x y : Sg} {k f : Nat} (h1 : 1 ≤ f) (h2 : f ≤ k) (h : setF zeroSg (f : Int) x ≠ setF zeroSg (f : Int) y) : (⟨0, 1, x.id, (f : Int), setF zeroSg (f : Int) y, []⟩ : Pt) ∈ chT x y k := by
  induction k with
  | zero => omega
  | succ k ih =>
    by_cases e : f = k + 1
    · subst e
      refine List.mem_append.2 (.inr ?_)
      unfold chF
      rw [if_neg h]
      exact List.mem_singleton.2 rfl
    exact List.mem_append.2 (.inl (ih (by omega)))
theorem mem_ofS {l : List Pt} {p : Pt} (h : p ∈ l) : p ∈ ofS p.sign l := List.mem_filter.2 ⟨h, by simp⟩
theorem mrg_core {a b : List Sg} {l : List Pt} (ha : okL a) (hb : okL b) (h : mrg a b = some l) : ∀ p ∈ l, core p = p := fun p hp => by
  have h1 := mem_ofS hp
  rw [(mrg_of ha hb h p.sign).1] at h1
  unfold mrgF at h1
  split at h1
  · exact chT_core _ _ _ p h1
  · obtain rfl := List.mem_singleton.1 h1; rfl
  · obtain rfl := List.mem_singleton.1 h1; rfl
  cases h1
theorem sg_ext9 {u y : Sg} (h1 : u.id = y.id) (h2 : u.kind = y.kind) (h : ∀ f : Nat, 1 ≤ f → f ≤ 9 → setF zeroSg (f : Int) u = setF zeroSg (f : Int) y) : u = y := by
  have e1 := h 1 (by omega) (by omega)
  have e2 := h 2 (by omega) (by omega)
  have e3 := h 3 (by omega) (by omega)
  have e4 := h 4 (by omega) (by omega)
  have e5 := h 5 (by omega) (by omega)
  have e6 := h 6 (by omega) (by omega)
  have e7 := h 7 (by omega) (by omega)
  have e8 := h 8 (by omega) (by omega)
  have e9 := h 9 (by omega) (by omega)
  cases u; cases y
  simp [setF, zeroSg] at *
  simp_all
theorem good_set {y : Sg} : ∀ (q : List Pt) (u : Sg), u.id = y.id → u.kind = y.kind → (∀ p ∈ q, p.kind = 1 ∧ ∃ f : Nat, 1 ≤ f ∧ f ≤ 9 ∧ p.field = (f : Int) ∧ p.new = setF zeroSg (f : Int) y) → (∀ f : Nat, 1 ≤ f → f ≤ 9 → setF zeroSg (f : Int) u = setF zeroSg (f : Int) y ∨ ∃ p ∈ q, p.field = (f : Int)) → goodId (some u) q (some y)
  | [], u, h1, h2, _, h => by
    show some u = some y
    rw [sg_ext9 h1 h2 fun f k1 k2 => (h f k1 k2).resolve_right fun ⟨p, hp, _⟩ => nomatch hp]
  | p :: q, u, h1, h2, hq, h => by
    obtain ⟨hk, f, f1, f9, hf, hnew⟩ := hq p (List.mem_cons_self ..)
    refine ⟨by unfold preP; rw [if_pos hk]; rfl, ?_⟩
    have hu : updP p (some u) = some (setF u (f : Int) y) := by
      unfold updP
      rw [if_pos hk, hf, hnew, Option.map_some, setF_of]
    rw [hu]
    refine good_set q _ (by rw [setF_id]; exact h1) ?_ (fun r hr => hq r (List.mem_cons_of_mem _ hr)) fun g g1 g9 => ?_
    · rw [← h2]
      have hc : f = 1 ∨ f = 2 ∨ f = 3 ∨ f = 4 ∨ f = 5 ∨ f = 6 ∨ f = 7 ∨ f = 8 ∨ f = 9 := by omega
      rcases hc with rfl | rfl | rfl | rfl | rfl | rfl | rfl | rfl | rfl <;> simp [setF]
    by_cases e : g = f
    · subst e
      exact .inl setF_of
    rcases h g g1 g9 with h3 | ⟨r, hr, h3⟩
    · left
      rw [← h3]
      have hc : f = 1 ∨ f = 2 ∨ f = 3 ∨ f = 4 ∨ f = 5 ∨ f = 6 ∨ f = 7 ∨ f = 8 ∨ f = 9 := by omega
      have hd : g = 1 ∨ g = 2 ∨ g = 3 ∨ g = 4 ∨ g = 5 ∨ g = 6 ∨ g = 7 ∨ g = 8 ∨ g = 9 := by omega
      rcases hc with rfl | rfl | rfl | rfl | rfl | rfl | rfl | rfl | rfl <;> rcases hd with rfl | rfl | rfl | rfl | rfl | rfl | rfl | rfl | rfl <;> first | exact absurd rfl e | simp [setF]
    rcases List.mem_cons.1 hr with rfl | hr
    · exact absurd (by omega) e
    exact .inr ⟨r, hr, h3⟩
theorem perm_one {q : List Pt} {p : Pt} (h : (q.map core).Perm [p]) : ∃ r, q = [r] ∧ core r = p := by
  have h1 := h.length_eq
  simp at h1
  obtain ⟨r, rfl⟩ := List.length_eq_one_iff.1 h1
  have h2 := h.mem_iff (a := core r)
  simp at h2
  exact ⟨r, rfl, h2⟩
theorem perm_good {a b : List Sg} {q : List Pt} {id : Int} (hk : ∀ x y, findO a id = some x → findO b id = some y → x.kind = y.kind) (hq : (q.map core).Perm (mrgF a b id)) : goodId (findO a id) q (findO b id) := by
  unfold mrgF at hq
  split at hq
  · rename_i x y hx hy
    rw [hx, hy]
    have h1 := (show x.id = id by simpa using List.find?_some hx)
    have h2 := (show y.id = id by simpa using List.find?_some hy)
    refine good_set q x (by omega) (hk x y hx hy) (fun p hp => ?_) fun f f1 f9 => ?_
    · have h3 : core p ∈ chT x y 9 := hq.mem_iff.1 (List.mem_map.2 ⟨p, hp, rfl⟩)
      obtain ⟨f, g1, g2, g3⟩ := chT_mem h3
      have g4 : p.kind = 1 := congrArg Pt.kind g3
      have g5 : p.field = (f : Int) := congrArg Pt.field g3
      have g6 : p.new = setF zeroSg (f : Int) y := congrArg Pt.new g3
      exact ⟨g4, f, g1, g2, g5, g6⟩
    by_cases e : setF zeroSg (f : Int) x = setF zeroSg (f : Int) y
    · exact .inl e
    obtain ⟨p, hp, h4⟩ := List.mem_map.1 (hq.mem_iff.2 (chT_all f1 f9 e))
    exact .inr ⟨p, hp, congrArg Pt.field h4⟩
  · rename_i x hx hy
    obtain ⟨r, rfl, h1⟩ := perm_one hq
    rw [hx, hy]
    have h2 : r.kind = 3 := congrArg Pt.kind h1
    exact ⟨by unfold preP; rw [if_neg (by omega), if_neg (by omega)]; trivial, by show updP r (some x) = none; unfold updP; rw [if_neg (by omega), if_neg (by omega)]⟩
  · rename_i y hx hy
    obtain ⟨r, rfl, h1⟩ := perm_one hq
    rw [hx, hy]
    have h2 : r.kind = 2 := congrArg Pt.kind h1
    have h3 : r.new = y := congrArg Pt.new h1
    exact ⟨by unfold preP; rw [if_neg (by omega), if_pos h2], by show updP r none = some y; unfold updP; rw [if_neg (by omega), if_pos h2, h3]⟩
  rename_i hx hy
  obtain rfl : q = [] := by simpa using hq
  rw [hx, hy]
  exact rfl
theorem num_at {first : Int} {needs : List Int} {p : Pt} : ∀ {l : List Pt} {k : Nat}, p ∈ num first needs k l → ∃ j : Nat, j < l.length ∧ p.id = first + ((k + j : Nat) : Int) ∧ p.needs = needs ∧ ∃ q ∈ l, p.sign = q.sign ∧ p.kind = q.kind ∧ p.field = q.field ∧ p.new = q.new
  | [], _, h => by cases h
  | q :: l, k, h => by
    rcases List.mem_cons.1 h with rfl | h
    · exact ⟨0, by simp, rfl, rfl, q, List.mem_cons_self .., rfl, rfl, rfl, rfl⟩
    obtain ⟨j, h1, h2, h3, r, hr, h4⟩ := num_at h
    exact ⟨j + 1, by simp; omega, by rw [h2]; congr 2; omega, h3, r, List.mem_cons_of_mem _ hr, h4⟩
theorem incr_pairs {l : List Int} {lo hi : Int} (h : incr l lo hi) : (∀ x ∈ l, lo ≤ x ∧ x ≤ hi) ∧ l.Pairwise (· < ·) := by
  have hstep : ∀ (j : Nat) (x y : Int), l[j]? = some x → l[j + 1]? = some y → x < y := fun j x y hx hy => (h (j + 1) y (List.getElem?_eq_some_iff.1 hy).1 hy).2.2 x (by omega) (by simpa using hx)
  have hlt : ∀ (d j : Nat) (x y : Int), l[j]? = some x → l[j + d + 1]? = some y → x < y := by
    intro d
    induction d with
    | zero => exact fun j x y hx hy => hstep j x y hx hy
    | succ d ih =>
      intro j x y hx hy
      obtain ⟨z, hz⟩ : ∃ z, l[j + d + 1]? = some z := ⟨_, List.getElem?_eq_getElem (by have := (List.getElem?_eq_some_iff.1 hy).1; omega)⟩
      have h1 := ih j x z hx hz
      have h2 := hstep (j + d + 1) z y hz (by rw [← hy]; congr 1)
      omega
  refine ⟨fun x hx => ?_, ?_⟩
  · obtain ⟨j, hj⟩ := List.mem_iff_getElem?.1 hx
    have := h j x (List.getElem?_eq_some_iff.1 hj).1 hj
    exact ⟨this.1, this.2.1⟩
  rw [List.pairwise_iff_getElem]
  intro i j hi hj hij
  exact hlt (j - i - 1) i _ _ (List.getElem?_eq_getElem hi) (by rw [show i + (j - i - 1) + 1 = j by omega]; exact List.getElem?_eq_getElem hj)
theorem num_ok {a b : List Sg} {l : List Pt} {first : Int} {needs : List Int} (ha : okL a) (hb : okL b) (h : mrg a b = some l) (hf : 1 ≤ first) (hl : first + (l.length : Int) - 1 ≤ 1048576) (hn : incr needs 1 (first - 1)) : ∀ p ∈ num first needs 0 l, okP p := fun p hp => by
  obtain ⟨j, h1, h2, h3, q, hq, h4, h5, h6, h7⟩ := num_at hp
  obtain ⟨n1, n2⟩ := incr_pairs hn
  have hm := mem_ofS hq
  rw [(mrg_of ha hb h q.sign).1] at hm
  have hneeds : needsOk p := by
    refine ⟨fun x hx => ?_, by rw [h3]; exact n2⟩
    rw [h3] at hx
    have := n1 x hx
    omega
  have hid : 1 ≤ p.id ∧ p.id ≤ 1048576 := by omega
  refine ⟨hid, ?_⟩
  unfold mrgF at hm
  split at hm
  · rename_i x y hx hy
    have ox := ha.1 x (List.mem_of_find?_eq_some hx)
    have oy := hb.1 y (List.mem_of_find?_eq_some hy)
    obtain ⟨f, g1, g2, g3⟩ := chT_mem hm
    subst g3
    have hs : p.sign = x.id := h4
    have hfi : p.field = (f : Int) := h6
    have hnw : p.new = setF zeroSg (f : Int) y := h7
    refine ⟨by rw [hs]; exact ox.1, hneeds, .inl ⟨h5, by omega, by omega, ?_, ?_⟩⟩
    · rw [hnw, hfi, setF_self]
    rw [hnw, hfi, setF_of]
    exact plain_set (by omega) (by omega) oy
  · rename_i x hx hy
    have ox := ha.1 x (List.mem_of_find?_eq_some hx)
    obtain rfl := List.mem_singleton.1 hm
    exact ⟨by rw [h4]; exact ox.1, hneeds, .inr (.inr ⟨h5, h6, h7⟩)⟩
  · rename_i y hx hy
    have oy := hb.1 y (List.mem_of_find?_eq_some hy)
    obtain rfl := List.mem_singleton.1 hm
    exact ⟨by rw [h4]; exact oy.1, hneeds, .inr (.inl ⟨h5, h6, by rw [h7, h4]; rfl, by rw [h7]; exact oy⟩)⟩
  cases hm
theorem diff_run {a b : List Sg} {first : Int} {needs : List Int} {m : List Pt} (h0 : (diffR a b first needs).2 = 0) (hla : a.length ≤ 300) (hlb : b.length ≤ 300) (hm : m.Perm (diffR a b first needs).1) : runS a m = (b, 0) := by
  by_cases c1 : chkS a = 0
  · by_cases c2 : chkS b = 0
    · by_cases c3 : 32 < needs.length
      · rw [diffR_n c1 c2 c3] at h0; cases h0
      by_cases c4 : (1 ≤ first ∧ first ≤ 1048576) ∧ incr needs 1 (first - 1)
      · rw [diffR_m c1 c2 c3 c4] at h0 hm
        cases hmr : mrg a b with
        | none => rw [hmr] at h0; cases h0
        | some l =>
          rw [hmr] at h0 hm
          simp only at h0 hm
          by_cases c5 : 512 < l.length ∨ 1048576 < first + (l.length : Int) - 1
          · rw [if_pos c5] at h0; cases h0
          rw [if_neg c5] at hm
          have hm : m.Perm (num first needs 0 l) := hm
          have oa := (chkS_ok c1).1
          have ob := (chkS_ok c2).1
          have hml : m.length = l.length := by rw [hm.length_eq, num_len]
          have hok := num_ok oa ob hmr c4.1.1 (by omega) c4.2
          obtain ⟨tt, h1, h2, h3⟩ := run_good (T := findO b) m a oa (by omega) (fun p hp => ⟨hok p (hm.mem_iff.1 hp), by
            obtain ⟨_, _, _, e, _⟩ := num_at (hm.mem_iff.1 hp)
            rw [e]; omega⟩) (fun id => by
            obtain ⟨e1, e2⟩ := mrg_of oa ob hmr id
            refine perm_good e2 ?_
            rw [← e1]
            have e3 : ((ofS id m).map core).Perm ((ofS id (num first needs 0 l)).map core) := (hm.filter _).map _
            have e4 : (ofS id (num first needs 0 l)).map core = ofS id l := by
              conv => rhs; rw [← num_core (first := first) (needs := needs) (k := 0) (mrg_core oa ob hmr)]
              unfold ofS
              rw [List.filter_map]
              rfl
            rw [e4] at e3
            exact e3)
          unfold runS
          rw [if_pos c1, if_neg (by omega), h1, find_ext h2 ob h3]
      rw [diffR_i c1 c2 c3 c4] at h0; cases h0
    rw [diffR_b c1 c2] at h0; exact absurd h0 c2
  rw [diffR_a c1] at h0; exact absurd h0 c1
theorem diff_no {a b : List Sg} {first : Int} {needs : List Int} (h : (diffR a b first needs).2 ≠ 0) : (diffR a b first needs).1 = [] := by
  unfold diffR at h ⊢
  split
  · rfl
  rename_i c1
  rw [if_neg c1] at h
  split
  · rfl
  rename_i c2
  rw [if_neg c2] at h
  split
  · rfl
  rename_i c3
  rw [if_neg c3] at h
  split
  · rfl
  rename_i c4
  rw [if_neg c4] at h
  split
  · rfl
  rename_i l hl
  rw [hl] at h
  simp only at h
  split
  · rfl
  rename_i c5
  rw [if_neg c5] at h
  exact absurd rfl h
theorem swap_perm {β : Type} {l : List β} {i k : Nat} {x y : β} (hx : l[i]? = some x) (hy : l[k]? = some y) : ((l.set i y).set k x).Perm l := by
  obtain ⟨hi, hxe⟩ := List.getElem?_eq_some_iff.1 hx
  obtain ⟨hk, hye⟩ := List.getElem?_eq_some_iff.1 hy
  have h := Array.swap_perm (xs := l.toArray) (i := i) (j := k) (by simpa using hi) (by simpa using hk)
  have h2 := h.toList
  rw [Array.toList_swap] at h2
  simpa [hxe, hye] using h2
def LN (R : List Pt) (needs : List Int) (A : Option Addr) (n c : Nat) (hs : List Hd) : List SX.Arg := ⟨.slice A n c, 19, phL (R.zip hs)⟩ :: hs.map fun h => (⟨Hd.v h, 1, intsL needs⟩ : SX.Arg)
def RnD (K : Value → Nat → List Value → Prop) (f : FuncId) (xs : List SX.Arg) (Q : Value → List SX.Arg → Prop) : Prop := f = 30 ∧ ∃ (u1 u2 u3 : Value) (a b : List Sg) (first : Int) (needs : List Int), xs = [⟨u1, 14, sgsL a⟩, ⟨u2, 14, sgsL b⟩, ⟨.int .i64 first, 0, []⟩, ⟨u3, 1, intsL needs⟩] ∧ a.length ≤ 9223372036854775807 ∧ b.length ≤ 9223372036854775807 ∧ needs.length ≤ 9223372036854775807 ∧
  ∀ A n c (hs : List Hd), n = (diffR a b first needs).1.length → hs.length = n → Q (.tuple #[.slice A n c, .int .i64 (diffR a b first needs).2]) (LN (diffR a b first needs).1 needs A n c hs)
def nshD : FuncId → Option SX.Sh := fun f => if f = 30 then some (.tp [.one, .one]) else none
theorem rnD_ok (C : SX.Cx) (hP : C.P = Try.prog) (hs : C.nsh = nshD) (hR : C.Rn = RnD) : C.OkN := by
  intro f sh hf K xs Q W h hrd hK
  rw [hR] at h
  rw [hs] at hf
  rw [hP]
  obtain ⟨rfl, u1, u2, u3, a, b, first, needs, rfl, hla, hlb, hln, hQ⟩ := h
  have hf : some (SX.Sh.tp [.one, .one]) = some sh := hf
  cases hf
  obtain ⟨A, n, c, rfl, hr, hc, e1⟩ := sgs_arg (hrd ⟨u1, 14, sgsL a⟩ (by simp))
  obtain ⟨B, m, d, rfl, hr2, hc2, e2⟩ := sgs_arg (hrd ⟨u2, 14, sgsL b⟩ (by simp))
  obtain ⟨D, k, e, rfl, hr3, hc3, e3⟩ := ints_arg (hrd ⟨u3, 1, intsL needs⟩ (by simp))
  refine (diff_any a A n c b B m d first needs D k e W hr (by omega) hc hr2 (by omega) hc2 hr3 (by omega) hc3).mono ?_
  rintro e' w' ⟨hb, hdr, hs', he, hl, ⟨⟨A2, n2, c2, rfl, hnc⟩, hrd2, hfr⟩, hh⟩
  have hn2 : n2 = (diffR a b first needs).1.length := by
    have h0 : (phL ((diffR a b first needs).1.zip hs')).length = n2 * 19 := hrd2.1.1
    rw [phL_len, List.length_zip] at h0
    omega
  refine ⟨hb, _, _, he, rfl, hQ A2 n2 c2 hs' hn2 (by omega), fun y hy => ?_⟩
  rcases List.mem_cons.1 hy with rfl | hy
  · exact ⟨hrd2, hfr.resolve_right fun ⟨y, hy, _⟩ => nomatch hy⟩
  obtain ⟨h, hm, rfl⟩ := List.mem_map.1 hy
  obtain ⟨_, h1, h2⟩ := hh h hm
  exact ⟨h1, h2.resolve_right fun ⟨y, hy, _⟩ => nomatch hy⟩
theorem num_needs {first : Int} {needs : List Int} {k : Nat} {l : List Pt} : ∀ p ∈ num first needs k l, p.needs = needs := by
  induction l generalizing k with
  | nil => intro p hp; cases hp
  | cons q l ih =>
    intro p hp
    rcases List.mem_cons.1 hp with rfl | hp
    · rfl
    exact ih p hp
theorem diffR_needs {a b : List Sg} {first : Int} {needs : List Int} : ∀ p ∈ (diffR a b first needs).1, p.needs = needs := by
  unfold diffR
  split
  · intro p hp; cases hp
  split
  · intro p hp; cases hp
  split
  · intro p hp; cases hp
  split
  · intro p hp; cases hp
  split
  · intro p hp; cases hp
  split
  · intro p hp; cases hp
  exact num_needs
theorem zip_data {K : Value → Nat → List Value → Prop} {R : List Pt} {hs : List Hd} {needs : List Int} (hR : ∀ p ∈ R, p.needs = needs) (hn : needs.length ≤ 9223372036854775807) (hK : ∀ h ∈ hs, K (Hd.v h) 1 (intsL needs)) : ∀ y ∈ (R.zip hs : List Ph), K (Ph.h y) 1 (intsL y.1.needs) ∧ y.1.needs.length ≤ 9223372036854775807 := fun y hy => by
  obtain ⟨h1, h2⟩ := List.of_mem_zip (show (y.1, y.2) ∈ R.zip hs from hy)
  rw [hR _ h1]
  exact ⟨hK _ h2, hn⟩
theorem diffR_len {a b : List Sg} {first : Int} {needs : List Int} : (diffR a b first needs).1.length ≤ 512 := by
  unfold diffR
  split
  · simp
  split
  · simp
  split
  · simp
  split
  · simp
  split
  · simp
  split
  · simp
  simp only [num_len]; omega
theorem zip_fst {R : List Pt} {hs : List Hd} (h : hs.length = R.length) : (R.zip hs).map (·.1) = R := List.map_fst_zip (by omega)
def RD7 (K : Value → Nat → List Value → Prop) (f : FuncId) (xs : List SX.Arg) (v : Value) : Prop :=
  (f = 10 ∧ xs = [] ∧ v = .bool true) ∨
  (f = 18 ∧ ∃ (u u2 : Value) (ss : List Sg) (pl : List Ph), xs = [⟨u, 14, sgsL ss⟩, ⟨u2, 19, phL pl⟩] ∧ ss.length ≤ 9223372036854775807 ∧ pl.length ≤ 9223372036854775807 ∧ (∀ q ∈ pl, K q.h 1 (intsL q.1.needs) ∧ q.1.needs.length ≤ 9223372036854775807) ∧ v = .tuple #[.agg (sgsL (runS ss (pl.map (·.1))).1).toArray, .int .i64 (runS ss (pl.map (·.1))).2]) ∨
  (f = 16 ∧ ∃ (u u2 : Value) (ss tt : List Sg), xs = [⟨u, 14, sgsL ss⟩, ⟨u2, 14, sgsL tt⟩] ∧ ss.length ≤ 9223372036854775807 ∧ tt.length ≤ 9223372036854775807 ∧ v = .bool (decide (ss = tt)))
def shpD7 : FuncId → Option SX.Sh := fun f => if f = 10 then some .one else if f = 18 then some (.tp [.sl 14, .one]) else if f = 16 then some .one else none
noncomputable def cxD7 (nb : Nat) (K A : Value → Nat → List Value → Prop) : SX.Cx := { nsh := nshD, Rn := RnD, nb := nb, trm := true, P := Try.prog, R := RD7, shp := shpD7, K := K, A := A, ali := fun f => if f = 18 then [0] else [] }
theorem okD7 (nb : Nat) (K A : Value → Nat → List Value → Prop) : (cxD7 nb K A).Ok := by
  refine SX.Cx.ok_nd (fun _ => rfl) ?_ (rnD_ok _ rfl rfl rfl)
  intro K f xs v W hR hrd hKf
  rcases hR with ⟨rfl, rfl, rfl⟩ | ⟨rfl, u, u2, ss, pl, rfl, hl, hl2, hK, rfl⟩ | ⟨rfl, u, u2, ss, tt, rfl, hl, hl2, rfl⟩
  · exact (sane_any W).mono fun e w' h => SX.plainOk rfl h
  · refine Calls.mono ?_ fun e w' h => SX.SlRet.ok rfl rfl h
    obtain ⟨A, n, c, rfl, h2, h3, h4⟩ := sgs_arg (hrd ⟨u, 14, sgsL ss⟩ (by simp))
    obtain ⟨A', n', c', rfl, h2', h3', h4'⟩ := ph_arg (hrd ⟨u2, 19, phL pl⟩ (by simp))
    exact run_any ss A n c pl A' n' c' W h2 (by omega) h3 h2' (by omega) h3' fun q hq => by
      have hR := hKf _ _ _ (hK q hq).1
      exact ⟨hR.1, hR.2, by have := (hK q hq).2; have h9 := hR.1.1; simp only [intsL_len] at h9; omega⟩
  obtain ⟨A, n, c, rfl, h2, h3, h4⟩ := sgs_arg (hrd ⟨u, 14, sgsL ss⟩ (by simp))
  obtain ⟨A', n', c', rfl, h2', h3', h4'⟩ := sgs_arg (hrd ⟨u2, 14, sgsL tt⟩ (by simp))
  exact (same_any ss tt A A' n c n' c' W h2 (by omega) h3 h2' (by omega) h3').mono fun e w' h => SX.plainOk rfl h
def c16 (t : Nat) : List Value := [.int .u16 (t : Int)]
def tsL (l : List Nat) : List Value := l.flatMap c16
theorem tsL_len (l : List Nat) : (tsL l).length = l.length * 1 := SX.flat_len (f := c16) (fun _ => rfl) l
def KPd (A : Option Addr) (n c : Nat) (a : List Sg) (B : Option Addr) (m d : Nat) (b : List Sg) (D : Option Addr) (k e : Nat) (needs : List Int) (E : Option Addr) (p q : Nat) (ts : List Nat) (s : Value) (z : Nat) (xs : List Value) : Prop :=
  KDf A n c a B m d b D k e needs s z xs ∨ (s = .slice E p q ∧ z = 1 ∧ xs = tsL ts)
def tree_lpdiff : SX.Tree :=
(.df (.call 10 []) [] .one
(.df .not [(.q 5)] .one
(.br 6 []
(.ret (.k (.bool false)) [] [])
(.df (.len false) [(.q 0)] .one
(.df (.bin .gtr 3) [(.q 7), (.i 300)] .one
(.br 8 []
(.ret (.k (.bool true)) [] [])
(.df (.len false) [(.q 1)] .one
(.df (.bin .gtr 3) [(.q 9), (.i 300)] .one
(.br 10 []
(.ret (.k (.bool true)) [] [])
(.df (.callq 30 [(.ext 14), (.ext 14), .no, (.ext 1)]) (SX.Z 0 4) (.tp [.one, .one])
(.df (.bin .neq 32) [(.x 11 [1]), (.i 0)] .one
(.br 12 []
(.df (.len false) [(.x 11 [0])] .one
(.df (.bin .eql 3) [(.q 13), (.i 0)] .one
(.ret (.q 14) [] [])))
(.df (.len false) [(.q 4)] .one
(.loop [(.i 0), (.x 11 [0])] [.one, .one]
(.df (.bin .lss 3) [(.q 14), (.q 13)] .one
(.br 16 []
(.df .bnd [(.q 4), (.q 14)] .one
(.df (.elem 1 0) [(.q 4), (.q 14)] .one
(.df (.len false) [(.q 15)] .one
(.df (.bin .lss 3) [(.q 14), (.q 19)] .one
(.br 20 []
(.df (.conv .i64) [(.q 18)] .one
(.df (.len false) [(.q 15)] .one
(.df (.bin .rem 3) [(.q 21), (.q 22)] .one
(.df (.app 19 168 (.ext 19)) [(.cat []), (.q 15)] .any
(.df (.rbnd 19) [(.cat [(.q 24)]), (.q 23)] .one
(.df (.relems 19 0 19) [(.cat [(.q 24)]), (.q 23)] (.ag 19)
(.df (.rbnd 19) [(.cat [(.q 24)]), (.q 14)] .one
(.df (.relems 19 0 19) [(.cat [(.q 24)]), (.q 14)] (.ag 19)
(.df (.rbnd 19) [(.cat [(.q 24)]), (.q 14)] .one
(.df (.rset 19 0) [(.cat [(.q 24)]), (.q 14), (.x 26 [0]), (.x 26 [1]), (.x 26 [2]), (.x 26 [3]), (.x 26 [4]), (.x 26 [5]), (.x 26 [6]), (.x 26 [7]), (.x 26 [8]), (.x 26 [9]), (.x 26 [10]), (.x 26 [11]), (.x 26 [12]), (.x 26 [13]), (.x 26 [14]), (.x 26 [15]), (.x 26 [16]), (.x 26 [17]), (.x 26 [18])] .any
(.df (.rbnd 19) [(.cat [(.q 24)]), (.q 23)] .one
(.df (.rset 19 0) [(.cat [(.q 30)]), (.q 23), (.x 28 [0]), (.x 28 [1]), (.x 28 [2]), (.x 28 [3]), (.x 28 [4]), (.x 28 [5]), (.x 28 [6]), (.x 28 [7]), (.x 28 [8]), (.x 28 [9]), (.x 28 [10]), (.x 28 [11]), (.x 28 [12]), (.x 28 [13]), (.x 28 [14]), (.x 28 [15]), (.x 28 [16]), (.x 28 [17]), (.x 28 [18])] .any
(.df (.bin .add 3) [(.q 14), (.i 1)] .one
(.df (.lastq 19) [(.cat [(.q 32)])] .one
(.again 0 [(.q 33), (.q 34)])))))))))))))))
(.df (.bin .add 3) [(.q 14), (.i 1)] .one
(.again 0 [(.q 21), (.q 15)])))))))
(.df (.call 18 [(.ext 14), (.ext 19)]) [(.q 0), (.q 15)] (.tp [(.sl 14), .one])
(.df (.bin .eql 32) [(.x 17 [1]), (.i 0)] .one
(.br 18 []
(.df (.call 16 [(.row 14 [(.x 17 [0])]), (.ext 14)]) [(.row 2), (.q 1)] .one
(.ret (.q 19) [none, none, none] []))
(.ret (.k (.bool false)) [none, none, none] []))))))))))))))))))))
def args_lpdiff : List SX.V := [.x 0 [], .x 1 [], .x 2 [], .x 3 [], .x 4 []]
set_option maxRecDepth 100000 in
theorem run_lpdiff (nb : Nat) (K A : Value → Nat → List Value → Prop) : (SX.run (cxD7 nb K A) ⟨fun f => true, [⟨9, 9, [(.s 43, .one), (.s 11, .one)]⟩], 12, 100⟩ 100000 0 (SX.door 9 Try.f9 args_lpdiff [.one, .one, .one, .one, .one]) [.code (Try.f9.body.getD .skip), .top Try.f9]).strip = tree_lpdiff := by kernel_rfl
set_option maxRecDepth 100000 in
set_option maxHeartbeats 4000000 in
theorem lpdiff_any (a : List Sg) (A : Option Addr) (n c : Nat) (b : List Sg) (B : Option Addr) (m d : Nat) (first : Int) (needs : List Int) (D : Option Addr) (k e : Nat) (ts : List Nat) (E : Option Addr) (p q : Nat) (w : World) (hr : Rd w 14 A n (sgsL a)) (hn : n ≤ 9223372036854775807) (hc : n ≤ c) (hr2 : Rd w 14 B m (sgsL b)) (hn2 : m ≤ 9223372036854775807) (hc2 : m ≤ d) (hr3 : Rd w 1 D k (intsL needs)) (hn3 : k ≤ 9223372036854775807) (hc3 : k ≤ e) (hr4 : Rd w 1 E p (tsL ts)) (hn4 : p ≤ 9223372036854775807) (hc4 : p ≤ q) (hts : ∀ t ∈ ts, t ≤ 65535) : Calls Try.prog 9 #[.slice A n c, .slice B m d, .int .i64 first, .slice D k e, .slice E p q] w fun e w' => e = .returned (.bool true) ∧ Below w.heap.size w w' := by
  refine SX.calls_of_run (C := cxD7 w.heap.size (KPd A n c a B m d b D k e needs E p q ts) (KPd A n c a B m d b D k e needs E p q ts)) (G := ⟨fun f => true, [⟨9, 9, [(.s 43, .one), (.s 11, .one)]⟩], 12, 100⟩) (args := args_lpdiff) (sh := [.one, .one, .one, .one, .one]) (ρ := [.slice A n c, .slice B m d, .int .i64 first, .slice D k e, .slice E p q]) 100000 tree_lpdiff (okD7 w.heap.size _ _) Try.func9 rfl (run_lpdiff _ _ _) (by kernel_rfl) (by kernel_rfl) (by kernel_rfl) ?_ ?_ (hN := ⟨rfl, Nat.le_refl _⟩)
  · rintro W hW s sz cells ((⟨rfl, rfl, rfl⟩ | ⟨rfl, rfl, rfl⟩ | ⟨rfl, rfl, rfl⟩) | ⟨rfl, rfl, rfl⟩)
    · exact ⟨hr.same0 hW, hc⟩
    · exact ⟨hr2.same0 hW, hc2⟩
    · exact ⟨hr3.same0 hW, hc3⟩
    exact ⟨hr4.same0 hW, hc4⟩
  have hA := SX.rd_some hr
  have hln : a.length = n := by have := hr.1; rw [sgsL_len] at this; omega
  have hB := SX.rd_some hr2
  have hlm : b.length = m := by have := hr2.1; rw [sgsL_len] at this; omega
  have hD := SX.rd_some hr3
  have hlk : needs.length = k := by have := hr3.1; rw [intsL_len] at this; omega
  have hE := SX.rd_some hr4
  have hlp : ts.length = p := by have := hr4.1; rw [tsL_len] at this; omega
  have hR5 := diffR_len (a := a) (b := b) (first := first) (needs := needs)
  unfold tree_lpdiff
  refine SX.E (.bool true) (fun α => ⟨[], trivial, .inl ⟨rfl, rfl, rfl⟩, SX.noAli rfl⟩) ?_
  refine SX.D (.bool (!(true))) ?_
  refine SX.B (!(true)) (fun h6 => absurd h6 (by decide)) (fun h6 => ?_)
  try simp only [NRM] at h6
  refine SX.D (.int .i64 (((n : Nat) : Int))) ?_
  refine SX.D (.bool (decide (((n : Nat) : Int) > 300))) ?_
  refine SX.B (decide (((n : Nat) : Int) > 300)) (fun h8 => ?_) (fun h8 => ?_)
  · try simp only [NRM] at h8
    exact SX.VC_ret fun α W _ _ hS => SX.ret_of hS (x := .bool true) (by kernel_rfl) rfl
  try simp only [NRM] at h8
  refine SX.D (.int .i64 (((m : Nat) : Int))) ?_
  refine SX.D (.bool (decide (((m : Nat) : Int) > 300))) ?_
  refine SX.B (decide (((m : Nat) : Int) > 300)) (fun h10 => ?_) (fun h10 => ?_)
  · try simp only [NRM] at h10
    exact SX.VC_ret fun α W _ _ hS => SX.ret_of hS (x := .bool true) (by kernel_rfl) rfl
  try simp only [NRM] at h10
  refine SX.VC_dn (fun v N => ∃ A1 n1 c1 hs1, n1 = (diffR a b first needs).1.length ∧ List.length (α := Hd) hs1 = n1 ∧ v = .tuple #[.slice A1 n1 c1, .int .i64 (diffR a b first needs).2] ∧ N = (LN (diffR a b first needs).1 needs A1 n1 c1 hs1)) (fun _ => rfl) (fun α => ⟨[⟨.slice A n c, 14, sgsL a⟩, ⟨.slice B m d, 14, sgsL b⟩, ⟨.int .i64 first, 0, []⟩, ⟨.slice D k e, 1, intsL needs⟩], ⟨by kernel_rfl, by kernel_rfl, K_ofD (y := ⟨.slice A n c, 14, sgsL a⟩) (by kernel_rfl) (.inl (.inl ⟨rfl, rfl, rfl⟩)), by kernel_rfl, by kernel_rfl, K_ofD (y := ⟨.slice B m d, 14, sgsL b⟩) (by kernel_rfl) (.inl (.inr (.inl ⟨rfl, rfl, rfl⟩))), by kernel_rfl, by kernel_rfl, by kernel_rfl, by kernel_rfl, K_ofD (y := ⟨.slice D k e, 1, intsL needs⟩) (by kernel_rfl) (.inl (.inr (.inr ⟨rfl, rfl, rfl⟩))), trivial⟩, rfl, _, _, _, a, b, first, needs, rfl, by omega, by omega, by omega, fun A1 n1 c1 hs1 g1 g2 => ⟨A1, n1, c1, hs1, g1, g2, rfl, rfl⟩⟩) ?_
  rintro _ _ - ⟨A1, n1, c1, hs1, q1, z1, rfl, rfl⟩
  have hdat : ∀ y ∈ ((diffR a b first needs).1.zip hs1 : List Ph), ((cxD7 w.heap.size (KPd A n c a B m d b D k e needs E p q ts) (KPd A n c a B m d b D k e needs E p q ts)).plus (LN (diffR a b first needs).1 needs A1 n1 c1 hs1 ++ (cxD7 w.heap.size (KPd A n c a B m d b D k e needs E p q ts) (KPd A n c a B m d b D k e needs E p q ts)).N)).K (Ph.h y) 1 (intsL y.1.needs) ∧ y.1.needs.length ≤ 9223372036854775807 := zip_data (K := ((cxD7 w.heap.size (KPd A n c a B m d b D k e needs E p q ts) (KPd A n c a B m d b D k e needs E p q ts)).plus (LN (diffR a b first needs).1 needs A1 n1 c1 hs1 ++ (cxD7 w.heap.size (KPd A n c a B m d b D k e needs E p q ts) (KPd A n c a B m d b D k e needs E p q ts)).N)).K) diffR_needs (by omega) (fun h hh => .inr (List.mem_append_left _ (List.mem_cons_of_mem _ (List.mem_map.2 ⟨h, hh, rfl⟩))))
  refine SX.D (.bool (((diffR a b first needs).2 : Int) != 0)) ?_
  refine SX.B (((diffR a b first needs).2 : Int) != 0) (fun h12 => ?_) (fun h12 => ?_)
  · try simp only [NRM] at h12
    refine SX.D (.int .i64 (((n1 : Nat) : Int))) ?_
    refine SX.D (.bool ((((n1 : Nat) : Int) : Int) == 0)) ?_
    have hn0 : n1 = 0 := by rw [q1, diff_no (by simpa using h12)]; rfl
    exact SX.F (.bool ((((n1 : Nat) : Int) : Int) == 0)) (by rw [hn0]; rfl)
  try simp only [NRM] at h12
  refine SX.D (.int .i64 (((p : Nat) : Int))) ?_
  have herr : (diffR a b first needs).2 = 0 := by simpa using h12
  refine SX.VC_loopN (fun xs N => ∃ (i : Nat) (A2 : Option Addr) (n2 c2 : Nat) (L : List Ph), xs = [.int .i64 (i : Int), .slice A2 n2 c2] ∧ i ≤ p ∧ n2 = L.length ∧ L.Perm ((diffR a b first needs).1.zip hs1 : List Ph) ∧ (⟨.slice A2 n2 c2, 19, phL L⟩ : SX.Arg) ∈ N) (fun xs => match xs with | .int _ i :: _ => p - i.toNat | _ => 0) (fun _ => rfl) (fun α => ⟨[⟨.slice A1 n1 c1, 19, phL ((diffR a b first needs).1.zip hs1)⟩], (fun y hy => by rw [List.mem_singleton.1 hy]; exact List.mem_append_left _ (List.mem_cons_self ..)), 0, A1, n1, c1, (diffR a b first needs).1.zip hs1, by kernel_rfl, by omega, by rw [List.length_zip]; omega, .refl _, List.mem_singleton.2 rfl⟩) ?_
  rintro xs N - ⟨i, A2, n2, c2, L, rfl, hip, hnL, hperm, hLN⟩
  have hL512 : L.length ≤ 512 := by have h0 := hperm.length_eq; rw [List.length_zip] at h0; omega
  refine SX.D (.bool (decide (((i : Nat) : Int) < ((p : Nat) : Int)))) ?_
  refine SX.B (decide (((i : Nat) : Int) < ((p : Nat) : Int))) (fun h16 => ?_) (fun h16 => ?_)
  · try simp only [NRM] at h16
    obtain ⟨tt, htt⟩ : ∃ tt, ts[i]? = some tt := ⟨_, List.getElem?_eq_getElem (by omega)⟩
    have htt5 := hts tt (List.mem_of_getElem? htt)
    refine SX.E (.bool true) (fun α => SX.extBnd (A := E) (n := p) (c := q) (j := i) hE (by kernel_rfl) (by kernel_rfl) (by omega)) ?_
    refine SX.E (.int .u16 ((tt : Int))) (fun α => SX.extElem (o := 0) (v := .int .u16 ((tt : Int))) (f := c16) (l := ts) (A := E) (n := p) (c := q) (j := i) (z := tt) (fun _ => rfl) hE (by kernel_rfl) (by kernel_rfl) (by omega) (.inl (.inl (.inr ⟨rfl, rfl, rfl⟩))) htt (by decide) (by kernel_rfl)) ?_
    refine SX.D (.int .i64 (((n2 : Nat) : Int))) ?_
    refine SX.D (.bool (decide (((i : Nat) : Int) < ((n2 : Nat) : Int)))) ?_
    refine SX.B (decide (((i : Nat) : Int) < ((n2 : Nat) : Int))) (fun h20 => ?_) (fun h20 => ?_)
    · try simp only [NRM] at h20
      refine SX.E (.int .i64 ((tt : Int))) (fun α => SX.W ((tt : Int))) ?_
      refine SX.D (.int .i64 (((n2 : Nat) : Int))) ?_
      obtain ⟨kk, hkk⟩ : ∃ kk, kk = tt % n2 := ⟨_, rfl⟩
      have hkn : kk < n2 := by rw [hkk]; exact Nat.mod_lt _ (by omega)
      obtain ⟨u, hu⟩ : ∃ u, L[kk]? = some u := ⟨_, List.getElem?_eq_getElem (by omega)⟩
      obtain ⟨v, hv⟩ : ∃ v, L[i]? = some v := ⟨_, List.getElem?_eq_getElem (by omega)⟩
      refine SX.E (.int .i64 (((kk : Nat) : Int))) (fun α => Eq.trans (b := SX.binV .rem (.int .i64 (tt : Int)) (.int .i64 (n2 : Int))) (by kernel_rfl) (by rw [hkk]; exact SX.rem_nat (by omega))) ?_
      refine SX.VC_df (.agg ((L).flatMap cellsH).toArray) (fun α => SX.app_rel (f := cellsH) (l1 := []) (l2 := L) (fun _ => rfl) cellsH_one (by decide) (by kernel_rfl) (SX.src_ext (K_ofD (y := ⟨.slice A2 n2 c2, 19, phL L⟩) (by kernel_rfl) (.inr hLN))) (by simp only [List.length_nil]; omega) (by simp only [List.length_nil]; omega)) (rfl) ?_
      refine SX.E (.bool true) (fun α => SX.row_bnd (f := cellsH) (l := L) (k := kk) (fun _ => rfl) (by decide) (SX.cat1 (by kernel_rfl)) (by kernel_rfl) (by (try simp only [List.length_set]); omega)) ?_
      refine SX.E (.agg (cellsH u).toArray) (fun α => SX.row_elems (f := cellsH) (l := L) (k := kk) (z := u) (fun _ => rfl) (by decide) (SX.cat1 (by kernel_rfl)) (by kernel_rfl) hu) ?_
      refine SX.E (.bool true) (fun α => SX.row_bnd (f := cellsH) (l := L) (k := i) (fun _ => rfl) (by decide) (SX.cat1 (by kernel_rfl)) (by kernel_rfl) (by (try simp only [List.length_set]); omega)) ?_
      refine SX.E (.agg (cellsH v).toArray) (fun α => SX.row_elems (f := cellsH) (l := L) (k := i) (z := v) (fun _ => rfl) (by decide) (SX.cat1 (by kernel_rfl)) (by kernel_rfl) hv) ?_
      refine SX.E (.bool true) (fun α => SX.row_bnd (f := cellsH) (l := L) (k := i) (fun _ => rfl) (by decide) (SX.cat1 (by kernel_rfl)) (by kernel_rfl) (by (try simp only [List.length_set]); omega)) ?_
      refine SX.VC_df (.agg (((L).set i u).flatMap cellsH).toArray) (fun α => SX.row_set (f := cellsH) (l := L) (k := i) (z := u) (fun _ => rfl) (by decide) (SX.cat1 (by kernel_rfl)) (by kernel_rfl) (by (try simp only [List.length_set]); omega) (by kernel_rfl)) (rfl) ?_
      refine SX.E (.bool true) (fun α => SX.row_bnd (f := cellsH) (l := L) (k := kk) (fun _ => rfl) (by decide) (SX.cat1 (by kernel_rfl)) (by kernel_rfl) (by (try simp only [List.length_set]); omega)) ?_
      refine SX.VC_df (.agg ((((L).set i u).set kk v).flatMap cellsH).toArray) (fun α => SX.row_set (f := cellsH) (l := (L).set i u) (k := kk) (z := v) (fun _ => rfl) (by decide) (SX.cat1 (by kernel_rfl)) (by kernel_rfl) (by (try simp only [List.length_set]); omega) (by kernel_rfl)) (rfl) ?_
      refine SX.E (.int .i64 (((i + 1 : Nat) : Int))) (fun α => SX.W1 i) ?_
      refine SX.VC_dn (fun vv N3 => ∃ A3 n3 c3, n3 = L.length ∧ vv = .slice A3 n3 c3 ∧ N3 = [⟨.slice A3 n3 c3, 19, phL ((L.set i u).set kk v)⟩]) (fun _ => rfl) (fun α A3 n3 c3 g1 _ _ => ⟨A3, n3, c3, by
        have g2 : ([Value.agg ([Value.agg (phL ((L.set i u).set kk v)).toArray].flatMap SX.cellsV).toArray].flatMap SX.cellsV).length = n3 * 19 := cast (by kernel_rfl) g1
        simp only [List.flatMap_cons, List.flatMap_nil, List.append_nil, SX.cellsV, List.toList_toArray, phL_len, List.length_set] at g2
        omega, rfl, Eq.trans (b := [⟨.slice A3 n3 c3, 19, [Value.agg ([Value.agg (phL ((L.set i u).set kk v)).toArray].flatMap SX.cellsV).toArray].flatMap SX.cellsV⟩]) (by kernel_rfl) (by simp [SX.cellsV])⟩) ?_
      rintro _ _ - ⟨A3, n3, c3, q3, rfl, rfl⟩
      exact SX.VC_again fun α => ⟨rfl, _, (fun y hy => hy), ⟨i + 1, A3, n3, c3, (L.set i u).set kk v, by kernel_rfl, by omega, by simp only [List.length_set]; exact q3, (swap_perm hv hu).trans hperm, List.mem_append_left _ (List.mem_singleton.2 rfl)⟩, cast (by kernel_rfl) (show p - ((i + 1 : Nat) : Int).toNat < p - (i : Int).toNat by omega)⟩
    try simp only [NRM] at h20
    refine SX.E (.int .i64 (((i + 1 : Nat) : Int))) (fun α => SX.W1 i) ?_
    exact SX.VC_again fun α => ⟨rfl, _, (fun y hy => hy), ⟨i + 1, A2, n2, c2, L, by kernel_rfl, by omega, hnL, hperm, hLN⟩, cast (by kernel_rfl) (show p - ((i + 1 : Nat) : Int).toNat < p - (i : Int).toNat by omega)⟩
  try simp only [NRM] at h16
  have hrun : runS a (L.map (·.1)) = (b, 0) := diff_run herr (by (try simp at h8); omega) (by (try simp at h10); omega) (by have h0 := hperm.map (·.1); rw [zip_fst (by omega)] at h0; exact h0)
  refine SX.VC_df (.tuple #[.agg (sgsL b).toArray, .int .i64 0]) (fun α => ⟨[⟨.slice A n c, 14, sgsL a⟩, ⟨.slice A2 n2 c2, 19, phL L⟩], ⟨by kernel_rfl, by kernel_rfl, K_ofD (y := ⟨.slice A n c, 14, sgsL a⟩) (by kernel_rfl) (.inl (.inl (.inl (.inl ⟨rfl, rfl, rfl⟩)))), by kernel_rfl, by kernel_rfl, K_ofD (y := ⟨.slice A2 n2 c2, 19, phL L⟩) (by kernel_rfl) (.inr hLN), trivial⟩, .inr (.inl ⟨rfl, _, _, a, L, rfl, by omega, by omega, fun y hy => ⟨.inl (hdat y (hperm.mem_iff.1 hy)).1, (hdat y (hperm.mem_iff.1 hy)).2⟩, by rw [hrun]⟩), fun j hj x sz hx _ => (by (obtain rfl : j = 0 := by simpa using (show j ∈ [0] from hj)); cases hx; exact (show (KPd A n c a B m d b D k e needs E p q ts) (.slice A n c) 14 (sgsL a) from .inl (.inl ⟨rfl, rfl, rfl⟩)))⟩) (sgs_fit _ _) ?_
  refine SX.D (.bool ((0 : Int) == 0)) ?_
  refine SX.B ((0 : Int) == 0) (fun h18 => ?_) (fun h18 => absurd h18 (by decide))
  try simp only [NRM] at h18
  refine SX.E (.bool true) (fun α => ⟨[⟨(α 2).h, 14, sgsL b⟩, ⟨.slice B m d, 14, sgsL b⟩], ⟨Eq.trans (b := (⟨(α 2).h, 14, [Value.agg (sgsL b).toArray].flatMap SX.cellsV⟩ : SX.Arg)) (by simp [SX.cellsV]) (by kernel_rfl), by kernel_rfl, by kernel_rfl, K_ofD (y := ⟨.slice B m d, 14, sgsL b⟩) (by kernel_rfl) (.inl (.inl (.inl (.inr (.inl ⟨rfl, rfl, rfl⟩))))), trivial⟩, .inr (.inr (⟨rfl, _, _, b, b, rfl, by omega, by omega, by rw [decide_eq_true rfl]⟩)), SX.noAli rfl⟩) ?_
  exact SX.VC_ret fun α W _ _ hS => SX.ret_of hS (x := .bool true) (by kernel_rfl) rfl
end Go.Proofs.Ytodlcjhefojibaa
namespace Go.Proofs.Ytodlcjhefojibaa
set_option maxRecDepth 20000
open Go Go.RowKit Go.ChangeShapes Go.WideShapes Go.ChangeAt
theorem max_eq : maxLen = 9223372036854775807 := by unfold maxLen; rfl
section
variable {H : Type} {enc : TypeId × Value → H} {P : Program} {w : World} {base : Nat} {spare : Nat → Bool} {held : Bool} {fuel : Nat} {t : TypeId} {cs : List Value}
theorem take_at {off : Nat} {v : Value} (h : (cs.drop off).take 1 = [v]) : cs[off]? = some v := by
  have : ((cs.drop off).take 1)[0]? = some v := by rw [h]; rfl
  simpa [List.getElem?_take, List.getElem?_drop] using this
theorem int_at {off : Nat} (hu : P.underlying t = some (.int .i64)) {y : DataW H × List MemPlace} (h : DataW.trod enc P w base spare held fuel t ((cs.drop off).take 1) = some y) : ∃ n, cs[off]? = some (.int .i64 n) := by
  obtain ⟨n, e, _⟩ := DataW.trod_int hu h
  exact ⟨n, take_at e⟩
theorem ints2_at {off : Nat} {m k : Int} (h : (cs.drop off).take 2 = [.int .i64 m, .int .i64 k]) : cs[off]? = some (.int .i64 m) ∧ cs[off + 1]? = some (.int .i64 k) := by
  have h0 : ((cs.drop off).take 2)[0]? = some (.int .i64 m) := by rw [h]; rfl
  have h1 : ((cs.drop off).take 2)[1]? = some (.int .i64 k) := by rw [h]; rfl
  simp [List.getElem?_take, List.getElem?_drop] at h0 h1
  exact ⟨h0, h1⟩
end
section
variable {H : Type} {enc : TypeId × Value → H} {w : World} {base : Nat} {sp : Nat → Bool} {held : Bool} {r : Reach} {b0 : Nat} {v : Value} {d : DataW H} {ps : List MemPlace}
theorem ratio_cells {n : Nat} {cs : List Value} {y : DataW H × List MemPlace} (hf : DataW.trod enc Try.prog w base sp held n 24 cs = some y) : ∃ m k : Int, cs = [.int .i64 m, .int .i64 k] := by
  obtain ⟨xs, n, _, _, hlen, hl, hx⟩ := DataW.trod_struct Try.underlying24 hf
  have hC : Try.prog.cellsOf 24 = 2 := by kernel_rfl
  rw [hC] at hlen
  have hl' : xs.length = 2 := hl
  have g0 : DataW.trod enc Try.prog w base sp held n 3 ((cs.drop 0).take 1) = some (xs[0]'(by omega)) := (hx 0 _ rfl).trans (List.getElem?_eq_getElem _)
  obtain ⟨v0, e0⟩ := int_at Try.underlying3 g0
  have g1 : DataW.trod enc Try.prog w base sp held n 3 ((cs.drop 1).take 1) = some (xs[1]'(by omega)) := (hx 1 _ rfl).trans (List.getElem?_eq_getElem _)
  obtain ⟨v1, e1⟩ := int_at Try.underlying3 g1
  refine ⟨v0, v1, ?_⟩
  apply List.ext_getElem?
  intro i
  by_cases hi : i < 2
  · have hc : i = 0 ∨ i = 1 := by omega
    rcases hc with rfl | rfl
    · exact e0
    exact e1
  rw [List.getElem?_eq_none (by omega), List.getElem?_eq_none (by show 2 ≤ i; omega)]
theorem sign_cells {n : Nat} {cs : List Value} {y : DataW H × List MemPlace} (hf : DataW.trod enc Try.prog w base sp held n 26 cs = some y) : ∃ s : Sg, cs = cellsSg s := by
  obtain ⟨xs, n, _, _, hlen, hl, hx⟩ := DataW.trod_struct Try.underlying26 hf
  have hC : Try.prog.cellsOf 26 = 14 := by kernel_rfl
  rw [hC] at hlen
  have hl' : xs.length = 12 := hl
  have g0 : DataW.trod enc Try.prog w base sp held n 3 ((cs.drop 0).take 1) = some (xs[0]'(by omega)) := (hx 0 _ rfl).trans (List.getElem?_eq_getElem _)
  obtain ⟨v0, e0⟩ := int_at Try.underlying3 g0
  have g1 : DataW.trod enc Try.prog w base sp held n 3 ((cs.drop 1).take 1) = some (xs[1]'(by omega)) := (hx 1 _ rfl).trans (List.getElem?_eq_getElem _)
  obtain ⟨v1, e1⟩ := int_at Try.underlying3 g1
  have g2 : DataW.trod enc Try.prog w base sp held n 3 ((cs.drop 2).take 1) = some (xs[2]'(by omega)) := (hx 2 _ rfl).trans (List.getElem?_eq_getElem _)
  obtain ⟨v2, e2⟩ := int_at Try.underlying3 g2
  have g3 : DataW.trod enc Try.prog w base sp held n 3 ((cs.drop 3).take 1) = some (xs[3]'(by omega)) := (hx 3 _ rfl).trans (List.getElem?_eq_getElem _)
  obtain ⟨v3, e3⟩ := int_at Try.underlying3 g3
  have g4 : DataW.trod enc Try.prog w base sp held n 3 ((cs.drop 4).take 1) = some (xs[4]'(by omega)) := (hx 4 _ rfl).trans (List.getElem?_eq_getElem _)
  obtain ⟨v4, e4⟩ := int_at Try.underlying3 g4
  have g5 : DataW.trod enc Try.prog w base sp held n 3 ((cs.drop 5).take 1) = some (xs[5]'(by omega)) := (hx 5 _ rfl).trans (List.getElem?_eq_getElem _)
  obtain ⟨v5, e5⟩ := int_at Try.underlying3 g5
  have g6 : DataW.trod enc Try.prog w base sp held n 3 ((cs.drop 6).take 1) = some (xs[6]'(by omega)) := (hx 6 _ rfl).trans (List.getElem?_eq_getElem _)
  obtain ⟨v6, e6⟩ := int_at Try.underlying3 g6
  have g7 : DataW.trod enc Try.prog w base sp held n 3 ((cs.drop 7).take 1) = some (xs[7]'(by omega)) := (hx 7 _ rfl).trans (List.getElem?_eq_getElem _)
  obtain ⟨v7, e7⟩ := int_at Try.underlying3 g7
  have g8 : DataW.trod enc Try.prog w base sp held n 3 ((cs.drop 8).take 1) = some (xs[8]'(by omega)) := (hx 8 _ rfl).trans (List.getElem?_eq_getElem _)
  obtain ⟨v8, e8⟩ := int_at Try.underlying3 g8
  have g9 : DataW.trod enc Try.prog w base sp held n 3 ((cs.drop 9).take 1) = some (xs[9]'(by omega)) := (hx 9 _ rfl).trans (List.getElem?_eq_getElem _)
  obtain ⟨v9, e9⟩ := int_at Try.underlying3 g9
  have g10 : DataW.trod enc Try.prog w base sp held n 24 ((cs.drop 10).take 2) = some (xs[10]'(by omega)) := (hx 10 _ rfl).trans (List.getElem?_eq_getElem _)
  obtain ⟨v10, v11, r10⟩ := ratio_cells g10
  obtain ⟨e10, e11⟩ := ints2_at r10
  have g12 : DataW.trod enc Try.prog w base sp held n 24 ((cs.drop 12).take 2) = some (xs[11]'(by omega)) := (hx 11 _ rfl).trans (List.getElem?_eq_getElem _)
  obtain ⟨v12, v13, r12⟩ := ratio_cells g12
  obtain ⟨e12, e13⟩ := ints2_at r12
  refine ⟨⟨v0, v1, v2, v3, v4, v5, v6, v7, v8, v9, v10, v11, v12, v13⟩, ?_⟩
  apply List.ext_getElem?
  intro i
  by_cases hi : i < 14
  · have hc : i = 0 ∨ i = 1 ∨ i = 2 ∨ i = 3 ∨ i = 4 ∨ i = 5 ∨ i = 6 ∨ i = 7 ∨ i = 8 ∨ i = 9 ∨ i = 10 ∨ i = 11 ∨ i = 12 ∨ i = 13 := by omega
    rcases hc with rfl | rfl | rfl | rfl | rfl | rfl | rfl | rfl | rfl | rfl | rfl | rfl | rfl | rfl
    · exact e0
    · exact e1
    · exact e2
    · exact e3
    · exact e4
    · exact e5
    · exact e6
    · exact e7
    · exact e8
    · exact e9
    · exact e10
    · exact e11
    · exact e12
    exact e13
  rw [List.getElem?_eq_none (by omega), List.getElem?_eq_none (by show 14 ≤ i; omega)]
theorem els_of {β : Type} {f : β → List Value} {Q : β → Prop} {sz : Nat} (a : Addr) : ∀ (len : Nat), (∀ i, i < len → ∃ c : β, Q c ∧ w.cells? base (a.add (i * sz)) sz = some (f c)) →
    ∃ l : List β, l.length = len ∧ (∀ c ∈ l, Q c) ∧ ∀ i c, l[i]? = some c → w.cells? base (a.add (i * sz)) sz = some (f c)
  | 0, _ => ⟨[], rfl, (fun _ h => nomatch h), by simp⟩
  | len + 1, h => by
    obtain ⟨l, hl, hq, hx⟩ := els_of a len (fun i hi => h i (by omega))
    obtain ⟨c, hqc, hc⟩ := h len (by omega)
    refine ⟨l ++ [c], by simp [hl], fun c' hc' => ?_, fun i c' hc' => ?_⟩
    · rcases List.mem_append.1 hc' with h1 | h1
      · exact hq c' h1
      obtain rfl : c' = c := by simpa using h1
      exact hqc
    rw [List.getElem?_append] at hc'
    split at hc'
    · exact hx i c' hc'
    have : i - l.length = 0 := by
      rcases Nat.eq_zero_or_pos (i - l.length) with h0 | h0
      · exact h0
      rw [List.getElem?_eq_none (by simp; omega)] at hc'; cases hc'
    rw [this] at hc'
    obtain rfl : c = c' := by simpa using hc'
    obtain rfl : i = len := by omega
    exact hc
theorem slice_of {β : Type} {f : β → List Value} {Q : β → Prop} {sz : Nat} {t e : TypeId} {n : Nat} {cs : List Value} {y : DataW H × List MemPlace} (hu : Try.prog.underlying t = some (.slice e)) (hC : Try.prog.cellsOf e = sz) (h0 : 0 < sz) (hlen : ∀ c, (f c).length = sz)
    (hel : ∀ (n : Nat) (cs : List Value) (y : DataW H × List MemPlace), DataW.trod enc Try.prog w base sp held n e cs = some y → ∃ c, Q c ∧ cs = f c) (hf : DataW.trod enc Try.prog w base sp held n t cs = some y) :
    ∃ (A : Option Addr) (k cap : Nat) (l : List β), cs = [.slice A k cap] ∧ Rd w sz A k (l.flatMap f) ∧ k ≤ cap ∧ cap ≤ maxLen ∧ ∀ c ∈ l, Q c := by
  rcases DataW.trod_slice hu hf with ⟨he, _⟩ | ⟨a, len, cap', elems, rest, m, _, he, _, _, hlc, hcm, hel', hcell, _, _⟩
  · exact ⟨none, 0, 0, [], he, ⟨by simp, fun h => absurd h (by omega)⟩, Nat.le_refl _, by omega, fun _ h => nomatch h⟩
  rw [hC] at hcell
  obtain ⟨l, hl, hq, hx⟩ := els_of (w := w) (base := base) (f := f) (Q := Q) (sz := sz) a len fun i hi => by
    have h1 := hcell i hi
    rw [List.getElem?_eq_getElem (by omega)] at h1
    cases hq : w.cells? base (a.add (i * sz)) sz with
    | none => rw [hq] at h1; simp at h1
    | some cs =>
      rw [hq] at h1
      obtain ⟨c, hqc, rfl⟩ := hel _ _ _ (by simpa using h1)
      exact ⟨c, hqc, rfl⟩
  have hll : (l.flatMap f).length = len * sz := by rw [SX.flat_len hlen, hl]
  refine ⟨some a, len, cap', l, he, ⟨hll, fun hn => ⟨a, rfl, ?_, fun j u hu => ?_⟩⟩, by omega, by omega, hq⟩
  · obtain ⟨c, hc⟩ : ∃ c, l[0]? = some c := ⟨_, List.getElem?_eq_getElem (by omega)⟩
    have := World.cells?_block (hx 0 c hc) (by omega)
    rwa [block_of_add] at this
  have hj : j < len * sz := by
    have := (List.getElem?_eq_some_iff.1 hu).1
    rwa [hll] at this
  have hd : j / sz < len := Nat.div_lt_of_lt_mul (by rw [Nat.mul_comm]; exact hj)
  have hm : j % sz < sz := Nat.mod_lt _ h0
  obtain ⟨c, hc⟩ : ∃ c, l[j / sz]? = some c := ⟨_, List.getElem?_eq_getElem (by omega)⟩
  have hw := hx _ c hc
  have hjj : j / sz * sz + j % sz = j := by rw [Nat.mul_comm]; exact Nat.div_add_mod j sz
  have h4 : (f c)[j % sz]? = some u := by
    rw [← hjj, ← List.getElem?_drop, SX.flat_elem hlen hc, List.getElem?_append_left (by rw [hlen]; exact hm)] at hu
    exact hu
  obtain ⟨_, _, h5⟩ := World.cells?_some hw
  have h6 := (h5 (j % sz) hm).trans h4
  have h7 : (a.add (j / sz * sz)).add (j % sz) = a.add j := by rw [Addr.add_add, hjj]
  rw [h7] at h6
  exact h6
theorem int_cell {n : Nat} {cs : List Value} {y : DataW H × List MemPlace} (hf : DataW.trod enc Try.prog w base sp held n 3 cs = some y) : ∃ c : Int, True ∧ cs = cellsI c := by
  obtain ⟨n, e, _⟩ := DataW.trod_int Try.underlying3 hf
  exact ⟨n, trivial, e⟩
theorem ints_of {n : Nat} {cs : List Value} {y : DataW H × List MemPlace} (hf : DataW.trod enc Try.prog w base sp held n 27 cs = some y) :
    ∃ (A : Option Addr) (k cap : Nat) (l : List Int), cs = [.slice A k cap] ∧ Rd w 1 A k (intsL l) ∧ k ≤ cap ∧ cap ≤ maxLen := by
  obtain ⟨A, k, cap, l, h1, h2, h3, h4, _⟩ := slice_of (f := cellsI) (sz := 1) (Q := fun _ => True) Try.underlying27 (by kernel_rfl) (by decide) (fun _ => rfl) (fun n cs y h => int_cell h) hf
  exact ⟨A, k, cap, l, h1, h2, h3, h4⟩
theorem open_sgs (hd : DataW.Trod enc Try.prog w base sp held 22 v d ps) : ∃ (A : Option Addr) (n cap : Nat) (l : List Sg), v.cells.toList = [.slice A n cap] ∧ Rd w 14 A n (sgsL l) ∧ n ≤ cap ∧ cap ≤ maxLen := by
  obtain ⟨fuel, hf⟩ := hd
  obtain ⟨A, k, cap, l, h1, h2, h3, h4, _⟩ := slice_of (f := cellsSg) (sz := 14) (Q := fun _ => True) Try.underlying22 (by kernel_rfl) (by decide) (fun _ => rfl) (fun n cs y h => by obtain ⟨s, e⟩ := sign_cells h; exact ⟨s, trivial, e⟩) hf
  exact ⟨A, k, cap, l, h1, h2, h3, h4⟩
theorem open_ints (hd : DataW.Trod enc Try.prog w base sp held 27 v d ps) : ∃ (A : Option Addr) (n cap : Nat) (l : List Int), v.cells.toList = [.slice A n cap] ∧ Rd w 1 A n (intsL l) ∧ n ≤ cap ∧ cap ≤ maxLen := by
  obtain ⟨fuel, hf⟩ := hd
  exact ints_of hf
theorem v_slice {r : Reach} {b0 : Nat} {t e : TypeId} (hu : Try.prog.underlying t = some (.slice e)) (hval : Value.okWide Try.prog w r b0 t v) {A : Option Addr} {n cap : Nat} (h : v.cells.toList = [.slice A n cap]) : v = .slice A n cap := by
  obtain ⟨A', n', c', rfl⟩ := okWide_slice hu hval
  simpa [Value.cells] using h
end
end Go.Proofs.Ytodlcjhefojibaa
namespace Go.Proofs.Ytodlcjhefojibaa
set_option maxRecDepth 20000
open Go Go.RowKit Go.ChangeShapes Go.WideShapes Go.ChangeAt
section
variable {H : Type} {enc : TypeId × Value → H} {w : World} {base : Nat} {sp : Nat → Bool} {held : Bool} {r : Reach} {b0 : Nat} {v : Value} {d : DataW H} {ps : List MemPlace}
theorem u16_cell {n : Nat} {cs : List Value} {y : DataW H × List MemPlace} (hf : DataW.trod enc Try.prog w base sp held n 58 cs = some y) : ∃ t : Nat, t ≤ 65535 ∧ cs = c16 t := by
  obtain ⟨n, e, _, hw⟩ := DataW.trod_int Try.underlying58 hf
  have h : (decide (IntKind.u16.min ≤ n) && decide (n ≤ IntKind.u16.max)) = true := hw
  rw [Bool.and_eq_true, decide_eq_true_eq, decide_eq_true_eq] at h
  have h1 : 0 ≤ n := h.1
  have h2 : n ≤ 65535 := h.2
  refine ⟨n.toNat, by omega, e.trans ?_⟩
  show [Value.int .u16 n] = [Value.int .u16 (n.toNat : Int)]
  rw [Int.toNat_of_nonneg h1]
theorem open_u16s (hd : DataW.Trod enc Try.prog w base sp held 55 v d ps) : ∃ (A : Option Addr) (n cap : Nat) (l : List Nat), v.cells.toList = [.slice A n cap] ∧ Rd w 1 A n (tsL l) ∧ n ≤ cap ∧ cap ≤ maxLen ∧ ∀ t ∈ l, t ≤ 65535 := by
  obtain ⟨fuel, hf⟩ := hd
  exact slice_of (f := c16) (sz := 1) (Q := fun t => t ≤ 65535) Try.underlying55 (by kernel_rfl) (by decide) (fun _ => rfl) (fun n cs y h => u16_cell h) hf
end
end Go.Proofs.Ytodlcjhefojibaa
namespace Go.Proofs.Ytodlcjhefojibaa.patchDiff
open Go Go.ChangeShapes Go.WideShapes Go.ChangeAt Go.RowKit
set_option maxRecDepth 100000 in
theorem lifted (os : Os) (started : os.Started) (H : Type) (enc : TypeId × Value → H) :
    ReturnsInHanded {} Try.checked os 9 .any (Rows.patchDiffSpec.pre6 enc Try.prog Try.f9 Rows.patchDiffRow.domain false) (Rows.patchDiffSpec.post enc Try.prog Try.f9 false true false false) := by
  refine returnsInHanded_of_change (C := Try.checked) ownK started (by kernel_rfl) Try.func9
    (ChangeSpec.witness6 (enc := enc) (C := Try.checked) false ⟨#[], #[.slice none 0 0, .slice none 0 0, .int .i64 0, .slice none 0 0, .slice none 0 0], []⟩ 8 (by kernel_rfl) (by kernel_rfl) (by kernel_rfl) (by kernel_rfl)) ?_
  intro W base args ds gs before hval0 hW hcnd _
  have hval : ∀ (j : Nat) t v, Try.f9.params[j]? = some t → args[j]? = some v → Value.okWide Try.prog W .any base t v := hval0
  have hW' := hW
  obtain ⟨p, q, hA0, hV, rfl, hfz, hnd⟩ := hW
  have hA : DataW.TrodAll enc Try.prog W 0 (fun _ => true) true Try.f9.params.toList args.toList ds p := hA0
  rw [Try.params9] at hA hval
  obtain ⟨v0, vs0, d0, ds0, p0, q0, hargs, rfl, rfl, h0, r0⟩ := trodAll_cons hA
  obtain ⟨v1, vs1, d1, ds1, p1, q1, rfl, rfl, rfl, h1, r1⟩ := trodAll_cons r0
  obtain ⟨v2, vs2, d2, ds2, p2, q2, rfl, rfl, rfl, h2, r2⟩ := trodAll_cons r1
  obtain ⟨v3, vs3, d3, ds3, p3, q3, rfl, rfl, rfl, h3, r3⟩ := trodAll_cons r2
  obtain ⟨v4, vs4, d4, ds4, p4, q4, rfl, rfl, rfl, h4, r4⟩ := trodAll_cons r3
  obtain ⟨rfl, rfl, rfl⟩ := trodAll_nil r4
  obtain rfl : args = #[v0, v1, v2, v3, v4] := by cases args; simp_all
  obtain ⟨rfl, rfl⟩ := trodVars_none hV
  obtain ⟨A0, n0, c0, l0, e0, hr0, hc0, hm0⟩ := open_sgs h0
  obtain rfl := v_slice Try.underlying22 (hval 0 22 v0 rfl rfl) e0
  rw [max_eq] at hm0
  obtain ⟨A1, n1, c1, l1, e1, hr1, hc1, hm1⟩ := open_sgs h1
  obtain rfl := v_slice Try.underlying22 (hval 1 22 v1 rfl rfl) e1
  rw [max_eq] at hm1
  obtain ⟨a2, rfl, rfl, rfl, w2⟩ := open_int Try.underlying3 (hval 2 3 v2 rfl rfl) h2
  obtain ⟨A3, n3, c3, l3, e3, hr3, hc3, hm3⟩ := open_ints h3
  obtain rfl := v_slice Try.underlying27 (hval 3 27 v3 rfl rfl) e3
  rw [max_eq] at hm3
  obtain ⟨A4, n4, c4, l4, e4, hr4, hc4, hm4, hq4⟩ := open_u16s h4
  obtain rfl := v_slice Try.underlying55 (hval 4 55 v4 rfl rfl) e4
  rw [max_eq] at hm4
  clear hA0 hval0
  refine (lpdiff_any l0 A0 n0 c0 l1 A1 n1 c1 a2 l3 A3 n3 c3 l4 A4 n4 c4 W hr0 (by omega) hc0 hr1 (by omega) hc1 hr3 (by omega) hc3 hr4 (by omega) hc4 hq4  ).mono fun e W' ⟨he, hb⟩ => ?_
  subst he
  exact ⟨_, rfl, law_post laidOut (by kernel_rfl) rfl hW' hb rfl rfl Try.underlying4⟩
theorem over : Rows.patchDiffRow.holds Try.pinned (OpenSpec.ofChange Rows.patchDiffSpec) :=
  OpenClaim.holds_of_wide 9 Try.f9 rfl rfl rfl rfl rfl rfl rfl ⟨rfl, rfl, rfl, rfl, rfl⟩ rfl rfl rfl rfl rfl (by kernel_rfl) Try.func9 (by kernel_rfl)
    (of_decide_eq_true (by kernel_rfl)) (by unfold Func.isWrapper; first | (rw [if_pos (by decide +kernel)]; kernel_rfl) | (rw [if_neg (by decide +kernel)]; exact ⟨rfl, rfl⟩))
    (fun os started H enc _ => lifted os started H enc)
theorem proved : Rows.PatchDiffSaid :=
  over
#print axioms proved
end Go.Proofs.Ytodlcjhefojibaa.patchDiff
