/-
  What the laws of patches lean on: the contracts of both, over slices wherever they lie.
-/
import Derived.Test.YtodlcjhefojibaaPl
namespace Go.Proofs.Ytodlcjhefojibaa
set_option linter.unusedSimpArgs false
set_option linter.unusedVariables false
open Go Go.RowKit
/-- patches with the headers of their needs -/
def pvL (l : List (Pt × Value)) : List Value := l.flatMap fun q => cellsP q.1 q.2
/-- a patch that a call hands back: the needs' contents in their place -/
def ptV (p : Pt) : Value := .agg ([Value.int .i64 p.id, Value.int .i64 p.kind, Value.int .i64 p.sign, Value.int .i64 p.field] ++ cellsSg p.new ++ [Value.agg (intsL p.needs).toArray]).toArray
theorem ints_arg {W : World} {h : Value} {l : List Int} (hr : SX.Arg.rd W ⟨h, 1, intsL l⟩) : ∃ B m d, h = .slice B m d ∧ Rd W 1 B m (intsL l) ∧ m ≤ d ∧ l.length = m := by
  unfold SX.Arg.rd at hr
  split at hr
  · rename_i A n c hu
    have hu : h = .slice A n c := hu
    refine ⟨A, n, c, hu, hr.1, hr.2, ?_⟩
    have := hr.1.1; simp only [intsL_len] at this; omega
  · cases hr
def toPh (q : Pt × Value) : Ph := match q.2 with
  | .slice B m d => (q.1, B, m, d)
  | _ => (q.1, none, 0, 0)
theorem toPh_eq {q : Pt × Value} {B : Option Addr} {m d : Nat} (h : q.2 = .slice B m d) : toPh q = (q.1, B, m, d) := by unfold toPh; rw [h]
theorem pvL_ph {W : World} {K : Value → Nat → List Value → Prop} (hKf : ∀ s sz cells, K s sz cells → SX.Arg.rd W ⟨s, sz, cells⟩) : ∀ {pl : List (Pt × Value)}, (∀ q ∈ pl, K q.2 1 (intsL q.1.needs) ∧ q.1.needs.length ≤ 9223372036854775807) → pvL pl = phL (pl.map toPh) ∧ (pl.map toPh).map (·.1) = pl.map (·.1) ∧ NeedsIn W (pl.map toPh)
  | [], _ => ⟨rfl, rfl, fun _ h => nomatch h⟩
  | q :: pl, h => by
    obtain ⟨h1, h2, h3⟩ := pvL_ph hKf fun x hx => h x (List.mem_cons_of_mem _ hx)
    obtain ⟨hk, hl⟩ := h q (List.mem_cons_self ..)
    obtain ⟨B, m, d, e, g1, g2, g3⟩ := ints_arg (hKf _ _ _ hk)
    have hq := toPh_eq e
    refine ⟨?_, ?_, ?_⟩
    · show cellsP q.1 q.2 ++ pvL pl = cellsH (toPh q) ++ phL (pl.map toPh)
      rw [h1, hq, e]; rfl
    · show (toPh q).1 :: _ = q.1 :: _
      rw [h2, hq]
    · intro x hx
      rcases List.mem_cons.1 hx with rfl | hx
      · rw [hq]; exact ⟨g1, g2, by show m ≤ _; omega⟩
      · exact h3 x hx
theorem SX.SlRet.ok2 {C : SX.Cx} {f : FuncId} {as' : List SX.Arg} {W W' : World} {e : Ending} {k : Int} {p : Pt} (hs : C.sh f = .tp [.agl (List.replicate 18 .one ++ [.sl 1]), .one]) (h : Below W.heap.size W W' ∧ ∃ hdr, e = .returned (.tuple #[valP p hdr, .int .i64 k]) ∧ SX.SlRet W W' [] hdr 1 (intsL p.needs)) :
    Below W.heap.size W W' ∧ ∃ hdr, e = .returned ((C.sh f).fill hdr (.tuple #[ptV p, .int .i64 k])) ∧ ∀ q z, (q, z) ∈ (C.sh f).sls [] → SX.HdrOk C f as' W W' hdr z (SX.cellsV (q.foldl SX.comp (.tuple #[ptV p, .int .i64 k]))) := by
  obtain ⟨hb, hdr, he, h1, h2, h3⟩ := h
  refine ⟨hb, hdr, by rw [hs, he]; kernel_rfl, fun q z hp => ?_⟩
  rw [hs] at hp
  obtain ⟨rfl, rfl⟩ : q = [0, 18] ∧ z = 1 := by simpa [SX.Sh.sls, SX.Sh.slsL, List.replicate] using hp
  have e : SX.cellsV (([0, 18] : List Nat).foldl SX.comp (.tuple #[ptV p, .int .i64 k])) = intsL p.needs := by kernel_rfl
  rw [e]
  refine ⟨h1, h2, .inl (h3.resolve_right ?_)⟩
  rintro ⟨y, hy, _⟩
  cases hy
theorem SX.aliNo {C : SX.Cx} {f : FuncId} {rw : List SX.Rw} {as' : List SX.Arg} (ha : C.ali f = [0]) (hr : ∀ sz, rw[0]? ≠ some (.ext sz)) : SX.aliRel C f rw as' := fun j hj x sz _ h => by
  rw [ha] at hj
  obtain rfl : j = 0 := by simpa using hj
  exact absurd h (hr sz)
/-- what is known for the laws of patches -/
def RM (K : Value → Nat → List Value → Prop) (f : FuncId) (xs : List SX.Arg) (v : Value) : Prop :=
  (f = 12 ∧ ∃ (u : Value) (ss : List Sg) (p : Pt) (h : Value), xs = [⟨u, 14, sgsL ss⟩, ⟨valP p h, 0, []⟩] ∧ ss.length ≤ 9223372036854775807 ∧ K h 1 (intsL p.needs) ∧ p.needs.length ≤ 9223372036854775807 ∧ v = .tuple #[.agg (sgsL (runS ss [p]).1).toArray, .int .i64 (runS ss [p]).2]) ∨
  (f = 13 ∧ ∃ (u : Value) (ss : List Sg) (p : Pt) (h : Value), xs = [⟨u, 14, sgsL ss⟩, ⟨valP p h, 0, []⟩] ∧ ss.length ≤ 9223372036854775807 ∧ K h 1 (intsL p.needs) ∧ p.needs.length ≤ 9223372036854775807 ∧ v = .tuple #[.agg (sgsL (runS ss [p]).1).toArray, .int .i64 (runS ss [p]).2]) ∨
  (f = 18 ∧ ∃ (u u2 : Value) (ss : List Sg) (pl : List (Pt × Value)), xs = [⟨u, 14, sgsL ss⟩, ⟨u2, 19, pvL pl⟩] ∧ ss.length ≤ 9223372036854775807 ∧ pl.length ≤ 9223372036854775807 ∧ (∀ q ∈ pl, K q.2 1 (intsL q.1.needs) ∧ q.1.needs.length ≤ 9223372036854775807) ∧ v = .tuple #[.agg (sgsL (runS ss (pl.map (·.1))).1).toArray, .int .i64 (runS ss (pl.map (·.1))).2]) ∨
  (f = 19 ∧ ∃ (u u2 : Value) (ss : List Sg) (pl : List (Pt × Value)), xs = [⟨u, 14, sgsL ss⟩, ⟨u2, 19, pvL pl⟩] ∧ ss.length ≤ 9223372036854775807 ∧ pl.length ≤ 9223372036854775807 ∧ (∀ q ∈ pl, K q.2 1 (intsL q.1.needs) ∧ q.1.needs.length ≤ 9223372036854775807) ∧ v = .tuple #[.agg (sgsL (runS ss (pl.map (·.1))).1).toArray, .int .i64 (runS ss (pl.map (·.1))).2]) ∨
  (f = 14 ∧ ∃ (p : Pt) (h : Value), xs = [⟨valP p h, 0, []⟩] ∧ K h 1 (intsL p.needs) ∧ p.needs.length ≤ 9223372036854775807 ∧ v = .int .i64 (chkP p)) ∨
  (f = 15 ∧ ∃ (p : Pt) (h : Value), xs = [⟨valP p h, 0, []⟩] ∧ K h 1 (intsL p.needs) ∧ p.needs.length ≤ 9223372036854775807 ∧ v = .int .i64 (chkP p)) ∨
  (f = 22 ∧ ∃ (p q : Pt) (h h' : Value), xs = [⟨valP p h, 0, []⟩, ⟨valP q h', 0, []⟩] ∧ K h 1 (intsL p.needs) ∧ K h' 1 (intsL q.needs) ∧ p.needs.length ≤ 9223372036854775807 ∧ q.needs.length ≤ 9223372036854775807 ∧ v = .tuple #[.bool (ovV p q), .int .i64 (ovE p q)]) ∨
  (f = 23 ∧ ∃ (p q : Pt) (h h' : Value), xs = [⟨valP p h, 0, []⟩, ⟨valP q h', 0, []⟩] ∧ K h 1 (intsL p.needs) ∧ K h' 1 (intsL q.needs) ∧ p.needs.length ≤ 9223372036854775807 ∧ q.needs.length ≤ 9223372036854775807 ∧ v = .tuple #[.bool (ovV p q), .int .i64 (ovE p q)]) ∨
  (f = 24 ∧ ∃ (u : Value) (ss : List Sg) (p q : Pt) (h h' : Value), xs = [⟨u, 14, sgsL ss⟩, ⟨valP p h, 0, []⟩, ⟨valP q h', 0, []⟩] ∧ ss.length ≤ 9223372036854775807 ∧ K h 1 (intsL p.needs) ∧ K h' 1 (intsL q.needs) ∧ p.needs.length ≤ 9223372036854775807 ∧ q.needs.length ≤ 9223372036854775807 ∧ v = .tuple #[.bool (comS ss p q).1, .int .i64 (comS ss p q).2]) ∨
  (f = 25 ∧ ∃ (u : Value) (ss : List Sg) (p q : Pt) (h h' : Value), xs = [⟨u, 14, sgsL ss⟩, ⟨valP p h, 0, []⟩, ⟨valP q h', 0, []⟩] ∧ ss.length ≤ 9223372036854775807 ∧ K h 1 (intsL p.needs) ∧ K h' 1 (intsL q.needs) ∧ p.needs.length ≤ 9223372036854775807 ∧ q.needs.length ≤ 9223372036854775807 ∧ v = .tuple #[.bool (comS ss p q).1, .int .i64 (comS ss p q).2]) ∨
  (f = 20 ∧ ∃ (u : Value) (ss : List Sg) (p : Pt) (h : Value) (id : Int), xs = [⟨u, 14, sgsL ss⟩, ⟨valP p h, 0, []⟩, ⟨.int .i64 id, 0, []⟩] ∧ ss.length ≤ 9223372036854775807 ∧ K h 1 (intsL p.needs) ∧ p.needs.length ≤ 9223372036854775807 ∧ v = .tuple #[ptV (invS ss p id).1, .int .i64 (invS ss p id).2]) ∨
  (f = 21 ∧ ∃ (u : Value) (ss : List Sg) (p : Pt) (h : Value) (id : Int), xs = [⟨u, 14, sgsL ss⟩, ⟨valP p h, 0, []⟩, ⟨.int .i64 id, 0, []⟩] ∧ ss.length ≤ 9223372036854775807 ∧ K h 1 (intsL p.needs) ∧ p.needs.length ≤ 9223372036854775807 ∧ v = .tuple #[ptV (invS ss p id).1, .int .i64 (invS ss p id).2]) ∨
  (f = 16 ∧ ∃ (u u2 : Value) (ss tt : List Sg), xs = [⟨u, 14, sgsL ss⟩, ⟨u2, 14, sgsL tt⟩] ∧ ss.length ≤ 9223372036854775807 ∧ tt.length ≤ 9223372036854775807 ∧ v = .bool (decide (ss = tt))) ∨
  (f = 26 ∧ ∃ (p q : Pt) (h h' : Value), xs = [⟨valP p h, 0, []⟩, ⟨valP q h', 0, []⟩] ∧ K h 1 (intsL p.needs) ∧ K h' 1 (intsL q.needs) ∧ p.needs.length ≤ 9223372036854775807 ∧ q.needs.length ≤ 9223372036854775807 ∧ v = .bool (decide (p = q))) ∨
  (f = 11 ∧ ∃ (u : Value) (ss : List Sg), xs = [⟨u, 14, sgsL ss⟩] ∧ ss.length ≤ 9223372036854775807 ∧ v = .bool (fewS ss)) ∨
  (f = 27 ∧ ∃ (u : Value) (ss : List Sg), xs = [⟨u, 14, sgsL ss⟩] ∧ ss.length ≤ 9223372036854775807 ∧ v = .int .i64 (chkS ss)) ∨
  (f = 29 ∧ ∃ (x y : Sg) (f : Int), xs = [⟨valSg x, 0, []⟩, ⟨.int .i64 f, 0, []⟩, ⟨valSg y, 0, []⟩] ∧ v = valSg (setF x f y))
def shpM : FuncId → Option SX.Sh := fun f => if f = 12 then some (.tp [.sl 14, .one]) else if f = 13 then some (.tp [.sl 14, .one]) else if f = 18 then some (.tp [.sl 14, .one]) else if f = 19 then some (.tp [.sl 14, .one]) else if f = 14 then some .one else if f = 15 then some .one else if f = 22 then some (.tp [.one, .one]) else if f = 23 then some (.tp [.one, .one]) else if f = 24 then some (.tp [.one, .one]) else if f = 25 then some (.tp [.one, .one]) else if f = 20 then some (.tp [.agl (List.replicate 18 .one ++ [.sl 1]), .one]) else if f = 21 then some (.tp [.agl (List.replicate 18 .one ++ [.sl 1]), .one]) else if f = 16 then some .one else if f = 26 then some .one else if f = 11 then some .one else if f = 27 then some .one else if f = 29 then some (.ag 14) else none
noncomputable def cxM (K A : Value → Nat → List Value → Prop) : SX.Cx := { P := Try.prog, R := RM, shp := shpM, K := K, A := A, ali := fun f => if f = 12 then [0] else if f = 13 then [0] else if f = 18 then [0] else if f = 19 then [0] else [] }
theorem okM (K A : Value → Nat → List Value → Prop) : (cxM K A).Ok := by
  refine SX.Cx.ok_of (fun _ => rfl) ?_
  intro K f xs v W hR hrd hKf
  rcases hR with ⟨rfl, u, ss, p, h, rfl, hl, hK, hl2, rfl⟩ | ⟨rfl, u, ss, p, h, rfl, hl, hK, hl2, rfl⟩ | ⟨rfl, u, u2, ss, pl, rfl, hl, hl2, hK, rfl⟩ | ⟨rfl, u, u2, ss, pl, rfl, hl, hl2, hK, rfl⟩ | ⟨rfl, p, h, rfl, hK, hl, rfl⟩ | ⟨rfl, p, h, rfl, hK, hl, rfl⟩ | ⟨rfl, p, q, h, h', rfl, hK, hK', hl, hl', rfl⟩ | ⟨rfl, p, q, h, h', rfl, hK, hK', hl, hl', rfl⟩ | ⟨rfl, u, ss, p, q, h, h', rfl, hl0, hK, hK', hl, hl', rfl⟩ | ⟨rfl, u, ss, p, q, h, h', rfl, hl0, hK, hK', hl, hl', rfl⟩ | ⟨rfl, u, ss, p, h, id, rfl, hl, hK, hl2, rfl⟩ | ⟨rfl, u, ss, p, h, id, rfl, hl, hK, hl2, rfl⟩ | ⟨rfl, u, u2, ss, tt, rfl, hl, hl2, rfl⟩ | ⟨rfl, p, q, h, h', rfl, hK, hK', hl, hl', rfl⟩ | ⟨rfl, u, ss, rfl, hl, rfl⟩ | ⟨rfl, u, ss, rfl, hl, rfl⟩ | ⟨rfl, x, y, f, rfl, rfl⟩
  · refine Calls.mono ?_ fun e w' h => SX.SlRet.ok rfl rfl h
    obtain ⟨A, n, c, rfl, h2, h3, h4⟩ := sgs_arg (hrd ⟨u, 14, sgsL ss⟩ (by simp))
    obtain ⟨B, m, d, rfl, hB, hmd, hlm⟩ := ints_arg (hKf _ _ _ hK)
    exact papply_any ss A n c p B m d W h2 (by omega) h3 hB (by omega) hmd
  · refine Calls.mono ?_ fun e w' h => SX.SlRet.ok rfl rfl h
    obtain ⟨A, n, c, rfl, h2, h3, h4⟩ := sgs_arg (hrd ⟨u, 14, sgsL ss⟩ (by simp))
    obtain ⟨B, m, d, rfl, hB, hmd, hlm⟩ := ints_arg (hKf _ _ _ hK)
    exact rapply2_any ss A n c p B m d W h2 (by omega) h3 hB (by omega) hmd
  · refine Calls.mono ?_ fun e w' h => SX.SlRet.ok rfl rfl h
    obtain ⟨A, n, c, rfl, h2, h3, h4⟩ := sgs_arg (hrd ⟨u, 14, sgsL ss⟩ (by simp))
    obtain ⟨e1, e2, e3⟩ := pvL_ph hKf hK
    obtain ⟨A', n', c', rfl, h2', h3', h4'⟩ := ph_arg (pl := pl.map toPh) (by rw [← e1]; exact hrd ⟨u2, 19, pvL pl⟩ (by simp))
    have := run_any ss A n c (pl.map toPh) A' n' c' W h2 (by omega) h3 h2' (by simp at h4'; omega) h3' e3
    rw [e2] at this
    exact this
  · refine Calls.mono ?_ fun e w' h => SX.SlRet.ok rfl rfl h
    obtain ⟨A, n, c, rfl, h2, h3, h4⟩ := sgs_arg (hrd ⟨u, 14, sgsL ss⟩ (by simp))
    obtain ⟨e1, e2, e3⟩ := pvL_ph hKf hK
    obtain ⟨A', n', c', rfl, h2', h3', h4'⟩ := ph_arg (pl := pl.map toPh) (by rw [← e1]; exact hrd ⟨u2, 19, pvL pl⟩ (by simp))
    have := rrun_any ss A n c (pl.map toPh) A' n' c' W h2 (by omega) h3 h2' (by simp at h4'; omega) h3' e3
    rw [e2] at this
    exact this
  · obtain ⟨B, m, d, rfl, hB, hmd, hlm⟩ := ints_arg (hKf _ _ _ hK)
    exact (pcheck_any p B m d W hB (by omega) hmd).mono fun e w' h => SX.plainOk rfl h
  · obtain ⟨B, m, d, rfl, hB, hmd, hlm⟩ := ints_arg (hKf _ _ _ hK)
    exact (rcheckP_any p B m d W hB (by omega) hmd).mono fun e w' h => SX.plainOk rfl h
  · obtain ⟨B, m, d, rfl, hB, hmd, hlm⟩ := ints_arg (hKf _ _ _ hK)
    obtain ⟨B', m', d', rfl, hB', hmd', hlm'⟩ := ints_arg (hKf _ _ _ hK')
    exact (overlap_any p q B m d B' m' d' W hB (by omega) hmd hB' (by omega) hmd').mono fun e w' h => SX.plainOk rfl h
  · obtain ⟨B, m, d, rfl, hB, hmd, hlm⟩ := ints_arg (hKf _ _ _ hK)
    obtain ⟨B', m', d', rfl, hB', hmd', hlm'⟩ := ints_arg (hKf _ _ _ hK')
    exact (roverlap_any p q B m d B' m' d' W hB (by omega) hmd hB' (by omega) hmd').mono fun e w' h => SX.plainOk rfl h
  · obtain ⟨A, n, c, rfl, h2, h3, h4⟩ := sgs_arg (hrd ⟨u, 14, sgsL ss⟩ (by simp))
    obtain ⟨B, m, d, rfl, hB, hmd, hlm⟩ := ints_arg (hKf _ _ _ hK)
    obtain ⟨B', m', d', rfl, hB', hmd', hlm'⟩ := ints_arg (hKf _ _ _ hK')
    exact (commute_any ss A n c p q B m d B' m' d' W h2 (by omega) h3 hB (by omega) hmd hB' (by omega) hmd').mono fun e w' h => SX.plainOk rfl h
  · obtain ⟨A, n, c, rfl, h2, h3, h4⟩ := sgs_arg (hrd ⟨u, 14, sgsL ss⟩ (by simp))
    obtain ⟨B, m, d, rfl, hB, hmd, hlm⟩ := ints_arg (hKf _ _ _ hK)
    obtain ⟨B', m', d', rfl, hB', hmd', hlm'⟩ := ints_arg (hKf _ _ _ hK')
    exact (rcommute_any ss A n c p q B m d B' m' d' W h2 (by omega) h3 hB (by omega) hmd hB' (by omega) hmd').mono fun e w' h => SX.plainOk rfl h
  · refine Calls.mono ?_ fun e w' h => SX.SlRet.ok2 rfl h
    obtain ⟨A, n, c, rfl, h2, h3, h4⟩ := sgs_arg (hrd ⟨u, 14, sgsL ss⟩ (by simp))
    obtain ⟨B, m, d, rfl, hB, hmd, hlm⟩ := ints_arg (hKf _ _ _ hK)
    exact inv_any ss A n c p B m d id W h2 (by omega) h3 hB (by omega) hmd
  · refine Calls.mono ?_ fun e w' h => SX.SlRet.ok2 rfl h
    obtain ⟨A, n, c, rfl, h2, h3, h4⟩ := sgs_arg (hrd ⟨u, 14, sgsL ss⟩ (by simp))
    obtain ⟨B, m, d, rfl, hB, hmd, hlm⟩ := ints_arg (hKf _ _ _ hK)
    exact rinv_any ss A n c p B m d id W h2 (by omega) h3 hB (by omega) hmd
  · obtain ⟨A, n, c, rfl, h2, h3, h4⟩ := sgs_arg (hrd ⟨u, 14, sgsL ss⟩ (by simp))
    obtain ⟨A', n', c', rfl, h2', h3', h4'⟩ := sgs_arg (hrd ⟨u2, 14, sgsL tt⟩ (by simp))
    exact (same_any ss tt A A' n c n' c' W h2 (by omega) h3 h2' (by omega) h3').mono fun e w' h => SX.plainOk rfl h
  · obtain ⟨B, m, d, rfl, hB, hmd, hlm⟩ := ints_arg (hKf _ _ _ hK)
    obtain ⟨B', m', d', rfl, hB', hmd', hlm'⟩ := ints_arg (hKf _ _ _ hK')
    exact (same37_any p q B m d B' m' d' W hB (by omega) hmd hB' (by omega) hmd').mono fun e w' h => SX.plainOk rfl h
  · obtain ⟨A, n, c, rfl, h2, h3, h4⟩ := sgs_arg (hrd ⟨u, 14, sgsL ss⟩ (by simp))
    exact (few_any ss A n c W h2 (by omega) h3).mono fun e w' h => SX.plainOk rfl h
  · obtain ⟨A, n, c, rfl, h2, h3, h4⟩ := sgs_arg (hrd ⟨u, 14, sgsL ss⟩ (by simp))
    exact (echeck_any ss A n c W h2 (by omega) h3).mono fun e w' h => SX.plainOk rfl h
  · exact (Set_any x y f W).mono fun e w' h => SX.plainOk rfl h
end Go.Proofs.Ytodlcjhefojibaa
