/-
  Texts behind the statement, part 2.
-/
import Derived.Test.YtbbofkpolcjmgaaDoorU1
set_option linter.unusedSimpArgs false
set_option linter.unusedVariables false
namespace Go.Proofs.YtbbofkpolcjmgaaDoor
open Go Go.RowKit
namespace SX
def S.eff (s : S) (nm : Nat) (dst : Option Tmp) (v : V) (new : Option Blk) (wr : Option (Nat × Blk)) : S :=
  (match wr with
    | some (n, b) => (match new with
      | some c => s.make nm c
      | none => s).lay n b
    | none => match new with
      | some c => s.make nm c
      | none => s).put dst v
def effH (s : S) (nm : Nat) (new : Option Blk) : List (Option Blk) := match new with
  | some b => s.ln.set nm (some b)
  | none => s.ln
def effWf (s : S) (nm : Nat) (v : V) (new : Option Blk) (wr : Option (Nat × Blk)) : Bool := v.wf (effH s nm new) s.sh.length && (match new with
  | some b => wfL s.ln s.sh.length b.c
  | none => true) && (match wr with
  | some (n, b) => wfL s.ln s.sh.length b.c && lv s.ln n
  | none => true)
theorem mapM_den {ρ : List Value} {s : S} (hg : Good ρ s) {α : Nat → AV} {a : Act} (hf : Fm ρ α s.fr a.tmps) : ∀ {xs : List Operand} {vs : List V}, xs.mapM s.ev = some vs → xs.map a.eval = denL ρ α vs
  | [], vs, h => by
    simp at h
    subst h
    rfl
  | x :: xs, vs, h => by
    simp only [List.mapM_cons, Option.bind_eq_bind, Option.bind_eq_some_iff] at h
    obtain ⟨v, hv, vs', hvs, h⟩ := h
    simp at h
    subst h
    simp [denL, ev_den hg hf hv, mapM_den hg hf hvs]
section
variable {C : Cx} {w0 : Org} {ps : List (World → Prop)} {T : List TF} {ρ : List Value} {s : S} {a : Act} {W : World} {α : Nat → AV} {K : Act → World → Prop} {Q : Exit → Act → World → Prop} {o : Oper} {nm : Nat}
theorem fin_pure {v : V} (hI : InvA w0 ps T ρ s a W α) (hw : effWf s nm v none none = true) (hK : ∀ a' W', Inv w0 ps T ρ (s.eff nm o.dst v none none) a' W' → K a' W') : K (a.put o.dst (v.den ρ α)) W :=
  hK _ _ ⟨α, hI.put o.dst (by have := hw; simp only [effWf, effH, Bool.and_true, hI.good.len] at this; exact this)⟩
theorem fin_new {v : V} {b : Blk} (hI : InvA w0 ps T ρ s a W α) (hnm : freeIn s nm) (hk : b.k = .cells) (hw : effWf s nm v (some b) none = true) (hK : ∀ a' W', Inv w0 ps T ρ (s.eff nm o.dst v (some b) none) a' W' → K a' W')
    {k : Nat} {W' : World} (hS : St w0 (⟨k, (denL ρ α b.c).toArray, b.t⟩ :: chs ρ α 0 s.hp) (osA a s T) (exs w0 ρ α 0 s.hp ++ ps) W') {u : Value} (hu : ∀ α', (α' nm).b = k → u = v.den ρ α') : K (a.put o.dst u) W' := by
  simp only [effWf, effH, Bool.and_eq_true, Bool.and_true, hI.good.len] at hw
  obtain ⟨α', h1, h2, h3⟩ := hI.new hnm hk hw.2 hS
  exact hK _ _ ⟨α', h3.put_any o.dst hw.1 (hu α' h1)⟩
theorem fin_row {v : V} {b : Blk} (hI : InvA w0 ps T ρ s a W α) (hnm : freeIn s nm) (hbo : b.own = true) (hw : effWf s nm v (some b) none = true) (hK : ∀ a' W', Inv w0 ps T ρ (s.eff nm o.dst v (some b) none) a' W' → K a' W')
    (A : AV) {W' : World} (hS : ∀ α', α' nm = A → (∀ n, lv s.ln n = true → α' n = α n) → denL ρ α' b.c = denL ρ α b.c → chs ρ α' 0 s.hp = chs ρ α 0 s.hp → St w0 (chs ρ α' 0 (s.hp.set nm (some b))) (osA a s T) (exs w0 ρ α 0 s.hp ++ ps) W' ∧ b.rowOk ρ α' nm) {u : Value} (hu : ∀ α', α' nm = A → u = v.den ρ α') : K (a.put o.dst u) W' := by
  simp only [effWf, effH, Bool.and_eq_true, Bool.and_true, hI.good.len] at hw
  obtain ⟨α', h1, h2, h3⟩ := hI.new' hnm hw.2 A fun α' q1 q2 q3 q4 => by
    have := hS α' q1 q2 q3 q4
    rw [Blk.own_ex hbo]
    exact this
  exact hK _ _ ⟨α', h3.put_any o.dst hw.1 (hu α' h1)⟩
theorem fin_ext {v : V} {b : Blk} {sz : Nat} (hI : InvA w0 ps T ρ s a W α) (hnm : freeIn s nm) (hk : b.k = .ext sz) (hw : effWf s nm v (some b) none = true) (hK : ∀ a' W', Inv w0 ps T ρ (s.eff nm o.dst v (some b) none) a' W' → K a' W')
    (A : AV) {W' : World} (hS : St w0 (chs ρ α 0 s.hp) (osA a s T) (exs w0 ρ α 0 s.hp ++ ps) W') (h0 : 0 < sz) (hl : ∃ ad len cap, A.h = .slice ad len cap ∧ (b.xs ρ α).length = len * sz ∧ len ≤ cap ∧ (0 < len → ad.isSome = true)) (hx : ∀ W2, Same (muts (chs ρ α 0 s.hp) (osA a s T)) W' W2 → exFact w0 ⟨A.h, sz, b.xs ρ α⟩ W2) {u : Value} (hu : ∀ α', α' nm = A → (∀ n, lv s.ln n = true → α' n = α n) → u = v.den ρ α') : K (a.put o.dst u) W' := by
  simp only [effWf, effH, Bool.and_eq_true, Bool.and_true, hI.good.len] at hw
  obtain ⟨α', h1, h2, h3⟩ := hI.newE hnm hk hw.2 A hS h0 hl hx
  exact hK _ _ ⟨α', h3.put_any o.dst hw.1 (hu α' h1 h2)⟩
theorem fin_wr {v : V} {n : Nat} {b b' : Blk} (hI : InvA w0 ps T ρ s a W α) (hn : s.hp[n]? = some (some b)) (hr : b'.rowOk ρ α n) (hbo : b'.own = true) (hw : effWf s nm v none (some (n, b')) = true) (hK : ∀ a' W', Inv w0 ps T ρ (s.eff nm o.dst v none (some (n, b'))) a' W' → K a' W')
    {W' : World} (hS : St w0 (chs ρ α 0 (s.hp.set n (some b'))) (osA a s T) (exs w0 ρ α 0 s.hp ++ ps) W') {u : Value} (hu : u = v.den ρ α) : K (a.put o.dst u) W' := by
  simp only [effWf, effH, Bool.and_eq_true, Bool.and_true, hI.good.len] at hw
  refine hK _ _ ⟨α, (hI.wr' hn hw.2.1 hr hbo hS).put_any o.dst hw.1 hu⟩
theorem denL_len (ρ : List Value) (α : Nat → AV) (l : List V) : (denL ρ α l).length = l.length := by rw [denL_map]; simp
theorem denL_at {ρ : List Value} {α : Nat → AV} {l : List V} {i : Nat} {v : V} (h : l[i]? = some v) : (denL ρ α l)[i]? = some (v.den ρ α) := by rw [denL_map]; simp [h]
theorem denL_drop (ρ : List Value) (α : Nat → AV) (l : List V) (i n : Nat) : denL ρ α ((l.drop i).take n) = ((denL ρ α l).drop i).take n := by simp [denL_map, List.map_drop, List.map_take]
theorem denL_app (ρ : List Value) (α : Nat → AV) (l m : List V) : denL ρ α (l ++ m) = denL ρ α l ++ denL ρ α m := by simp [denL_map]
theorem ext_eq (c : List Value) (o n : Nat) : c.toArray.extract o (o + n) = ((c.drop o).take n).toArray := by
  apply Array.ext'
  simp [List.take_drop]
theorem one_ok {ρ : List Value} {s : S} (hg : Good ρ s) {sh : List Sh} (hsh : sh <+: s.sh) (α : Nat → AV) : ∀ {v : V}, v.one sh = true → (v.den ρ α).oneCell' = true
  | .k v, h => h
  | .x i path, h => by
    simp only [V.one] at h
    split at h
    · rename_i hh hs
      obtain ⟨r, hr⟩ := hsh
      exact leaf_one path hh _ h (hg.fit i hh (by rw [← hr, List.getElem?_append_left (List.getElem?_eq_some_iff.1 hs).1]; exact hs))
    cases h
  | .p _ _, _ => rfl
  | .sl _ _ _ _, _ => rfl
  | .a _, h => by simp [V.one] at h
  | .t _, h => by simp [V.one] at h
  | .f _ _ _, _ => rfl
  | .ep s i sz o, _ => by
    simp only [V.den]
    unfold epv
    split <;> rfl
  | .ifc _ _, _ => rfl
  | .row _, h => by simp [V.one] at h
  | .cat _, h => by simp [V.one] at h
  | .y _, _ => rfl
  | .mapV _, _ => rfl
theorem cells_den {ρ : List Value} {α : Nat → AV} {v : V} (h : v.isA = true ∨ (v.den ρ α).oneCell' = true) : (v.den ρ α).cells = (denL ρ α v.cells).toArray := by
  cases v <;> simp [V.isA, V.den, V.cells, denL, Value.oneCell'] at * <;> try rfl
  · rename_i w; cases w <;> simp [Value.oneCell'] at h <;> rfl
  · rename_i i p
    generalize List.foldl comp (ρ[i]?.getD undef) p = w at *
    cases w <;> simp [Value.oneCell'] at h <;> rfl
  · unfold epv; split <;> rfl
  rename_i n
  generalize (α n).h = w at *
  cases w <;> simp [Value.oneCell'] at h <;> rfl
theorem ones_ok {ρ : List Value} {s : S} (hg : Good ρ s) {sh : List Sh} (hsh : sh <+: s.sh) (α : Nat → AV) {cs : List V} (h : vones sh cs = true) : (denL ρ α cs).toArray.all (·.oneCell') = true := by
  rw [Array.all_eq_true_iff_forall_mem]
  intro u hu
  rw [denL_map] at hu
  simp only [List.mem_toArray, List.mem_map] at hu
  obtain ⟨v, hv, rfl⟩ := hu
  exact one_ok hg hsh α (List.all_eq_true.1 h v hv)
theorem map_k (ρ : List Value) (α : Nat → AV) (l : List Value) : denL ρ α (l.map .k) = l := by
  rw [denL_map, List.map_map]; exact (List.map_congr_left fun x _ => by simp [V.den]).trans (List.map_id l)
theorem splice_den (ρ : List Value) (α : Nat → AV) (c cs : List V) (o : Nat) : (denL ρ α (spliceV c o cs)).toArray = splice (denL ρ α c).toArray o (denL ρ α cs).toArray := by
  simp [spliceV, splice, denL_map, List.map_drop, List.map_take]
theorem setL_splice {c : List Value} {o : Nat} {v : Value} (h : o < c.length) : (setL c o v).toArray = splice c.toArray o #[v] := by
  rw [setL_eq]
  unfold splice
  simp [List.set_eq_take_append_cons_drop, h]
theorem wp_fieldAddr' {P : Program} {x : Operand} {t : TypeId} {f d : Nat} {ad : Addr} (ho : o.op = .fieldAddr t x f) (hx : a.eval x = .pointer (some ad)) (hd : fieldOff P t f = some d) (h : K (a.put o.dst (.pointer (some (ad.add d)))) W) : o.wp P a W K Q := by
  unfold fieldOff at hd
  cases hu : P.underlying t with
  | none => simp [hu] at hd
  | some ds =>
    rw [hu] at hd
    cases ds <;> simp at hd
    rename_i fs
    cases hf : fs[f]? with
    | none => simp [hf] at hd
    | some fd =>
      simp only [hf] at hd
      cases hz : szOf P fd.type with
      | none => simp [hz] at hd
      | some n =>
        rw [hz] at hd
        cases n with
        | zero => simp at hd
        | succ n =>
          obtain rfl : fd.offset = d := by simpa using hd
          unfold Oper.wp execOp
          simp only [ho, hx, Instr.fieldAt, Instr.sureAddr, Sem.run_bind, run_underlying hu, Result.andThen_ok, hf, Sem.run_pure, fieldPlace, run_szOf hz]
          simp only [Nat.add_one_ne_zero, if_false, Sem.run_pure, Result.andThen_ok]
          exact h
theorem wp_val {P : Program} {u : Value} (hr : (execOp a.eval o).run P W = .ok (.value u) W) (h : K (a.put o.dst u) W) : o.wp P a W K Q := by
  unfold Oper.wp
  rw [hr]
  exact h
theorem sc1_ef {q : Opq} {f : Value → Option Value} {x v : V} {new : Option Blk} {wr : Option (Nat × Blk)} (h : sc1 q f x = .ef v new wr) : ∃ c u, x = .k c ∧ f c = some u ∧ u.oneCell' = true ∧ v = .k u ∧ new = none ∧ wr = none := by
  unfold sc1 at h
  split at h
  · split at h
    · rename_i u hu
      split at h
      · rename_i h1
        injection h with h2 h3 h4
        exact ⟨_, _, rfl, hu, h1, h2.symm, h3.symm, h4.symm⟩
      cases h
    cases h
  cases h
theorem sc2_ef {q : Opq} {f : Value → Value → Option Value} {x y v : V} {new : Option Blk} {wr : Option (Nat × Blk)} (h : sc2 q f x y = .ef v new wr) : ∃ c d u, x = .k c ∧ y = .k d ∧ f c d = some u ∧ u.oneCell' = true ∧ v = .k u ∧ new = none ∧ wr = none := by
  unfold sc2 at h
  split at h
  · split at h
    · rename_i c d u hu
      split at h
      · rename_i h1
        injection h with h2 h3 h4
        exact ⟨_, _, _, rfl, rfl, hu, h1, h2.symm, h3.symm, h4.symm⟩
      cases h
    cases h
  cases h
theorem run_snil {P : Program} {neq : Bool} {t t' e : TypeId} {x y : Operand} {A : Option Addr} {n c : Nat} (hop : o.op = .binOp (if neq then .neq else .eql) t x y t') (hx : a.eval x = .slice A n c) (hy : a.eval y = .slice none 0 0) (ht : P.underlying t = some (.slice e)) : (execOp a.eval o).run P W = .ok (.value (.bool (neq ^^ A.isNone))) W := by
  have h0 : ∀ d : Nat, (Op.equalIn (d + 1) t (.slice A n c) (.slice none 0 0)).run P W = .ok A.isNone W := fun d => by
    cases A <;> simp [Op.equalIn, run_underlying ht]
  have h1 := h0 9999
  cases neq <;> simp [execOp, hop, hx, hy, eqGuard, binOp, Op.equal, Op.maxDepth, h1]
theorem run_binb {P : Program} {op : BinOp} {t t' : TypeId} {x y : Operand} {c d u : Value} (hop : o.op = .binOp op t x y t') (hx : a.eval x = c) (hy : a.eval y = d) (ht : isBoolT P t = true) (hu : boolV op c d = some u) : (execOp a.eval o).run P W = .ok (.value u) W := by
  unfold boolV at hu
  split at hu
  · rename_i p q
    have h1 := run_equalIn_bool (P := P) W 9999 t p q (isBoolT_eq ht)
    split at hu
    · injection hu with hu
      subst hu
      simp [execOp, hop, hx, hy, eqGuard, binOp, Op.equal, Op.maxDepth, h1]
    · injection hu with hu
      subst hu
      simp [execOp, hop, hx, hy, eqGuard, binOp, Op.equal, Op.maxDepth, h1]
    cases hu
  cases hu
theorem run_bin {P : Program} {op : BinOp} {t t' : TypeId} {x y : Operand} {c d u : Value} (hop : o.op = .binOp op t x y t') (hx : a.eval x = c) (hy : a.eval y = d) (hu : binV op c d = some u) : (execOp a.eval o).run P W = .ok (.value u) W := by
  unfold binV at hu
  split at hu
  · rename_i k i k' j
    split at hu
    · split at hu
      · cases hu
      rename_i hj
      injection hu with hu
      subst hu
      simp [execOp, hop, hx, hy, eqGuard, binOp, Op.shift, hj]
    · split at hu
      · cases hu
      rename_i hj
      injection hu with hu
      subst hu
      simp [execOp, hop, hx, hy, eqGuard, binOp, Op.shift, hj]
    split at hu
    · rename_i hk
      subst hk
      split at hu
      · split at hu
        · cases hu
        rename_i hj
        injection hu with hu
        subst hu
        simp [execOp, hop, hx, hy, eqGuard, binOp, Op.intDiv, hj]
      · split at hu
        · cases hu
        rename_i hj
        injection hu with hu
        subst hu
        simp [execOp, hop, hx, hy, eqGuard, binOp, Op.intDiv, hj]
      · injection hu with hu
        subst hu
        simp [execOp, hop, hx, hy, eqGuard, binOp, Op.intBits]
      · injection hu with hu
        subst hu
        simp [execOp, hop, hx, hy, eqGuard, binOp, Op.intBits]
      · injection hu with hu
        subst hu
        simp [execOp, hop, hx, hy, eqGuard, binOp, Op.intBits]
      cases op <;> simp only [binI, Option.some.injEq, reduceCtorEq] at hu <;> subst hu <;> simp [execOp, hop, hx, hy, eqGuard, binOp, Op.intArith, Op.intCmp]
    cases hu
  · rename_i p q
    split at hu
    · injection hu with hu
      subst hu
      simp [execOp, hop, hx, hy, eqGuard, binOp, Op.stringOp, beq_bytes (p := p) (q := q) (B := decide (p = q)) (by simp)]
    · injection hu with hu
      subst hu
      simp [execOp, hop, hx, hy, eqGuard, binOp, Op.stringOp, beq_bytes (p := p) (q := q) (B := decide (p = q)) (by simp)]
    cases hu
  cases hu
theorem run_not {P : Program} {t : TypeId} {x : Operand} {c u : Value} (hop : o.op = .unOp .not t x) (hx : a.eval x = c) (hu : notV c = some u) : (execOp a.eval o).run P W = .ok (.value u) W := by
  unfold notV at hu
  split at hu
  · injection hu with hu
    subst hu
    simp [execOp, hop, hx, Op.unary]
  cases hu
theorem run_neg {P : Program} {t : TypeId} {x : Operand} {c u : Value} (hop : o.op = .unOp .neg t x) (hx : a.eval x = c) (hu : negV c = some u) : (execOp a.eval o).run P W = .ok (.value u) W := by
  unfold negV at hu
  split at hu
  · injection hu with hu
    subst hu
    simp [execOp, hop, hx, Op.unary, Op.intArith]
  cases hu
theorem run_cpl {P : Program} {t : TypeId} {x : Operand} {c u : Value} (hop : o.op = .unOp .xor t x) (hx : a.eval x = c) (hu : cplV c = some u) : (execOp a.eval o).run P W = .ok (.value u) W := by
  unfold cplV at hu
  split at hu
  · injection hu with hu
    subst hu
    simp [execOp, hop, hx, Op.unary, Op.intBits]
  cases hu
theorem run_conv {P : Program} {src dst : TypeId} {x : Operand} {c u : Value} {ks k : IntKind} (hop : o.op = .convert src dst x) (hx : a.eval x = c) (hs : P.underlying src = some (.int ks)) (hd : P.underlying dst = some (.int k)) (hu : convV k c = some u) : (execOp a.eval o).run P W = .ok (.value u) W := by
  unfold convV at hu
  split at hu
  · injection hu with hu
    subst hu
    simp [execOp, hop, hx, convert, run_underlying hs, run_underlying hd, Conv.intToInt]
  cases hu
theorem fillV_den {ρ : List Value} {s : S} (hg : Good ρ s) (α : Nat → AV) {place : Nat → Option (Nat × Nat)} : ∀ {l : List (Nat × V)} {c cs : List V}, (∀ e ∈ l, e.2.isA = true ∨ (e.2.den ρ α).oneCell' = true) → fillV place c l = some cs →
    Instr.fill place (denL ρ α c).toArray ((l.map (·.1)).zip (denL ρ α (l.map (·.2)))) = some (denL ρ α cs).toArray
  | [], c, cs, _, h => by
    obtain rfl : c = cs := by simpa [fillV] using h
    simp [denL, Instr.fill]
  | (i, v) :: l, c, cs, h1, h => by
    unfold fillV at h
    split at h
    · rename_i off sz hp
      split at h
      · rename_i hc
        obtain ⟨rfl, h2⟩ := hc
        have hv := cells_den (ρ := ρ) (α := α) (h1 (i, v) (List.mem_cons_self ..))
        have hsz : (v.den ρ α).cells.size = v.cells.length := by rw [hv]; simp [denL_len]
        simp only [List.map_cons, denL, List.zip_cons_cons]
        rw [fill_splice (off := off) (by rw [hsz]; exact hp) (by rw [hsz]; simpa [denL_len] using h2), hv, ← splice_den]
        exact fillV_den hg α (fun e he => h1 e (List.mem_cons_of_mem _ he)) h
      cases h
    cases h
theorem place_built {P : Program} {t : TypeId} {pl : Nat → Option (Nat × Nat)} {z : Array Value} {parts : List (Nat × Value)} (hpl : placeOf P t = some pl) (hz : zeroOf P t = some (.agg z)) : P.built t parts = Instr.fill pl z parts := by
  unfold placeOf at hpl
  split at hpl
  · simp only [Option.map_eq_some_iff] at hpl
    obtain ⟨l, hl, rfl⟩ := hpl
    rw [built_struct hl hz]
    simp [Value.cells]
  · rename_i n e hu
    simp only [Option.map_eq_some_iff] at hpl
    obtain ⟨sz, hs, rfl⟩ := hpl
    unfold zeroOf at hz
    unfold szOf at hs
    unfold Program.built
    cases hq : P.info? t with
    | none => simp [hq] at hz
    | some i =>
      cases hqe : P.info? e with
      | none => simp [hqe] at hs
      | some ie =>
        have hz' : i.zero = some (.agg z) := by simpa [hq] using hz
        have hs' : ie.size = sz := by simpa [hqe] using hs
        simp [hu, hz', hqe, hs', Value.cells]
  cases hpl
theorem flat_den {ρ : List Value} {α : Nat → AV} : ∀ {vs : List V}, (∀ v ∈ vs, v.isA = true ∨ (v.den ρ α).oneCell' = true) → flatL (denL ρ α vs) = denL ρ α (vs.flatMap V.cells)
  | [], _ => rfl
  | v :: vs, h => by
    simp only [denL, flatL, List.flatMap_cons, denL_app]
    rw [cells_den (h v (List.mem_cons_self ..)), flat_den fun u hu => h u (List.mem_cons_of_mem _ hu)]
theorem lenT_u {P : Program} {ats : Array TypeId} {str : Bool} (h : (ats[0]?).bind (lenT P) = some str) : ∃ t, ats[0]? = some t ∧ ((str = true ∧ P.underlying t = some .string) ∨ (str = false ∧ ∃ e, P.underlying t = some (.slice e))) := by
  cases hq : ats[0]? with
  | none => simp [hq] at h
  | some t =>
    rw [hq] at h
    refine ⟨t, rfl, ?_⟩
    simp only [Option.bind_some, lenT] at h
    split at h
    · rename_i hu
      exact .inl ⟨by simpa using h.symm, hu⟩
    · rename_i e hu
      exact .inr ⟨by simpa using h.symm, e, hu⟩
    cases h
theorem run_len {P : Program} {c : Call} {str : Bool} {x u : Value} (hop : o.op = .call c) (hc : c.callee = .builtin .len) (hs : (c.argTypes[0]?).bind (lenT P) = some str) (ha : c.args.map a.eval = #[x]) (hu : kLen str x = some u) : (execOp a.eval o).run P W = .ok (.value u) W := by
  obtain ⟨t, ht, hh⟩ := lenT_u hs
  rcases hh with ⟨rfl, hp⟩ | ⟨rfl, e, hp⟩
  · cases x <;> simp [kLen] at hu
    subst hu
    simp [execOp, hop, resolve, hc, invoke, builtin, ha, Builtin.len_, ht, run_underlying hp, goInt]
  cases x <;> simp [kLen] at hu
  subst hu
  simp [execOp, hop, resolve, hc, invoke, builtin, ha, Builtin.len_, ht, run_underlying hp, goInt]
theorem run_cap {P : Program} {c : Call} {x u : Value} (hop : o.op = .call c) (hc : c.callee = .builtin .cap) (hs : (c.argTypes[0]?).bind (lenT P) = some false) (ha : c.args.map a.eval = #[x]) (hu : kCap x = some u) : (execOp a.eval o).run P W = .ok (.value u) W := by
  obtain ⟨t, ht, hh⟩ := lenT_u hs
  rcases hh with ⟨hf, hp⟩ | ⟨_, e, hp⟩
  · cases hf
  cases x <;> simp [kCap] at hu
  subst hu
  simp [execOp, hop, resolve, hc, invoke, builtin, ha, Builtin.cap_, ht, run_underlying hp, goInt]
theorem run_min {P : Program} {c : Call} {x y u : Value} (hop : o.op = .call c) (hc : c.callee = .builtin .min) (ha : c.args.map a.eval = #[x, y]) (hu : minV x y = some u) : (execOp a.eval o).run P W = .ok (.value u) W := by
  unfold minV at hu
  split at hu
  · split at hu
    · rename_i hk
      subst hk
      injection hu with hu
      subst hu
      simp [execOp, hop, resolve, hc, invoke, builtin, ha, Builtin.min_, Builtin.min2, minI]
    cases hu
  cases hu
theorem run_max {P : Program} {c : Call} {x y u : Value} (hop : o.op = .call c) (hc : c.callee = .builtin .max) (ha : c.args.map a.eval = #[x, y]) (hu : maxV x y = some u) : (execOp a.eval o).run P W = .ok (.value u) W := by
  unfold maxV at hu
  split at hu
  · split at hu
    · rename_i hk
      subst hk
      injection hu with hu
      subst hu
      simp [execOp, hop, resolve, hc, invoke, builtin, ha, Builtin.max_, Builtin.max2, maxI]
    cases hu
  cases hu
theorem run_bnd {P : Program} {y : Nat} {v : Value} {n : Nat} {code : BoundsCode} (h : bndV y v = some n) : (Instr.sliceBound v y code).run P W = .ok n W := by
  unfold bndV at h
  split at h
  · split at h
    · rename_i hc
      injection h with h
      subst h
      simp [Instr.sliceBound, asIntOf, hc]
    cases h
  cases h
theorem run_bounds {P : Program} {b : Bool} {len cap : Nat} {lo hi mx : Option Value} {r : Nat × Nat × Nat} (h : boundsV len cap lo hi mx = some r) : (Instr.sliceBounds b len cap lo hi mx).run P W = .ok r W := by
  unfold boundsV at h
  simp only [Option.bind_eq_some_iff] at h
  obtain ⟨m, hm, h1, hh, l, hl, e⟩ := h
  injection e with e
  subst e
  unfold Instr.sliceBounds
  cases mx <;> cases hi <;> cases lo <;> simp only [Option.some.injEq, reduceCtorEq] at hm hh hl <;> (try subst hm) <;> (try subst hh) <;> (try subst hl) <;> simp [Sem.run_bind, run_bnd, *]
def optsO (a : Act) (lo hi mx : Option Operand) : Option Value × Option Value × Option Value := (lo.map a.eval, hi.map a.eval, mx.map a.eval)
theorem opts_eval {lo hi mx : Option Operand} {vs : List Value} {r : Option Value × Option Value × Option Value} (hv : (lo.toArray ++ hi.toArray ++ mx.toArray).toList.map a.eval = vs) (h : optsV lo.isSome hi.isSome mx.isSome vs = some r) : optsO a lo hi mx = r := by
  subst hv
  unfold optsO
  cases lo <;> cases hi <;> cases mx <;> simp [optsV] at h ⊢ <;> exact h
theorem kList_den {ρ : List Value} {α : Nat → AV} : ∀ {bs : List V} {vs : List Value}, kList bs = some vs → denL ρ α bs = vs
  | [], vs, h => by simp [kList] at h; subst h; rfl
  | v :: bs, vs, h => by
    cases v <;> simp [kList] at h
    obtain ⟨l, hl, rfl⟩ := h
    simp [denL, V.den, kList_den hl]
theorem slice_ops {ρ : List Value} {α : Nat → AV} {t : TypeId} {xo : Operand} {lo hi mx : Option Operand} {x : V} {bs : List V} {vs : List Value} {r : Option Value × Option Value × Option Value} (he : (Op.slice t xo lo hi mx).operands.toList.map a.eval = denL ρ α (x :: bs)) (h1 : kList bs = some vs) (h2 : optsV lo.isSome hi.isSome mx.isSome vs = some r) : a.eval xo = x.den ρ α ∧ optsO a lo hi mx = r := by
  have he' : a.eval xo :: (lo.toArray ++ hi.toArray ++ mx.toArray).toList.map a.eval = x.den ρ α :: denL ρ α bs := by
    rw [← denL]
    rw [← he]
    simp [Op.operands]
  injection he' with h3 h4
  exact ⟨h3, opts_eval (h4.trans (kList_den h1)) h2⟩
theorem run_slArr {P : Program} {t e : TypeId} {xo : Operand} {lo hi mx : Option Operand} {ad : Addr} {len sz l1 h1 m1 : Nat} {r : Option Value × Option Value × Option Value} (hop : o.op = .slice t xo lo hi mx) (hx : a.eval xo = .pointer (some ad)) (hf : arrOf P t = some (len, e)) (hsz : szOf P e = some sz) (ho : optsO a lo hi mx = r) (hb : boundsV len len r.1 r.2.1 r.2.2 = some (l1, h1, m1)) :
    (execOp a.eval o).run P W = .ok (.value (.slice (some (if m1 = l1 then ad else ad.add (l1 * sz))) (h1 - l1) (m1 - l1))) W := by
  subst ho
  have := run_bounds (P := P) (W := W) (b := false) hb
  simp only [optsO] at this
  simp [execOp, hop, hx, Instr.sliceAt, run_underlying (arrOf_eq hf), Instr.sureAddr, this, run_szOf hsz]
theorem run_slSl {P : Program} {t e : TypeId} {xo : Operand} {lo hi mx : Option Operand} {A : Option Addr} {len cap sz l1 h1 m1 : Nat} {r : Option Value × Option Value × Option Value} (hop : o.op = .slice t xo lo hi mx) (hx : a.eval xo = .slice A len cap) (hf : P.underlying t = some (.slice e)) (hsz : szOf P e = some sz) (ho : optsO a lo hi mx = r) (hb : boundsV len cap r.1 r.2.1 r.2.2 = some (l1, h1, m1)) :
    (execOp a.eval o).run P W = .ok (.value (.slice (if m1 = l1 then A else A.map (·.add (l1 * sz))) (h1 - l1) (m1 - l1))) W := by
  subst ho
  have := run_bounds (P := P) (W := W) (b := true) hb
  simp only [optsO] at this
  simp [execOp, hop, hx, Instr.sliceAt, Instr.slice, run_underlying hf, this, run_szOf hsz]
theorem run_slStr {P : Program} {t : TypeId} {xo : Operand} {lo hi mx : Option Operand} {s : ByteArray} {l1 h1 m1 : Nat} {r : Option Value × Option Value × Option Value} (hop : o.op = .slice t xo lo hi mx) (hx : a.eval xo = .string s) (hf : P.underlying t = some .string) (ho : optsO a lo hi mx = r) (hm : r.2.2.isSome = false) (hb : boundsV s.size s.size r.1 r.2.1 none = some (l1, h1, m1)) :
    (execOp a.eval o).run P W = .ok (.value (.string (s.extract l1 h1))) W := by
  subst ho
  have := run_bounds (P := P) (W := W) (b := false) hb
  simp only [optsO] at this hm
  have hm' : mx.map a.eval = none := by cases mx <;> simp at hm ⊢
  have hm2 : mx = none := by simpa using hm'
  subst hm2
  simp [execOp, hop, hx, Instr.sliceAt, Instr.slice, run_underlying hf, this]
theorem Rd.in {W : World} {sz n : Nat} {A : Option Addr} {xs : List Value} (h : Rd W sz A n xs) {i : Nat} (hi : i < xs.length) : ∃ ad, A = some ad ∧ ∀ j u, xs[j]? = some u → W.cell? (ad.add j) = some u := by
  have hn : 0 < n := by
    rcases Nat.eq_zero_or_pos n with rfl | hn
    · rw [h.1] at hi; omega
    exact hn
  obtain ⟨ad, e, _, hc⟩ := h.2 hn
  exact ⟨ad, e, hc⟩
theorem row_info (hI : InvA w0 ps T ρ s a W α) {n sz : Nat} {c : List V} {e : TypeId} (hn : s.hp[n]? = some (some ⟨c, e, .row sz⟩)) : 0 < sz ∧ (((denL ρ α c).flatMap cellsV = [] ∧ (α n).h = .slice none 0 0) ∨ ∃ len cap, (α n).h = .slice (some ⟨(α n).b, 0, none⟩) len cap ∧ ((denL ρ α c).flatMap cellsV).length = len * sz ∧ ((denL ρ α c).flatMap cellsV ++ (α n).tl).length = cap * sz ∧ len ≤ cap ∧ cap ≤ maxLen ∧
    (⟨(α n).b, ((denL ρ α c).flatMap cellsV ++ (α n).tl).toArray, e⟩ : Ch) ∈ chs ρ α 0 s.hp) := by
  obtain ⟨_, h0, h1⟩ := hI.rows n _ hn
  refine ⟨h0, h1.imp id fun ⟨len, cap, h2, h3, h4, h5, h6⟩ => ⟨len, cap, h2, h3, h4, h5, h6, chs_mem (k := 0) hn ?_⟩⟩
  simp only [Blk.ch, Nat.zero_add, h2]
  rfl
theorem row_rd (hI : InvA w0 ps T ρ s a W α) {n sz : Nat} {c : List V} {e : TypeId} (hn : s.hp[n]? = some (some ⟨c, e, .row sz⟩)) : Arg.rd W ⟨(α n).h, sz, (denL ρ α c).flatMap cellsV⟩ := by
  obtain ⟨h0, h | ⟨len, cap, h2, h3, h4, h5, h6, hm⟩⟩ := row_info hI hn
  · rw [h.1, h.2]; exact ⟨Rd.none_, Nat.le_refl _⟩
  rw [h2]
  refine ⟨?_, h5⟩
  show Rd W sz (some ⟨(α n).b, 0, none⟩) len _
  refine Rd.of_blk (hI.st.at_ hm) h3 fun j u hu => ?_
  rw [Nat.zero_add]
  have : ((denL ρ α c).flatMap cellsV ++ (α n).tl)[j]? = some u := by rw [List.getElem?_append_left (List.getElem?_eq_some_iff.1 hu).1]; exact hu
  simpa using this
theorem ext_fact (hI : InvA w0 ps T ρ s a W α) {n sz : Nat} {c : List V} {e : TypeId} (hn : s.hp[n]? = some (some ⟨c, e, .ext sz⟩)) : ∀ W2, Same (muts (chs ρ α 0 s.hp) (osA a s T)) W W2 → exFact w0 ⟨(α n).h, sz, (denL ρ α c).flatMap cellsV⟩ W2 :=
  hI.st.pers _ (List.mem_append.2 (.inl (exs_mem.2 ⟨n, _, hn, by rw [Nat.zero_add]; rfl⟩)))
theorem rd_any (hI : InvA w0 ps T ρ s a W α) {n sz : Nat} {c : List V} {e : TypeId} {k : BK} (hn : s.hp[n]? = some (some ⟨c, e, k⟩)) (hk : k = .row sz ∨ k = .ext sz) : Arg.rd W ⟨(α n).h, sz, (denL ρ α c).flatMap cellsV⟩ := by
  rcases hk with rfl | rfl
  · exact row_rd hI hn
  exact (ext_fact hI hn W (.refl _ _)).1
theorem rd_full (hI : InvA w0 ps T ρ s a W α) {n sz : Nat} {c : List V} {e : TypeId} {kk : BK} (hn : s.hp[n]? = some (some ⟨c, e, kk⟩)) (hk : kk = .row sz ∨ kk = .ext sz) {i : Value} (hb : Rbnd (cellsV ((V.cat c).den ρ α)).length sz i) : ∃ ad len cap k j, (α n).h = .slice (some ad) len cap ∧ i = .int k j ∧ 0 ≤ j ∧ j < (len : Int) ∧ ((denL ρ α c).flatMap cellsV).length = len * sz ∧ Rd W sz (some ad) len ((denL ρ α c).flatMap cellsV) := by
  have hrd := rd_any hI hn hk
  obtain ⟨_, hl⟩ := hI.rows n _ hn
  have hl := hl.len
  have hl : 0 < sz ∧ ∃ A len cap, (α n).h = .slice A len cap ∧ ((denL ρ α c).flatMap cellsV).length = len * sz ∧ (0 < len → A.isSome = true) := by
    rcases hk with rfl | rfl <;> exact hl
  obtain ⟨h0, A, len, cap, h1, h2, h3⟩ := hl
  unfold Rbnd at hb
  split at hb
  · rename_i k j
    simp only [V.den, cellsV] at hb
    rw [h2, Nat.mul_div_cancel _ h0] at hb
    obtain ⟨ad, rfl⟩ := Option.isSome_iff_exists.1 (h3 (by omega))
    rw [h1] at hrd
    exact ⟨ad, len, cap, k, j, h1, rfl, hb.1, hb.2, h2, hrd.1⟩
  exact hb.elim
theorem Rd.cells_at {W : World} {sz n' : Nat} {ad : Addr} {xs : List Value} (h : Rd W sz (some ad) n' xs) {i n : Nat} (hi : i + n ≤ xs.length) : Cells W (ad.add i) ((xs.drop i).take n).toArray := by
  intro j u hu
  have hu' : ((xs.drop i).take n)[j]? = some u := by simpa using hu
  rw [List.getElem?_take] at hu'
  split at hu'
  · rw [List.getElem?_drop] at hu'
    obtain ⟨ad', e, hc⟩ := Rd.in h (List.getElem?_eq_some_iff.1 hu').1
    cases e
    rw [add_of_add]
    exact hc _ _ hu'
  cases hu'
theorem rbnd_of {len sz : Nat} {i : Value} (h : Rbnd len sz i) : ∃ k j, i = .int k j ∧ 0 ≤ j ∧ j < ((len / sz : Nat) : Int) := by
  unfold Rbnd at h
  split at h
  · exact ⟨_, _, rfl, h.1, h.2⟩
  exact h.elim
theorem row_full (hI : InvA w0 ps T ρ s a W α) {n sz : Nat} {c : List V} {e : TypeId} (hn : s.hp[n]? = some (some ⟨c, e, .row sz⟩)) {i : Value} (hb : Rbnd (cellsV ((V.cat c).den ρ α)).length sz i) : ∃ len cap k j, (α n).h = .slice (some ⟨(α n).b, 0, none⟩) len cap ∧ i = .int k j ∧ 0 ≤ j ∧ j < (len : Int) ∧ ((denL ρ α c).flatMap cellsV).length = len * sz ∧ ((denL ρ α c).flatMap cellsV ++ (α n).tl).length = cap * sz ∧ len ≤ cap ∧ cap ≤ maxLen ∧
    (⟨(α n).b, ((denL ρ α c).flatMap cellsV ++ (α n).tl).toArray, e⟩ : Ch) ∈ chs ρ α 0 s.hp := by
  obtain ⟨k, j, hi, h0, h1⟩ := rbnd_of hb
  simp only [V.den, cellsV] at h1
  obtain ⟨hz, ⟨h2, _⟩ | ⟨len, cap, h2, h3, h4, h5, h6, h7⟩⟩ := row_info hI hn
  · rw [h2] at h1; simp at h1; omega
  rw [h3, Nat.mul_div_cancel _ hz] at h1
  exact ⟨len, cap, k, j, h2, hi, h0, h1, h3, h4, h5, h6, h7⟩
theorem splice_row {xs tl cs : List Value} {o : Nat} (h : o + cs.length ≤ xs.length) : splice (xs ++ tl).toArray o cs.toArray = (xs.take o ++ cs ++ xs.drop (o + cs.length) ++ tl).toArray := by
  unfold splice
  rw [List.take_append_of_le_length (by omega), List.drop_append_of_le_length (by simpa using h)]
  simp
theorem flatA_den {ρ : List Value} {α : Nat → AV} : ∀ {c ds : List V}, flatA c = some ds → (denL ρ α c).flatMap cellsV = denL ρ α ds
  | [], ds, h => by
    obtain rfl : [] = ds := by simpa [flatA] using h
    rfl
  | v :: l, ds, h => by
    unfold flatA at h
    split at h
    · rename_i h0; cases h0
    · rename_i cs l' h0
      cases h0
      obtain ⟨d, h1, rfl⟩ := Option.map_eq_some_iff.1 h
      simp only [denL, V.den, List.flatMap_cons, cellsV, denL_app, flatA_den h1]
    cases h
theorem stru_of {c ds : List V} {sz o k p : Nat} {i : V} (h : stru c sz o i k = some (ds, p)) : ∃ kk j, i = .k (.int kk j) ∧ flatA c = some ds ∧ 0 ≤ j ∧ o + k ≤ sz ∧ 0 < k ∧ (j.toNat + 1) * sz ≤ ds.length ∧ p = j.toNat * sz + o := by
  unfold stru at h
  split at h
  · rename_i kk j
    obtain ⟨d, h1, h2⟩ := Option.bind_eq_some_iff.1 h
    split at h2
    · rename_i hc
      simp only [Option.some.injEq, Prod.mk.injEq] at h2
      obtain ⟨rfl, rfl⟩ := h2
      exact ⟨kk, j, rfl, h1, hc.1, hc.2.1, hc.2.2.1, hc.2.2.2, rfl⟩
    cases h2
  cases h
theorem stru_bnd {c ds : List V} {sz o k p : Nat} {i : V} (h : stru c sz o i k = some (ds, p)) (α : Nat → AV) : Rbnd (cellsV ((V.cat c).den ρ α)).length sz (i.den ρ α) := by
  obtain ⟨kk, j, rfl, h1, h2, h3, h4, h5, rfl⟩ := stru_of h
  have : 0 < sz := by omega
  simp only [V.den, cellsV, flatA_den h1, denL_len]
  refine ⟨h2, ?_⟩
  have h6 : j.toNat + 1 ≤ ds.length / sz := (Nat.le_div_iff_mul_le this).2 h5
  omega
theorem planEp_no {bs : List (Nat × Option Blk)} {s i : V} {sz o : Nat} {v : V} {new : Option Blk} {wr : Option (Nat × Blk)} (h : planEp bs s i sz o = .ef v new wr) : False := by
  unfold planEp at h
  split at h
  · split at h
    · split at h <;> cases h
    cases h
  cases h
theorem planLd_ef {bs : List (Nat × Option Blk)} {b : Bool} {n : Nat} {s i : V} {sz o : Nat} {v : V} {new : Option Blk} {wr : Option (Nat × Blk)} (h : planLd bs b n s i sz o = .ef v new wr) : new = none ∧ wr = none ∧ ∃ m c e ds p, s = .row m ∧ rdOfN bs m = some (c, e, sz) ∧ stru c sz o i n = some (ds, p) ∧ ((b = true ∧ v = .a ((ds.drop p).take n)) ∨ (b = false ∧ ds[p]? = some v)) := by
  unfold planLd at h
  split at h
  · split at h
    · rename_i c e sz' hrow
      split at h
      · rename_i hs
        subst hs
        split at h
        · rename_i ds p hst
          unfold partV at h
          split at h
          · rename_i hb
            cases h
            exact ⟨rfl, rfl, _, c, e, ds, p, rfl, hrow, hst, .inl ⟨hb, rfl⟩⟩
          rename_i hb
          split at h
          · rename_i u hu
            cases h
            exact ⟨rfl, rfl, _, c, e, ds, p, rfl, hrow, hst, .inr ⟨by simpa using hb, hu⟩⟩
          cases h
        split at h <;> cases h
      cases h
    cases h
  split at h <;> cases h
theorem planAp_no {C : Cx} {bs : List (Nat × Option Blk)} {nm m : Nat} {t : TypeId} {x y v : V} {new : Option Blk} {wr : Option (Nat × Blk)} (h : planAp C bs nm m t x y = .ef v new wr) : False := by
  unfold planAp at h
  split at h
  · split at h
    · split at h
      · split at h <;> cases h
      cases h
    cases h
  cases h
theorem planAx_no {bs : List (Nat × Option Blk)} {m : Nat} {fr : Bool} {t : TypeId} {x y v : V} {new : Option Blk} {wr : Option (Nat × Blk)} (h : planAx C bs nm m fr t x y = .ef v new wr) : False := by
  unfold planAx at h
  split at h
  · split at h
    · split at h
      · split at h <;> cases h
      cases h
    cases h
  cases h
theorem planCl_no {bs : List (Nat × Option Blk)} {m : Nat} {g : FuncId} {ts : List TypeId} {args : List V} {v : V} {new : Option Blk} {wr : Option (Nat × Blk)} (h : planCl C bs nm m g ts args = .ef v new wr) : False := by
  unfold planCl at h
  split at h
  · split at h
    · cases h
    · split at h <;> cases h
    cases h
  cases h
theorem planCw_no {bs : List (Nat × Option Blk)} {m : Nat} {g : FuncId} {ts : List TypeId} {args cap : List V} {v : V} {new : Option Blk} {wr : Option (Nat × Blk)} (h : planCw C bs nm m g ts args cap = .ef v new wr) : False := by
  unfold planCw at h
  split at h
  · split at h
    · split at h <;> cases h
    cases h
  cases h
theorem flat_cells_len {sz : Nat} : ∀ {l : List V}, (∀ v ∈ l, v.cells.length = sz) → (l.flatMap V.cells).length = l.length * sz
  | [], _ => by simp
  | v :: l, h => by
    rw [List.flatMap_cons, List.length_append, flat_cells_len fun u hu => h u (List.mem_cons_of_mem _ hu), h v (List.mem_cons_self ..), List.length_cons, Nat.succ_mul]
    omega
theorem wp_build0 {P : Program} {hs : List Ch} {os : List Ow} {t e : TypeId} {sz : Nat} (ho : o.op = .buildSlice t 0 #[]) (hu : P.underlying t = some (.slice e)) (hsz : szOf P e = some sz) (hS : St w0 hs os ps W)
    (h : ∀ k W', St w0 (⟨k, #[], e⟩ :: hs) os ps W' → K (a.put o.dst (.slice (some ⟨k, 0, none⟩) 0 0)) W') : o.wp P a W K Q := by
  unfold Oper.wp execOp
  simp [ho, Instr.buildSlice, run_underlying hu, run_szOf hsz, Instr.fill, newRow]
  have e0 : Array.map (fun _ => (default : Value)) (Array.range 0) = #[] := by simp
  rw [e0]
  exact h _ _ (hS.new #[] e)
theorem oneB_ok (hI : InvA w0 ps T ρ s a W α) {sh : List Sh} (hsh : sh <+: s.sh) {vv : List V} {v : V} (h : v.oneB (blks s.hp vv) sh = true) : (v.den ρ α).oneCell' = true := by
  unfold V.oneB at h
  rw [Bool.or_eq_true] at h
  rcases h with h | h
  · exact one_ok hI.good hsh α h
  split at h
  · rename_i m
    obtain ⟨⟨c, e, sz⟩, hr⟩ := Option.isSome_iff_exists.1 h
    obtain ⟨k, hn, hk⟩ := rdOfN_eq hr
    have hl := (hI.rows m _ hn).2.len
    have : ∃ A len cap, (α m).h = .slice A len cap := by
      rcases hk with rfl | rfl
      · obtain ⟨_, A, len, cap, g, _⟩ := hl; exact ⟨A, len, cap, g⟩
      obtain ⟨_, A, len, cap, g, _⟩ := hl; exact ⟨A, len, cap, g⟩
    obtain ⟨A, len, cap, g⟩ := this
    simp only [V.den, g]
    rfl
  cases h
theorem onesB_ok (hI : InvA w0 ps T ρ s a W α) {sh : List Sh} (hsh : sh <+: s.sh) {vv cs : List V} (h : vonesB (blks s.hp vv) sh cs = true) : (denL ρ α cs).toArray.all (·.oneCell') = true := by
  rw [Array.all_eq_true_iff_forall_mem]
  intro u hu
  rw [denL_map] at hu
  simp only [List.mem_toArray, List.mem_map] at hu
  obtain ⟨v, hv, rfl⟩ := hu
  exact oneB_ok hI hsh (List.all_eq_true.1 h v hv)
theorem rset_gen {sh0 : List Sh} {t : TypeId} {xo yo : Operand} {n sz off k : Nat} {i vv : V} {c c' : List V} {e : TypeId} (hop : o.op = .store t xo yo) (hx : a.eval xo = epv ((α n).h) (i.den ρ α) sz off) (hy : a.eval yo = vv.den ρ α) (hrow : s.hp[n]? = some (some ⟨c, e, .row sz⟩)) (hs : szOf C.P t = some k) (hk : vv.cells.length = k) (hk0 : 0 < k) (hone : (denL ρ α vv.cells).toArray.all (·.oneCell') = true)
    (hI : InvA w0 ps T ρ s a W α) (hbd : Rbnd (cellsV ((V.cat c).den ρ α)).length sz (i.den ρ α)) (hlt : off + vv.cells.length ≤ sz) (hxs0 : (denL ρ α c').flatMap cellsV = ((denL ρ α c).flatMap cellsV).take (idxOf (i.den ρ α) * sz + off) ++ denL ρ α vv.cells ++ ((denL ρ α c).flatMap cellsV).drop (idxOf (i.den ρ α) * sz + off + vv.cells.length)) (hw : effWf s nm (.k undef) none (some (n, ⟨c', e, .row sz⟩)) = true) (hK : ∀ a' W', Inv w0 ps T ρ (s.eff nm o.dst (.k undef) none (some (n, ⟨c', e, .row sz⟩))) a' W' → K a' W') : o.wp C.P a W K Q := by
  obtain ⟨len, cap, kk, j, g1, g2, g3, g4, g5, g6, g7, g8, g9⟩ := row_full hI hrow hbd
  rw [g2] at hxs0 hx
  rw [g1] at hx
  simp only [epv, add_zero_addr, Nat.zero_add, idxOf] at hx hxs0
  have hj : j.toNat * sz + off + vv.cells.length ≤ ((denL ρ α c).flatMap cellsV).length := by
    rw [g5]
    have h1 : (j.toNat + 1) * sz ≤ len * sz := Nat.mul_le_mul_right _ (by omega)
    rw [Nat.add_mul] at h1
    omega
  have hxs : (⟨c', e, .row sz⟩ : Blk).xs ρ α = ((denL ρ α c).flatMap cellsV).take (j.toNat * sz + off) ++ denL ρ α vv.cells ++ ((denL ρ α c).flatMap cellsV).drop (j.toNat * sz + off + vv.cells.length) := hxs0
  have hxl : ((⟨c', e, .row sz⟩ : Blk).xs ρ α).length = ((denL ρ α c).flatMap cellsV).length := by
    rw [hxs]
    simp only [List.length_append, List.length_take, List.length_drop, denL_len]
    omega
  have hrowOk : (⟨c', e, .row sz⟩ : Blk).rowOk ρ α n := by
    refine ⟨(row_info hI hrow).1, .inr ⟨len, cap, g1, by rw [hxl, g5], ?_, g7, g8⟩⟩
    rw [List.length_append, hxl, ← List.length_append, g6]
  have hup : Upd (α n).b ((denL ρ α c).flatMap cellsV ++ (α n).tl).toArray e (splice ((denL ρ α c).flatMap cellsV ++ (α n).tl).toArray (j.toNat * sz + off) (denL ρ α vv.cells).toArray) (chs ρ α 0 s.hp) (chs ρ α 0 (s.hp.set n (some ⟨c', e, .row sz⟩))) := by
    refine chs_set (k := 0) hrow ?_ ?_
    · simp only [Blk.ch, Nat.zero_add, g1]; rfl
    simp only [Blk.ch, Nat.zero_add, g1]
    rw [hxs, splice_row (by rw [denL_len]; exact hj), denL_len]
  cases hA : vv.isA
  · have hcs : vv.cells = [vv] := by cases vv <;> first | rfl | simp [V.isA] at hA
    rw [hcs] at hup hk hone hj
    simp at hk
    subst hk
    have h1c : (vv.den ρ α).oneCell' = true := by simpa [denL] using hone
    refine wp_store_one hop hx hy hI.st hup ?_ hs (by simp at hj ⊢; omega) h1c fun W' hS => fin_wr hI hrow hrowOk rfl hw hK hS rfl
    rw [setL_splice (by simp at hj ⊢; omega)]
    rfl
  obtain ⟨cs, rfl⟩ : ∃ cs, vv = .a cs := by cases vv <;> simp [V.isA] at hA; exact ⟨_, rfl⟩
  simp only [V.cells] at *
  refine wp_store_sub hop hx hy hI.st hup ?_ ?_ hone fun W' hS => fin_wr hI hrow hrowOk rfl hw hK hS rfl
  · rw [hs]; simp [denL_len, hk]
  simp [denL_len]; simp at hj; omega
theorem ef_okV {v : V} {new : Option Blk} {wr : Option (Nat × Blk)} {vs : List V} {sh : List Sh} (hsh : sh <+: s.sh) (hvs : o.op.operands.toList.mapM s.ev = some vs) {vv0 : List V} (h : planV0 C sh nm o.op vs (blks s.hp vv0) = .ef v new wr) (hI : InvA w0 ps T ρ s a W α) (hnm : new = none ∨ freeIn s nm)
    (hw : effWf s nm v new wr = true) (hK : ∀ a' W', Inv w0 ps T ρ (s.eff nm o.dst v new wr) a' W' → K a' W') : o.wp C.P a W K Q := by
  have he := mapM_den hI.good hI.fm hvs
  have fp := @fin_pure w0 ps T ρ s a W α K o nm
  generalize hop : o.op = op at *
  unfold planV0 at h
  split at h
  · -- move
    injection h with h1 h2 h3
    subst h1; subst h2; subst h3
    simp [Op.operands, denL] at he
    exact wp_move hop he (fin_pure hI hw hK)
  · injection h with h1 h2 h3
    subst h1; subst h2; subst h3
    simp [Op.operands, denL] at he
    exact wp_assign hop he (fin_pure hI hw hK)
  · -- pick
    simp [Op.operands, denL] at he
    obtain ⟨e1, e2, e3⟩ := he
    split at h
    · injection h with h1 h2 h3
      subst h1; subst h2; subst h3
      exact wp_pick_true hop e1 e2 (fin_pure hI hw hK)
    · injection h with h1 h2 h3
      subst h1; subst h2; subst h3
      exact wp_pick_false hop e1 e3 (fin_pure hI hw hK)
    · cases h
    cases h
  · -- box
    simp [Op.operands, denL] at he
    split at h
    · injection h with h1 h2 h3
      subst h1; subst h2; subst h3
      exact wp_box_row hop he hI.st fun k W' hS _ _ => fin_new hI (hnm.resolve_left nofun) rfl hw hK hS fun α' hα => by simp [V.den, hα]
    split at h
    · rename_i h1c
      injection h with h1 h2 h3
      subst h1; subst h2; subst h3
      exact wp_box_one hop he (one_ok hI.good hsh α h1c) hI.st fun k W' hS _ _ => fin_new hI (hnm.resolve_left nofun) rfl hw hK (by simpa [denL] using hS) fun α' hα => by simp [V.den, hα]
    cases h
  · -- alloc
    split at h
    · rename_i cs hz
      injection h with h1 h2 h3
      subst h1; subst h2; subst h3
      exact wp_alloc_row hop hz hI.st fun k W' hS _ _ => fin_new hI (hnm.resolve_left nofun) rfl hw hK (by simpa [map_k] using hS) fun α' hα => by simp [V.den, hα]
    · rename_i v' hz
      split at h
      · rename_i h1c
        injection h with h1 h2 h3
        subst h1; subst h2; subst h3
        exact wp_alloc_one hop hz h1c hI.st fun k W' hS _ _ => fin_new hI (hnm.resolve_left nofun) rfl hw hK (by simpa [denL, V.den] using hS) fun α' hα => by simp [V.den, hα]
      cases h
    cases h
  · -- load
    simp [Op.operands, denL, V.den] at he
    split at h
    · rename_i b sz hb hr hs
      have hm := hI.blk (blkOf_eq hb).1 (blkOf_eq hb).2
      split at h
      · rename_i hlt
        injection h with h1 h2 h3
        subst h1; subst h2; subst h3
        refine wp_load_sub hop he hI.st hm hr hs (by simpa [denL_len] using hlt) (cs := (denL ρ α ((b.c.drop _).take sz)).toArray) ?_ (fin_pure hI hw hK)
        rw [ext_eq, denL_drop]
      cases h
    · rename_i b _ hb hr
      have hm := hI.blk (blkOf_eq hb).1 (blkOf_eq hb).2
      split at h
      · rename_i v' hv
        injection h with h1 h2 h3
        subst h1; subst h2; subst h3
        exact wp_load_one hop he hI.st hm hr (by rw [lookL_eq]; exact denL_at hv) (fin_pure hI hw hK)
      cases h
    cases h
  · -- load of an element
    rename_i s' i' sz off
    split at h
    · rename_i b k hro hsz
      obtain ⟨rfl, rfl, m, c, e, ds, p, rfl, hrow, hst, hv⟩ := planLd_ef h
      obtain ⟨kk, hn, hk⟩ := rdOfN_eq hrow
      have hbd := stru_bnd (ρ := ρ) hst α
      obtain ⟨k2, j, rfl, h1, h2, h3, h4, h5, rfl⟩ := stru_of hst
      obtain ⟨ad, len, cap, k', j', g1, g2, g3, g4, g5, g6⟩ := rd_full hI hn hk hbd
      rw [flatA_den h1] at g6
      simp only [V.den] at g2
      cases g2
      simp [Op.operands, denL, V.den] at he
      rw [g1] at he
      simp only [epv] at he
      have hlen : j.toNat * sz + off + k ≤ (denL ρ α ds).length := by
        rw [denL_len]
        rw [Nat.add_mul] at h5
        omega
      rcases hv with ⟨rfl, rfl⟩ | ⟨rfl, hv⟩
      · refine wp_load_at hop he hro (Rd.cells_at g6 hlen) ?_ ?_
        · rw [hsz]; simp only [List.size_toArray, List.length_take, List.length_drop]; congr 1; omega
        · have := fin_pure hI hw hK
          simpa only [V.den, denL_drop] using this
      refine wp_load_cell hop he hro ?_ (fin_pure hI hw hK)
      obtain ⟨ad', e', hcl⟩ := Rd.in g6 (by omega : j.toNat * sz + off < (denL ρ α ds).length)
      cases e'
      exact hcl _ _ (denL_at hv)
    cases h
  · -- store
    rename_i n off vv
    simp [Op.operands, denL, V.den] at he
    obtain ⟨e1, e2⟩ := he
    split at h
    · rename_i b sz hb hs
      split at h
      · rename_i hc
        obtain ⟨hc1, hc2, hc3, hc4⟩ := hc
        injection h with h1 h2 h3
        subst h1; subst h2; subst h3
        obtain ⟨hbn, hbk⟩ := blkOf_eq hb
        have hup : Upd (α n).b (denL ρ α b.c).toArray b.t (splice (denL ρ α b.c).toArray off (denL ρ α vv.cells).toArray) (chs ρ α 0 s.hp) (chs ρ α 0 (s.hp.set n (some ⟨spliceV b.c off vv.cells, b.t, b.k⟩))) :=
          chs_set (k := 0) hbn (by simp only [Blk.ch, hbk, Nat.zero_add]) (by simp only [Blk.ch, hbk, Nat.zero_add, splice_den])
        have hrow : (⟨spliceV b.c off vv.cells, b.t, b.k⟩ : Blk).rowOk ρ α n := by simp [Blk.rowOk, hbk]
        have hown : ∀ c : List V, (⟨c, b.t, b.k⟩ : Blk).own = true := fun c => by simp [Blk.own, hbk]
        cases hA : vv.isA
        · have hcs : vv.cells = [vv] := by cases vv <;> first | rfl | simp [V.isA] at hA
          rw [hcs] at hup hrow hc1 hc3 hw hK
          simp at hc1
          subst hc1
          have h1c : (vv.den ρ α).oneCell' = true := oneB_ok hI hsh (by simpa [vonesB] using hc3)
          refine wp_store_one hop e1 e2 hI.st hup ?_ hs (by simp [denL_len]; omega) h1c fun W' hS => fin_wr hI hbn hrow (hown _) hw hK hS rfl
          rw [setL_splice (by simp [denL_len]; omega)]
          rfl
        obtain ⟨cs, rfl⟩ : ∃ cs, vv = .a cs := by cases vv <;> simp [V.isA] at hA; exact ⟨_, rfl⟩
        simp only [V.cells] at *
        refine wp_store_sub hop e1 e2 hI.st hup ?_ ?_ (onesB_ok hI hsh hc3) fun W' hS => fin_wr hI hbn hrow (hown _) hw hK hS rfl
        · rw [hs]; simp [denL_len, hc1]
        simp [denL_len]; omega
      cases h
    cases h
  · -- nilCheck
    simp [Op.operands, denL, V.den] at he
    injection h with h1 h2 h3
    subst h1; subst h2; subst h3
    exact wp_nil hop he (fin_pure hI hw hK)
  · -- fieldAddr
    simp [Op.operands, denL, V.den] at he
    split at h
    · rename_i d hd
      injection h with h1 h2 h3
      subst h1; subst h2; subst h3
      exact wp_fieldAddr hop he hd (fin_pure hI hw hK)
    cases h
  · -- fieldAddr of an element
    split at h
    · exact (planEp_no h).elim
    cases h
  · -- field
    simp [Op.operands, denL, V.den] at he
    split at h
    · rename_i off e hf
      split at h
      · rename_i sz hr hs
        split at h
        · injection h with h1 h2 h3
          subst h1; subst h2; subst h3
          refine wp_field_row hop he hf hr hs ?_ (fin_pure hI hw hK)
          rw [ext_eq, ← denL_drop]
        cases h
      · rename_i _ hr
        split at h
        · rename_i v' hv
          injection h with h1 h2 h3
          subst h1; subst h2; subst h3
          exact wp_field_one hop he hf hr (by rw [lookL_eq]; exact denL_at hv) (fin_pure hI hw hK)
        cases h
      cases h
    cases h
  · -- indexAddr
    simp [Op.operands, denL, V.den] at he
    split at h
    · rename_i len e hf
      split at h
      · rename_i sz hs
        split at h
        · rename_i hi
          injection h with h1 h2 h3
          subst h1; subst h2; subst h3
          exact wp_indexAddr_arr hop he.1 he.2 hf hi.1 hi.2 hs rfl (fin_pure hI hw hK)
        cases h
      cases h
    cases h
  · split at h <;> cases h
  · simp [Op.operands, denL, V.den] at he
    split at h
    · rename_i e hf
      split at h
      · rename_i sz hs
        split at h
        · rename_i hi
          injection h with h1 h2 h3
          subst h1; subst h2; subst h3
          refine wp_indexAddr_sl hop he.1 he.2 (slOf_eq hf) hi.1 hi.2 hs (add_zero_addr _ _ _) (fin_pure hI hw hK)
        cases h
      cases h
    cases h
  · cases h
  · split at h
    · split at h
      · exact (planEp_no h).elim
      cases h
    cases h
  · split at h
    · split at h
      · exact (planEp_no h).elim
      cases h
    cases h
  · -- store into a row
    rename_i n i sz off vv
    simp [Op.operands, denL, V.den] at he
    split at h
    · rename_i c e sz' k hrow hs
      split at h
      · rename_i ds p hst
        split at h
        · rename_i hc
          obtain ⟨rfl, hc2, hc3, hc4⟩ := hc
          injection h with h1 h2 h3
          subst h1; subst h2; subst h3
          have hbd := stru_bnd (ρ := ρ) hst α
          obtain ⟨k2, j, rfl, g1, g2, g3, g4, g5, rfl⟩ := stru_of hst
          refine rset_gen (sh0 := sh) hop he.1 he.2 (rowOfN_eq hrow) hs hc2 hc3 (onesB_ok hI hsh hc4) hI hbd (by omega) ?_ hw hK
          rw [flatA_den g1]
          simp [denL, V.den, cellsV, spliceV, denL_app, denL_map, List.map_take, List.map_drop, idxOf]
        cases h
      split at h <;> cases h
    cases h
  · -- index
    simp [Op.operands, denL, V.den] at he
    split at h
    · rename_i len e hf
      split at h
      · rename_i sz hr hs
        split at h
        · rename_i hi
          injection h with h1 h2 h3
          subst h1; subst h2; subst h3
          refine wp_index_row hop he.1 he.2 hf hi.1 hi.2.1 hr hs ?_ (fin_pure hI hw hK)
          rw [ext_eq, ← denL_drop]
        cases h
      · rename_i hr hs
        split at h
        · rename_i hi
          split at h
          · rename_i v' hv
            injection h with h1 h2 h3
            subst h1; subst h2; subst h3
            exact wp_index_one hop he.1 he.2 hf hi.1 hi.2 hr hs (by rw [lookL_eq]; exact denL_at hv) (fin_pure hI hw hK)
          cases h
        cases h
      cases h
    cases h
  · split at h <;> cases h
  · -- extract
    simp [Op.operands, denL, V.den] at he
    split at h
    · rename_i v' hv
      injection h with h1 h2 h3
      subst h1; subst h2; subst h3
      exact wp_extract hop he (by rw [lookL_eq]; exact denL_at hv) (fin_pure hI hw hK)
    cases h
  · -- binOp
    simp [Op.operands, denL] at he
    split at h
    · split at h
      · split at h <;> cases h
      · split at h <;> cases h
      cases h
    · split at h <;> cases h
    split at h
    · rename_i hbt
      obtain ⟨c, d, u, rfl, rfl, hu, h1c, rfl, rfl, rfl⟩ := sc2_ef h
      exact wp_val (run_binb hop he.1 he.2 hbt hu) (fin_pure hI hw hK)
    obtain ⟨c, d, u, rfl, rfl, hu, h1c, rfl, rfl, rfl⟩ := sc2_ef h
    exact wp_val (run_bin hop he.1 he.2 hu) (fin_pure hI hw hK)
  · -- not
    simp [Op.operands, denL] at he
    obtain ⟨c, u, rfl, hu, h1c, rfl, rfl, rfl⟩ := sc1_ef h
    exact wp_val (run_not hop he hu) (fin_pure hI hw hK)
  · simp [Op.operands, denL] at he
    obtain ⟨c, u, rfl, hu, h1c, rfl, rfl, rfl⟩ := sc1_ef h
    exact wp_val (run_neg hop he hu) (fin_pure hI hw hK)
  · -- convert
    simp [Op.operands, denL] at he
    split at h
    · rename_i hs hd
      obtain ⟨c, u, rfl, hu, h1c, rfl, rfl, rfl⟩ := sc1_ef h
      exact wp_val (run_conv hop he hs hd hu) (fin_pure hI hw hK)
    cases h
  · -- a slice of a row
    unfold planSx at h
    split at h
    · split at h <;> cases h
    cases h
  · -- slice
    rename_i bs _
    unfold planSl at h
    split at h
    · rename_i n oo _
      split at h
      · rename_i len e hf
        split at h
        · rename_i sz l h' m hsz hkl
          split at h
          · rename_i l1 h1 m1 hb
            injection h with h2 h3 h4
            subst h2; subst h3; subst h4
            obtain ⟨vs', hk1, hk2⟩ := Option.bind_eq_some_iff.1 hkl
            obtain ⟨hx, hop2⟩ := slice_ops he hk1 hk2
            refine wp_val (run_slArr hop (by simpa [V.den] using hx) hf hsz hop2 hb) ?_
            exact fin_pure (v := .sl n (if m1 = l1 then oo else oo + l1 * sz) (h1 - l1) (m1 - l1)) hI hw hK |> fun q => by
              have e : (V.sl n (if m1 = l1 then oo else oo + l1 * sz) (h1 - l1) (m1 - l1)).den ρ α = .slice (some (if m1 = l1 then (⟨(α n).b, oo, none⟩ : Addr) else (⟨(α n).b, oo, none⟩ : Addr).add (l1 * sz))) (h1 - l1) (m1 - l1) := by
                simp only [V.den]
                split <;> simp [add_zero_addr]
              rw [e] at q
              exact q
          cases h
        cases h
      cases h
    · rename_i n oo len cap _
      split at h
      · rename_i e hf
        split at h
        · rename_i sz l h' m hsz hkl
          split at h
          · rename_i l1 h1 m1 hb
            injection h with h2 h3 h4
            subst h2; subst h3; subst h4
            obtain ⟨vs', hk1, hk2⟩ := Option.bind_eq_some_iff.1 hkl
            obtain ⟨hx, hop2⟩ := slice_ops he hk1 hk2
            refine wp_val (run_slSl hop (by simpa [V.den] using hx) (slOf_eq hf) hsz hop2 hb) ?_
            exact fin_pure (v := .sl n (if m1 = l1 then oo else oo + l1 * sz) (h1 - l1) (m1 - l1)) hI hw hK |> fun q => by
              have e : (V.sl n (if m1 = l1 then oo else oo + l1 * sz) (h1 - l1) (m1 - l1)).den ρ α = .slice (if m1 = l1 then some (⟨(α n).b, oo, none⟩ : Addr) else (some (⟨(α n).b, oo, none⟩ : Addr)).map (·.add (l1 * sz))) (h1 - l1) (m1 - l1) := by
                simp only [V.den]
                split <;> simp [add_zero_addr]
              rw [e] at q
              exact q
          cases h
        cases h
      cases h
    split at h
    · cases h
    · split at h <;> cases h
    cases h
  · -- makeFunc
    injection h with h1 h2 h3
    subst h1; subst h2; subst h3
    refine wp_val (u := _) ?_ (fin_pure hI hw hK)
    simp only [execOp, hop, Instr.makeFunc, Sem.run_bind, Sem.run_pure, Result.andThen_ok]
    simp only [Op.operands, Array.toList_append, List.map_append] at he
    rename_i first cap
    have hl : (first.toList.map a.eval).length = first.size := by simp
    have h4 : denL ρ α (vs.take first.size) = first.toList.map a.eval := by
      have := congrArg (List.take first.size) he
      rw [List.take_left' hl] at this
      rw [this, denL_map, denL_map, List.map_take]
    have h5 : denL ρ α (vs.drop first.size) = cap.toList.map a.eval := by
      have := congrArg (List.drop first.size) he
      rw [List.drop_left' hl] at this
      rw [this, denL_map, denL_map, List.map_drop]
    simp only [V.den, h4, h5]
    simp [← Array.toList_map]
  · -- build
    rename_i parts
    split at h
    · rename_i pl z hpl hz
      split at h
      · rename_i cs hf
        split at h
        · rename_i hsz
          obtain ⟨hsz, hall⟩ := hsz
          injection h with h1 h2 h3
          subst h1; subst h2; subst h3
          refine wp_build hop (cs := (denL ρ α cs).toArray) ?_ (fin_pure hI hw hK)
          have hpv : (parts.map fun (i, x) => (i, a.eval x)).toList = (parts.toList.map (·.1)).zip (denL ρ α vs) := by
            rw [← he]
            simp only [Op.operands, Array.toList_map, List.map_map]
            rw [List.zip_map', ]
            exact List.map_congr_left fun x _ => rfl
          rw [hpv]
          rw [place_built hpl hz]
          have hfd := fillV_den hI.good α (fun e he' => ?_) hf
          · rw [map_k] at hfd
            simp only [Array.toArray_toList] at hfd
            rw [← hfd]
            rw [List.map_fst_zip (by simp [hsz]), List.map_snd_zip (by simp [hsz])]
          have h5 := (List.of_mem_zip he').2
          have h6 := List.all_eq_true.1 hall _ h5
          simp only [Bool.or_eq_true] at h6
          exact h6.imp id fun h => one_ok hI.good hsh α h
        cases h
      cases h
    cases h
  · -- buildSlice
    rename_i n parts
    split at h
    · rename_i e hsl
      split at h
      · rename_i sz z hsz hz
        split at h
        · rename_i hc
          obtain ⟨rfl, hp0, hz0⟩ := hc
          injection h with h1 h2 h3
          subst h1; subst h2; subst h3
          have hpv : parts = #[] := Array.eq_empty_of_size_eq_zero hp0
          refine wp_build0 (by rw [hop, hpv]) (slOf_eq hsl) hsz hI.st fun k W' hS => ?_
          refine fin_row hI (hnm.resolve_left nofun) rfl hw hK ⟨k, .slice (some ⟨k, 0, none⟩) 0 0, []⟩ (fun α' h1 h2 h3 h4 => ⟨?_, ?_⟩) fun α' h1 => by simp only [V.den, h1]
          · refine St.perm ?_ (chs_new (k := 0) (hnm.resolve_left nofun).1 (e := ⟨k, #[], e⟩) (by simp [Blk.ch, h1, Blk.xs, denL]))
            rw [h4]; exact hS
          exact ⟨hz0, .inr ⟨0, 0, by rw [h1], by simp [Blk.xs, denL], by simp [Blk.xs, denL, h1], Nat.le_refl _, by simp [maxLen]⟩⟩
        split at h
        · rename_i hc
          obtain ⟨hb0, hb1, hc1, hc2, hc3, hc4, hc5⟩ := hc
          injection h with h1 h2 h3
          subst h1; subst h2; subst h3
          have hall : ∀ v ∈ vs, v.cells.length = sz ∧ (v.isA = true ∨ (v.den ρ α).oneCell' = true) := fun v hv => by
            have := List.all_eq_true.1 hc5 v hv
            simp only [Bool.and_eq_true, Bool.or_eq_true, beq_iff_eq] at this
            exact ⟨this.1, this.2.imp id fun h => one_ok hI.good hsh α h⟩
          have hpv : (parts.map fun (i, x) => (i, a.eval x)).toList = ((denL ρ α vs).zipIdx 0).map fun p => (p.2, p.1) := by
            have h7 : (parts.map fun (i, x) => (i, a.eval x)).toList = (parts.toList.map (·.1)).zip (denL ρ α vs) := by
              rw [← he]
              simp only [Op.operands, Array.toList_map, List.map_map]
              rw [List.zip_map']
              exact List.map_congr_left fun x _ => rfl
            rw [h7, hc1, ← hc2, ← denL_len ρ α vs]
            generalize denL ρ α vs = l
            rw [List.range_eq_range', List.zipIdx_eq_zip_range', List.map_zip_eq_zipWith, List.zip_eq_zipWith, List.zipWith_comm]
            rfl
          refine wp_buildS hop (slOf_eq hsl) hsz hz (denL ρ α vs) hpv (by rw [denL_len, hc2]) (fun u hu => ?_) hc4 hc3 hI.st fun k W' hS _ _ => ?_
          · rw [denL_map] at hu
            obtain ⟨v, hv, rfl⟩ := List.mem_map.1 hu
            rw [cells_den (hall v hv).2]
            simp [denL_len, (hall v hv).1]
          have hln : (vs.flatMap V.cells).length = n * sz := by rw [flat_cells_len fun v hv => (hall v hv).1, hc2]
          refine fin_row hI (hnm.resolve_left nofun) rfl hw hK ⟨k, .slice (some ⟨k, 0, none⟩) n n, []⟩ (fun α' h1 h2 h3 h4 => ?_) fun α' h1 => by simp only [V.den, h1]
          have hx : (⟨[V.a (vs.flatMap V.cells)], e, .row sz⟩ : Blk).xs ρ α' = denL ρ α (vs.flatMap V.cells) := by
            show (denL ρ α' [V.a (vs.flatMap V.cells)]).flatMap cellsV = _
            rw [show denL ρ α' [V.a (vs.flatMap V.cells)] = denL ρ α [V.a (vs.flatMap V.cells)] from h3]
            simp [denL, V.den, cellsV]
          refine ⟨?_, ?_⟩
          · refine St.perm ?_ (chs_new (k := 0) (hnm.resolve_left nofun).1 (e := ⟨k, (denL ρ α (vs.flatMap V.cells)).toArray, e⟩) (by simp [Blk.ch, h1, hx]))
            rw [h4, ← flat_den (fun v hv => (hall v hv).2)]
            exact hS
          exact ⟨hb1, .inr ⟨n, n, by rw [h1], by rw [hx, denL_len, hln], by rw [hx, h1, List.append_nil, denL_len, hln], Nat.le_refl _, Nat.le_trans (Nat.le_mul_of_pos_right n hb1) (Nat.le_trans hc4 (by simp [maxLen]))⟩⟩
        split at h
        · rename_i hc
          obtain ⟨hc1, hc2, hc3, hc4, hc5⟩ := hc
          injection h with h1 h2 h3
          subst h1; subst h2; subst h3
          have hall : ∀ v ∈ vs, v.cells.length = sz ∧ (v.isA = true ∨ (v.den ρ α).oneCell' = true) := fun v hv => by
            have := List.all_eq_true.1 hc5 v hv
            simp only [Bool.and_eq_true, Bool.or_eq_true, beq_iff_eq] at this
            exact ⟨this.1, this.2.imp id fun h => one_ok hI.good hsh α h⟩
          have hpv : (parts.map fun (i, x) => (i, a.eval x)).toList = ((denL ρ α vs).zipIdx 0).map fun p => (p.2, p.1) := by
            have h7 : (parts.map fun (i, x) => (i, a.eval x)).toList = (parts.toList.map (·.1)).zip (denL ρ α vs) := by
              rw [← he]
              simp only [Op.operands, Array.toList_map, List.map_map]
              rw [List.zip_map']
              exact List.map_congr_left fun x _ => rfl
            rw [h7, hc1, ← hc2, ← denL_len ρ α vs]
            generalize denL ρ α vs = l
            rw [List.range_eq_range', List.zipIdx_eq_zip_range', List.map_zip_eq_zipWith, List.zip_eq_zipWith, List.zipWith_comm]
            rfl
          refine wp_buildS hop (slOf_eq hsl) hsz hz (denL ρ α vs) hpv (by rw [denL_len, hc2]) (fun u hu => ?_) hc4 hc3 hI.st fun k W' hS _ _ => fin_new hI (hnm.resolve_left nofun) rfl hw hK (b := mkB (vs.flatMap V.cells) e) (k := k) ?_ fun α' hα => by simp [V.den, hα]
          · rw [denL_map] at hu
            obtain ⟨v, hv, rfl⟩ := List.mem_map.1 hu
            rw [cells_den (hall v hv).2]
            simp [denL_len, (hall v hv).1]
          rw [← flat_den (fun v hv => (hall v hv).2)]
          exact hS
        cases h
      cases h
    cases h
  · -- call
    rename_i c
    have hargs : ∀ b, c.callee = .builtin b → c.args.map a.eval = (denL ρ α vs).toArray := fun b hb => by
      rw [← he]
      exact Array.ext' (by simp [Op.operands, Call.operands, hb])
    split at h
    · split at h
      · split at h
        · split at h
          · exact (planAx_no h).elim
          exact (planAp_no h).elim
        cases h
      cases h
    · split at h <;> cases h
    · rename_i x hcal
      have ha := hargs _ hcal
      split at h
      · rename_i str hstr
        split at h
        · rename_i n oo l cc
          injection h with h1 h2 h3
          subst h1; subst h2; subst h3
          have ha' : c.args.map a.eval = #[.slice (some ⟨(α n).b, oo, none⟩) l cc] := by rw [ha]; simp [denL, V.den]
          exact wp_val (run_len hop hcal hstr ha' rfl) (fin_pure hI hw hK)
        obtain ⟨c', u, rfl, hu, h1c, rfl, rfl, rfl⟩ := sc1_ef h
        exact wp_val (run_len hop hcal hstr (by rw [ha]; simp [denL, V.den]) hu) (fin_pure hI hw hK)
      cases h
    · rename_i x hcal
      have ha := hargs _ hcal
      split at h
      · rename_i hstr
        split at h
        · rename_i n oo l cc
          injection h with h1 h2 h3
          subst h1; subst h2; subst h3
          have ha' : c.args.map a.eval = #[.slice (some ⟨(α n).b, oo, none⟩) l cc] := by rw [ha]; simp [denL, V.den]
          exact wp_val (run_cap hop hcal hstr ha' rfl) (fin_pure hI hw hK)
        obtain ⟨c', u, rfl, hu, h1c, rfl, rfl, rfl⟩ := sc1_ef h
        exact wp_val (run_cap hop hcal hstr (by rw [ha]; simp [denL, V.den]) hu) (fin_pure hI hw hK)
      cases h
    · rename_i x y hcal
      have ha := hargs _ hcal
      obtain ⟨c', d', u, rfl, rfl, hu, h1c, rfl, rfl, rfl⟩ := sc2_ef h
      exact wp_val (run_min hop hcal (by rw [ha]; simp [denL, V.den]) hu) (fin_pure hI hw hK)
    · rename_i x y hcal
      have ha := hargs _ hcal
      obtain ⟨c', d', u, rfl, rfl, hu, h1c, rfl, rfl, rfl⟩ := sc2_ef h
      exact wp_val (run_max hop hcal (by rw [ha]; simp [denL, V.den]) hu) (fin_pure hI hw hK)
    · split at h
      · exact (planCl_no h).elim
      exact (planCw_no h).elim
    cases h
  · -- makeSlice
    split at h
    · rename_i e hsl
      split at h
      · rename_i sz z by' hsz hz hb
        split at h
        · rename_i L' M' hkn
          obtain ⟨_, _, rfl, rfl⟩ := mkKn_eq hkn
          split at h
          · rename_i hc
            obtain ⟨hc1, hcL, hc3, hc4⟩ := hc
            subst hcL
            injection h with h1 h2 h3
            subst h1; subst h2; subst h3
            simp [Op.operands, denL, V.den] at he
            refine wp_makeS hop he.1 he.2 (slOf_eq hsl) hsz hz hb hc1 (Int.le_refl _) hc4 (by omega) hI.st fun k W' hS _ _ => ?_
            have hden : ∀ (l : List Value), denL ρ α (l.map V.k) = l := fun l => by rw [denL_map, List.map_map]; exact (List.map_congr_left fun x _ => by simp [V.den]).trans (List.map_id l)
            exact fin_new hI (hnm.resolve_left nofun) rfl hw hK (b := mkB ((madeCells z.cells (L'.toNat * sz)).toList.map .k) e) (k := k) (by show St w0 (⟨k, (denL ρ α ((madeCells z.cells (L'.toNat * sz)).toList.map V.k)).toArray, e⟩ :: _) _ _ _; rw [hden]; exact hS) fun α' h1 => by simp only [V.den, h1]
          cases h
        split at h <;> cases h
      cases h
    cases h
  cases h
theorem shape_ef0 {sh : List Sh} {op : Op} {vs : List V} {bs bs' : List (Nat × Option Blk)} {v : V} {new : Option Blk} {wr : Option (Nat × Blk)} (hs : shapeOp op = true) (h : planV0 C sh nm op vs bs = .ef v new wr) : planV0 C sh nm op vs bs' = .ef v new wr := by
  have hep : ∀ s i sz o', planEp bs s i sz o' ≠ .ef v new wr := fun s i sz o' => by
    unfold planEp
    split
    · split
      · split <;> nofun
      nofun
    nofun
  unfold planV0 at h ⊢
  split at h <;> first
    | (exfalso; revert hs; simp [shapeOp]; done)
    | skip
  all_goals first
    | exact h
    | (split at h
       · exact absurd h (hep _ _ _ _)
       cases h)
    | (split at h
       · split at h
         · exact absurd h (hep _ _ _ _)
         cases h
       cases h)
    | skip
  rename_i c
  obtain ⟨cal, ar, at'⟩ := c
  cases cal with
  | value f => simp [shapeOp] at hs
  | invoke _ _ => simp [shapeOp] at hs
  | builtin b =>
    cases b <;> simp [shapeOp] at hs
    split at h
    all_goals first
      | (rename_i q; cases q; done)
      | skip
    all_goals first
      | exact h
      | (split at h <;> cases h)
theorem shapeN {sh : List Sh} {op : Op} {vs : List V} {bs bs' : List (Nat × Option Blk)} (hs : shapeOp op = true) : planN C sh nm op vs bs = planN C sh nm op vs bs' := by
  unfold planN
  split <;> first
    | rfl
    | (exfalso; revert hs; simp [shapeOp]; done)
    | (simp only [planEp]; done)
    | skip
  · rename_i c _ _ _ _ _
    obtain ⟨cal, ar, at'⟩ := c
    cases cal with
    | value f => simp [shapeOp] at hs
    | invoke _ _ => simp [shapeOp] at hs
    | builtin b => cases b <;> simp [shapeOp] at hs <;> rfl
  · rename_i c _ _ _
    obtain ⟨cal, ar, at'⟩ := c
    cases cal with
    | value f => simp [shapeOp] at hs
    | invoke _ _ => simp [shapeOp] at hs
    | builtin b => cases b <;> simp [shapeOp] at hs <;> rfl
  · rename_i c _ _
    obtain ⟨cal, ar, at'⟩ := c
    cases cal with
    | value f => simp [shapeOp] at hs
    | invoke _ _ => simp [shapeOp] at hs
    | builtin b => cases b <;> simp [shapeOp] at hs <;> rfl
  rename_i c _ _
  obtain ⟨cal, ar, at'⟩ := c
  cases cal with
  | value f => simp [shapeOp] at hs
  | invoke _ _ => simp [shapeOp] at hs
  | builtin b => cases b <;> simp [shapeOp] at hs <;> rfl
theorem shape_ef {sh : List Sh} {op : Op} {vs : List V} {bs bs' : List (Nat × Option Blk)} {v : V} {new : Option Blk} {wr : Option (Nat × Blk)} (hs : shapeOp op = true) (h : planV C sh nm op vs bs = .ef v new wr) : planV C sh nm op vs bs' = .ef v new wr := by
  rcases planV_eq h with ⟨h1, h2⟩ | ⟨h1, h2⟩
  · rw [shapeN hs (bs' := bs')] at h1
    unfold planV
    rw [h1]
  rw [shapeN hs (bs' := bs')] at h1
  unfold planV
  rw [h1]
  exact shape_ef0 hs h2
theorem planCp_no {bs : List (Nat × Option Blk)} {m n : Nat} {g : FuncId} {ts : List TypeId} {args : List V} {v : V} {new : Option Blk} {wr : Option (Nat × Blk)} (h : planCp C bs m g n ts args = .ef v new wr) : False := by
  unfold planCp at h
  split at h
  · split at h <;> cases h
  cases h
theorem planRc_no {bs : List (Nat × Option Blk)} {nm m : Nat} {g : FuncId} {ts : List TypeId} {args : List V} {v : V} {new : Option Blk} {wr : Option (Nat × Blk)} (h : planRc C bs nm m g ts args = .ef v new wr) : False := by
  unfold planRc at h
  split at h
  · split at h
    · split at h
      · split at h <;> cases h
      cases h
    cases h
  · split at h
    · split at h
      · split at h
        · split at h <;> cases h
        cases h
      cases h
    cases h
  cases h
theorem map2' {args : Array Operand} {f : Operand → Value} {x y : Value} (h : args.map f = #[x, y]) : ∃ p q, args = #[p, q] ∧ f p = x ∧ f q = y := by
  have h1 : args.size = 2 := by have := congrArg Array.size h; simpa using this
  refine ⟨args[0], args[1], ?_, ?_, ?_⟩
  · apply Array.ext
    · simp [h1]
    intro i hi hi2
    have : i = 0 ∨ i = 1 := by omega
    rcases this with rfl | rfl <;> rfl
  · have := congrArg (fun a => a[0]?) h; simpa [h1] using this
  · have := congrArg (fun a => a[1]?) h; simpa [h1] using this
theorem wp_copy_to {P : Program} {hs hs' : List Ch} {os : List Ow} {t t' e : TypeId} {xo yo : Operand} {ad : Addr} {g o1 l1 c1 l2 c2 : Nat} {cur : Array Value} {tt : TypeId} {cs : List Value} (hop : o.op = .call { callee := .builtin .copy, args := #[xo, yo], argTypes := #[t, t'] }) (hx : a.eval xo = .slice (some ⟨g, o1, none⟩) l1 c1) (hy : a.eval yo = .slice (some ad) l2 c2)
    (hu : P.underlying t = some (.slice e)) (hs1 : szOf P e = some 1) (hS : St w0 hs os ps W) (hup : Upd g cur tt (cur.toList.take o1 ++ cs ++ cur.toList.drop (o1 + cs.length)).toArray hs hs') (hn : cs.length = Nat.min l2 l1) (hsrc : ∀ j v, cs[j]? = some v → W.cell? (ad.add j) = some v) (hfit : o1 + cs.length ≤ cur.size) (h1 : ∀ v ∈ cs, v.oneCell' = true)
    (h : ∀ W', St w0 hs' os ps W' → K (a.put o.dst (.int .i64 ((cs.length : Nat) : Int))) W') : o.wp P a W K Q := by
  have hrun := run_copy_row (P := P) W t t' o.type e g o1 l1 c1 ad l2 c2 cur tt cs hu hs1 (hS.at_ hup.mem) hn hsrc hfit (fun v hv => by simpa [Value.oneCell'] using h1 v hv)
  unfold Oper.wp execOp
  simp only [hop, resolve, invoke, builtin, Sem.run_bind, Sem.run_pure, Result.andThen_ok, List.map_toArray, List.map_cons, List.map_nil, hx, hy, hrun, goInt]
  exact h _ (hS.put hup)
theorem chs_same {ρ : List Value} {α α' : Nat → AV} : ∀ {hp : List (Option Blk)} {k : Nat}, (∀ (n : Nat) (b : Blk), hp[n]? = some (some b) → b.ch ρ α' (k + n) = b.ch ρ α (k + n)) → chs ρ α' k hp = chs ρ α k hp
  | [], _, _ => rfl
  | none :: l, k, h => by
    unfold chs
    exact chs_same fun n b hb => by
      have := h (n + 1) b (by simpa using hb)
      rwa [show k + 1 + n = k + (n + 1) by omega]
  | some b :: l, k, h => by
    have h0 := h 0 b rfl
    rw [Nat.add_zero] at h0
    have hl : chs ρ α' (k + 1) l = chs ρ α (k + 1) l := chs_same fun n b hb => by
      have := h (n + 1) b (by simpa using hb)
      rwa [show k + 1 + n = k + (n + 1) by omega]
    unfold chs
    rw [hl, h0]
theorem fin_move {v : V} {b : Blk} {n : Nat} {u : Value} (hI : InvA w0 ps T ρ s a W α) (hnm : freeIn s nm) (hw : effWf s nm v (some b) (some (n, tomb)) = true) (hK : ∀ a' W', Inv w0 ps T ρ (s.eff nm o.dst v (some b) (some (n, tomb))) a' W' → K a' W')
    (A : AV) {W' : World} (hS : ∀ α', α' nm = A → (∀ n, lv s.ln n = true → α' n = α n) → denL ρ α' b.c = denL ρ α b.c → (∀ (m : Nat) (c : Blk), s.hp[m]? = some (some c) → c.ch ρ α' m = c.ch ρ α m) → chs ρ α' 0 s.hp = chs ρ α 0 s.hp → St w0 (chs ρ α' 0 ((s.hp.set nm (some b)).set n (some tomb))) (osA a s T) (exs w0 ρ α 0 s.hp ++ ps) W' ∧ b.rowOk ρ α' nm) (hbo : b.own = true) (hu : ∀ α', α' nm = A → u = v.den ρ α') : K (a.put o.dst u) W' := by
  simp only [effWf, effH, Bool.and_eq_true, hI.good.len] at hw
  obtain ⟨α', h1, h2, h3⟩ := hI.move (n := n) hnm hw.2.2 hw.1.2 A hS hbo
  exact hK _ _ ⟨α', h3.put_any o.dst hw.1.1 (hu α' h1)⟩
theorem planAs_no {bs : List (Nat × Option Blk)} {m n : Nat} {t t' : TypeId} {y : V} {v : V} {new : Option Blk} {wr : Option (Nat × Blk)} (h : planAs C bs nm m t t' n y = .ef v new wr) : False := by
  unfold planAs at h
  split at h
  · split at h
    · split at h
      · split at h <;> cases h
      cases h
    cases h
  cases h
theorem planMl_no {P : Program} {bs : List (Nat × Option Blk)} {t : TypeId} {ok : Bool} {n : Nat} {x v : V} {new : Option Blk} {wr : Option (Nat × Blk)} (h : planMl P bs t ok n x = .ef v new wr) : False := by
  unfold planMl at h
  split at h
  · split at h <;> cases h
  cases h
theorem planMs_no {P : Program} {bs : List (Nat × Option Blk)} {m n : Nat} {t : TypeId} {x y v : V} {new : Option Blk} {wr : Option (Nat × Blk)} (h : planMs P bs m t n x y = .ef v new wr) : False := by
  unfold planMs at h
  split at h
  · split at h <;> cases h
  cases h
theorem planBs_no {bs : List (Nat × Option Blk)} {x : V} {v : V} {new : Option Blk} {wr : Option (Nat × Blk)} (h : planBs bs x = .ef v new wr) : False := by
  unfold planBs at h
  split at h
  · split at h
    · split at h <;> cases h
    cases h
  · split at h
    · split at h <;> cases h
    cases h
  · cases h
  cases h
theorem run_mkIface {P : Program} {t : TypeId} {x : Operand} {c : Value} (hop : o.op = .makeInterface t x) (hx : a.eval x = c) (hn : notIface P t = true) : (execOp a.eval o).run P W = .ok (.value (.iface t c)) W := by
  unfold notIface at hn
  split at hn
  · cases hn
  · rename_i d hd hu
    cases hud : d <;> subst hud <;> first
      | exact (hd _ rfl).elim
      | exact (hd _ hu).elim
      | simp [execOp, hop, hx, Instr.makeInterface, run_underlying hu]
  cases hn
theorem run_tassert {P : Program} {x : Operand} {xt t : TypeId} {ok : Bool} {c : Value} {d : TypeDesc} (hop : o.op = .typeAssert x xt t ok) (hx : a.eval x = .iface t c) (hu : P.underlying t = some d) (hd : ∀ ms, d ≠ .interface ms) : (execOp a.eval o).run P W = .ok (.value (if ok = true then .tuple #[c, .bool true] else c)) W := by
  cases hud : d <;> first
    | (subst hud; exact absurd rfl (hd _))
    | (subst hud; cases ok <;> simp [execOp, hop, hx, Instr.typeAssert, run_underlying hu])
theorem run_tassert_no {P : Program} {x : Operand} {xt ta t : TypeId} {c z : Value} {d : TypeDesc} (hop : o.op = .typeAssert x xt ta true) (hx : a.eval x = .iface t c) (hu : P.underlying ta = some d) (hd : ∀ ms, d ≠ .interface ms) (hne : ¬ t = ta) (hz : zeroOf P ta = some z) : (execOp a.eval o).run P W = .ok (.value (.tuple #[z, .bool false])) W := by
  have hzr : (zeroValue ta).run P W = .ok z W := by
    cases hi : P.info? ta with
    | none => simp [zeroOf, hi] at hz
    | some i => simp [zeroOf, hi] at hz; simp [zeroValue, typeInfo, hi, hz]
  cases hud : d <;> first
    | (subst hud; exact absurd rfl (hd _))
    | (subst hud; simp [execOp, hop, hx, Instr.typeAssert, run_underlying hu, hne, hzr])
theorem efN_ok {v : V} {new : Option Blk} {wr : Option (Nat × Blk)} {vs : List V} {sh : List Sh} (hsh : sh <+: s.sh) (hvs : o.op.operands.toList.mapM s.ev = some vs) {vv0 : List V} (h : planN C sh nm o.op vs (blks s.hp vv0) = .ef v new wr) (hI : InvA w0 ps T ρ s a W α) (hnm : new = none ∨ freeIn s nm)
    (hw : effWf s nm v new wr = true) (hK : ∀ a' W', Inv w0 ps T ρ (s.eff nm o.dst v new wr) a' W' → K a' W') : o.wp C.P a W K Q := by
  have he := mapM_den hI.good hI.fm hvs
  generalize hop : o.op = op at *
  unfold planN at h
  split at h
  · split at h
    · unfold planLd at h
      dsimp only at h
      split at h <;> cases h
    cases h
  · split at h
    · split at h
      · split at h <;> cases h
      cases h
    cases h
  · split at h
    · split at h <;> cases h
    cases h
  · split at h
    · split at h
      · exact (planEp_no h).elim
      cases h
    cases h
  · split at h
    · split at h
      · split at h
        · exact (planEp_no h).elim
        cases h
      cases h
    cases h
  · split at h
    · split at h
      · split at h
        · exact (planEp_no h).elim
        cases h
      cases h
    cases h
  · split at h
    · split at h
      · split at h
        · split at h <;> cases h
        cases h
      cases h
    cases h
  · -- makeSlice with room
    rename_i L' _ M'
    split at h
    · rename_i e hsl
      split at h
      · rename_i sz z by' hsz hz hb
        split at h
        · rename_i hc
          obtain ⟨hc1, hcL, hc3, hc4⟩ := hc
          injection h with h1 h2 h3
          subst h1; subst h2; subst h3
          simp [Op.operands, denL, V.den] at he
          refine wp_makeS hop he.1 he.2 (slOf_eq hsl) hsz hz hb hc1 (by omega) hc4 (by omega) hI.st fun k W' hS _ _ => ?_
          have hden : ∀ (l : List Value), denL ρ α (l.map V.k) = l := fun l => by rw [denL_map, List.map_map]; exact (List.map_congr_left fun x _ => by simp [V.den]).trans (List.map_id l)
          exact fin_new hI (hnm.resolve_left nofun) rfl hw hK (b := mkB ((madeCells z.cells (M'.toNat * sz)).toList.map .k) e) (k := k) (by show St w0 (⟨k, (denL ρ α ((madeCells z.cells (M'.toNat * sz)).toList.map V.k)).toArray, e⟩ :: _) _ _ _; rw [hden]; exact hS) fun α' h1 => by simp only [V.den, h1]
        cases h
      cases h
    cases h
  · split at h
    · split at h <;> cases h
    split at h
    · exact (planBs_no h).elim
    cases h
  · -- copy
    rename_i c n oo l cc y
    split at h
    · rename_i t t' hcal hts
      split at h
      · rename_i e B hsl hB
        split at h
        · rename_i hsz
          split at h
          · rename_i hfit
            split at h
            · rename_i n' o' l' c'
              split at h
              · rename_i B' hB'
                split at h
                · rename_i hc
                  obtain ⟨hc1, hc2, hc3⟩ := hc
                  injection h with h1 h2 h3
                  subst h1; subst h2; subst h3
                  obtain ⟨hbn, hbk⟩ := blkOf_eq hB
                  obtain ⟨hbn', hbk'⟩ := blkOf_eq hB'
                  obtain ⟨cal, ar, at'⟩ := c
                  simp only at hcal hts
                  subst hcal
                  have hat : at' = #[t, t'] := by rw [← Array.toArray_toList (xs := at'), hts]
                  subst hat
                  simp only [Op.operands, Call.operands, denL, V.den] at he
                  have hml : ((B'.c.drop o').take (Nat.min l' l)).length = Nat.min l' l := by
                    simp only [List.length_take, List.length_drop]
                    have h9 : Nat.min l' l ≤ l' := Nat.min_le_left _ _
                    omega
                  have hle2 : Nat.min l' l ≤ l := Nat.min_le_right _ _
                  have hup : Upd (α n).b (denL ρ α B.c).toArray B.t ((denL ρ α B.c).toArray.toList.take oo ++ denL ρ α ((B'.c.drop o').take (Nat.min l' l)) ++ (denL ρ α B.c).toArray.toList.drop (oo + (denL ρ α ((B'.c.drop o').take (Nat.min l' l))).length)).toArray (chs ρ α 0 s.hp) (chs ρ α 0 (s.hp.set n (some ⟨spliceV B.c oo ((B'.c.drop o').take (Nat.min l' l)), B.t, B.k⟩))) :=
                    chs_set (k := 0) hbn (by simp only [Blk.ch, hbk, Nat.zero_add]) (by simp only [Blk.ch, hbk, Nat.zero_add]; congr 2; simp [spliceV, denL_app, denL_map, List.map_take, List.map_drop])
                  have hpq : ∃ p q', ar = #[p, q'] ∧ a.eval p = .slice (some ⟨(α n).b, oo, none⟩) l cc ∧ a.eval q' = .slice (some ⟨(α n').b, o', none⟩) l' c' := map2' (Array.ext' (by simpa using he))
                  obtain ⟨p, q', rfl, hp, hq⟩ := hpq
                  have hdl : (denL ρ α ((B'.c.drop o').take (Nat.min l' l))).length = Nat.min l' l := by rw [denL_len, hml]
                  refine wp_copy_to hop hp hq (slOf_eq hsl) hsz hI.st hup hdl (fun j v hv => ?_) (by rw [hdl]; simp [denL_len]; omega) (fun v hv => ?_) fun W' hS => ?_
                  · rw [add_zero_addr]
                    refine hI.st.cell (hI.blk hbn' hbk') (j := o' + j) ?_
                    rw [denL_drop, List.getElem?_take] at hv
                    split at hv
                    · rw [List.getElem?_drop] at hv
                      simpa using hv
                    cases hv
                  · have := ones_ok hI.good hsh α hc2
                    rw [List.all_toArray, List.all_eq_true] at this
                    exact this v hv
                  rw [hdl]
                  refine fin_wr hI hbn (by simp [Blk.rowOk, hbk]) (by simp [Blk.own, hbk]) hw hK hS rfl
                cases h
              cases h
            · split at h
              · split at h <;> cases h
              cases h
            · cases h
            cases h
          cases h
        cases h
      cases h
    cases h
  · -- a row cut to nothing
    rename_i t x hi n k
    simp [Op.operands, denL] at he
    obtain ⟨he1', he2'⟩ := he
    split at h
    · rename_i c e sz sz' hrow hsz
      split at h
      · rename_i hs
        subst hs
        injection h with h1 h2 h3
        subst h1; subst h2; subst h3
        have hnm' : freeIn s nm := hnm.resolve_left nofun
        have hn := rowOfN_eq hrow
        have hne : n ≠ nm := lv_ne (lv_of hn) hnm'.1
        obtain ⟨h0, hinfo⟩ := row_info hI hn
        obtain ⟨et, hb1, hb2⟩ := Option.bind_eq_some_iff.1 hsz
        have hset : (s.hp.set nm (some ⟨[], e, .row sz'⟩)).set n (some tomb) = (s.hp.set n (some tomb)).set nm (some ⟨[], e, .row sz'⟩) := List.set_comm _ _ (fun h => hne h.symm)
        have hnm2 : (s.hp.set n (some tomb))[nm]? = some none := by rw [List.getElem?_set_ne hne]; exact hnm'.1
        obtain ⟨A, len, cap, hh⟩ : ∃ A len cap, (α n).h = .slice A len cap := by
          rcases hinfo with ⟨_, h⟩ | ⟨len, cap, h, _⟩
          · exact ⟨_, _, _, h⟩
          exact ⟨_, _, _, h⟩
        have hrun := run_slSl (P := C.P) (W := W) (l1 := 0) (h1 := 0) (m1 := cap) hop (he1'.trans hh) (slOf_eq hb1) hb2 rfl (by simp [optsO, boundsV, bndV, he2', V.den])
        have hval : (Value.slice (if cap = 0 then A else A.map (·.add (0 * sz'))) (0 - 0) (cap - 0)) = .slice A 0 cap := by
          have : A.map (·.add (0 * sz')) = A := by
            cases A with
            | none => rfl
            | some ad => simp [Addr.add]
          rw [this]; simp
        refine wp_val hrun ?_
        rw [hval]
        refine fin_move hI hnm' hw hK ⟨(α n).b, .slice A 0 cap, (denL ρ α c).flatMap cellsV ++ (α n).tl⟩ (fun α' h1 h2 h3 h5 h4 => ?_) rfl (fun α' h1 => by simp only [V.den, h1])
        have hxs : (⟨[], e, .row sz'⟩ : Blk).xs ρ α' = [] := by simp [Blk.xs, denL]
        rcases hinfo with ⟨hx0, hhn⟩ | ⟨len', cap', hh', hl1, hl2, hlc, hcm, hmem⟩
        · rw [hhn] at hh
          cases hh
          refine ⟨?_, h0, .inl ⟨hxs, by rw [h1]⟩⟩
          have hsame : chs ρ α' 0 (s.hp.set n (some tomb)) = chs ρ α 0 s.hp := by
            obtain ⟨l1, l2, q1, q2⟩ := chs_split (ρ := ρ) (α := α') (k := 0) hn
            rw [← h4, q1, q2]
            have : (⟨c, e, .row sz'⟩ : Blk).ch ρ α' (0 + n) = none := by
              have e5 := h5 n _ hn
              rw [Nat.zero_add, e5]
              simp only [Blk.ch, hhn]
            simp only [Option.bind_some, this]
            simp [tomb, Blk.ch]
          rw [hset, chs_new0 (k := 0) hnm2 (by simp only [Blk.ch, Nat.zero_add, h1]), hsame]
          exact hI.st
        rw [hh'] at hh
        cases hh
        obtain ⟨l1, l2, q1, q2⟩ := chs_split (ρ := ρ) (α := α) (k := 0) hn
        have hchn : (⟨c, e, .row sz'⟩ : Blk).ch ρ α (0 + n) = some ⟨(α n).b, ((denL ρ α c).flatMap cellsV ++ (α n).tl).toArray, e⟩ := by
          simp only [Blk.ch, Nat.zero_add, hh']; rfl
        have hq1 : chs ρ α 0 s.hp = l1 ++ (⟨(α n).b, ((denL ρ α c).flatMap cellsV ++ (α n).tl).toArray, e⟩ :: l2) := by
          rw [q1]
          simp only [Option.bind_some, hchn, Option.toList_some, List.cons_append, List.nil_append]
        have hrest : chs ρ α' 0 (s.hp.set n (some tomb)) = l1 ++ l2 := by
          have e1 : chs ρ α 0 (s.hp.set n (some tomb)) = l1 ++ l2 := by
            rw [q2]; simp [tomb, Blk.ch]
          rw [← e1]
          refine chs_same fun k b hb => ?_
          rcases set_cases hb with ⟨rfl, rfl⟩ | ⟨_, hb⟩
          · simp [tomb, Blk.ch]
          simpa using h5 k b hb
        refine ⟨?_, h0, .inr ⟨0, cap, by rw [h1], by rw [hxs]; simp, by rw [hxs, h1]; simpa using hl2, Nat.zero_le _, hcm⟩⟩
        rw [hset]
        refine St.perm ?_ (chs_new (k := 0) hnm2 (e := ⟨(α n).b, ((denL ρ α c).flatMap cellsV ++ (α n).tl).toArray, e⟩) (by simp only [Blk.ch, Nat.zero_add, h1, hxs, List.nil_append]))
        rw [hrest]
        have := hI.st
        rw [hq1] at this
        exact this.perm List.perm_middle
      cases h
    cases h
  · -- no slice, cut to nothing
    rename_i t x hi k
    simp [Op.operands, denL] at he
    obtain ⟨he1', he2'⟩ := he
    split at h
    · rename_i sz hsz
      injection h with h1 h2 h3
      subst h1; subst h2; subst h3
      obtain ⟨et, hb1, hb2⟩ := Option.bind_eq_some_iff.1 hsz
      have hrun := run_slSl (P := C.P) (W := W) (A := none) (len := 0) (cap := 0) (l1 := 0) (h1 := 0) (m1 := 0) hop (he1'.trans rfl) (slOf_eq hb1) hb2 rfl (by simp [optsO, boundsV, bndV, he2', V.den])
      exact wp_val hrun (fin_pure hI hw hK)
    cases h
  · -- zeros
    split at h
    · split at h
      · split at h
        · split at h <;> cases h
        cases h
      cases h
    cases h
  · split at h
    · exact (planCp_no h).elim
    cases h
  · cases h
  · -- a string's bytes appended
    split at h
    · exact (planAs_no h).elim
    cases h
  · -- a value becomes one of an interface
    rename_i t x u
    simp [Op.operands, denL] at he
    split at h
    · rename_i hn
      cases h
      exact wp_val (run_mkIface hop he hn) (fin_pure hI hw hK)
    cases h
  · -- a value of an interface asked for its type
    rename_i x xt ta ok t u
    simp [Op.operands, denL, V.den] at he
    unfold planTa at h
    split at h
    · cases h
    · rename_i d z hni hu hz
      split at h
      · rename_i ht
        subst ht
        cases h
        cases ok
        · exact wp_val (run_tassert hop he hu (fun ms e => hni ms e)) (fin_pure hI hw hK)
        exact wp_val (run_tassert hop he hu (fun ms e => hni ms e)) (fin_pure hI hw hK)
      split at h
      · rename_i hne hc
        obtain ⟨rfl, h1⟩ := hc
        cases h
        exact wp_val (run_tassert_no hop he hu (fun ms e => hni ms e) hne hz) (fin_pure hI hw hK)
      cases h
    cases h
  · unfold planTx at h
    split at h
    · cases h
    · split at h <;> cases h
    cases h
  · -- a new map
    rename_i t
    split at h
    · rename_i kk sz b z hm
      injection h with h1 h2 h3
      subst h1; subst h2; subst h3
      have hrun : (execOp a.eval o).run C.P W = .ok (.value (.map (some W.heap.size))) (W.alloc (.map #[] 0)) := by
        simp only [execOp, hop]
        rfl
      unfold Oper.wp
      rw [hrun]
      have hS := hI.st.newO #[] (.map sz b)
      rw [show Ch.obj ⟨W.heap.size, #[], .map sz b⟩ = Obj.map #[] 0 by simp [Ch.obj, mapObj, mapEs]] at hS
      refine fin_row (b := ⟨[.a []], 0, .mp sz b⟩) hI (hnm.resolve_left nofun) rfl hw hK ⟨W.heap.size, undef, []⟩ (fun α' h1 h2 h3 h4 => ⟨St.perm ?_ (chs_new (k := 0) (hnm.resolve_left nofun).1 (e := ⟨W.heap.size, #[], .map sz b⟩) ?_), trivial⟩) (fun α' h1 => by simp only [V.den, h1])
      · rw [h4]; exact hS
      simp [Blk.ch, h1, Blk.xs, denL, V.den, cellsV]
    cases h
  · exact (planMl_no h).elim
  · exact (planMs_no h).elim
  · split at h
    · exact (planRc_no h).elim
    cases h
  cases h
theorem ef_ok0 {v : V} {new : Option Blk} {wr : Option (Nat × Blk)} {vs : List V} {sh : List Sh} (hsh : sh <+: s.sh) (hvs : o.op.operands.toList.mapM s.ev = some vs) {vv0 : List V} (h : planV C sh nm o.op vs (blks s.hp vv0) = .ef v new wr) (hI : InvA w0 ps T ρ s a W α) (hnm : new = none ∨ freeIn s nm)
    (hw : effWf s nm v new wr = true) (hK : ∀ a' W', Inv w0 ps T ρ (s.eff nm o.dst v new wr) a' W' → K a' W') : o.wp C.P a W K Q := by
  rcases planV_eq h with ⟨h1, _⟩ | ⟨_, h2⟩
  · exact efN_ok hsh hvs h1 hI hnm hw hK
  exact ef_okV hsh hvs h2 hI hnm hw hK
theorem ef_ok {v : V} {new : Option Blk} {wr : Option (Nat × Blk)} {vs : List V} {sh : List Sh} (hsh : sh <+: s.sh) (hvs : o.op.operands.toList.mapM s.ev = some vs) (h : planV C sh nm o.op vs (s.see o.op vs) = .ef v new wr) (hI : InvA w0 ps T ρ s a W α) (hnm : new = none ∨ freeIn s nm)
    (hw : effWf s nm v new wr = true) (hK : ∀ a' W', Inv w0 ps T ρ (s.eff nm o.dst v new wr) a' W' → K a' W') : o.wp C.P a W K Q := by
  unfold S.see at h
  split at h
  · rename_i hs
    exact ef_ok0 (vv0 := vs) hsh hvs (shape_ef hs h) hI hnm hw hK
  exact ef_ok0 hsh hvs h hI hnm hw hK
end
end SX
namespace SX
def Kf (C : Cx) (W : World) : Prop := ∀ s sz cells, C.K s sz cells → Arg.rd W ⟨s, sz, cells⟩
def Af (C : Cx) (W : World) : Prop := ∀ s sz cells, C.A s sz cells → Arg.rd W ⟨s, sz, cells⟩
def Bf (C : Cx) (B : Nat) : Prop := ∀ s sz cells, C.A s sz cells → FrsB B s
def Ctx (C : Cx) (w0 : Org) (ps : List (World → Prop)) : Prop := Kf C ∈ ps ∧ (∀ W, w0.rt W → Af C W) ∧ ∀ B, w0.rf B → Bf C B
def HdrOk (C : Cx) (f : FuncId) (as' : List Arg) (W W' : World) (hdr : Value) (sz : Nat) (cells : List Value) : Prop :=
  (∃ A len cap, hdr = .slice A len cap ∧ len ≤ cap) ∧ Arg.rd W' ⟨hdr, sz, cells⟩ ∧
  (FrsB W.heap.size hdr ∨ ∃ j ∈ C.ali f, ∃ x, as'[j]? = some x ∧ (∀ W2, x.rd W2 → Arg.rd W2 ⟨hdr, sz, cells⟩) ∧ ∀ B, FrsB B x.v → FrsB B hdr)
def Cx.sh (C : Cx) (f : FuncId) : Sh := (C.shp f).getD .one
def HdrW (C : Cx) (bs : List Nat) (W W' : World) (hdr : Value) (sz : Nat) (cells : List Value) : Prop :=
  (∃ A len cap, hdr = .slice A len cap ∧ len ≤ cap) ∧ Arg.rd W' ⟨hdr, sz, cells⟩ ∧
  (FrsB W.heap.size hdr ∨ ∃ s sz' cells', C.K s sz' cells' ∧ C.A s sz' cells' ∧ (∀ W2, Arg.rd W2 ⟨s, sz', cells'⟩ → Arg.rd W2 ⟨hdr, sz, cells⟩) ∧ ∀ B, FrsB B s → FrsB B hdr)
def Cx.OkW (C : Cx) : Prop := ∀ f as' caps v W (bs : List Nat) (ts : List TypeId) (b : Nat) (j sz : Nat) (t : TypeId), C.cw f = some (j, sz) → C.Wr C.K f as' caps v → (∀ x ∈ as', ∀ W', Same bs W W' → x.rd W') → (∀ s sz cells, C.K s sz cells → ∀ W', Same bs W W' → Arg.rd W' ⟨s, sz, cells⟩) → bs.Nodup → bs.length = caps.length → ts.length = caps.length →
  (∀ (i b : Nat) (c : List Value) (t : TypeId), bs[i]? = some b → caps[i]? = some c → ts[i]? = some t → W.heap[b]? = some (.cells c.toArray t (0, 0))) → bs[j]? = some b → ts[j]? = some t →
  Calls C.P f (as'.map Arg.v ++ bs.map fun b => Value.pointer (some ⟨b, 0, none⟩)).toArray W fun e W' => ∃ hdr, e = .returned hdr ∧ W'.os = W.os ∧ W'.tape = W.tape ∧ W'.output = W.output ∧ Same [b] W W' ∧ W'.heap[b]? = some (.cells #[comp v 1] t (0, 0)) ∧ HdrW C bs W W' hdr sz (cellsV (comp v 0))
def Cx.OkR (C : Cx) : Prop := ∀ K f as' v W, C.R K f as' v → (∀ x ∈ as', x.rd W) → (∀ s sz cells, K s sz cells → Arg.rd W ⟨s, sz, cells⟩) → Calls C.P f (as'.map Arg.v).toArray W fun e W' => Below W.heap.size W W' ∧ ∃ hdr, e = .returned ((C.sh f).fill hdr v) ∧ ∀ p sz, (p, sz) ∈ (C.sh f).sls [] → HdrOk C f as' W W' hdr sz (cellsV (p.foldl comp v))
structure Cx.Ok (C : Cx) : Prop where
  r : C.OkR
  w : C.OkW
theorem Cx.ok_of {C : Cx} (hw : ∀ f, C.cw f = none) (h : C.OkR) : C.Ok := ⟨h, fun f _ _ _ _ _ _ _ _ _ _ e => by rw [hw f] at e; cases e⟩
mutual
theorem fill_id : ∀ (s : Sh) (h v : Value) (p : List Nat), s.sls p = [] → s.fill h v = v
  | .one, h, v, p, _ => by simp [Sh.fill]
  | .any, h, v, p, _ => by simp [Sh.fill]
  | .ag n, h, v, p, _ => by simp [Sh.fill]
  | .sl n, h, v, p, e => by simp [Sh.sls] at e
  | .tp l, h, v, p, e => by
    cases v <;> simp only [Sh.fill]
    rename_i vs
    rw [fillL_id l h vs.toList p 0 (by simpa [Sh.sls] using e)]
  | .agl l, h, v, p, e => by
    cases v <;> simp only [Sh.fill]
    rename_i vs
    rw [fillL_id l h vs.toList p 0 (by simpa [Sh.sls] using e)]
theorem fillL_id : ∀ (l : List Sh) (h : Value) (vs : List Value) (p : List Nat) (k : Nat), Sh.slsL l p k = [] → Sh.fillL h l vs = vs
  | [], h, vs, p, k, _ => by simp [Sh.fillL]
  | s :: l, h, [], p, k, _ => by simp [Sh.fillL]
  | s :: l, h, v :: vs, p, k, e => by
    simp only [Sh.slsL, List.append_eq_nil_iff] at e
    simp only [Sh.fillL]
    rw [fill_id s h v _ e.1, fillL_id l h vs p (k + 1) e.2]
end
theorem plainOk {C : Cx} {f : FuncId} {as' : List Arg} {W W' : World} {e : Ending} {v : Value} (hs : (C.sh f).sls [] = []) (h : e = .returned v ∧ Below W.heap.size W W') : Below W.heap.size W W' ∧ ∃ hdr, e = .returned ((C.sh f).fill hdr v) ∧ ∀ p sz, (p, sz) ∈ (C.sh f).sls [] → HdrOk C f as' W W' hdr sz (cellsV (p.foldl comp v)) :=
  ⟨h.2, undef, by rw [fill_id _ _ _ _ hs]; exact h.1, fun p sz hp => by rw [hs] at hp; cases hp⟩
theorem comp_agg {cs : Array Value} {j : Nat} : comp (.agg cs) j = cs.toList.getD j undef := rfl
theorem range_getD (l : List Value) (u : Value) : (List.range l.length).map (fun j => l.getD j u) = l := by
  apply List.ext_getElem
  · simp
  intro i h1 h2
  simp at h1
  simp [h1]
mutual
theorem exp_den (ρ : List Value) (α : Nat → AV) (i : Nat) : ∀ (s : Sh) (path : List Nat) (v : Value), path.foldl comp (ρ.getD i undef) = v → s.fit v = true → (s.exp i path).den ρ α = v
  | .one, path, v, h, _ => by simp only [Sh.exp, V.den]; exact h
  | .any, path, v, h, _ => by simp only [Sh.exp, V.den]; exact h
  | .ag n, path, v, h, hf => by
    cases v <;> simp [Sh.fit] at hf
    rename_i cs
    obtain ⟨rfl, _⟩ := hf
    simp only [Sh.exp, V.den, denL_map, List.map_map]
    have : (List.range cs.size).map (V.den ρ α ∘ fun j => V.x i (path ++ [j])) = cs.toList := by
      rw [← range_getD cs.toList undef, Array.length_toList]
      refine List.map_congr_left fun j _ => ?_
      simp only [Function.comp, V.den, List.foldl_append, h, List.foldl_cons, List.foldl_nil, comp_agg]
    rw [this]
  | .sl n, path, v, h, _ => by simp only [Sh.exp, V.den]; exact h
  | .agl l, path, v, h, hf => by
    cases v <;> simp [Sh.fit] at hf
    rename_i vs
    simp only [Sh.exp, V.den]
    rw [expL_den ρ α i l path 0 vs.toList (fun j => by
      simp only [List.foldl_append, h, List.foldl_cons, List.foldl_nil, comp, Nat.zero_add]) hf]
  | .tp l, path, v, h, hf => by
    cases v <;> simp [Sh.fit] at hf
    rename_i vs
    simp only [Sh.exp, V.den]
    rw [expL_den ρ α i l path 0 vs.toList (fun j => by
      simp only [List.foldl_append, h, List.foldl_cons, List.foldl_nil, comp, Nat.zero_add]) hf]
theorem expL_den (ρ : List Value) (α : Nat → AV) (i : Nat) : ∀ (l : List Sh) (path : List Nat) (k : Nat) (vs : List Value), (∀ j, (path ++ [k + j]).foldl comp (ρ.getD i undef) = vs.getD j undef) → Sh.fitL l vs = true → denL ρ α (Sh.expL i l path k) = vs
  | [], path, k, [], _, _ => by simp [Sh.expL, denL]
  | [], path, k, _ :: _, _, h => by simp [Sh.fitL] at h
  | _ :: _, path, k, [], _, h => by simp [Sh.fitL] at h
  | s :: l, path, k, v :: vs, h, hf => by
    simp only [Sh.fitL, Bool.and_eq_true] at hf
    simp only [Sh.expL, denL]
    rw [exp_den ρ α i s (path ++ [k]) v (by simpa using h 0) hf.1, expL_den ρ α i l path (k + 1) vs (fun j => by
      have := h (j + 1)
      rw [show k + (j + 1) = k + 1 + j by omega] at this
      simpa using this) hf.2]
end
mutual
theorem expN_den (ρ : List Value) (α : Nat → AV) (nm i : Nat) : ∀ (s : Sh) (path : List Nat) (v : Value), path.foldl comp (ρ.getD i undef) = v → s.fit v = true → (s.expN nm i path).den ρ α = s.fill ((α nm).h) v
  | .one, path, v, h, _ => by simp only [Sh.expN, V.den, Sh.fill]; exact h
  | .any, path, v, h, _ => by simp only [Sh.expN, V.den, Sh.fill]; exact h
  | .ag n, path, v, h, hf => by
    have := exp_den ρ α i (.ag n) path v h hf
    simp only [Sh.exp] at this
    simp only [Sh.expN, Sh.fill]
    exact this
  | .sl n, path, v, h, _ => by simp only [Sh.expN, V.den, Sh.fill]
  | .agl l, path, v, h, hf => by
    cases v <;> simp [Sh.fit] at hf
    rename_i vs
    simp only [Sh.expN, V.den, Sh.fill]
    rw [expNL_den ρ α nm i l path 0 vs.toList (fun j => by
      simp only [List.foldl_append, h, List.foldl_cons, List.foldl_nil, comp, Nat.zero_add]) hf]
  | .tp l, path, v, h, hf => by
    cases v <;> simp [Sh.fit] at hf
    rename_i vs
    simp only [Sh.expN, V.den, Sh.fill]
    rw [expNL_den ρ α nm i l path 0 vs.toList (fun j => by
      simp only [List.foldl_append, h, List.foldl_cons, List.foldl_nil, comp, Nat.zero_add]) hf]
theorem expNL_den (ρ : List Value) (α : Nat → AV) (nm i : Nat) : ∀ (l : List Sh) (path : List Nat) (k : Nat) (vs : List Value), (∀ j, (path ++ [k + j]).foldl comp (ρ.getD i undef) = vs.getD j undef) → Sh.fitL l vs = true → denL ρ α (Sh.expNL nm i l path k) = Sh.fillL ((α nm).h) l vs
  | [], path, k, [], _, _ => by simp [Sh.expNL, denL, Sh.fillL]
  | [], path, k, _ :: _, _, h => by simp [Sh.fitL] at h
  | _ :: _, path, k, [], _, h => by simp [Sh.fitL] at h
  | s :: l, path, k, v :: vs, h, hf => by
    simp only [Sh.fitL, Bool.and_eq_true] at hf
    simp only [Sh.expNL, denL, Sh.fillL]
    rw [expN_den ρ α nm i s (path ++ [k]) v (by simpa using h 0) hf.1, expNL_den ρ α nm i l path (k + 1) vs (fun j => by
      have := h (j + 1)
      rw [show k + (j + 1) = k + 1 + j by omega] at this
      simpa using this) hf.2]
end
def resV (m : Nat) (sh : Sh) (mk : Option V) : V := mk.getD (sh.exp m [])
theorem enters_run {P : Program} {f : FuncId} (h : enters P f = true) (args : Array Value) (W : World) : (callFunc f args).run P W = .ok (.enter f args) W := by
  unfold enters at h
  split at h
  · rename_i fn hf
    simp only [Bool.and_eq_true, Bool.not_eq_true'] at h
    have h1 : ¬ fn.name = "runtime.NumGoroutine" := by simpa using h.1
    obtain ⟨c, hc⟩ := Option.isSome_iff_exists.1 h.2
    simp [callFunc, hf, h1, hc]
  cases h
section
variable {C : Cx} {w0 : Org} {ps : List (World → Prop)} {T : List TF} {ρ : List Value} {s : S} {a : Act} {W : World} {α : Nat → AV} {K : Act → World → Prop} {Q : Exit → Act → World → Prop} {o : Oper} {nm : Nat}
theorem sc1_df {q q' : Opq} {f : Value → Option Value} {x : V} {args : List V} {sh : Sh} {mk : Option V} (h : sc1 q f x = .df q' args sh mk none none) : q' = q ∧ args = [x] ∧ sh = .one ∧ mk = none := by
  unfold sc1 at h
  split at h
  · split at h
    · split at h <;> cases h
    cases h
  injection h with h1 h2 h3 h4
  exact ⟨h1.symm, h2.symm, h3.symm, h4.symm⟩
theorem sc2_df {q q' : Opq} {f : Value → Value → Option Value} {x y : V} {args : List V} {sh : Sh} {mk : Option V} (h : sc2 q f x y = .df q' args sh mk none none) : q' = q ∧ args = [x, y] ∧ sh = .one ∧ mk = none := by
  unfold sc2 at h
  split at h
  · split at h
    · split at h <;> cases h
    cases h
  injection h with h1 h2 h3 h4
  exact ⟨h1.symm, h2.symm, h3.symm, h4.symm⟩
theorem InvA.frz (hI : InvA w0 ps T ρ s a W α) {n : Nat} {b : Blk} (hn : s.hp[n]? = some (some b)) (hk : b.k = .froz) : ∀ W2, Same (muts (chs ρ α 0 s.hp) (osA a s T)) W W2 → W2.heap[(α n).b]? = some (.cells (denL ρ α b.c).toArray b.t (0, 0)) ∧ w0.w.heap.size ≤ (α n).b := fun W2 h =>
  hI.st.pers (fun W => W.heap[(α n).b]? = some (.cells (denL ρ α b.c).toArray b.t (0, 0)) ∧ w0.w.heap.size ≤ (α n).b) (List.mem_append.2 (.inl (exs_mem.2 ⟨n, b, hn, by rw [Nat.zero_add]; simp only [Blk.ex, hk]⟩))) W2 h
theorem InvA.rdc (hI : InvA w0 ps T ρ s a W α) {n : Nat} {b : Blk} (hn : s.hp[n]? = some (some b)) (hk : b.k = .cells ∨ b.k = .froz) : W.heap[(α n).b]? = some (.cells (denL ρ α b.c).toArray b.t (0, 0)) := by
  rcases hk with hk | hk
  · exact hI.st.at_ (hI.blk hn hk)
  exact (hI.frz hn hk W (.refl _ _)).1
theorem rw_args (hI : InvA w0 ps T ρ s a W α) (hKf : Kf C W) {vv : List V} : ∀ {ts : List TypeId} {vs : List V} {rw : List Rw} {as' : List Arg}, rwOf C.P (blks s.hp vv) ts vs = some rw → argsOk C ρ α rw vs as' → as'.map Arg.v = denL ρ α vs ∧ ∀ x ∈ as', x.rd W
  | [], [], rw, as', h, ha => by
    obtain rfl : [] = rw := by simpa [rwOf] using h
    cases as' with
    | nil => exact ⟨rfl, fun _ h => nomatch h⟩
    | cons _ _ => exact ha.elim
  | [], _ :: _, rw, as', h, ha => by simp [rwOf] at h
  | _ :: _, [], rw, as', h, ha => by simp [rwOf] at h
  | t :: ts, v :: vs, rw, as', h, ha => by
    unfold rwOf at h
    simp only [Option.bind_eq_some_iff, Option.map_eq_some_iff] at h
    obtain ⟨r, hr, rw', hrw, rfl⟩ := h
    have key : ∀ x xs, as' = x :: xs → x.v = v.den ρ α → x.rd W → argsOk C ρ α rw' vs xs → as'.map Arg.v = denL ρ α (v :: vs) ∧ ∀ x ∈ as', x.rd W := fun x xs h1 h2 h3 h4 => by
      obtain ⟨h5, h6⟩ := rw_args hI hKf hrw h4
      subst h1
      refine ⟨by simp [denL, h2, h5], fun y hy => ?_⟩
      rcases List.mem_cons.1 hy with rfl | hy
      · exact h3
      exact h6 y hy
    split at hr
    · rename_i n oo l cc e he
      split at hr
      · rename_i sz b hsz hb
        split at hr
        · rename_i hlt
          obtain rfl : Rw.own sz ((b.c.drop oo).take (l * sz)) = r := by simpa using hr
          cases as' with
          | nil => exact ha.elim
          | cons x xs =>
            obtain ⟨rfl, h4⟩ := ha
            refine key _ _ rfl rfl ?_ h4
            have hblk := hI.rdc (rdcOf_eq hb).1 (rdcOf_eq hb).2
            refine ⟨?_, hlt.2⟩
            show Rd W sz (some ⟨(α n).b, oo, none⟩) l (denL ρ α ((b.c.drop oo).take (l * sz)))
            exact Rd.of_part hblk (by rw [denL_drop]) (by rw [denL_drop]; simp [denL_len]; omega)
        cases hr
      cases hr
    · rename_i cc e he
      split at hr
      · rename_i sz hsz
        obtain rfl : Rw.own sz [] = r := by simpa using hr
        cases as' with
        | nil => exact ha.elim
        | cons x xs =>
          obtain ⟨rfl, h4⟩ := ha
          refine key _ _ rfl rfl ?_ h4
          exact ⟨Rd.none_, Nat.zero_le _⟩
      cases hr
    · rename_i i p e he
      split at hr
      · rename_i sz hsz
        obtain rfl : Rw.ext sz = r := by simpa using hr
        cases as' with
        | nil => exact ha.elim
        | cons x xs =>
          obtain ⟨h1, h2, h3, h4⟩ := ha
          refine key _ _ rfl h1 ?_ h4
          have := hKf _ _ _ h3
          rw [← h1] at this
          cases x
          subst h2
          exact this
      cases hr
    · rename_i n e he
      simp only [Option.map_eq_some_iff] at hr
      obtain ⟨⟨c, e', sz⟩, hrow, rfl⟩ := hr
      cases as' with
      | nil => exact ha.elim
      | cons x xs =>
        obtain ⟨rfl, h4⟩ := ha
        refine key _ _ rfl rfl ?_ h4
        obtain ⟨k, hrn, hk⟩ := rdOfN_eq hrow
        show Arg.rd W ⟨(α n).h, sz, (denL ρ α c).flatMap cellsV⟩
        exact rd_any hI hrn hk
    · cases hr
    · cases hr
    · cases hr
    obtain rfl : Rw.no = r := by simpa using hr
    cases as' with
    | nil => exact ha.elim
    | cons x xs =>
      obtain ⟨rfl, h1, h4⟩ := ha
      refine key _ _ rfl rfl ?_ h4
      unfold Arg.rd
      split
      · rename_i hq
        dsimp only at hq
        rw [hq] at h1
        cases h1
      trivial
theorem rwOf_len {P : Program} {bs : List (Nat × Option Blk)} : ∀ {ts : List TypeId} {vs : List V} {rw : List Rw}, rwOf P bs ts vs = some rw → rw.length = vs.length
  | [], [], rw, h => by
    obtain rfl : [] = rw := by simpa [rwOf] using h
    rfl
  | [], _ :: _, rw, h => by simp [rwOf] at h
  | _ :: _, [], rw, h => by simp [rwOf] at h
  | t :: ts, v :: vs, rw, h => by
    unfold rwOf at h
    simp only [Option.bind_eq_some_iff, Option.map_eq_some_iff] at h
    obtain ⟨r, hr, rw', hrw, rfl⟩ := h
    simp [rwOf_len hrw]
theorem gh_args (hI : InvA w0 ps T ρ s a W α) {vv : List V} : ∀ {vs : List V} {rw : List Rw} {gs : List Arg}, ghRw C.P (blks s.hp vv) vs = some rw → argsOk C ρ α rw vs gs → ∀ x ∈ gs, x.rd W
  | [], rw, gs, h, ha => by
    obtain rfl : [] = rw := by simpa [ghRw] using h
    cases gs with
    | nil => exact fun _ h => nomatch h
    | cons _ _ => exact ha.elim
  | v :: vs, rw, gs, h, ha => by
    unfold ghRw at h
    simp only [Option.bind_eq_some_iff, Option.map_eq_some_iff] at h
    obtain ⟨r, hr, rw', hrw, rfl⟩ := h
    have key : ∀ x xs, gs = x :: xs → x.rd W → argsOk C ρ α rw' vs xs → ∀ x ∈ gs, x.rd W := fun x xs h1 h3 h4 => by
      have h6 := gh_args hI hrw h4
      subst h1
      intro y hy
      rcases List.mem_cons.1 hy with rfl | hy
      · exact h3
      exact h6 y hy
    split at hr
    · rename_i n oo l cc
      split at hr
      · rename_i b hb
        split at hr
        · rename_i sz hsz
          split at hr
          · rename_i hlt
            obtain rfl : Rw.own sz ((b.c.drop oo).take (l * sz)) = r := by simpa using hr
            cases gs with
            | nil => exact ha.elim
            | cons x xs =>
              obtain ⟨rfl, h4⟩ := ha
              refine key _ _ rfl ?_ h4
              have hblk := hI.rdc (rdcOf_eq hb).1 (rdcOf_eq hb).2
              refine ⟨?_, hlt.2⟩
              show Rd W sz (some ⟨(α n).b, oo, none⟩) l (denL ρ α ((b.c.drop oo).take (l * sz)))
              exact Rd.of_part hblk (by rw [denL_drop]) (by rw [denL_drop]; simp [denL_len]; omega)
          cases hr
        cases hr
      cases hr
    · rename_i n
      simp only [Option.map_eq_some_iff] at hr
      obtain ⟨⟨c, e', sz⟩, hrow, rfl⟩ := hr
      cases gs with
      | nil => exact ha.elim
      | cons x xs =>
        obtain ⟨rfl, h4⟩ := ha
        refine key _ _ rfl ?_ h4
        obtain ⟨k, hrn, hk⟩ := rdOfN_eq hrow
        show Arg.rd W ⟨(α n).h, sz, (denL ρ α c).flatMap cellsV⟩
        exact rd_any hI hrn hk
    cases hr
theorem cl_ok (hI : InvA w0 ps T ρ s a W α) (hKf : Kf C W) {vv : List V} {ts : List TypeId} {g : FuncId} {rw : List Rw} {args' : List V} {v : Value} (hrw : rwOf C.P (blks s.hp vv) ts args' = some rw) (hrel : (clQ C (blks s.hp vv) g rw args').1.rel C ρ α (clQ C (blks s.hp vv) g rw args').2 v) :
    ∃ K' as', argsOk C ρ α rw args' as' ∧ C.R K' g as' v ∧ (∀ s sz cells, K' s sz cells → Arg.rd W ⟨s, sz, cells⟩) ∧ aliRel C g rw as' := by
  unfold clQ at hrel
  split at hrel
  · rename_i r grw hg
    obtain ⟨as', gs, h1, h2, h3, h4⟩ := hrel
    have hl := rwOf_len hrw
    rw [List.take_left' hl.symm] at h1
    rw [List.drop_left' hl.symm] at h2
    refine ⟨_, as', h1, h3, fun u sz cells hk => ?_, h4⟩
    rcases hk with hk | hk
    · exact hKf _ _ _ hk
    exact gh_args hI hg h2 _ hk
  obtain ⟨as', h1, h3, h4⟩ := hrel
  exact ⟨C.K, as', h1, h3, hKf, h4⟩
theorem run_eq_agg {P : Program} {neq : Bool} {t t' : TypeId} {x y : Operand} {l : List CK} {xs ys : List Value} {b : Bool} (hop : o.op = .binOp (if neq then .neq else .eql) t x y t') (hx : a.eval x = .agg xs.toArray) (hy : a.eval y = .agg ys.toArray) (hk : kindsT P 20 t = some l) (hr : rowOf P t = some true) (hg : P.eqGuardType P.depth t = false)
    (fx : fits l xs = true) (fy : fits l ys = true) (hB : b = true ↔ xs = ys) (h : K (a.put o.dst (.bool (neq ^^ b))) W) : o.wp P a W K Q := by
  have hB' : b = true ↔ xs.toArray = ys.toArray := by rw [hB]; exact ⟨fun h => by rw [h], fun h => by simpa using h⟩
  cases neq
  · exact wp_eql hop hx hy hk hr hg (by simpa using fx) (by simpa using fy) hB' (by simpa using h)
  exact wp_neq hop hx hy hk hr hg (by simpa using fx) (by simpa using fy) hB' (by simpa using h)
theorem bnd_of {s i : Value} (h : Bnd s i) : ∃ ad n c k j, s = .slice (some ad) n c ∧ i = .int k j ∧ 0 ≤ j ∧ j < n := by
  unfold Bnd at h
  split at h
  · exact ⟨_, _, _, _, _, rfl, rfl, h.1, h.2⟩
  exact h.elim
def slcR (str : Bool) (sz : Nat) (x : Value) (r : Option Value × Option Value × Option Value) : Option Value := match str, x with
  | false, .slice a len cap => (boundsV len cap r.1 r.2.1 r.2.2).map fun (l, h, m) => .slice (if m = l then a else a.map (·.add (l * sz))) (h - l) (m - l)
  | true, .string s => if r.2.2.isSome then none else (boundsV s.size s.size r.1 r.2.1 none).map fun (l, h, _) => .string (s.extract l h)
  | _, _ => none
theorem slc_ops {t : TypeId} {xo : Operand} {lo hi mx : Option Operand} {str : Bool} {sz : Nat} {xs : List Value} {v : Value} (he : (Op.slice t xo lo hi mx).operands.toList.map a.eval = xs) (h : slcV str sz lo.isSome hi.isSome mx.isSome xs = some v) : ∃ x r, a.eval xo = x ∧ optsO a lo hi mx = r ∧ slcR str sz x r = some v := by
  cases xs with
  | nil => simp [slcV] at h
  | cons x bs =>
    have he' : a.eval xo :: (lo.toArray ++ hi.toArray ++ mx.toArray).toList.map a.eval = x :: bs := by
      rw [← he]; simp [Op.operands]
    injection he' with h3 h4
    simp only [slcV, Option.bind_eq_some_iff] at h
    obtain ⟨r, hr, h⟩ := h
    exact ⟨x, r, h3, opts_eval h4 hr, h⟩
theorem slc_str {sz : Nat} {x v : Value} {r : Option Value × Option Value × Option Value} (h : slcR true sz x r = some v) : ∃ s l h m, x = .string s ∧ r.2.2.isSome = false ∧ boundsV s.size s.size r.1 r.2.1 none = some (l, h, m) ∧ v = .string (s.extract l h) := by
  cases x <;> simp only [slcR, reduceCtorEq] at h
  rename_i s
  split at h
  · cases h
  rename_i hm
  simp only [Option.map_eq_some_iff, Option.some.injEq] at h
  obtain ⟨⟨l, h1, m⟩, hb, rfl⟩ := h
  exact ⟨_, l, h1, m, rfl, by simpa using hm, hb, rfl⟩
theorem slc_sl {sz : Nat} {x v : Value} {r : Option Value × Option Value × Option Value} (h : slcR false sz x r = some v) : ∃ A len cap l h m, x = .slice A len cap ∧ boundsV len cap r.1 r.2.1 r.2.2 = some (l, h, m) ∧ v = .slice (if m = l then A else A.map (·.add (l * sz))) (h - l) (m - l) := by
  cases x <;> simp only [slcR, reduceCtorEq] at h
  simp only [Option.map_eq_some_iff] at h
  obtain ⟨⟨l, h1, m⟩, hb, rfl⟩ := h
  exact ⟨_, _, _, l, h1, m, rfl, hb, rfl⟩
theorem lenT_str {P : Program} {t : TypeId} (h : lenT P t = some true) : P.underlying t = some .string := by
  unfold lenT at h
  split at h
  · assumption
  · cases h
  cases h
theorem planAp_none {bs : List (Nat × Option Blk)} {nm m : Nat} {t : TypeId} {x y : V} {q : Opq} {args : List V} {sh : Sh} {mk : Option V} {wr : Option (Nat × Blk)} (h : planAp C bs nm m t x y = .df q args sh mk none wr) : False := by
  unfold planAp at h
  split at h
  · split at h
    · split at h
      · split at h <;> cases h
      cases h
    cases h
  cases h
def LenI (ρ : List Value) (α : Nat → AV) (n sz : Nat) (c : List V) : Prop := 0 < sz ∧ ∃ A len cap, (α n).h = .slice A len cap ∧ ((denL ρ α c).flatMap cellsV).length = len * sz ∧ (0 < len → A.isSome = true)
def LensI (ρ : List Value) (α : Nat → AV) (bs : List (Nat × Option Blk)) : Prop := ∀ (n sz : Nat) (c : List V) (e : TypeId), rdOfN bs n = some (c, e, sz) → LenI ρ α n sz c
theorem lens_see (hI : InvA w0 ps T ρ s a W α) (op : Op) (vs : List V) : LensI ρ α (s.see op vs) := by
  intro n sz c e h
  unfold S.see at h
  split at h
  · obtain ⟨k, hn, hk⟩ := rdOfN_eq h
    have := hI.lens n _ hn
    rcases hk with rfl | rfl <;> exact this
  obtain ⟨k, hn, hk⟩ := rdOfN_eq h
  have := (hI.rows n _ hn).2.len
  rcases hk with rfl | rfl <;> exact this
theorem ep_core {bs : List (Nat × Option Blk)} {s' i' : V} {sz o' : Nat} {q : Opq} {args : List V} {sh : Sh} {mk : Option V} {new : Option Blk} {wr : Option (Nat × Blk)} {v : Value} (hL : LensI ρ α bs) (h : planEp bs s' i' sz o' = .df q args sh mk new wr) (hrel : q.rel C ρ α args v) :
    mk = some (.ep s' i' sz o') ∧ ∃ ad n c k j, s'.den ρ α = .slice (some ad) n c ∧ i'.den ρ α = .int k j ∧ 0 ≤ j ∧ j < n := by
  unfold planEp at h
  split at h
  · split at h
    · rename_i c e sz' hrow
      split at h
      · rename_i hs
        subst hs
        injection h with h1 h2 h3 h4
        subst h1; subst h2; subst h4
        have hb : Rbnd (cellsV ((V.cat c).den ρ α)).length sz' (i'.den ρ α) ∧ _ := hrel
        obtain ⟨hb, _⟩ := hb
        unfold Rbnd at hb
        split at hb
        · rename_i k j hi
          simp only [V.den, cellsV] at hb
          obtain ⟨h0, A, len, cap, h5, h6, h7⟩ := hL _ _ _ _ hrow
          rw [h6, Nat.mul_div_cancel _ h0] at hb
          obtain ⟨ad, rfl⟩ := Option.isSome_iff_exists.1 (h7 (by omega))
          exact ⟨rfl, ad, len, cap, k, j, by simp only [V.den]; exact h5, by assumption, hb.1, hb.2⟩
        exact hb.elim
      cases h
    cases h
  injection h with h1 h2 h3 h4
  subst h1; subst h2; subst h4
  obtain ⟨hbnd, _⟩ := hrel
  obtain ⟨ad, n', c', k', j, hs', hi', h0, h1⟩ := bnd_of hbnd
  exact ⟨rfl, ad, n', c', k', j, hs', hi', h0, h1⟩
theorem partV_no {b : Bool} {n : Nat} {ds : List V} {p : Nat} {q : Opq} {args : List V} {sh : Sh} {mk : Option V} {new : Option Blk} {wr : Option (Nat × Blk)} (h : partV b n ds p = .df q args sh mk new wr) : False := by
  unfold partV at h
  split at h
  · cases h
  split at h <;> cases h
theorem ld_core {vs : List V} {s' i' : V} {sz o' n : Nat} {b : Bool} {q : Opq} {args : List V} {sh : Sh} {mk : Option V} {new : Option Blk} {wr : Option (Nat × Blk)} {v : Value} (hI : InvA w0 ps T ρ s a W α) (hKf : Kf C W) (h : planLd (blks s.hp vs) b n s' i' sz o' = .df q args sh mk new wr) (hrel : q.rel C ρ α args v) :
    mk = none ∧ ∃ ad len c k j, s'.den ρ α = .slice (some ad) len c ∧ i'.den ρ α = .int k j ∧ ((b = false ∧ W.cell? (ad.add (j.toNat * sz + o')) = some v) ∨ (b = true ∧ ∃ cs : Array Value, v = .agg cs ∧ cs.size = n ∧ Cells W (ad.add (j.toNat * sz + o')) cs)) := by
  unfold planLd at h
  split at h
  · split at h
    · rename_i c e sz' hrow
      split at h
      · rename_i hs
        subst hs
        split at h
        · exact (partV_no h).elim
        split at h
        · rename_i hb
          injection h with h1 h2 h3 h4
          subst h1; subst h2; subst h4
          have hr : Rbnd (cellsV ((V.cat c).den ρ α)).length sz' (i'.den ρ α) ∧ idxOf (i'.den ρ α) * sz' + o' + n ≤ (cellsV ((V.cat c).den ρ α)).length ∧ v = .agg ((cellsV ((V.cat c).den ρ α)).drop (idxOf (i'.den ρ α) * sz' + o') |>.take n).toArray := hrel
          obtain ⟨hbd, hlt, rfl⟩ := hr
          obtain ⟨kk, hn, hk⟩ := rdOfN_eq hrow
          obtain ⟨ad, len, cap, k, j, g1, g2, g3, g4, g5, g6⟩ := rd_full hI hn hk hbd
          rw [g2] at hlt ⊢
          simp only [V.den, cellsV, idxOf] at hlt
          exact ⟨rfl, ad, len, cap, k, j, g1, rfl, .inr ⟨hb, (((denL ρ α c).flatMap cellsV).drop (j.toNat * sz' + o') |>.take n).toArray, rfl, by simp only [List.size_toArray, List.length_take, List.length_drop]; omega, Rd.cells_at g6 hlt⟩⟩
        rename_i hb
        injection h with h1 h2 h3 h4
        subst h1; subst h2; subst h4
        have hr : Rbnd (cellsV ((V.cat c).den ρ α)).length sz' (i'.den ρ α) ∧ (cellsV ((V.cat c).den ρ α))[idxOf (i'.den ρ α) * sz' + o']? = some v := hrel
        obtain ⟨hbd, hcell⟩ := hr
        obtain ⟨kk, hn, hk⟩ := rdOfN_eq hrow
        obtain ⟨ad, len, cap, k, j, g1, g2, g3, g4, g5, g6⟩ := rd_full hI hn hk hbd
        rw [g2] at hcell ⊢
        simp only [V.den, cellsV, idxOf] at hcell
        refine ⟨rfl, ad, len, cap, k, j, g1, rfl, .inl ⟨by simpa using hb, ?_⟩⟩
        obtain ⟨ad', e', hcl⟩ := Rd.in g6 (List.getElem?_eq_some_iff.1 hcell).1
        cases e'
        exact hcl _ _ hcell
      cases h
    cases h
  split at h
  · rename_i hb
    injection h with h1 h2 h3 h4
    subst h1; subst h2; subst h4
    obtain ⟨hbnd, cells, hc, hlt, rfl⟩ := hrel
    have hR := hKf _ _ _ hc
    obtain ⟨ad, n', c', k', j, hs', hi', h0, h1⟩ := bnd_of hbnd
    rw [hs'] at hR
    replace hR := hR.1
    have hcell := Rd.cells_at hR (i := idxOf (i'.den ρ α) * sz + o') (n := n) hlt
    rw [hi'] at hcell hlt ⊢
    exact ⟨rfl, ad, n', c', k', j, hs', rfl, .inr ⟨hb, _, rfl, by simp [idxOf] at hlt ⊢; omega, hcell⟩⟩
  rename_i hb
  injection h with h1 h2 h3 h4
  subst h1; subst h2; subst h4
  obtain ⟨hbnd, cells, hc, hcell⟩ := hrel
  have hR := hKf _ _ _ hc
  obtain ⟨ad, n', c', k', j, hs', hi', h0, h1⟩ := bnd_of hbnd
  rw [hs'] at hR
  replace hR := hR.1
  obtain ⟨ad', e, hcl⟩ := Rd.in hR (List.getElem?_eq_some_iff.1 hcell).1
  cases e
  rw [hi'] at hcell ⊢
  exact ⟨rfl, ad, n', c', k', j, hs', rfl, .inl ⟨by simpa using hb, hcl _ _ hcell⟩⟩
def mkVal (ρ : List Value) (α : Nat → AV) (v : Value) : Option V → Value
  | none => v
  | some e => e.den ρ α
theorem planAx_new {bs : List (Nat × Option Blk)} {nm m : Nat} {fr : Bool} {t : TypeId} {x y : V} {q : Opq} {args : List V} {sh : Sh} {mk : Option V} {new : Option Blk} {wr : Option (Nat × Blk)} (h : planAx C bs nm m fr t x y = .df q args sh mk new wr) : ∃ e sz by' z src, slOf C.P t = some e ∧ szOf C.P e = some sz ∧ bytesOf C.P e = some by' ∧ zeroOf C.P e = some z ∧ rwOf C.P bs [t] [y] = some [src] ∧ 0 < sz ∧ z.cells.size = sz ∧ by' ≤ 1000000 ∧ q = .appx sz by' fr src ∧ args = [x, y] ∧ sh = .any ∧ mk = some (.row nm) ∧ new = some ⟨[.x m []], e, if fr then .row sz else .ext sz⟩ ∧ wr = none := by
  unfold planAx at h
  split at h
  · rename_i e he
    split at h
    · rename_i sz by' z h1 h2 h3
      split at h
      · rename_i src hsrc
        split at h
        · rename_i hc
          cases h
          exact ⟨e, sz, by', z, src, he, h1, h2, h3, hsrc, hc.1, hc.2.1, hc.2.2, rfl, rfl, rfl, rfl, rfl, rfl⟩
        cases h
      cases h
    cases h
  cases h
theorem planAx_none {bs : List (Nat × Option Blk)} {nm m : Nat} {fr : Bool} {t : TypeId} {x y : V} {q : Opq} {args : List V} {sh : Sh} {mk : Option V} {wr : Option (Nat × Blk)} (h : planAx C bs nm m fr t x y = .df q args sh mk none wr) : False := by
  obtain ⟨_, _, _, _, _, _, _, _, _, _, _, _, _, _, _, _, _, h, _⟩ := planAx_new h
  cases h
theorem planCw_nn {bs : List (Nat × Option Blk)} {m : Nat} {g : FuncId} {ts : List TypeId} {args' cap : List V} {q : Opq} {args : List V} {sh : Sh} {mk : Option V} (h : planCw C bs nm m g ts args' cap = .df q args sh mk none none) : False := by
  unfold planCw at h
  split at h
  · split at h
    · split at h <;> cases h
    cases h
  cases h
theorem df_core {sh0 : List Sh} {q : Opq} {args : List V} {sh : Sh} {mk : Option V} {vs : List V} (hC : C.Ok) (hps : Ctx C w0 ps) (hvs : o.op.operands.toList.mapM s.ev = some vs) {bs : List (Nat × Option Blk)} (hbs : shapeOp o.op = false → ∃ vv, bs = blks s.hp vv) (hL : LensI ρ α bs) (h : planV0 C sh0 nm o.op vs bs = .df q args sh mk none none) (hI : InvA w0 ps T ρ s a W α) {v : Value} (hrel : q.rel C ρ α args v)
    (hK : ∀ W', Below W.heap.size W W' → K (a.put o.dst (mkVal ρ α v mk)) W') : o.wp C.P a W K Q := by
  have he := mapM_den hI.good hI.fm hvs
  have hKf : Kf C W := hI.fact hps.1
  have hrefl := Below.refl W.heap.size W
  generalize hop : o.op = op at *
  unfold planV0 at h
  split at h
  · cases h
  · cases h
  · split at h <;> cases h
  · split at h
    · cases h
    split at h <;> cases h
  · split at h
    · cases h
    · split at h <;> cases h
    cases h
  · split at h
    · split at h <;> cases h
    · split at h <;> cases h
    cases h
  · -- load of an element
    rename_i s' i' sz o'
    simp [Op.operands, denL, V.den] at he
    split at h
    · rename_i b n hr hs
      obtain ⟨vv, hbv⟩ := hbs rfl
      rw [hbv] at h
      obtain ⟨rfl, ad, len, cap, kk, j, hs', hi', hb⟩ := ld_core hI hKf h hrel
      rw [hs', hi'] at he
      rcases hb with ⟨rfl, hcell⟩ | ⟨rfl, cs, rfl, hsz, hcells⟩
      · exact wp_load_cell hop he hr hcell (hK W hrefl)
      exact wp_load_at hop he hr hcells (by rw [hs, hsz]) (hK W hrefl)
    cases h
  · split at h
    · split at h <;> cases h
    cases h
  · cases h
  · split at h <;> cases h
  · -- fieldAddr of an element
    rename_i s' i' sz o'
    simp [Op.operands, denL, V.den] at he
    split at h
    · rename_i d hd
      obtain ⟨rfl, ad, len, cap, kk, j, hs', hi', h0, h1⟩ := ep_core hL h hrel
      rw [hs', hi'] at he
      have hk := hK W hrefl
      simp only [mkVal, V.den, hs', hi', epv] at hk
      refine wp_fieldAddr' hop he hd ?_
      simp only [add_of_add, Nat.add_assoc]
      exact hk
    cases h
  · split at h
    · split at h
      · split at h <;> cases h
      · split at h <;> cases h
      cases h
    cases h
  · split at h
    · split at h
      · split at h <;> cases h
      cases h
    cases h
  · split at h <;> cases h
  · split at h
    · split at h
      · split at h <;> cases h
      cases h
    cases h
  · cases h
  · -- indexAddr of a slice
    simp [Op.operands, denL] at he
    split at h
    · rename_i e hsl
      split at h
      · rename_i sz hsz
        obtain ⟨rfl, ad, len, cap, kk, j, hs', hi', h0, h1⟩ := ep_core hL h hrel
        have hk := hK W hrefl
        simp only [V.den] at hs'
        simp only [mkVal, V.den, hs', hi', epv] at hk
        refine wp_indexAddr_sl hop (he.1.trans hs') (he.2.trans hi') (slOf_eq hsl) h0 h1 hsz rfl ?_
        exact hk
      cases h
    cases h
  · -- indexAddr of a row
    simp [Op.operands, denL] at he
    split at h
    · rename_i e hsl
      split at h
      · rename_i sz hsz
        obtain ⟨rfl, ad, len, cap, kk, j, hs', hi', h0, h1⟩ := ep_core hL h hrel
        have hk := hK W hrefl
        simp only [V.den] at hs'
        simp only [mkVal, V.den, hs', hi', epv] at hk
        refine wp_indexAddr_sl hop (he.1.trans hs') (he.2.trans hi') (slOf_eq hsl) h0 h1 hsz rfl ?_
        exact hk
      cases h
    cases h
  · -- store into a row
    split at h
    · split at h
      · split at h <;> cases h
      split at h <;> cases h
    cases h
  · split at h
    · split at h
      · split at h <;> cases h
      · split at h
        · split at h <;> cases h
        cases h
      cases h
    cases h
  · split at h <;> cases h
  · split at h <;> cases h
  · -- binOp
    simp [Op.operands, denL] at he
    split at h
    · split at h
      · split at h
        · rename_i hc
          injection h with h1 h2 h3 h4
          subst h1; subst h2; subst h3; subst h4
          obtain ⟨b, hb, fx, fy, rfl⟩ := hrel
          rw [List.take_left' hc.2.1] at hb fx
          rw [List.drop_left' hc.2.1] at hb fy
          exact run_eq_agg (neq := false) hop he.1 he.2 (by assumption) (by assumption) hc.1 fx fy hb (hK W hrefl)
        cases h
      · split at h
        · rename_i hc
          injection h with h1 h2 h3 h4
          subst h1; subst h2; subst h3; subst h4
          obtain ⟨b, hb, fx, fy, rfl⟩ := hrel
          rw [List.take_left' hc.2.1] at hb fx
          rw [List.drop_left' hc.2.1] at hb fy
          exact run_eq_agg (neq := true) hop he.1 he.2 (by assumption) (by assumption) hc.1 fx fy hb (hK W hrefl)
        cases h
      cases h
    · split at h
      · rename_i hsl
        cases h
        obtain ⟨A, n, c, hx, rfl⟩ := hrel
        exact wp_val (run_snil (neq := false) hop (he.1.trans hx) (by simpa [V.den] using he.2) (slOf_eq hsl)) (hK W hrefl)
      · rename_i hsl
        cases h
        obtain ⟨A, n, c, hx, rfl⟩ := hrel
        exact wp_val (run_snil (neq := true) hop (he.1.trans hx) (by simpa [V.den] using he.2) (slOf_eq hsl)) (hK W hrefl)
      cases h
    split at h
    · rename_i hbt
      obtain ⟨rfl, rfl, rfl, rfl⟩ := sc2_df h
      exact wp_val (run_binb hop he.1 he.2 hbt hrel) (hK W hrefl)
    obtain ⟨rfl, rfl, rfl, rfl⟩ := sc2_df h
    exact wp_val (run_bin hop he.1 he.2 hrel) (hK W hrefl)
  · simp [Op.operands, denL] at he
    obtain ⟨rfl, rfl, rfl, rfl⟩ := sc1_df h
    exact wp_val (run_not hop he hrel) (hK W hrefl)
  · simp [Op.operands, denL] at he
    obtain ⟨rfl, rfl, rfl, rfl⟩ := sc1_df h
    exact wp_val (run_neg hop he hrel) (hK W hrefl)
  · simp [Op.operands, denL] at he
    split at h
    · rename_i hs hd
      obtain ⟨rfl, rfl, rfl, rfl⟩ := sc1_df h
      exact wp_val (run_conv hop he hs hd hrel) (hK W hrefl)
    cases h
  · -- a slice of a row
    unfold planSx at h
    split at h
    · split at h <;> cases h
    cases h
  · -- slice
    rename_i bs _
    unfold planSl at h
    split at h
    · split at h
      · split at h
        · split at h <;> cases h
        cases h
      cases h
    · split at h
      · split at h
        · split at h <;> cases h
        cases h
      cases h
    split at h
    · rename_i hlt
      injection h with h1 h2 h3 h4
      subst h1; subst h2; subst h3; subst h4
      obtain ⟨x, r, hx, ho, hr⟩ := slc_ops he hrel
      obtain ⟨s', l1, h1, m1, rfl, hm, hb, rfl⟩ := slc_str hr
      exact wp_val (run_slStr hop hx (lenT_str hlt) ho hm hb) (hK W hrefl)
    · rename_i hlt
      split at h
      · rename_i sz hsz
        injection h with h1 h2 h3 h4
        subst h1; subst h2; subst h3; subst h4
        obtain ⟨x, r, hx, ho, hr⟩ := slc_ops he hrel
        obtain ⟨A, len, cap, l1, h1, m1, rfl, hb, rfl⟩ := slc_sl hr
        obtain ⟨e, he1, he2⟩ := Option.bind_eq_some_iff.1 hsz
        exact wp_val (run_slSl hop hx (slOf_eq he1) he2 ho hb) (hK W hrefl)
      cases h
    cases h
  · cases h
  · split at h
    · split at h
      · split at h <;> cases h
      cases h
    cases h
  · split at h
    · split at h
      · split at h
        · cases h
        split at h
        · cases h
        split at h <;> cases h
      cases h
    cases h
  · -- call
    rename_i c
    have hargs : ∀ b, c.callee = .builtin b → c.args.map a.eval = (denL ρ α vs).toArray := fun b hb => by
      rw [← he]
      exact Array.ext' (by simp [Op.operands, Call.operands, hb])
    split at h
    · split at h
      · split at h
        · split at h
          · exact (planAx_none h).elim
          exact (planAp_none h).elim
        cases h
      cases h
    · rename_i n hcal
      have ha := hargs _ hcal
      split at h
      · rename_i c' e sz hlt hrow
        injection h with h1 h2 h3 h4
        subst h1; subst h2; subst h3; subst h4
        have hv : v = .int .i64 ((cellsV ((V.cat c').den ρ α)).length / sz : Nat) := hrel
        obtain ⟨h0, hh⟩ := hL _ _ _ _ hrow
        have hlen : kLen false ((α n).h) = some v := by
          rw [hv]
          simp only [V.den, cellsV]
          obtain ⟨A, len, cap, h5, h6, _⟩ := hh
          rw [h5, h6, Nat.mul_div_cancel _ h0]; rfl
        exact wp_val (run_len hop hcal hlt (by rw [ha]; simp [denL, V.den]) hlen) (hK W hrefl)
      cases h
    · rename_i x hcal
      have ha := hargs _ hcal
      split at h
      · rename_i str hstr
        split at h
        · cases h
        obtain ⟨rfl, rfl, rfl, rfl⟩ := sc1_df h
        exact wp_val (run_len hop hcal hstr (by rw [ha]; simp [denL, V.den]) hrel) (hK W hrefl)
      cases h
    · rename_i x hcal
      have ha := hargs _ hcal
      split at h
      · rename_i hstr
        split at h
        · cases h
        obtain ⟨rfl, rfl, rfl, rfl⟩ := sc1_df h
        exact wp_val (run_cap hop hcal hstr (by rw [ha]; simp [denL, V.den]) hrel) (hK W hrefl)
      cases h
    · rename_i x y hcal
      have ha := hargs _ hcal
      obtain ⟨rfl, rfl, rfl, rfl⟩ := sc2_df h
      exact wp_val (run_min hop hcal (by rw [ha]; simp [denL, V.den]) hrel) (hK W hrefl)
    · rename_i x y hcal
      have ha := hargs _ hcal
      obtain ⟨rfl, rfl, rfl, rfl⟩ := sc2_df h
      exact wp_val (run_max hop hcal (by rw [ha]; simp [denL, V.den]) hrel) (hK W hrefl)
    · -- a function
      rename_i f g cap args' hcal
      split at h
      · rename_i hcap
        unfold planCl at h
        split at h
        · rename_i sh' rw' hsh hrw hen
          split at h
          · rename_i hsls
            injection h with h1 h2 h3 h4
            subst h1; subst h2; subst h3; subst h4
            obtain ⟨vv, hbv⟩ := hbs (by simp [shapeOp, hcal])
            rw [hbv] at hrw hrel
            obtain ⟨K', as', ha, hR, hK', _⟩ := cl_ok hI hKf hrw hrel
            obtain ⟨h5, h6⟩ := rw_args hI hKf hrw ha
            have hcall := hC.r K' g as' v W hR h6 hK'
            rw [h5] at hcall
            have hcap' : cap = [] := by simpa using hcap
            subst hcap'
            simp only [Op.operands, Call.operands, hcal, denL, V.den] at he
            simp at he
            obtain ⟨h7, h8⟩ := he
            obtain ⟨cal, ar, at'⟩ := c
            simp only at hcal h8
            subst hcal
            have hsl0 : (C.sh g).sls [] = [] := by unfold Cx.sh; rw [hsh]; exact hsls
            refine wp_callF hop h7 (vs := (denL ρ α args').toArray) ?_ (enters_run hen _ _) (R := fun u W' => u = v ∧ Below W.heap.size W W') (hcall.mono fun e W' ⟨hb, hdr, he, _⟩ => ⟨v, by rw [he, fill_id _ _ _ _ hsl0], rfl, hb⟩) ?_
            · exact Array.ext' (by simpa using h8)
            rintro u W' ⟨rfl, hb⟩
            exact hK _ hb
          · split at h <;> cases h
          cases h
        cases h
      exact (planCw_nn h).elim
    cases h
  · split at h
    · split at h
      · split at h <;> split at h <;> cases h
      cases h
    cases h
  cases h
theorem sc1_nn {q q' : Opq} {f : Value → Option Value} {x : V} {args : List V} {sh : Sh} {mk : Option V} {new : Option Blk} {wr : Option (Nat × Blk)} (h : sc1 q f x = .df q' args sh mk new wr) : new = none ∧ wr = none := by
  unfold sc1 at h
  repeat' split at h
  all_goals (cases h; try exact ⟨rfl, rfl⟩)
theorem sc2_nn {q q' : Opq} {f : Value → Value → Option Value} {x y : V} {args : List V} {sh : Sh} {mk : Option V} {new : Option Blk} {wr : Option (Nat × Blk)} (h : sc2 q f x y = .df q' args sh mk new wr) : new = none ∧ wr = none := by
  unfold sc2 at h
  repeat' split at h
  all_goals (cases h; try exact ⟨rfl, rfl⟩)
theorem planEp_nn {bs : List (Nat × Option Blk)} {s i : V} {sz o : Nat} {q : Opq} {args : List V} {sh : Sh} {mk : Option V} {new : Option Blk} {wr : Option (Nat × Blk)} (h : planEp bs s i sz o = .df q args sh mk new wr) : new = none ∧ wr = none := by
  unfold planEp at h
  repeat' split at h
  all_goals (cases h; try exact ⟨rfl, rfl⟩)
theorem planLd_nn {bs : List (Nat × Option Blk)} {b : Bool} {n : Nat} {s i : V} {sz o : Nat} {q : Opq} {args : List V} {sh : Sh} {mk : Option V} {new : Option Blk} {wr : Option (Nat × Blk)} (h : planLd bs b n s i sz o = .df q args sh mk new wr) : new = none ∧ wr = none := by
  unfold planLd at h
  repeat' split at h
  all_goals first | exact (partV_no h).elim | (cases h; try exact ⟨rfl, rfl⟩)
theorem planSl_nn {t : TypeId} {lo hi mx : Bool} {x : V} {bs : List V} {q : Opq} {args : List V} {sh : Sh} {mk : Option V} {new : Option Blk} {wr : Option (Nat × Blk)} (h : planSl C t lo hi mx x bs = .df q args sh mk new wr) : new = none ∧ wr = none := by
  unfold planSl at h
  repeat' split at h
  all_goals (cases h; try exact ⟨rfl, rfl⟩)
theorem df_rows {sh : List Sh} {nm : Nat} {op : Op} {vs : List V} {bs : List (Nat × Option Blk)} {q : Opq} {args : List V} {sh' : Sh} {mk : Option V} {new : Option Blk} {wr : Option (Nat × Blk)} (h : planV0 C sh nm op vs bs = .df q args sh' mk new wr) (hnw : ¬ (new = none ∧ wr = none)) :
    (∃ t x y n i sz o v c e k, op = .store t x y ∧ vs = [.ep (.row n) i sz o, v] ∧ rowOfN bs n = some (c, e, sz) ∧ szOf C.P t = some k ∧ v.cells.length = k ∧ 0 < k ∧ vones sh v.cells = true ∧ q = .rset sz o ∧ args = .cat c :: i :: v.cells ∧ mk = some (.k undef) ∧ new = none ∧ wr = some (n, ⟨[.x sh.length []], e, .row sz⟩)) ∨
    (∃ c t x y, op = .call c ∧ c.callee = .builtin .append ∧ c.argTypes.toList = [t, t] ∧ vs = [x, y] ∧ planAp C bs nm sh.length t x y = .df q args sh' mk new wr) ∨
    (∃ t xo lo hi mx n as', op = .slice t xo lo hi mx ∧ vs = .row n :: as' ∧ planSx C bs nm sh.length t lo.isSome hi.isSome mx.isSome n as' = .df q args sh' mk new wr) ∨
    (∃ c t x y, op = .call c ∧ c.callee = .builtin .append ∧ c.argTypes.toList = [t, t] ∧ vs = [x, y] ∧ planAx C bs nm sh.length (frOf C c) t x y = .df q args sh' mk new wr) ∨
    (∃ c f g cap as', op = .call c ∧ c.callee = .value f ∧ vs = .f (.func g) [] cap :: as' ∧ cap.isEmpty = true ∧ planCl C bs nm sh.length g c.argTypes.toList as' = .df q args sh' mk new wr) ∨
    (∃ c f g cap as', op = .call c ∧ c.callee = .value f ∧ vs = .f (.func g) [] cap :: as' ∧ planCw C bs nm sh.length g c.argTypes.toList as' cap = .df q args sh' mk new wr) ∨
    (∃ t xo yo x y e sz z by', op = .makeSlice t xo yo ∧ vs = [x, y] ∧ slOf C.P t = some e ∧ szOf C.P e = some sz ∧ zeroOf C.P e = some z ∧ bytesOf C.P e = some by' ∧ 0 < sz ∧ q = .mks z sz by' ∧ args = [x, y] ∧ sh' = .any ∧ mk = some (.row nm) ∧ new = some ⟨[.x sh.length []], e, .row sz⟩ ∧ wr = none) := by
  unfold planV0 at h
  split at h
  case h_19 =>
    rename_i t xo yo n i sz o v
    split at h
    · rename_i c e sz' k hrow hs
      split at h
      · split at h <;> cases h
      split at h
      · rename_i hc
        obtain ⟨rfl, h2, h3, h4⟩ := hc
        cases h
        exact .inl ⟨t, xo, yo, n, i, sz', o, v, c, e, k, rfl, rfl, hrow, hs, h2, h3, h4, rfl, rfl, rfl, rfl, rfl⟩
      cases h
    cases h
  case h_27 => exact .inr (.inr (.inl ⟨_, _, _, _, _, _, _, rfl, rfl, h⟩))
  case h_32 =>
    rename_i c
    split at h
    · rename_i x y hcal
      split at h
      · rename_i t t' hts
        split at h
        · rename_i htt
          subst htt
          split at h
          · exact .inr (.inr (.inr (.inl ⟨c, t, _, _, rfl, hcal, hts, rfl, h⟩)))
          exact .inr (.inl ⟨c, t, _, _, rfl, hcal, hts, rfl, h⟩)
        cases h
      cases h
    case h_7 =>
      rename_i hcal
      split at h
      · rename_i hcap
        exact .inr (.inr (.inr (.inr (.inl ⟨c, _, _, _, _, rfl, hcal, rfl, hcap, h⟩))))
      exact .inr (.inr (.inr (.inr (.inr (.inl ⟨c, _, _, _, _, rfl, hcal, rfl, h⟩)))))
    all_goals (exfalso; (repeat' split at h) <;> first | exact hnw (sc1_nn h) | exact hnw (sc2_nn h) | (cases h; done) | (cases h; exact hnw ⟨rfl, rfl⟩))
  case h_33 =>
    split at h
    · rename_i e hsl
      split at h
      · rename_i sz z by' hsz hz hb
        split at h
        · split at h <;> cases h
        split at h
        · rename_i h0
          cases h
          exact .inr (.inr (.inr (.inr (.inr (.inr ⟨_, _, _, _, _, e, sz, z, by', rfl, rfl, hsl, hsz, hz, hb, h0, rfl, rfl, rfl, rfl, rfl, rfl⟩)))))
        cases h
      cases h
    cases h
  all_goals (exfalso; (repeat' split at h) <;> first | exact hnw (sc1_nn h) | exact hnw (sc2_nn h) | exact hnw (planEp_nn h) | exact hnw (planLd_nn h) | exact hnw (planSl_nn h) | (cases h; done) | (cases h; exact hnw ⟨rfl, rfl⟩))
theorem splice_end {xs tl cs : List Value} (h : cs.length ≤ tl.length) : splice (xs ++ tl).toArray xs.length cs.toArray = (xs ++ cs ++ tl.drop cs.length).toArray := by
  unfold splice
  simp
theorem map2 {args : Array Operand} {f : Operand → Value} {x y : Value} (h : args.map f = #[x, y]) : ∃ p q, args = #[p, q] ∧ f p = x ∧ f q = y := by
  have h1 : args.size = 2 := by have := congrArg Array.size h; simpa using this
  refine ⟨args[0], args[1], ?_, ?_, ?_⟩
  · apply Array.ext
    · simp [h1]
    intro i hi hi2
    have : i = 0 ∨ i = 1 := by omega
    rcases this with rfl | rfl <;> rfl
  · have := congrArg (fun a => a[0]?) h; simpa [h1] using this
  · have := congrArg (fun a => a[1]?) h; simpa [h1] using this
theorem rset_ok {sh0 : List Sh} {t : TypeId} {xo yo : Operand} {n sz off k : Nat} {i vv : V} {c : List V} {e : TypeId} {v : Value} (hsh : sh0 <+: s.sh) (hop : o.op = .store t xo yo) (hx : a.eval xo = epv ((α n).h) (i.den ρ α) sz off) (hy : a.eval yo = vv.den ρ α) (hrow : s.hp[n]? = some (some ⟨c, e, .row sz⟩)) (hs : szOf C.P t = some k) (hk : vv.cells.length = k) (hk0 : 0 < k) (hone : vones sh0 vv.cells = true)
    (hI : InvA w0 ps T ρ s a W α) (hv : ρ[sh0.length]? = some v) (hrel : (Opq.rset sz off).rel C ρ α (.cat c :: i :: vv.cells) v) (hw : effWf s nm (.k undef) none (some (n, ⟨[.x sh0.length []], e, .row sz⟩)) = true) (hK : ∀ a' W', Inv w0 ps T ρ (s.eff nm o.dst (.k undef) none (some (n, ⟨[.x sh0.length []], e, .row sz⟩))) a' W' → K a' W') : o.wp C.P a W K Q := by
  have hr : Rbnd (cellsV ((V.cat c).den ρ α)).length sz (i.den ρ α) ∧ off + vv.cells.length ≤ sz ∧ v = .agg ((cellsV ((V.cat c).den ρ α)).take (idxOf (i.den ρ α) * sz + off) ++ denL ρ α vv.cells ++ (cellsV ((V.cat c).den ρ α)).drop (idxOf (i.den ρ α) * sz + off + vv.cells.length)).toArray := hrel
  obtain ⟨hbd, hlt, rfl⟩ := hr
  refine rset_gen (sh0 := sh0) hop hx hy hrow hs hk hk0 (ones_ok hI.good hsh α hone) hI hbd hlt ?_ hw hK
  simp only [V.den, cellsV] at hv
  simp [denL, V.den, List.getD_eq_getElem?_getD, hv, cellsV]
theorem sub_mid {α : Type} (l1 : List α) (x : α) (l2 : List α) : List.Sublist (l1 ++ l2) (l1 ++ (x :: l2)) := (List.Sublist.refl _).append (List.sublist_cons_self _ _)
theorem src_of {W : World} {sz : Nat} {t e : TypeId} {x : Arg} (hsl : C.P.underlying t = some (.slice e)) (h0 : 0 < sz) (hsz : x.sz = sz) (hrd : x.rd W) (hone : ∀ u ∈ x.cells, u.oneCell' = true) : ∃ m, Src C.P sz t x.v m x.cells W ∧ x.cells.length = m * sz := by
  unfold Arg.rd at hrd
  split at hrd
  · rename_i A m c hv
    rw [hsz] at hrd
    rw [hv]
    replace hrd := hrd.1
    cases A with
    | none =>
      have hm : m = 0 := by
        rcases Nat.eq_zero_or_pos m with h | h
        · exact h
        obtain ⟨ad, e, _⟩ := hrd.2 h
        cases e
      subst hm
      have hc : x.cells = [] := List.eq_nil_of_length_eq_zero (by simpa using hrd.1)
      exact ⟨0, by rw [hc]; exact Src.ofNil W hsl c, by rw [hc]; simp⟩
    | some ad =>
      refine ⟨m, Src.ofSlice W hsl ad m c x.cells hrd.1 (fun j u hu => ?_) hone, hrd.1⟩
      obtain ⟨ad', e', hcl⟩ := Rd.in hrd (List.getElem?_eq_some_iff.1 hu).1
      cases e'
      exact hcl j u hu
  omega
theorem app_gen {t tx e : TypeId} {xo yo : Operand} {x pc : V} {vs cc : List V} {old : Option Nat} {yv : Value} {cells : List Value} {sz by' m : Nat} {z : Value} (hop : o.op = .call { callee := .builtin .append, args := #[xo, yo], argTypes := #[t, tx] }) (hx : a.eval xo = x.den ρ α) (hyv : a.eval yo = yv) (hSrc : Src C.P sz tx yv m cells W) (hml : cells.length = m * sz)
    (hsl : slOf C.P t = some e) (hsz : szOf C.P e = some sz) (hby : bytesOf C.P e = some by') (hz : zeroOf C.P e = some z) (hold : apOld C.P (blks s.hp vs) e sz x = some (cc, old)) (h0 : 0 < sz) (hzs : z.cells.size = sz) (hbyl : by' ≤ 1000000) (hpc : pc.den ρ α = .agg cells.toArray)
    (hb1 : (((denL ρ α cc).flatMap cellsV).length + cells.length) / sz * by' ≤ 140737488355328) (hb2 : (((denL ρ α cc).flatMap cellsV).length + cells.length) / sz ≤ 140737488355328) (hI : InvA w0 ps T ρ s a W α) (hnm' : freeIn s nm)
    (hw : effWf s nm (.row nm) (some ⟨cc ++ [pc], e, .row sz⟩) (old.map fun n => (n, tomb)) = true) (hK : ∀ a' W', Inv w0 ps T ρ (s.eff nm o.dst (.row nm) (some ⟨cc ++ [pc], e, .row sz⟩) (old.map fun n => (n, tomb))) a' W' → K a' W') : o.wp C.P a W K Q := by
  have hd : denL ρ α (cc ++ [pc]) = denL ρ α cc ++ [.agg cells.toArray] := by
    rw [denL_app]
    simp [denL, hpc]
  have hxsα : ∀ α', denL ρ α' (cc ++ [pc]) = denL ρ α (cc ++ [pc]) → (⟨cc ++ [pc], e, .row sz⟩ : Blk).xs ρ α' = (denL ρ α cc).flatMap cellsV ++ cells := fun α' h => by
    unfold Blk.xs
    simp only [h, hd, List.flatMap_append, List.flatMap_cons, List.flatMap_nil, cellsV, List.append_nil]
  have hsub2 : ∀ n, (cc.length = cc.length) → n * sz / sz = n := fun n _ => Nat.mul_div_cancel _ h0
  have fromNil : (denL ρ α cc).flatMap cellsV = [] → x.den ρ α = .slice none 0 0 →
      (∀ (A : AV) (W' : World) (u : Value), (∀ α', α' nm = A → u = (V.row nm).den ρ α') → (∀ α', α' nm = A → (∀ n, lv s.ln n = true → α' n = α n) → denL ρ α' (cc ++ [pc]) = denL ρ α (cc ++ [pc]) → chs ρ α' 0 s.hp = chs ρ α 0 s.hp →
        ((A.h = .slice none 0 0 ∧ cells = [] ∧ W' = W) ∨ ∃ cap, A.h = .slice (some ⟨A.b, 0, none⟩) m cap ∧ (cells ++ A.tl).length = cap * sz ∧ m ≤ cap ∧ cap ≤ maxLen ∧ St w0 (⟨A.b, (cells ++ A.tl).toArray, e⟩ :: chs ρ α 0 s.hp) (osA a s T) (exs w0 ρ α 0 s.hp ++ ps) W')) → K (a.put o.dst u) W') → o.wp C.P a W K Q := by
    intro hc0 hx0 hfin
    rcases Nat.eq_zero_or_pos m with rfl | hm
    · have hcells : cells = [] := List.eq_nil_of_length_eq_zero (by simpa using hml)
      exact wp_app_nil hop (hx.trans hx0) hyv hSrc (slOf_eq hsl) hsz (hfin ⟨0, .slice none 0 0, []⟩ W _ (fun α' h => by simp only [V.den, h]) fun α' h1 _ _ _ => .inl ⟨rfl, hcells, rfl⟩)
    rw [hc0] at hb1 hb2
    simp only [List.length_nil, Nat.zero_add, hml, Nat.mul_div_cancel _ h0] at hb1 hb2
    refine wp_app_grow (olds := []) hop (hx.trans hx0) rfl (by simp) hyv hSrc (slOf_eq hsl) hsz hz hzs hby (by omega) hbyl (by simpa using hb1) (by simpa using hb2) hI.st fun k cap Z W' _ hS hl hcap hmax => ?_
    simp only [List.nil_append, Nat.zero_add] at hS hl hcap ⊢
    exact hfin ⟨k, .slice (some ⟨k, 0, none⟩) m cap, Z⟩ W' _ (fun α' h => by simp only [V.den, h]) fun α' h1 _ _ _ => .inr ⟨cap, rfl, hl, hcap, hmax, hS⟩
  have hch : ∀ α', denL ρ α' (cc ++ [pc]) = denL ρ α (cc ++ [pc]) → ∀ (A : AV), α' nm = A → (⟨cc ++ [pc], e, .row sz⟩ : Blk).ch ρ α' (0 + nm) = (match A.h with
      | .slice (some _) _ _ => some ⟨A.b, ((denL ρ α cc).flatMap cellsV ++ cells ++ A.tl).toArray, e⟩
      | _ => none) := fun α' h A hA => by
    simp only [Blk.ch, Nat.zero_add, hA, hxsα α' h]
    rfl
  unfold apOld at hold
  split at hold
  · -- nothing
    obtain ⟨rfl, rfl⟩ : [] = cc ∧ none = old := by simpa using hold
    refine fromNil rfl rfl fun A W' u hu hcase => fin_row hI hnm' rfl hw hK A (fun α' h1 h2 h3 h4 => ?_) hu
    rcases hcase α' h1 h2 h3 h4 with ⟨hA, hcells, rfl⟩ | ⟨cap, hA, hl, hcap, hmax, hS⟩
    · refine ⟨?_, h0, .inl ⟨by rw [hxsα α' h3, hcells]; rfl, by rw [h1, hA]⟩⟩
      rw [chs_new0 (k := 0) hnm'.1 (by rw [hch α' h3 A h1, hA]), h4]
      exact hI.st
    refine ⟨St.perm ?_ (chs_new (k := 0) hnm'.1 (e := ⟨A.b, (cells ++ A.tl).toArray, e⟩) (by rw [hch α' h3 A h1, hA]; rfl)), h0, .inr ⟨m, cap, by rw [h1]; exact hA, by rw [hxsα α' h3]; exact hml, by rw [hxsα α' h3, h1]; exact hl, hcap, hmax⟩⟩
    rw [h4]; exact hS
  · -- a row
    rename_i n
    split at hold
    · rename_i c' e' sz' hrow
      split at hold
      · rename_i hes
        obtain ⟨rfl, rfl⟩ := hes
        obtain ⟨rfl, rfl⟩ : c' = cc ∧ some n = old := by simpa using hold
        have hn := rowOfN_eq hrow
        have hne : n ≠ nm := lv_ne (lv_of hn) hnm'.1
        have hset : (s.hp.set nm (some ⟨c' ++ [pc], e', .row sz'⟩)).set n (some tomb) = (s.hp.set n (some tomb)).set nm (some ⟨c' ++ [pc], e', .row sz'⟩) := List.set_comm _ _ (fun h => hne h.symm)
        have hnm2 : (s.hp.set n (some tomb))[nm]? = some none := by rw [List.getElem?_set_ne hne]; exact hnm'.1
        obtain ⟨_, hinfo⟩ := row_info hI hn
        rcases hinfo with ⟨hx0, hh⟩ | ⟨len, cap, hh, hl1, hl2, hlc, hcm, hmem⟩
        · refine fromNil hx0 hh fun A W' u hu hcase => fin_move hI hnm' hw hK A (fun α' h1 h2 h3 h5 h4 => ?_) rfl hu
          have hsame : chs ρ α' 0 (s.hp.set n (some tomb)) = chs ρ α 0 s.hp := by
            obtain ⟨l1, l2, q1, q2⟩ := chs_split (ρ := ρ) (α := α') (k := 0) hn
            rw [← h4, q1, q2]
            have : (⟨c', e', .row sz'⟩ : Blk).ch ρ α' (0 + n) = none := by
              have e5 := h5 n _ hn
              rw [Nat.zero_add, e5]
              simp only [Blk.ch, hh]
            simp only [Option.bind_some, this]
            simp [tomb, Blk.ch]
          rcases hcase α' h1 h2 h3 h4 with ⟨hA, hcells, rfl⟩ | ⟨cap, hA, hl, hcap, hmax, hS⟩
          · refine ⟨?_, h0, .inl ⟨by rw [hxsα α' h3, hcells, hx0]; rfl, by rw [h1, hA]⟩⟩
            rw [hset, chs_new0 (k := 0) hnm2 (by rw [hch α' h3 A h1, hA]), hsame]
            exact hI.st
          refine ⟨?_, h0, .inr ⟨m, cap, by rw [h1]; exact hA, by rw [hxsα α' h3, hx0]; exact hml, by rw [hxsα α' h3, h1, hx0]; exact hl, hcap, hmax⟩⟩
          rw [hset]
          refine St.perm ?_ (chs_new (k := 0) hnm2 (e := ⟨A.b, (cells ++ A.tl).toArray, e'⟩) (by rw [hch α' h3 A h1, hA, hx0]; rfl))
          rw [hsame]; exact hS
        have hxv : a.eval xo = .slice (some ⟨(α n).b, 0, none⟩) len cap := hx.trans hh
        rw [hl1, hml, ← Nat.add_mul, Nat.mul_div_cancel _ h0] at hb1 hb2
        obtain ⟨l1, l2, q1, q2⟩ := chs_split (ρ := ρ) (α := α) (k := 0) hn
        have hchn : (⟨c', e', .row sz'⟩ : Blk).ch ρ α (0 + n) = some ⟨(α n).b, ((denL ρ α c').flatMap cellsV ++ (α n).tl).toArray, e'⟩ := by
          simp only [Blk.ch, Nat.zero_add, hh]; rfl
        have hq1 : chs ρ α 0 s.hp = l1 ++ (⟨(α n).b, ((denL ρ α c').flatMap cellsV ++ (α n).tl).toArray, e'⟩ :: l2) := by
          rw [q1]
          simp only [Option.bind_some, hchn, Option.toList_some, List.cons_append, List.nil_append]
        have hrest : ∀ α', (∀ (m : Nat) (c : Blk), s.hp[m]? = some (some c) → c.ch ρ α' m = c.ch ρ α m) → chs ρ α' 0 s.hp = chs ρ α 0 s.hp → chs ρ α' 0 (s.hp.set n (some tomb)) = l1 ++ l2 := by
          intro α' h5 h4
          have e1 : chs ρ α 0 (s.hp.set n (some tomb)) = l1 ++ l2 := by
            rw [q2]; simp [tomb, Blk.ch]
          rw [← e1]
          refine chs_same fun k b hb => ?_
          rcases set_cases hb with ⟨rfl, rfl⟩ | ⟨_, hb⟩
          · simp [tomb, Blk.ch]
          simpa using h5 k b hb
        by_cases hroom : len + m ≤ cap
        · have hlen3 : cells.length ≤ (α n).tl.length := by
            have : len * sz' + m * sz' ≤ cap * sz' := by rw [← Nat.add_mul]; exact Nat.mul_le_mul_right _ hroom
            rw [List.length_append, hl1] at hl2
            omega
          have hsp : splice ((denL ρ α c').flatMap cellsV ++ (α n).tl).toArray (len * sz') cells.toArray = ((denL ρ α c').flatMap cellsV ++ cells ++ (α n).tl.drop cells.length).toArray := by
            rw [← hl1]; exact splice_end hlen3
          have hS0 := hI.st
          rw [hq1] at hS0
          refine wp_app_room hop hxv hyv hSrc (slOf_eq hsl) hsz hroom hS0 (upd_mid l2 l1) ?_ fun W' hS => ?_
          · simp only [List.size_toArray, hl2, ← Nat.add_mul]
            exact Nat.mul_le_mul_right _ hroom
          refine fin_move hI hnm' hw hK ⟨(α n).b, .slice (some ⟨(α n).b, 0, none⟩) (len + m) cap, (α n).tl.drop cells.length⟩ (fun α' h1 h2 h3 h5 h4 => ⟨?_, h0, .inr ⟨len + m, cap, by rw [h1], ?_, ?_, hroom, hcm⟩⟩) rfl fun α' h1 => by simp only [V.den, h1]
          · rw [hset]
            refine St.perm ?_ (chs_new (k := 0) hnm2 (e := ⟨(α n).b, ((denL ρ α c').flatMap cellsV ++ cells ++ (α n).tl.drop cells.length).toArray, e'⟩) (by rw [hch α' h3 _ h1]))
            rw [hrest α' h5 h4, ← hsp]
            exact hS.perm List.perm_middle
          · rw [hxsα α' h3, List.length_append, hl1, hml, Nat.add_mul]
          rw [hxsα α' h3, h1]
          simp only [List.length_append, List.length_drop] at hl2 ⊢
          omega
        have holdc : (Builtin.firstCells sz' len (.slice (some ⟨(α n).b, 0, none⟩) len cap)).run C.P W.drew = .ok ((denL ρ α c').flatMap cellsV).toArray W.drew := by
          refine run_firstCells_some W.drew sz' len _ len cap _ hl1 fun j u hu => ?_
          have hrd2 := row_rd hI hn
          rw [hh] at hrd2
          replace hrd2 := hrd2.1
          obtain ⟨ad', e2, hcl⟩ := Rd.in hrd2 (List.getElem?_eq_some_iff.1 hu).1
          cases e2
          have := hcl j u hu
          simpa using this
        refine wp_app_grow hop hxv holdc hl1 hyv hSrc (slOf_eq hsl) hsz hz hzs hby (by omega) hbyl hb1 hb2 hI.st fun k cap' Z W' _ hS hl hcap hmax => ?_
        refine fin_move hI hnm' hw hK ⟨k, .slice (some ⟨k, 0, none⟩) (len + m) cap', Z⟩ (fun α' h1 h2 h3 h5 h4 => ⟨?_, h0, .inr ⟨len + m, cap', by rw [h1], ?_, ?_, hcap, hmax⟩⟩) rfl fun α' h1 => by simp only [V.den, h1]
        · rw [hset]
          refine St.perm ?_ (chs_new (k := 0) hnm2 (e := ⟨k, ((denL ρ α c').flatMap cellsV ++ cells ++ Z).toArray, e'⟩) (by rw [hch α' h3 _ h1]))
          rw [hrest α' h5 h4]
          rw [hq1] at hS
          exact hS.weak (.cons_cons _ (sub_mid _ _ _)) (.refl _) fun _ h => h
        · rw [hxsα α' h3, List.length_append, hl1, hml, Nat.add_mul]
        rw [hxsα α' h3, h1]; exact hl
      cases hold
    cases hold
  cases hold
theorem app_ok {sh0 : List Sh} {t : TypeId} {xo yo : Operand} {x y : V} {vs : List V} {q : Opq} {args : List V} {sh : Sh} {mk : Option V} {new : Option Blk} {wr : Option (Nat × Blk)} {v : Value} (hop : o.op = .call { callee := .builtin .append, args := #[xo, yo], argTypes := #[t, t] }) (hx : a.eval xo = x.den ρ α) (hy : a.eval yo = y.den ρ α) (hap : planAp C (blks s.hp vs) nm sh0.length t x y = .df q args sh mk new wr)
    (hC : C.Ok) (hps : Ctx C w0 ps) (hI : InvA w0 ps T ρ s a W α) (hv : ρ[sh0.length]? = some v) (hrel : q.rel C ρ α args v) (hnm : new = none ∨ freeIn s nm) (hw : effWf s nm (resV sh0.length sh mk) new wr = true) (hK : ∀ a' W', Inv w0 ps T ρ (s.eff nm o.dst (resV sh0.length sh mk) new wr) a' W' → K a' W') : o.wp C.P a W K Q := by
  have hKf : Kf C W := hI.fact hps.1
  unfold planAp at hap
  split at hap
  case h_2 => cases hap
  rename_i e hsl
  split at hap
  case h_2 => cases hap
  rename_i sz by' z hsz hby hz
  split at hap
  case h_2 => cases hap
  rename_i cc old src hold hsrc
  split at hap
  case isFalse => cases hap
  rename_i hc
  obtain ⟨h0, hzs, hbyl⟩ := hc
  cases hap
  have hnm' : freeIn s nm := hnm.resolve_left nofun
  obtain ⟨xa, hargs, hxsz, hone, hb1, hb2, rfl⟩ := (hrel : ∃ x, argsOk C ρ α [src] [y] [x] ∧ x.sz = sz ∧ srcOk x ∧ ((cellsV ((V.cat cc).den ρ α)).length + x.cells.length) / sz * by' ≤ 140737488355328 ∧ ((cellsV ((V.cat cc).den ρ α)).length + x.cells.length) / sz ≤ 140737488355328 ∧ v = .agg x.cells.toArray)
  obtain ⟨hv1, hrd⟩ := rw_args hI hKf hsrc hargs
  have hyv : a.eval yo = xa.v := by rw [hy]; simpa [denL] using hv1.symm
  have hxrd := hrd xa (by simp)
  simp only [V.den, cellsV] at hb1 hb2
  obtain ⟨m, hSrc, hml⟩ := src_of (C := C) (t := t) (slOf_eq hsl) h0 hxsz hxrd hone
  have hpc : (srcPc C.stc sh0.length src).den ρ α = .agg xa.cells.toArray := by
    have h0 : (V.x sh0.length []).den ρ α = .agg xa.cells.toArray := by simp [V.den, List.getD_eq_getElem?_getD, hv]
    unfold srcPc
    split
    · rename_i sz9 cs
      split
      · have h9 := hargs.1
        rw [h9]
        simp only [V.den]
      exact h0
    exact h0
  exact app_gen hop hx hyv hSrc hml hsl hsz hby hz hold h0 hzs hbyl hpc (by simpa using hb1) (by simpa using hb2) hI hnm' hw hK
theorem Frs.up {w0 : Org} {h : Value} {B : Nat} (hf : FrsB B h) (hB : w0.w.heap.size ≤ B) : Frs w0 h := fun ad n c e hn => Nat.le_trans hB (hf ad n c e hn)
theorem rd_empty {W : World} {A : Option Addr} {c sz : Nat} : Arg.rd W ⟨.slice A 0 c, sz, []⟩ := ⟨⟨by simp, fun h => absurd h (by omega)⟩, Nat.zero_le _⟩
theorem rd_pers {W W2 : World} {ids : List Nat} {hdr : Value} {sz B : Nat} {cells : List Value} (h : Arg.rd W ⟨hdr, sz, cells⟩) (hs : Same ids W W2) (hf : FrsB B hdr) (hids : ∀ b ∈ ids, b < B) : Arg.rd W2 ⟨hdr, sz, cells⟩ := by
  unfold Arg.rd at h ⊢
  dsimp only at h ⊢
  split
  · rename_i A n c
    obtain ⟨h, hnc⟩ := h
    refine ⟨⟨h.1, fun h0 => ?_⟩, hnc⟩
    obtain ⟨ad, rfl, hb, hc⟩ := h.2 h0
    have hB := hf ad n c rfl h0
    exact ((Rd.same (A := some ad) h hs fun ad' e hm => by
      cases e
      have := hids _ hm
      omega).2 h0)
  rename_i hne
  split at h
  · rename_i A n c
    exact (hne A n c rfl).elim
  exact h
theorem sub_rd {W : World} {A : Option Addr} {L cap l h sz : Nat} {xs : List Value} (hr : Arg.rd W ⟨.slice A L cap, sz, xs⟩) (h1 : l ≤ h) (h2 : h ≤ L) (h3 : L ≤ cap) : Arg.rd W ⟨.slice (if cap = l then A else A.map (·.add (l * sz))) (h - l) (cap - l), sz, (xs.drop (l * sz)).take ((h - l) * sz)⟩ := by
  have hr : Rd W sz A L xs := hr.1
  have := (hr.take h2).cut (k := l) (cap := cap) h1 (by omega)
  refine ⟨?_, by omega⟩
  show Rd W sz _ _ _
  rw [List.drop_take, ← Nat.sub_mul] at this
  exact this
theorem sub_frs {B : Nat} {A : Option Addr} {L cap l h c sz : Nat} (hf : FrsB B (.slice A L cap)) (h1 : l ≤ h) (h2 : h ≤ L) : FrsB B (.slice (if cap = l then A else A.map (·.add (l * sz))) (h - l) c) := by
  intro ad n c' e hn
  injection e with e1 e2 e3
  subst e2
  split at e1
  · exact hf ad L cap (by rw [e1]) (by omega)
  cases A with
  | none => cases e1
  | some ad' =>
    simp only [Option.map_some, Option.some.injEq] at e1
    subst e1
    rw [block_of_add]
    exact hf ad' L cap rfl (by omega)
theorem boundsV_cap {L cap l h m : Nat} {lo hi : Option Value} (hb : boundsV L L lo hi none = some (l, h, m)) (hc : L ≤ cap) : boundsV L cap lo hi none = some (l, h, cap) ∧ l ≤ h ∧ h ≤ L := by
  unfold boundsV at hb ⊢
  simp only [Option.bind_some] at hb ⊢
  have bnd : ∀ {y : Nat} {v : Value} {k : Nat}, bndV y v = some k → k ≤ y ∧ ∀ y', y ≤ y' → bndV y' v = some k := fun {y v k} hk => by
    unfold bndV at hk
    split at hk
    · rename_i kk i
      split at hk
      · rename_i hi
        simp only [Option.some.injEq] at hk
        subst hk
        refine ⟨by omega, fun y' hy => ?_⟩
        unfold bndV
        dsimp only
        rw [if_pos ⟨hi.1, by omega⟩]
      cases hk
    cases hk
  cases hi with
  | none =>
    simp only [Option.bind_some] at hb ⊢
    cases lo with
    | none =>
      simp only [Option.bind_some, Option.some.injEq, Prod.mk.injEq] at hb ⊢
      obtain ⟨rfl, rfl, rfl⟩ := hb
      exact ⟨⟨rfl, rfl, trivial⟩, Nat.zero_le _, Nat.le_refl _⟩
    | some v =>
      cases hv : bndV L v with
      | none => simp [hv] at hb
      | some k =>
        simp only [hv, Option.bind_some, Option.some.injEq, Prod.mk.injEq] at hb ⊢
        obtain ⟨rfl, rfl, rfl⟩ := hb
        exact ⟨⟨rfl, rfl, trivial⟩, (bnd hv).1, Nat.le_refl _⟩
  | some u =>
    cases hu : bndV L u with
    | none => simp [hu] at hb
    | some q =>
      have h2 := (bnd hu).2 cap hc
      simp only [hu, h2, Option.bind_some] at hb ⊢
      cases lo with
      | none =>
        simp only [Option.bind_some, Option.some.injEq, Prod.mk.injEq] at hb ⊢
        obtain ⟨rfl, rfl, rfl⟩ := hb
        exact ⟨⟨rfl, rfl, trivial⟩, Nat.zero_le _, (bnd hu).1⟩
      | some v =>
        cases hv : bndV q v with
        | none => simp [hv] at hb
        | some k =>
          simp only [hv, Option.bind_some, Option.some.injEq, Prod.mk.injEq] at hb ⊢
          obtain ⟨rfl, rfl, rfl⟩ := hb
          exact ⟨⟨rfl, rfl, trivial⟩, (bnd hv).1, (bnd hu).1⟩
theorem slcx_ok {sh0 : List Sh} {t : TypeId} {xo : Operand} {lo hi mx : Option Operand} {n : Nat} {as' : List V} {q : Opq} {args : List V} {sh : Sh} {mk : Option V} {new : Option Blk} {wr : Option (Nat × Blk)} {v : Value} (hop : o.op = .slice t xo lo hi mx) (he : o.op.operands.toList.map a.eval = denL ρ α (.row n :: as')) {bs : List (Nat × Option Blk)} (hbs : ∃ hp, bs = blks hp (.row n :: as') ∧ ∀ (c : List V) (sz : Nat) (e : TypeId), hp[n]? = some (some ⟨c, e, .ext sz⟩) → s.hp[n]? = some (some ⟨c, e, .ext sz⟩))
    (hpl : planSx C bs nm sh0.length t lo.isSome hi.isSome mx.isSome n as' = .df q args sh mk new wr) (hI : InvA w0 ps T ρ s a W α) (hv : ρ[sh0.length]? = some v) (hrel : q.rel C ρ α args v) (hnm : new = none ∨ freeIn s nm) (hw : effWf s nm (resV sh0.length sh mk) new wr = true) (hK : ∀ a' W', Inv w0 ps T ρ (s.eff nm o.dst (resV sh0.length sh mk) new wr) a' W' → K a' W') : o.wp C.P a W K Q := by
  unfold planSx at hpl
  split at hpl
  case h_2 => cases hpl
  rename_i c sz hex
  split at hpl
  case isFalse => cases hpl
  rename_i hc
  obtain ⟨hmx, hsz⟩ := hc
  cases hpl
  have hnm' : freeIn s nm := hnm.resolve_left nofun
  obtain ⟨hp, rfl, hsame⟩ := hbs
  obtain ⟨e, hn0⟩ := extOfN_eq hex
  have hn := hsame _ _ _ hn0
  obtain ⟨l, h, m, lo', hi', hopt, hbd, rfl⟩ := hrel
  simp only [V.den, cellsV] at hbd hv
  obtain ⟨_, h0, A, L, cap, g1, g2, g3, g4⟩ := hI.rows n _ hn
  have g2 : ((denL ρ α c).flatMap cellsV).length = L * sz := g2
  rw [g2, Nat.mul_div_cancel _ h0] at hbd
  obtain ⟨hb2, hlh, hhL⟩ := boundsV_cap hbd g3
  have hslc : slcV false sz lo.isSome hi.isSome mx.isSome (denL ρ α (.row n :: as')) = some (.slice (if cap = l then A else A.map (·.add (l * sz))) (h - l) (cap - l)) := by
    simp only [denL, V.den, slcV, g1, hmx, hopt, Option.bind_some, hb2, Option.map_some]
  rw [hop] at he
  obtain ⟨x, r, hx, ho, hr⟩ := slc_ops he hslc
  obtain ⟨A', L', cap', l1, h1, m1, rfl, hb3, heq⟩ := slc_sl hr
  obtain ⟨et, he1, he2⟩ := Option.bind_eq_some_iff.1 hsz
  refine wp_val (run_slSl hop hx (slOf_eq he1) he2 ho hb3) ?_
  rw [← heq]
  have hfact := ext_fact hI hn
  have hxs : (⟨[.x sh0.length []], 0, .ext sz⟩ : Blk).xs ρ α = (((denL ρ α c).flatMap cellsV).drop (l * sz)).take ((h - l) * sz) := by
    simp [Blk.xs, denL, V.den, List.getD_eq_getElem?_getD, hv, cellsV]
  refine fin_ext (b := ⟨[.x sh0.length []], 0, .ext sz⟩) hI hnm' rfl hw hK ⟨0, .slice (if cap = l then A else A.map (·.add (l * sz))) (h - l) (cap - l), []⟩ hI.st h0 ⟨_, _, _, rfl, ?_, by omega, fun hlt => ?_⟩ (fun W2 hW2 => ?_) fun α' h1 _ => by simp only [resV, Option.getD_some, V.den, h1]
  · rw [hxs, List.length_take, List.length_drop, g2, ← Nat.sub_mul]
    exact Nat.min_eq_left (Nat.mul_le_mul_right _ (by omega))
  · have := g4 (by omega)
    split
    · exact this
    cases A with
    | none => exact this
    | some _ => rfl
  rw [hxs]
  obtain ⟨f1, f2⟩ := hfact W2 hW2
  rw [g1] at f1 f2
  exact ⟨sub_rd f1 hlh hhL g3, f2.imp (fun hf => sub_frs hf hlh hhL) fun hf => ⟨fun W3 h3 => sub_rd (hf.1 W3 h3) hlh hhL g3, fun B hB => sub_frs (hf.2 B hB) hlh hhL⟩⟩
theorem appx_ok {sh0 : List Sh} {t : TypeId} {xo yo : Operand} {x y : V} {vs : List V} {fr : Bool} {q : Opq} {args : List V} {sh : Sh} {mk : Option V} {new : Option Blk} {wr : Option (Nat × Blk)} {v : Value} (hop : o.op = .call { callee := .builtin .append, args := #[xo, yo], argTypes := #[t, t] }) (hx : a.eval xo = x.den ρ α) (hy : a.eval yo = y.den ρ α) (hap : planAx C (blks s.hp vs) nm sh0.length fr t x y = .df q args sh mk new wr)
    (hps : Ctx C w0 ps) (hI : InvA w0 ps T ρ s a W α) (hv : ρ[sh0.length]? = some v) (hrel : q.rel C ρ α args v) (hnm : new = none ∨ freeIn s nm) (hw : effWf s nm (resV sh0.length sh mk) new wr = true) (hK : ∀ a' W', Inv w0 ps T ρ (s.eff nm o.dst (resV sh0.length sh mk) new wr) a' W' → K a' W') : o.wp C.P a W K Q := by
  have hKf : Kf C W := hI.fact hps.1
  obtain ⟨e, sz, by', z, src, hsl, hsz, hby, hz, hsrc, h0, hzs, hbyl, rfl, rfl, rfl, rfl, rfl, rfl⟩ := planAx_new hap
  have hnm' : freeIn s nm := hnm.resolve_left nofun
  obtain ⟨cells, xa, A, n, hxv, hKc, hA, hone0, hargs, hxsz, hone, hfr, hb1, hb2, rfl⟩ := hrel
  obtain ⟨hv1, hrd⟩ := rw_args hI hKf hsrc hargs
  have hyv : a.eval yo = xa.v := by rw [hy]; simpa [denL] using hv1.symm
  have hxrd := hrd xa (by simp)
  have hRd : Rd W sz A n cells := by have := hKf _ _ _ hKc; rw [hxv] at this; exact this.1
  have hcl : cells.length = n * sz := hRd.1
  have hxe : a.eval xo = .slice A n n := hx.trans hxv
  have hres : resV sh0.length Sh.any (some (V.row nm)) = .row nm := rfl
  rw [hres] at hw hK
  obtain ⟨m, hSrc, hml⟩ := src_of (C := C) (t := t) (slOf_eq hsl) h0 hxsz hxrd hone
  have hd : ∀ α' : Nat → AV, denL ρ α' [V.x sh0.length []] = [.agg (cells ++ xa.cells).toArray] := fun α' => by simp [denL, V.den, List.getD_eq_getElem?_getD, hv]
  have hxs : ∀ (k : BK) (α' : Nat → AV), (⟨[.x sh0.length []], e, k⟩ : Blk).xs ρ α' = cells ++ xa.cells := fun k α' => by simp [Blk.xs, hd α', cellsV]
  have hsome : 0 < n → A.isSome = true := fun hn => by
    obtain ⟨ad, rfl, _⟩ := hRd.2 hn
    rfl
  rcases Nat.eq_zero_or_pos m with rfl | hm
  · -- nothing is appended
    have hcells : xa.cells = [] := List.eq_nil_of_length_eq_zero (by simpa using hml)
    have hfr' : fr = false := by
      cases fr with
      | false => rfl
      | true => exact absurd hcells (hfr rfl)
    subst hfr'
    have hdone : K (a.put o.dst (.slice A n n)) W := by
      refine fin_ext (b := ⟨[.x sh0.length []], e, .ext sz⟩) hI hnm' rfl hw hK ⟨0, .slice A n n, []⟩ hI.st h0 ⟨_, _, _, rfl, by rw [hxs, hcells]; simpa using hcl, Nat.le_refl _, hsome⟩ (fun W2 hW2 => ?_) fun α' h1 _ => by simp only [V.den, h1]
      rw [hxs, hcells, List.append_nil]
      have hK2 : Kf C W2 := hI.st.pers _ (List.mem_append.2 (.inr hps.1)) W2 hW2
      refine ⟨?_, .inr ⟨fun W3 h3 => ?_, fun B hB => ?_⟩⟩
      · have := hK2 _ _ _ hKc; rw [hxv] at this; exact this
      · have := hps.2.1 W3 h3 _ _ _ (hA rfl); rw [hxv] at this; exact this
      · have := hps.2.2 B hB _ _ _ (hA rfl); rw [hxv] at this; exact this
    cases A with
    | some ad => exact wp_app_zero hop hxe (Nat.le_refl _) hyv hSrc (slOf_eq hsl) hsz hdone
    | none =>
      have hn0 : n = 0 := by
        rcases Nat.eq_zero_or_pos n with h | h
        · exact h
        exact absurd (hsome h) (by simp)
      subst hn0
      exact wp_app_nil hop hxe hyv hSrc (slOf_eq hsl) hsz hdone
  -- something is
  have hold : (Builtin.firstCells sz n (.slice A n n)).run C.P W.drew = .ok cells.toArray W.drew := by
    cases A with
    | some ad =>
      refine run_firstCells_some W.drew sz n ad n n _ hcl fun j u hu => ?_
      obtain ⟨ad', e2, hcl2⟩ := Rd.in hRd (List.getElem?_eq_some_iff.1 hu).1
      cases e2
      exact hcl2 j u hu
    | none =>
      have hn0 : n = 0 := by
        rcases Nat.eq_zero_or_pos n with h | h
        · exact h
        exact absurd (hsome h) (by simp)
      subst hn0
      have : cells = [] := List.eq_nil_of_length_eq_zero (by simpa using hcl)
      subst this
      rfl
  rw [hcl, hml, ← Nat.add_mul, Nat.mul_div_cancel _ h0] at hb1 hb2
  refine wp_app_grow (olds := cells) hop hxe hold hcl hyv hSrc (slOf_eq hsl) hsz hz hzs hby (by omega) hbyl hb1 hb2 hI.st fun k cap Z W' hk hS hl hcap hmax => ?_
  have hlen : (cells ++ xa.cells).length = (n + m) * sz := by rw [List.length_append, hcl, hml, Nat.add_mul]
  cases fr with
  | true =>
    refine fin_row (b := ⟨[.x sh0.length []], e, .row sz⟩) hI hnm' rfl hw hK ⟨k, .slice (some ⟨k, 0, none⟩) (n + m) cap, Z⟩ (fun α' h1 h2 h3 h4 => ⟨St.perm ?_ (chs_new (k := 0) hnm'.1 (e := ⟨k, (cells ++ xa.cells ++ Z).toArray, e⟩) ?_), h0, .inr ⟨n + m, cap, by rw [h1], by rw [hxs]; exact hlen, by rw [hxs, h1]; exact hl, hcap, hmax⟩⟩) fun α' h1 => by simp only [V.den, h1]
    · rw [h4]; exact hS
    simp only [Blk.ch, Nat.zero_add, h1, hxs]
  | false =>
    refine fin_ext (b := ⟨[.x sh0.length []], e, .ext sz⟩) hI hnm' rfl hw hK ⟨0, .slice (some ⟨k, 0, none⟩) (n + m) cap, []⟩ (hS.weak (List.sublist_cons_self _ _) (.refl _) fun _ h => h) h0 ⟨_, _, _, rfl, by rw [hxs]; exact hlen, hcap, fun _ => rfl⟩ (fun W2 hW2 => ?_) fun α' h1 _ => by simp only [V.den, h1]
    rw [hxs]
    refine ⟨⟨?_, hcap⟩, .inl fun ad n' c' e' _ => ?_⟩
    · have hblk := hS.at_ (List.mem_cons_self ..)
      have hnd := hS.nodup
      have hR : Rd W' sz (some ⟨k, 0, none⟩) (n + m) (cells ++ xa.cells) := Rd.of_blk hblk hlen fun j u hu => by
        rw [Nat.zero_add]
        have : (cells ++ xa.cells ++ Z)[j]? = some u := by rw [List.getElem?_append_left (List.getElem?_eq_some_iff.1 hu).1]; exact hu
        simpa using this
      refine hR.same hW2 fun ad e' hm => ?_
      cases e'
      have : (k :: muts (chs ρ α 0 s.hp) (osA a s T)).Nodup := hnd
      exact (List.nodup_cons.1 this).1 hm
    cases e'
    exact Nat.le_trans hI.st.old.size hk
theorem ali_pers (hI : InvA w0 ps T ρ s a W α) (hps : Ctx C w0 ps) {vv : List V} : ∀ {ts : List TypeId} {vs : List V} {rw : List Rw} {as' : List Arg}, rwOf C.P (blks s.hp vv) ts vs = some rw → argsOk C ρ α rw vs as' → ∀ (j : Nat) (x : Arg), as'[j]? = some x → (∀ sz, rw[j]? = some (.ext sz) → C.A x.v x.sz x.cells) →
    (∃ v, vs[j]? = some v ∧ (match v with | .x _ _ => true | .row n => (extOfN (blks s.hp vv) n).isSome | .k (.slice none 0 _) => true | .sl n _ _ _ => frzOf (blks s.hp vv) n | _ => false) = true) → ∀ W2, Same (muts (chs ρ α 0 s.hp) (osA a s T)) W W2 → exFact w0 x W2
  | [], [], rw, as', h, ha, j, x, hj, _, ⟨v, hv, _⟩, W2, _ => by simp at hv
  | [], _ :: _, rw, as', h, ha, _, _, _, _, _, _, _ => by simp [rwOf] at h
  | _ :: _, [], rw, as', h, ha, _, _, _, _, _, _, _ => by simp [rwOf] at h
  | t :: ts, v :: vs, rw, as', h, ha, j, x, hj, hA, hv, W2, hW2 => by
    unfold rwOf at h
    simp only [Option.bind_eq_some_iff, Option.map_eq_some_iff] at h
    obtain ⟨r, hr, rw', hrw, rfl⟩ := h
    cases as' with
    | nil => simp at hj
    | cons x0 xs =>
    have hK2 : Kf C W2 := hI.st.pers _ (List.mem_append.2 (.inr hps.1)) W2 hW2
    have htl : argsOk C ρ α rw' vs xs := by
      cases r with
      | no => exact ha.2.2
      | own _ _ => exact ha.2
      | ext _ => exact ha.2.2.2
      | row _ _ => exact ha.2
    cases j with
    | succ j => exact ali_pers hI hps hrw htl j x (by simpa using hj) (fun sz hsz => hA sz (by simpa using hsz)) (by simpa using hv) W2 hW2
    | zero =>
      obtain rfl : x0 = x := by simpa using hj
      obtain ⟨v', hv', hok⟩ := hv
      obtain rfl : v = v' := by simpa using hv'
      have noSl : ∀ u : Value, isSl u = false → x0 = ⟨u, 0, []⟩ → exFact w0 x0 W2 := fun u hu hx0 => by
        subst hx0
        have : ∀ W3, Arg.rd W3 ⟨u, 0, []⟩ := fun W3 => by
          unfold Arg.rd
          split
          · rename_i hq
            dsimp only at hq
            rw [hq] at hu
            cases hu
          trivial
        exact ⟨this W2, .inr ⟨fun W3 _ => this W3, fun B _ ad n c e _ => by dsimp only at e; rw [e] at hu; cases hu⟩⟩
      split at hok
      · -- not known
        rename_i i p
        cases hsl : slOf C.P t with
        | none =>
          rw [hsl] at hr
          obtain rfl : Rw.no = r := by simpa using hr
          exact noSl _ ha.2.1 ha.1
        | some e =>
          rw [hsl] at hr
          simp only at hr
          split at hr
          · rename_i sz hsz
            obtain rfl : Rw.ext sz = r := by simpa using hr
            obtain ⟨h1, h2, h3, _⟩ := ha
            have hAx := hA sz rfl
            cases x0
            simp only at h1 h2
            subst h1; subst h2
            exact ⟨hK2 _ _ _ h3, .inr ⟨fun W3 h4 => hps.2.1 W3 h4 _ _ _ hAx, fun B hB => hps.2.2 B hB _ _ _ hAx⟩⟩
          cases hr
      · rename_i n
        obtain ⟨⟨c, sz⟩, hex⟩ := Option.isSome_iff_exists.1 hok
        obtain ⟨e, hn⟩ := extOfN_eq hex
        cases hsl : slOf C.P t with
        | none => rw [hsl] at hr; cases hr
        | some e' =>
          rw [hsl] at hr
          simp only [Option.map_eq_some_iff] at hr
          obtain ⟨⟨c', e2, sz'⟩, hrow, rfl⟩ := hr
          obtain ⟨k, hn', hk⟩ := rdOfN_eq hrow
          rw [hn] at hn'
          simp only [Option.some.injEq, Blk.mk.injEq] at hn'
          obtain ⟨rfl, rfl, rfl⟩ := hn'
          obtain rfl : sz = sz' := by simpa using hk
          obtain ⟨rfl, _⟩ := ha
          exact ext_fact hI hn W2 hW2
      · rename_i cc
        cases hsl : slOf C.P t with
        | none =>
          rw [hsl] at hr
          obtain rfl : Rw.no = r := by simpa using hr
          exact noSl _ ha.2.1 ha.1
        | some e =>
          rw [hsl] at hr
          simp only at hr
          split at hr
          · rename_i sz hsz
            obtain rfl : Rw.own sz [] = r := by simpa using hr
            obtain ⟨rfl, _⟩ := ha
            have : ∀ W3, Arg.rd W3 ⟨.slice none 0 cc, sz, []⟩ := fun W3 => rd_empty
            exact ⟨this W2, .inr ⟨fun W3 _ => this W3, fun B _ ad n c e _ => by simp [V.den] at e⟩⟩
          cases hr
      · rename_i n oo l cc
        obtain ⟨b0, hn0, hk0⟩ := frzOf_eq hok
        cases hsl : slOf C.P t with
        | none => rw [hsl] at hr; cases hr
        | some e =>
          rw [hsl] at hr
          simp only at hr
          split at hr
          · rename_i sz b hsz hb
            split at hr
            · rename_i hlt
              obtain rfl : Rw.own sz ((b.c.drop oo).take (l * sz)) = r := by simpa using hr
              obtain ⟨rfl, _⟩ := ha
              obtain ⟨hn1, _⟩ := rdcOf_eq hb
              rw [hn0] at hn1
              simp only [Option.some.injEq] at hn1
              subst hn1
              obtain ⟨hf1, hf2⟩ := hI.frz hn0 hk0 W2 hW2
              refine ⟨⟨?_, hlt.2⟩, .inl fun ad len cap e _ => ?_⟩
              · show Rd W2 sz (some ⟨(α n).b, oo, none⟩) l (denL ρ α ((b0.c.drop oo).take (l * sz)))
                exact Rd.of_part hf1 (by rw [denL_drop]) (by rw [denL_drop]; simp [denL_len]; omega)
              simp only [V.den] at e
              cases e
              exact hf2
            cases hr
          cases hr
      cases hok
theorem callx_ok {sh0 : List Sh} {c : Go.Call} {f : Operand} {g : FuncId} {args' : List V} {q : Opq} {args : List V} {sh : Sh} {mk : Option V} {new : Option Blk} {wr : Option (Nat × Blk)} {v : Value} {vv : List V} (hop : o.op = .call c) (hcal : c.callee = .value f) (he : o.op.operands.toList.map a.eval = denL ρ α (.f (.func g) [] [] :: args')) (hpl : planCl C (blks s.hp vv) nm sh0.length g c.argTypes.toList args' = .df q args sh mk new wr) (hnew : ¬ (new = none ∧ wr = none))
    (hC : C.Ok) (hps : Ctx C w0 ps) (hI : InvA w0 ps T ρ s a W α) (hv : ρ[sh0.length]? = some v) (hrel : q.rel C ρ α args v) (hfit : sh.fit v = true) (hnm : new = none ∨ freeIn s nm) (hw : effWf s nm (resV sh0.length sh mk) new wr = true) (hK : ∀ a' W', Inv w0 ps T ρ (s.eff nm o.dst (resV sh0.length sh mk) new wr) a' W' → K a' W') : o.wp C.P a W K Q := by
  have hKf : Kf C W := hI.fact hps.1
  unfold planCl at hpl
  split at hpl
  case h_2 => cases hpl
  rename_i sh' rw' hsh hrw hen
  split at hpl
  · cases hpl
    exact absurd ⟨rfl, rfl⟩ hnew
  case h_3 => cases hpl
  rename_i p sz hsls
  split at hpl
  case isFalse => cases hpl
  rename_i hc
  obtain ⟨h0, hali⟩ := hc
  cases hpl
  have hnm' : freeIn s nm := hnm.resolve_left nofun
  obtain ⟨K', as', ha, hR, hK', hArel⟩ := cl_ok hI hKf hrw hrel
  obtain ⟨h5, h6⟩ := rw_args hI hKf hrw ha
  have hcall := hC.r K' g as' v W hR h6 hK'
  rw [h5] at hcall
  have hshg : C.sh g = sh := by unfold Cx.sh; rw [hsh]; rfl
  rw [hshg, hsls] at hcall
  rw [hop] at he
  simp only [Op.operands, Call.operands, hcal, denL, V.den] at he
  simp at he
  obtain ⟨h7, h8⟩ := he
  obtain ⟨cal, ar, at'⟩ := c
  simp only at hcal h8 hrw
  subst hcal
  have hres : resV sh0.length sh (some (sh.expN nm sh0.length [])) = sh.expN nm sh0.length [] := rfl
  rw [hres] at hw hK
  refine wp_callF hop h7 (vs := (denL ρ α args').toArray) ?_ (enters_run hen _ _) (R := fun u W' => Below W.heap.size W W' ∧ ∃ hdr, u = sh.fill hdr v ∧ HdrOk C g as' W W' hdr sz (cellsV (p.foldl comp v))) (hcall.mono fun e W' ⟨hb, hdr, he, hh⟩ => ⟨_, he, hb, hdr, rfl, hh p sz (List.mem_cons_self ..)⟩) ?_
  · exact Array.ext' (by simpa using h8)
  rintro u W' ⟨hb, hdr, rfl, ⟨A, len, cap, rfl, hlc⟩, hrd, hprov⟩
  have hxs : (⟨[.x sh0.length p], 0, .ext sz⟩ : Blk).xs ρ α = cellsV (p.foldl comp v) := by
    simp [Blk.xs, denL, V.den, List.getD_eq_getElem?_getD, hv]
  have hrd' : Rd W' sz A len (cellsV (p.foldl comp v)) := hrd.1
  refine fin_ext (b := ⟨[.x sh0.length p], 0, .ext sz⟩) hI hnm' rfl hw hK ⟨0, .slice A len cap, []⟩ (hI.step hb).st h0 ⟨_, _, _, rfl, by rw [hxs]; exact hrd'.1, hlc, fun hl => ?_⟩ (fun W2 hW2 => ?_) fun α' h1 _ => ?_
  · obtain ⟨ad, rfl, _⟩ := hrd'.2 hl
    rfl
  · rw [hxs]
    rcases hprov with hf | ⟨j, hj, x, hx, hr2, hf2⟩
    · exact ⟨rd_pers hrd hW2 hf fun b hm => (hI.st.mut_lt hm).2, .inl (Frs.up hf hI.st.old.size)⟩
    have hW : Same (muts (chs ρ α 0 s.hp) (osA a s T)) W W2 := (Same.below hb).trans hW2
    have hok := List.all_eq_true.1 hali j hj
    have hvj : ∃ v, args'[j]? = some v := by
      cases hq : args'[j]? with
      | none => rw [hq] at hok; cases hok
      | some v => exact ⟨v, rfl⟩
    obtain ⟨vj, hvj⟩ := hvj
    rw [hvj] at hok
    have hx2 := ali_pers hI hps hrw ha j x hx (fun sz' hsz' => hArel j hj x sz' hx hsz') ⟨vj, hvj, by
      revert hok
      cases vj with
      | k u => cases u with
        | slice A n c => cases A <;> (try cases n) <;> exact id
        | _ => exact id
      | _ => exact id⟩ W2 hW
    exact ⟨hr2 W2 hx2.1, hx2.2.imp (fun h => hf2 _ h) fun h => ⟨fun W3 h3 => hr2 W3 (h.1 W3 h3), fun B hB => hf2 B (h.2 B hB)⟩⟩
  rw [expN_den ρ α' nm sh0.length sh [] v (by simp [List.getD_eq_getElem?_getD, hv]) hfit, h1]
theorem _root_.Go.Proofs.YtbbofkpolcjmgaaDoor.St.wrote {w0 : Org} {W W' : World} {hs hs' : List Ch} {os : List Ow} {ps : List (World → Prop)} (h : St w0 hs os ps W) {k : Nat} {c c' : Array Value} {t : TypeId} (hu : Upd k c t c' hs hs') (hos : W'.os = W.os) (htp : W'.tape = W.tape) (hout : W'.output = W.output) (hsm : Same [k] W W') (hk : W'.heap[k]? = some (.cells c' t (0, 0))) : St w0 hs' os ps W' := by
  have hids := hu.ids
  have hm : muts hs' os = muts hs os := by unfold muts; rw [hids]
  have hnd := List.nodup_append.1 h.nodup
  have hmem := hu.mem
  have hkm : k ∈ muts hs os := List.mem_append.2 (.inl (List.mem_map.2 ⟨_, hmem, rfl⟩))
  have hkl := h.mut_lt hkm
  have hoth : ∀ b, b < W.heap.size → b ≠ k → W'.heap[b]? = W.heap[b]? := fun b hb hn => hsm.block b hb (by simpa using hn)
  refine ⟨⟨hos.trans h.old.os, htp.trans h.old.tape, hout.trans h.old.output, Nat.le_trans h.old.size hsm.size, fun b hb hn => ?_⟩, fun e he => ?_, fun e he => ?_, by rw [hm]; exact h.nodup, fun p hp W2 h2 => h.pers p hp W2 ?_⟩
  · rw [hoth b (Nat.lt_of_lt_of_le hb h.old.size) (by rintro rfl; rcases hkl.1 with h1 | h1; · omega
                                                      exact hn h1)]
    exact h.old.block b hb hn
  · rcases hu.of hnd.1 e he with rfl | ⟨h1, h2⟩
    · exact ⟨(h.blk _ hmem).1, hk⟩
    have h3 := h.blk e h1
    exact ⟨h3.1, (hoth _ (Array.getElem?_eq_some_iff.1 h3.2).1 h2).trans h3.2⟩
  · have h3 := h.own e he
    refine ⟨h3.1, (hoth _ (Array.getElem?_eq_some_iff.1 h3.2).1 ?_).trans h3.2⟩
    rintro rfl
    exact hnd.2.2 _ (List.mem_map.2 ⟨_, hmem, rfl⟩) _ (List.mem_flatMap.2 ⟨e, he, by simp [Ow.blk]⟩) rfl
  rw [hm] at h2
  exact Same.trans (ids := muts hs os) ⟨hsm.size, fun b hb hn => hoth b hb fun e => hn (e ▸ hkm)⟩ h2
theorem capsOf_eq {hp : List (Option Blk)} {vv : List V} : ∀ {cap : List V} {cs : List (Nat × Blk)}, capsOf (blks hp vv) cap = some cs → cap = cs.map (fun e => V.p e.1 0) ∧ ∀ e ∈ cs, hp[e.1]? = some (some e.2) ∧ e.2.k = .cells
  | [], cs, h => by
    obtain rfl : [] = cs := by simpa [capsOf] using h
    exact ⟨rfl, fun _ h => nomatch h⟩
  | v :: l, cs, h => by
    unfold capsOf at h
    split at h
    · rename_i hq; cases hq
    · rename_i n l' hq
      cases hq
      split at h
      · rename_i b hb
        simp only [Option.map_eq_some_iff] at h
        obtain ⟨cs', h1, rfl⟩ := h
        obtain ⟨h2, h3⟩ := capsOf_eq h1
        refine ⟨by simp [h2], fun e he => ?_⟩
        rcases List.mem_cons.1 he with rfl | he
        · exact blkOf_eq hb
        exact h3 e he
      cases h
    cases h
theorem chs_ne {ρ : List Value} {α : Nat → AV} {hp : List (Option Blk)} (hn : ((chs ρ α 0 hp).map (·.id)).Nodup) {n1 n2 : Nat} {b1 b2 : Blk} {e1 e2 : Ch} (h : n1 ≠ n2) (h1 : hp[n1]? = some (some b1)) (h2 : b1.ch ρ α n1 = some e1) (h3 : hp[n2]? = some (some b2)) (h4 : b2.ch ρ α n2 = some e2) : e1.id ≠ e2.id := by
  have key : ∀ {hp : List (Option Blk)} {k : Nat}, ((chs ρ α k hp).map (·.id)).Nodup → ∀ {n1 n2 : Nat} {b1 b2 : Blk} {e1 e2 : Ch}, n1 < n2 → hp[n1]? = some (some b1) → b1.ch ρ α (k + n1) = some e1 → hp[n2]? = some (some b2) → b2.ch ρ α (k + n2) = some e2 → e1.id ≠ e2.id := by
    intro hp
    induction hp with
    | nil => intro k _ n1 n2 b1 b2 e1 e2 _ h1; simp at h1
    | cons o l ih =>
      intro k hn n1 n2 b1 b2 e1 e2 hlt h1 h2 h3 h4
      have hl : ((chs ρ α (k + 1) l).map (·.id)).Nodup := by
        cases o with
        | none => simpa [chs] using hn
        | some b =>
          unfold chs at hn
          rw [List.map_append] at hn
          exact (List.nodup_append.1 hn).2.1
      cases n2 with
      | zero => omega
      | succ n2 =>
        cases n1 with
        | zero =>
          obtain rfl : o = some b1 := by simpa using h1
          rw [Nat.add_zero] at h2
          have hm : e2 ∈ chs ρ α (k + 1) l := chs_mem (by simpa using h3) (by rwa [show k + 1 + n2 = k + (n2 + 1) by omega])
          unfold chs at hn
          simp only [h2, Option.toList_some, List.cons_append, List.nil_append, List.map_cons] at hn
          intro he
          exact (List.nodup_cons.1 hn).1 (he ▸ List.mem_map.2 ⟨e2, hm, rfl⟩)
        | succ n1 =>
          exact ih hl (n1 := n1) (n2 := n2) (b1 := b1) (b2 := b2) (by omega) (by simpa using h1) (by rwa [show k + 1 + n1 = k + (n1 + 1) by omega]) (by simpa using h3) (by rwa [show k + 1 + n2 = k + (n2 + 1) by omega])
  rcases Nat.lt_or_gt_of_ne h with hlt | hlt
  · exact key hn hlt h1 (by rwa [Nat.zero_add]) h3 (by rwa [Nat.zero_add])
  exact (key hn hlt h3 (by rwa [Nat.zero_add]) h1 (by rwa [Nat.zero_add])).symm
theorem rw_pers (hI : InvA w0 ps T ρ s a W α) (hps : Ctx C w0 ps) {vv : List V} {bs ns : List Nat} (hbs : ∀ b ∈ bs, ∃ (m : Nat) (B : Blk) (e : Ch), s.hp[m]? = some (some B) ∧ B.ch ρ α m = some e ∧ b = e.id ∧ m ∈ ns) : ∀ {ts : List TypeId} {vs : List V} {rw : List Rw} {as' : List Arg}, rwOf C.P (blks s.hp vv) ts vs = some rw → argsOk C ρ α rw vs as' → (∀ m ∈ namesV vs, m ∉ ns) → ∀ W2, Same bs W W2 → ∀ x ∈ as', x.rd W2
  | [], [], rw, as', h, ha, _, W2, _ => by
    obtain rfl : [] = rw := by simpa [rwOf] using h
    cases as' with
    | nil => exact fun _ h => nomatch h
    | cons _ _ => exact ha.elim
  | [], _ :: _, rw, as', h, ha, _, _, _ => by simp [rwOf] at h
  | _ :: _, [], rw, as', h, ha, _, _, _ => by simp [rwOf] at h
  | t :: ts, v :: vs, rw, as', h, ha, hn, W2, hW2 => by
    have hndi := (List.nodup_append.1 hI.st.nodup).1
    have hsub : ∀ b0 ∈ bs, b0 ∈ muts (chs ρ α 0 s.hp) (osA a s T) := fun b0 hb0 => by
      obtain ⟨m, B, e, h1, h2, rfl, _⟩ := hbs b0 hb0
      exact List.mem_append.2 (.inl (List.mem_map.2 ⟨_, chs_mem (k := 0) h1 (by rw [Nat.zero_add]; exact h2), rfl⟩))
    have hmu : Same (muts (chs ρ α 0 s.hp) (osA a s T)) W W2 := ⟨hW2.size, fun b0 hb0 hn => hW2.block b0 hb0 fun hm => hn (hsub b0 hm)⟩
    have hne : ∀ (m : Nat) (B : Blk) (e : Ch), m ∈ namesV (v :: vs) → s.hp[m]? = some (some B) → B.ch ρ α m = some e → e.id ∉ bs := fun m B e hm h1 h2 hb => by
      obtain ⟨m2, B2, e2, h3, h4, h5, h6⟩ := hbs _ hb
      have hmm : m ≠ m2 := fun e => hn m hm (e ▸ h6)
      exact chs_ne hndi hmm h1 h2 h3 (e2 := e2) h4 h5
    unfold rwOf at h
    simp only [Option.bind_eq_some_iff, Option.map_eq_some_iff] at h
    obtain ⟨r, hr, rw', hrw, rfl⟩ := h
    have key : ∀ x xs, as' = x :: xs → x.rd W2 → argsOk C ρ α rw' vs xs → ∀ x ∈ as', x.rd W2 := fun x xs h1 h3 h4 => by
      have h6 := rw_pers hI hps hbs hrw h4 (fun m hm => hn m (by simp only [namesV, List.flatMap_cons, List.mem_append]; exact .inr hm)) W2 hW2
      subst h1
      intro y hy
      rcases List.mem_cons.1 hy with rfl | hy
      · exact h3
      exact h6 y hy
    split at hr
    · rename_i n oo l cc e he
      split at hr
      · rename_i sz b hsz hb
        split at hr
        · rename_i hlt
          obtain rfl : Rw.own sz ((b.c.drop oo).take (l * sz)) = r := by simpa using hr
          cases as' with
          | nil => exact ha.elim
          | cons x xs =>
            obtain ⟨rfl, h4⟩ := ha
            refine key _ _ rfl ?_ h4
            have hblk2 : W2.heap[(α n).b]? = some (.cells (denL ρ α b.c).toArray b.t (0, 0)) := by
              obtain ⟨hbn, hbk⟩ := rdcOf_eq hb
              rcases hbk with hbk | hbk
              · have hblk := hI.st.at_ (hI.blk hbn hbk)
                have hnb := hne n b ⟨(α n).b, (denL ρ α b.c).toArray, b.t⟩ (by simp [namesV, names1]) hbn (by simp only [Blk.ch, hbk])
                exact (hW2.block _ (Array.getElem?_eq_some_iff.1 hblk).1 hnb).trans hblk
              exact (hI.frz hbn hbk W2 hmu).1
            refine ⟨?_, hlt.2⟩
            show Rd W2 sz (some ⟨(α n).b, oo, none⟩) l (denL ρ α ((b.c.drop oo).take (l * sz)))
            exact Rd.of_part hblk2 (by rw [denL_drop]) (by rw [denL_drop]; simp [denL_len]; omega)
        cases hr
      cases hr
    · rename_i cc e he
      split at hr
      · rename_i sz hsz
        obtain rfl : Rw.own sz [] = r := by simpa using hr
        cases as' with
        | nil => exact ha.elim
        | cons x xs =>
          obtain ⟨rfl, h4⟩ := ha
          refine key _ _ rfl ?_ h4
          exact ⟨Rd.none_, Nat.zero_le _⟩
      cases hr
    · rename_i i p e he
      split at hr
      · rename_i sz hsz
        obtain rfl : Rw.ext sz = r := by simpa using hr
        cases as' with
        | nil => exact ha.elim
        | cons x xs =>
          obtain ⟨h1, h2, h3, h4⟩ := ha
          refine key _ _ rfl ?_ h4
          have hK2 : Kf C W2 := hI.st.pers _ (List.mem_append.2 (.inr hps.1)) W2 hmu
          have := hK2 _ _ _ h3
          rw [← h1] at this
          cases x
          subst h2
          exact this
      cases hr
    · rename_i n e he
      simp only [Option.map_eq_some_iff] at hr
      obtain ⟨⟨c, e', sz⟩, hrow, rfl⟩ := hr
      cases as' with
      | nil => exact ha.elim
      | cons x xs =>
        obtain ⟨rfl, h4⟩ := ha
        refine key _ _ rfl ?_ h4
        obtain ⟨k, hrn, hk⟩ := rdOfN_eq hrow
        show Arg.rd W2 ⟨(α n).h, sz, (denL ρ α c).flatMap cellsV⟩
        rcases hk with rfl | rfl
        · have hrd : Arg.rd W ⟨(α n).h, sz, (denL ρ α c).flatMap cellsV⟩ := rd_any hI hrn (.inl rfl)
          obtain ⟨_, hro⟩ := (hI.rows n _ hrn).2
          rcases hro with ⟨_, hh⟩ | ⟨len, cap, hh, _⟩
          · rw [hh] at hrd ⊢
            exact ⟨⟨hrd.1.1, fun h => absurd h (by omega)⟩, hrd.2⟩
          have hnb := hne n _ ⟨(α n).b, ((⟨c, e', .row sz⟩ : Blk).xs ρ α ++ (α n).tl).toArray, e'⟩ (by simp [namesV, names1]) hrn (by simp only [Blk.ch, hh])
          rw [hh] at hrd ⊢
          exact ⟨hrd.1.same hW2 (fun ad e => by cases e; exact hnb), hrd.2⟩
        exact (ext_fact hI hrn W2 hmu).1
    · cases hr
    · cases hr
    · cases hr
    obtain rfl : Rw.no = r := by simpa using hr
    cases as' with
    | nil => exact ha.elim
    | cons x xs =>
      obtain ⟨rfl, h3, h4⟩ := ha
      refine key _ _ rfl ?_ h4
      unfold Arg.rd
      split
      · rename_i hq
        dsimp only at hq
        rw [hq] at h3
        cases h3
      trivial
theorem callw_ok {sh0 : List Sh} {c : Go.Call} {f : Operand} {g : FuncId} {args' cap : List V} {q : Opq} {args : List V} {sh : Sh} {mk : Option V} {new : Option Blk} {wr : Option (Nat × Blk)} {v : Value} {vv : List V} (hop : o.op = .call c) (hcal : c.callee = .value f) (he : o.op.operands.toList.map a.eval = denL ρ α (.f (.func g) [] cap :: args')) (hpl : planCw C (blks s.hp vv) nm sh0.length g c.argTypes.toList args' cap = .df q args sh mk new wr)
    (hC : C.Ok) (hps : Ctx C w0 ps) (hI : InvA w0 ps T ρ s a W α) (hv : ρ[sh0.length]? = some v) (hrel : q.rel C ρ α args v) (hfit : sh.fit v = true) (hnm : new = none ∨ freeIn s nm) (hw : effWf s nm (resV sh0.length sh mk) new wr = true) (hK : ∀ a' W', Inv w0 ps T ρ (s.eff nm o.dst (resV sh0.length sh mk) new wr) a' W' → K a' W') : o.wp C.P a W K Q := by
  have hKf : Kf C W := hI.fact hps.1
  unfold planCw at hpl
  split at hpl
  case h_2 => cases hpl
  rename_i j sz rw' cs hcw hrw hcs hen
  split at hpl
  case h_2 => cases hpl
  rename_i n b hj
  split at hpl
  case isFalse => cases hpl
  rename_i hc
  obtain ⟨h0, hb1, hnd, hnn⟩ := hc
  cases hpl
  have hnm' : freeIn s nm := hnm.resolve_left nofun
  obtain ⟨hcap, hcb⟩ := capsOf_eq hcs
  have hl := rwOf_len hrw
  obtain ⟨as', ha, hR⟩ := hrel
  rw [List.take_left' hl.symm] at ha
  obtain ⟨h5, h6⟩ := rw_args hI hKf hrw ha
  obtain ⟨hnn, hdis⟩ := hnn
  have hndi := (List.nodup_append.1 hI.st.nodup).1
  have hbm0 : ∀ b0 ∈ cs.map (fun e => (α e.1).b), ∃ (m : Nat) (B : Blk), s.hp[m]? = some (some B) ∧ B.k = .cells ∧ b0 = (α m).b ∧ m ∈ cs.map (·.1) := fun b0 hb0 => by
    obtain ⟨e, he, rfl⟩ := List.mem_map.1 hb0
    exact ⟨e.1, e.2, (hcb e he).1, (hcb e he).2, rfl, List.mem_map.2 ⟨e, he, rfl⟩⟩
  have hbm : ∀ b0 ∈ cs.map (fun e => (α e.1).b), ∃ (m : Nat) (B : Blk) (e : Ch), s.hp[m]? = some (some B) ∧ B.ch ρ α m = some e ∧ b0 = e.id ∧ m ∈ cs.map (·.1) := fun b0 hb0 => by
    obtain ⟨m, B, h1, h2, rfl, h4⟩ := hbm0 b0 hb0
    exact ⟨m, B, ⟨(α m).b, (denL ρ α B.c).toArray, B.t⟩, h1, by simp only [Blk.ch, h2], rfl, h4⟩
  have hsub : ∀ b0 ∈ cs.map (fun e => (α e.1).b), b0 ∈ muts (chs ρ α 0 s.hp) (osA a s T) := fun b0 hb0 => by
    obtain ⟨m, B, h1, h2, rfl, _⟩ := hbm0 b0 hb0
    exact List.mem_append.2 (.inl (List.mem_map.2 ⟨_, hI.blk h1 h2, rfl⟩))
  have hup : ∀ {W2 : World}, Same (cs.map (fun e => (α e.1).b)) W W2 → Same (muts (chs ρ α 0 s.hp) (osA a s T)) W W2 := fun h => ⟨h.size, fun b0 hb0 hn => h.block b0 hb0 fun hm => hn (hsub b0 hm)⟩
  have hjl := (List.getElem?_eq_some_iff.1 hj).1
  obtain ⟨hn, hbk⟩ := hcb (n, b) (List.mem_of_getElem? hj)
  have hn : s.hp[n]? = some (some b) := hn
  have hbk : b.k = .cells := hbk
  have hcall := hC.w g as' ((cs.map (·.2.c)).map (denL ρ α)) v W (cs.map (fun e => (α e.1).b)) (cs.map (·.2.t)) (α n).b j sz b.t hcw hR
    (fun x hx W2 hW2 => rw_pers hI hps hbm hrw ha (fun m hm hc => by
      have := List.all_eq_true.1 hdis m hm
      simp only [Bool.not_eq_true', List.contains_eq_mem, decide_eq_false_iff_not] at this
      exact this hc) W2 hW2 x hx)
    (fun u z cells hk W2 hW2 => hI.st.pers _ (List.mem_append.2 (.inr hps.1)) W2 (hup hW2) _ _ _ hk)
    (by
      unfold List.Nodup at hnd ⊢
      rw [List.pairwise_map] at hnd ⊢
      exact hnd.imp_of_mem fun {e e'} he he' hne => chs_ne (e1 := ⟨(α e.1).b, (denL ρ α e.2.c).toArray, e.2.t⟩) (e2 := ⟨(α e'.1).b, (denL ρ α e'.2.c).toArray, e'.2.t⟩) hndi hne (hcb e he).1 (by simp only [Blk.ch, (hcb e he).2]) (hcb e' he').1 (by simp only [Blk.ch, (hcb e' he').2]))
    (by simp) (by simp) (fun i b0 c0 t0 h1 h2 h3 => by
      simp only [List.getElem?_map, Option.map_eq_some_iff] at h1 h2 h3
      obtain ⟨e, he, rfl⟩ := h1
      obtain ⟨_, ⟨e2, he2, rfl⟩, rfl⟩ := h2
      obtain ⟨e3, he3, rfl⟩ := h3
      rw [he] at he2 he3
      cases he2; cases he3
      have := hcb e (List.mem_of_getElem? he)
      exact hI.st.at_ (hI.blk this.1 this.2)) (by simp [hj]) (by simp [hj])
  rw [hop] at he
  simp only [Op.operands, Call.operands, hcal, denL, V.den] at he
  simp at he
  obtain ⟨h7, h8⟩ := he
  obtain ⟨cal, ar, at'⟩ := c
  simp only at hcal h8 hrw
  subst hcal
  have hres : resV sh0.length (.tp [.sl sz, .one]) (some (.row nm)) = .row nm := rfl
  rw [hres] at hw hK
  have hargs : (as'.map Arg.v ++ (cs.map (fun e => (α e.1).b)).map fun b => Value.pointer (some ⟨b, 0, none⟩)) = denL ρ α (args' ++ cap) := by
    rw [h5, denL_map, denL_map, List.map_append, hcap, List.map_map, List.map_map]
    congr 1
  rw [hargs] at hcall
  refine wp_callF hop h7 (vs := (denL ρ α (args' ++ cap)).toArray) ?_ (enters_run hen _ _) (R := fun u W' => W'.os = W.os ∧ W'.tape = W.tape ∧ W'.output = W.output ∧ Same [(α n).b] W W' ∧ W'.heap[(α n).b]? = some (.cells #[comp v 1] b.t (0, 0)) ∧ HdrW C (cs.map (fun e => (α e.1).b)) W W' u sz (cellsV (comp v 0))) (hcall.mono fun e W' ⟨hdr, h1, h2⟩ => ⟨hdr, h1, h2⟩) ?_
  · exact Array.ext' (by simp [denL_map] at h8 ⊢; simp [h8])
  rintro u W' ⟨hos, htp, hout, hsm, hbl, ⟨A, len, cp, rfl, hlc⟩, hrd, hprov⟩
  have hx1 : denL ρ α [V.x sh0.length [1]] = [comp v 1] := by simp [denL, V.den, List.getD_eq_getElem?_getD, hv]
  have hx0 : (⟨[.x sh0.length [0]], 0, .ext sz⟩ : Blk).xs ρ α = cellsV (comp v 0) := by simp [Blk.xs, denL, V.den, List.getD_eq_getElem?_getD, hv]
  have hupd : Upd (α n).b (denL ρ α b.c).toArray b.t #[comp v 1] (chs ρ α 0 s.hp) (chs ρ α 0 (s.hp.set n (some ⟨[.x sh0.length [1]], b.t, .cells⟩))) := chs_set (k := 0) hn (by simp only [Blk.ch, hbk, Nat.zero_add]) (by simp only [Blk.ch, Nat.zero_add, hx1])
  have hS := hI.st.wrote hupd hos htp hout hsm hbl
  simp only [effWf, effH, Bool.and_eq_true, hI.good.len] at hw
  have hI1 := hI.wr' hn (b' := ⟨[.x sh0.length [1]], b.t, .cells⟩) hw.2.1 (by simp [Blk.rowOk]) rfl hS
  have hids := hupd.ids
  have hmu : muts (chs ρ α 0 (s.hp.set n (some ⟨[.x sh0.length [1]], b.t, .cells⟩))) (osA a s T) = muts (chs ρ α 0 s.hp) (osA a s T) := by unfold muts; rw [hids]
  have hfr : freeIn (s.lay n ⟨[.x sh0.length [1]], b.t, .cells⟩) nm := ⟨by simp only [S.lay]; rw [List.getElem?_set_ne (fun e => hnn e.symm)]; exact hnm'.1, hnm'.2⟩
  refine fin_ext (s := s.lay n ⟨[.x sh0.length [1]], b.t, .cells⟩) (v := .row nm) (b := ⟨[.x sh0.length [0]], 0, .ext sz⟩) hI1 hfr rfl ?_ (fun a2 W2 h2 => hK a2 W2 ?_) ⟨0, .slice A len cp, []⟩ hI1.st h0 ⟨_, _, _, rfl, by rw [hx0]; exact hrd.1.1, hlc, fun hl => ?_⟩ (fun W2 hW2 => ?_) fun α' h1 _ => by simp only [V.den, h1]
  · simp only [effWf, effH, Bool.and_eq_true, Bool.and_true]
    rw [show (s.lay n ⟨[.x sh0.length [1]], b.t, .cells⟩).sh.length = ρ.length from hI.good.len]
    exact ⟨hw.1.1, hw.1.2⟩
  · have e : (s.lay n ⟨[.x sh0.length [1]], b.t, .cells⟩).make nm ⟨[.x sh0.length [0]], 0, .ext sz⟩ = (s.make nm ⟨[.x sh0.length [0]], 0, .ext sz⟩).lay n ⟨[.x sh0.length [1]], b.t, .cells⟩ := by
      simp only [S.make, S.lay]
      rw [List.set_comm _ _ (fun e => hnn e.symm)]
    unfold S.eff at h2 ⊢
    dsimp only at h2 ⊢
    rw [e] at h2
    exact h2
  · have := hrd.1.2 hl
    obtain ⟨ad, rfl, _⟩ := this
    rfl
  rw [hx0]
  have hW2' : Same (muts (chs ρ α 0 s.hp) (osA a s T)) W' W2 := by rw [← hmu]; exact hW2
  rcases hprov with hf | ⟨s', sz', cells', hk, hA, hr2, hf2⟩
  · exact ⟨rd_pers hrd hW2' hf fun b hm => (hI.st.mut_lt hm).2, .inl (Frs.up hf hI.st.old.size)⟩
  have hK2 : Kf C W2 := hS.pers _ (List.mem_append.2 (.inr hps.1)) W2 hW2
  exact ⟨hr2 W2 (hK2 _ _ _ hk), .inr ⟨fun W3 h3 => hr2 W3 (hps.2.1 W3 h3 _ _ _ hA), fun B hB => hf2 B (hps.2.2 B hB _ _ _ hA)⟩⟩
theorem mks_ok {sh0 : List Sh} {t : TypeId} {xo yo : Operand} {x y : V} {e : TypeId} {sz by' : Nat} {z v : Value} (hop : o.op = .makeSlice t xo yo) (hvs : o.op.operands.toList.mapM s.ev = some [x, y]) (hsl : slOf C.P t = some e) (hsz : szOf C.P e = some sz) (hz : zeroOf C.P e = some z) (hb : bytesOf C.P e = some by') (h0 : 0 < sz)
    (hI : InvA w0 ps T ρ s a W α) (hv : ρ[sh0.length]? = some v) (hrel : (Opq.mks z sz by').rel C ρ α [x, y] v) (hnm : freeIn s nm) (hw : effWf s nm (.row nm) (some ⟨[.x sh0.length []], e, .row sz⟩) none = true) (hK : ∀ a' W', Inv w0 ps T ρ (s.eff nm o.dst (.row nm) (some ⟨[.x sh0.length []], e, .row sz⟩) none) a' W' → K a' W') : o.wp C.P a W K Q := by
  have he := mapM_den hI.good hI.fm hvs
  rw [hop] at he
  simp [Op.operands, denL] at he
  obtain ⟨kl, kc, L, M, hx, hy, hL0, hLM, hM, hby, rfl⟩ := (hrel : ∃ kl kc L M, x.den ρ α = .int kl L ∧ y.den ρ α = .int kc M ∧ 0 ≤ L ∧ L ≤ M ∧ M ≤ 140737488355328 ∧ (by' : Int) * M ≤ 281474976710656 ∧ v = .agg (madeCells z.cells (L.toNat * sz)))
  refine wp_makeS hop (he.1.trans hx) (he.2.trans hy) (slOf_eq hsl) hsz hz hb hL0 hLM hby (by omega) hI.st fun k W' hS _ _ => ?_
  have hxs : ∀ α', (⟨[.x sh0.length []], e, .row sz⟩ : Blk).xs ρ α' = (madeCells z.cells (L.toNat * sz)).toList := fun α' => by
    simp [Blk.xs, denL, V.den, List.getD_eq_getElem?_getD, hv, cellsV]
  have hle : L.toNat * sz ≤ M.toNat * sz := Nat.mul_le_mul_right _ (by omega)
  have htake : (madeCells z.cells (L.toNat * sz)).toList = (madeCells z.cells (M.toNat * sz)).toList.take (L.toNat * sz) := by
    apply List.ext_getElem
    · simp only [madeCells, Array.length_toList, Array.size_map, Array.size_range, List.length_take]
      exact (Nat.min_eq_left hle).symm
    intro i h1 h2
    simp [madeCells]
  have hcat : (madeCells z.cells (L.toNat * sz)).toList ++ (madeCells z.cells (M.toNat * sz)).toList.drop (L.toNat * sz) = (madeCells z.cells (M.toNat * sz)).toList := by
    rw [htake, List.take_append_drop]
  refine fin_row hI hnm rfl hw hK ⟨k, .slice (some ⟨k, 0, none⟩) L.toNat M.toNat, (madeCells z.cells (M.toNat * sz)).toList.drop (L.toNat * sz)⟩ (fun α' h1 h2 h3 h4 => ⟨?_, ?_⟩) fun α' h1 => by simp only [V.den, h1]
  · refine St.perm ?_ (chs_new (k := 0) hnm.1 (e := ⟨k, madeCells z.cells (M.toNat * sz), e⟩) ?_)
    · rw [h4]; exact hS
    simp only [Blk.ch, Nat.zero_add, h1, hxs, hcat]
  refine ⟨h0, .inr ⟨L.toNat, M.toNat, by rw [h1], ?_, ?_, by omega, by simp only [maxLen]; omega⟩⟩
  · rw [hxs]; simp [madeCells]
  rw [hxs, h1, hcat]; simp [madeCells]
theorem df_gen0 {sh0 : List Sh} {q : Opq} {args : List V} {sh : Sh} {mk : Option V} {new : Option Blk} {wr : Option (Nat × Blk)} {vs : List V} (hsh : sh0 <+: s.sh) (hC : C.Ok) (hps : Ctx C w0 ps) (hvs : o.op.operands.toList.mapM s.ev = some vs) (h : planV0 C sh0 nm o.op vs (s.see o.op vs) = .df q args sh mk new wr) (hI : InvA w0 ps T ρ s a W α) {v : Value} (hv : ρ[sh0.length]? = some v) (hrel : q.rel C ρ α args v) (hfit : sh.fit v = true)
    (hnm : new = none ∨ freeIn s nm) (hw : effWf s nm (resV sh0.length sh mk) new wr = true) (hK : ∀ a' W', Inv w0 ps T ρ (s.eff nm o.dst (resV sh0.length sh mk) new wr) a' W' → K a' W') : o.wp C.P a W K Q := by
  by_cases hnw : new = none ∧ wr = none
  · obtain ⟨rfl, rfl⟩ := hnw
    refine df_core hC hps hvs (fun hs => ⟨deepV s.hp o.op vs, by simp [S.see, hs]⟩) (lens_see hI _ _) h hI hrel fun W' hb => ?_
    have hu : mkVal ρ α v mk = (resV sh0.length sh mk).den ρ α := by
      cases mk with
      | some e => rfl
      | none =>
        simp only [mkVal, resV, Option.getD_none]
        exact (exp_den ρ α _ sh [] v (by simp [List.getD_eq_getElem?_getD, hv]) hfit).symm
    rw [hu]
    exact fin_pure (hI.step hb) hw hK
  have hsee : shapeOp o.op = false → (callV o.op || storeV o.op) = false → s.see o.op vs = blks s.hp vs := fun hs hc => by simp only [S.see, hs, deepV, hc, Bool.false_eq_true, if_false]
  have appArgs : ∀ (c : Go.Call) (t : TypeId) (x y : V), o.op = .call c → c.callee = .builtin .append → c.argTypes.toList = [t, t] → vs = [x, y] → ∃ p q', c = { callee := .builtin .append, args := #[p, q'], argTypes := #[t, t] } ∧ a.eval p = x.den ρ α ∧ a.eval q' = y.den ρ α := by
    intro c t x y hop hcal hts hvs2
    subst hvs2
    have he := mapM_den hI.good hI.fm hvs
    rw [hop] at he
    obtain ⟨cal, ar, at'⟩ := c
    simp only at hcal hts
    subst hcal
    have har : ar.map a.eval = #[x.den ρ α, y.den ρ α] := by
      have : (denL ρ α [x, y]).toArray = #[x.den ρ α, y.den ρ α] := by simp [denL]
      rw [← this, ← he]
      exact Array.ext' (by simp [Op.operands, Call.operands])
    obtain ⟨p, q', rfl, hp, hq⟩ := map2 har
    have hat : at' = #[t, t] := by rw [← Array.toArray_toList (xs := at'), hts]
    subst hat
    exact ⟨p, q', rfl, hp, hq⟩
  rcases df_rows h hnw with ⟨t, xo, yo, n, i, sz, off, vv, c, e, k, hop, rfl, hrow, hs, hk, hk0, hone, rfl, rfl, rfl, rfl, rfl⟩ | ⟨c, t, x, y, hop, hcal, hts, rfl, hap⟩ | ⟨t, xo, lo, hi, mx, n, as', hop, rfl, hpl⟩ | ⟨c, t, x, y, hop, hcal, hts, rfl, hap⟩ | ⟨c, f, g, cap, as', hop, hcal, rfl, hcap, hpl⟩ | ⟨c, f, g, cap, as', hop, hcal, rfl, hpl⟩ | ⟨t, xo, yo, x, y, e, sz, z, by', hop, rfl, hsl, hsz, hz, hb, h0, rfl, rfl, rfl, rfl, rfl, rfl⟩
  · have he := mapM_den hI.good hI.fm hvs
    rw [show s.see o.op [.ep (.row n) i sz off, vv] = blks s.hp (deepV s.hp o.op [.ep (.row n) i sz off, vv]) by simp [S.see, hop, shapeOp]] at hrow
    rw [hop] at he
    simp [Op.operands, denL, V.den] at he
    exact rset_ok hsh hop he.1 he.2 (rowOfN_eq hrow) hs hk hk0 hone hI hv hrel hw hK
  · rw [hsee (by rw [hop]; simp [shapeOp, hcal]) (by rw [hop]; simp [callV, storeV, hcal])] at hap
    obtain ⟨p, q', rfl, hp, hq⟩ := appArgs c t x y hop hcal hts rfl
    exact app_ok hop hp hq hap hC hps hI hv hrel hnm hw hK
  · rw [hsee (by rw [hop]; rfl) (by rw [hop]; rfl)] at hpl
    exact slcx_ok hop (mapM_den hI.good hI.fm hvs) ⟨s.hp, rfl, fun _ _ _ h => h⟩ hpl hI hv hrel hnm hw hK
  · rw [hsee (by rw [hop]; simp [shapeOp, hcal]) (by rw [hop]; simp [callV, storeV, hcal])] at hap
    obtain ⟨p, q', rfl, hp, hq⟩ := appArgs c t x y hop hcal hts rfl
    exact appx_ok hop hp hq hap hps hI hv hrel hnm hw hK
  · rw [show s.see o.op (.f (.func g) [] cap :: as') = blks s.hp (deepV s.hp o.op (.f (.func g) [] cap :: as')) by simp [S.see, hop, shapeOp, hcal]] at hpl
    have hcap' : cap = [] := by simpa using hcap
    subst hcap'
    exact callx_ok hop hcal (mapM_den hI.good hI.fm hvs) hpl hnw hC hps hI hv hrel hfit hnm hw hK
  · rw [show s.see o.op (.f (.func g) [] cap :: as') = blks s.hp (deepV s.hp o.op (.f (.func g) [] cap :: as')) by simp [S.see, hop, shapeOp, hcal]] at hpl
    exact callw_ok hop hcal (mapM_den hI.good hI.fm hvs) hpl hC hps hI hv hrel hfit hnm hw hK
  exact mks_ok hop hvs hsl hsz hz hb h0 hI hv hrel (hnm.resolve_left nofun) hw hK
theorem xs_den {m N : Nat} {cs : List Value} {u : Value} {path : List Nat} (hv : path.foldl comp (ρ.getD m undef) = .agg cs.toArray) (hl : cs.length = N) : denL ρ α ((List.range N).map fun j => V.x m (path ++ [j])) = cs := by
  subst hl
  rw [denL_map, List.map_map]
  conv => rhs; rw [← range_getD cs undef]
  refine List.map_congr_left fun j _ => ?_
  simp only [Function.comp, V.den, List.foldl_append, hv, List.foldl_cons, List.foldl_nil, comp_agg]
theorem mid_splice {D vs : List Value} {o q k L : Nat} (hq : q + k ≤ L) (hL : o + L ≤ D.length) (hk : vs.length = k) : D.take o ++ (((D.drop o).take L).take q ++ vs ++ ((D.drop o).take L).drop (q + k)) ++ D.drop (o + L) = D.take (o + q) ++ vs ++ D.drop (o + q + k) := by
  have h1 : D.take (o + q) = D.take o ++ ((D.drop o).take L).take q := by
    rw [List.take_take, Nat.min_eq_left (by omega), ← List.take_add]
  have h2 : D.drop (o + q + k) = ((D.drop o).take L).drop (q + k) ++ D.drop (o + L) := by
    have e : D.drop o = (D.drop o).take L ++ D.drop (o + L) := by rw [← List.drop_drop, List.take_append_drop]
    rw [show D.drop (o + q + k) = (D.drop o).drop (q + k) by rw [List.drop_drop]; congr 1; omega]
    conv => lhs; rw [e]
    rw [List.drop_append_of_le_length (by simp; omega)]
  rw [h1, h2]
  simp only [List.append_assoc]
theorem wp_indexAddr_ptr {P : Program} {x ix : Operand} {t e : TypeId} {len n : Nat} {ad : Addr} {k : IntKind} {i : Int} (ho : o.op = .indexAddr t x ix) (hx : a.eval x = .pointer (some ad)) (hi : a.eval ix = .int k i) (hu : arrOf P t = some (len, e)) (h0 : 0 ≤ i) (h1 : i < len)
    (hs : szOf P e = some n) (h : K (a.put o.dst (.pointer (some (ad.add (i.toNat * n))))) W) : o.wp P a W K Q := by
  unfold Oper.wp execOp
  simp only [ho, hx, hi, Instr.indexAt, Instr.sureAddr, asIntOf, Sem.run_bind, Sem.run_pure, Result.andThen_ok, run_underlying (arrOf_eq hu), if_pos (And.intro h0 h1), run_szOf hs]
  exact h
theorem wp_appz {P : Program} {t t' e : TypeId} {xo yo : Operand} {k kk : IntKind} {n : Int} {size by' : Nat} {z : Value} {hs : List Ch} {os : List Ow} (ho : o.op = .call { callee := .builtin .append, args := #[xo, yo], argTypes := #[t, t'] }) (hx : a.eval xo = .slice none 0 0) (hy : a.eval yo = .int k n)
    (hu : P.underlying t = some (.slice e)) (hk : P.underlying t' = some (.int kk)) (hsz : szOf P e = some size) (hz : zeroOf P e = some z) (hzs : z.cells.size = size) (hb : bytesOf P e = some by') (h0 : 0 < n) (hn : n ≤ 70368744177664) (hby : n * (by' : Int) ≤ 140737488355328) (hS : St w0 hs os ps W)
    (h : ∀ k' cap Z W', St w0 (⟨k', ((madeCells z.cells (n.toNat * size)).toList ++ Z).toArray, e⟩ :: hs) os ps W' → ((madeCells z.cells (n.toNat * size)).toList ++ Z).length = cap * size → n.toNat ≤ cap → cap ≤ maxLen → K (a.put o.dst (.slice (some ⟨k', 0, none⟩) n.toNat cap)) W') : o.wp P a W K Q := by
  cases hie : P.info? e with
  | none => simp [szOf, hie] at hsz
  | some i =>
    have hz' : i.zero = some z := by simpa [zeroOf, hie] using hz
    have hs' : i.size = size := by simpa [szOf, hie] using hsz
    have hb' : i.bytes = by' := by simpa [bytesOf, hie] using hb
    subst hs'
    subst hb'
    obtain ⟨m, rfl⟩ : ∃ m : Nat, n = (m : Int) := ⟨n.toNat, by omega⟩
    have hm0 : 0 < m := by omega
    have hw64 : IntKind.i64.wrap (m : Int) = (m : Int) := by
      simp [IntKind.wrap, IntKind.bits, IntKind.signed] <;> omega
    have hbn : ((m * i.bytes : Nat) : Int) ≤ 140737488355328 := by rw [Int.natCast_mul]; exact hby
    have hms : m * i.size ≠ 0 ∨ i.size = 0 := by
      rcases Nat.eq_zero_or_pos i.size with h | h
      · exact .inr h
      exact .inl (Nat.ne_of_gt (Nat.mul_pos hm0 h))
    have hrun : (Builtin.append_ #[t, t'] o.type #[.slice none 0 0, .int k (m : Int)]).run P W = .ok (.slice (some ⟨W.heap.size, 0, none⟩) m (grownCap W m 0 e)) (W.drew.alloc (.cells ((madeCells z.cells (m * i.size)) ++ Builtin.zeroCells z.cells (grownCap W m 0 e - m)) e)) := by
      have h1 : ¬ ((m : Int) < 0) := by omega
      have h2 : ¬ (281474976710656 < (m : Int) * (i.bytes : Int)) := by rw [← Int.natCast_mul]; omega
      have h3 : ¬ (9223372036854775807 < (m : Int)) := by omega
      have h4 : ¬ (281474976710656 < Builtin.nextslicecap m 0 * i.bytes) := by rw [nextslicecap_zero hm0]; omega
      have hn0 : m ≠ 0 := by omega
      have hmz : m * i.size ≠ 0 ∨ (m * i.size = 0 ∧ madeCells z.cells (m * i.size) = #[]) := by
        rcases Nat.eq_zero_or_pos (m * i.size) with h | h
        · exact .inr ⟨h, by rw [h]; simp [madeCells]⟩
        exact .inl (Nat.ne_of_gt h)
      have hzc : Builtin.zeroCells z.cells m = madeCells z.cells (m * i.size) := by simp [Builtin.zeroCells, madeCells, hzs]
      rcases hmz with hmz | ⟨hmz, hme⟩
      · simp [Builtin.append_, run_underlying hu, run_underlying hk, sizeOf, typeInfo, zeroValue, hie, hz', Builtin.lenOf, asInt, asIntOf, hw64, hn0, h1, h2, h3, h4, hmz, Question.forced, run_firstCells_none, newRow, grownCap, hzc]
      simp [Builtin.append_, run_underlying hu, run_underlying hk, sizeOf, typeInfo, zeroValue, hie, hz', Builtin.lenOf, asInt, asIntOf, hw64, hn0, h1, h2, h3, h4, hmz, show madeCells z.cells 0 = #[] by simp [madeCells], Question.forced, run_firstCells_none, newRow, grownCap, hzc]
    unfold Oper.wp execOp
    simp only [ho, resolve, invoke, builtin, Sem.run_bind, Sem.run_pure, Result.andThen_ok, List.map_toArray, List.map_cons, List.map_nil, hx, hy, hrun]
    have hcap := grownCap_ge W m 0 e
    have hZ := hS.drew.new (madeCells z.cells (m * i.size) ++ Builtin.zeroCells z.cells (grownCap W m 0 e - m)) e
    refine h _ _ (Builtin.zeroCells z.cells (grownCap W m 0 e - m)).toList _ ?_ ?_ hcap (grownCap_le_maxLen W m 0 e (by unfold maxLen; omega))
    · have e1 : ((madeCells z.cells (((m : Int)).toNat * i.size)).toList ++ (Builtin.zeroCells z.cells (grownCap W m 0 e - m)).toList).toArray = madeCells z.cells (m * i.size) ++ Builtin.zeroCells z.cells (grownCap W m 0 e - m) := by
        apply Array.ext'; simp
      rw [e1]
      exact hZ
    simp only [List.length_append, Array.length_toList, madeCells, Builtin.zeroCells, Array.size_map, Array.size_range, hzs, Int.toNat_natCast]
    rw [← Nat.add_mul, Nat.add_sub_cancel' hcap]
theorem upd_same {k : Nat} {c : Array Value} {t : TypeId} {hs hs' : List Ch} (h : Upd k c t c hs hs') : hs' = hs := by
  induction h with
  | here => rfl
  | there _ ih => rw [ih]
theorem wp_copy_no {P : Program} {t t' e : TypeId} {xo yo : Operand} {A B : Option Addr} {l1 c1 l2 c2 : Nat} (hop : o.op = .call { callee := .builtin .copy, args := #[xo, yo], argTypes := #[t, t'] }) (hx : a.eval xo = .slice A l1 c1) (hy : a.eval yo = .slice B l2 c2)
    (hu : P.underlying t = some (.slice e)) (hs1 : szOf P e = some 1) (hn : Nat.min l2 l1 = 0) (h : K (a.put o.dst (.int .i64 0)) W) : o.wp P a W K Q := by
  have hrun := run_copy_none (P := P) W t t' o.type e A B l1 c1 l2 c2 hu hs1 hn
  unfold Oper.wp execOp
  simp only [hop, resolve, invoke, builtin, Sem.run_bind, Sem.run_pure, Result.andThen_ok, List.map_toArray, List.map_cons, List.map_nil, hx, hy, hrun, goInt]
  exact h
theorem wp_callB {P : Program} {K : Act → World → Prop} {Q : Exit → Act → World → Prop} {a : Act} {o : Oper} {W : World} {f : Operand} {args : Array Operand} {ats : Array TypeId} {g : FuncId} {vs fs cap : Array Value} (ho : o.op = .call { callee := .value f, args, argTypes := ats }) (hf : a.eval f = .func (.func g) fs cap) (hargs : fs ++ args.map a.eval ++ cap = vs)
    (hc : (callFunc g vs).run P W = .ok (.enter g vs) W) {R : Value → World → Prop} (h : Calls P g vs W fun e W' => ∃ v, e = .returned v ∧ R v W') (hk : ∀ v W', R v W' → K (a.put o.dst v) W') : o.wp P a W K Q := by
  subst hargs
  unfold Oper.wp execOp
  simp only [ho, resolve, Deferred.ofValue, hf, invoke, Sem.run_bind, Sem.run_pure, Result.andThen_ok, hc, Oper.upon]
  refine h.mono fun e W' ⟨v, he, hR⟩ => ?_
  subst he
  exact hk v W' hR
theorem cpy_ok {sh0 : List Sh} {xo yo : Operand} {t t' e : TypeId} {n oo l cc k cap : Nat} {A : Option Addr} {B : Blk} {cells : List Value} {v : Value} (hop : o.op = .call { callee := .builtin .copy, args := #[xo, yo], argTypes := #[t, t'] }) (hp : a.eval xo = .slice (some ⟨(α n).b, oo, none⟩) l cc) (hq : a.eval yo = .slice A k cap) (hsl : slOf C.P t = some e) (hsz : szOf C.P e = some 1)
    (hbn : s.hp[n]? = some (some B)) (hbk : B.k = .cells) (hlen : oo + l ≤ B.c.length) (hI : InvA w0 ps T ρ s a W α) (hvd : ρ.getD sh0.length undef = v) (hRd : Rd W 1 A k cells) (hone : ∀ u ∈ cells, u.oneCell' = true)
    (hv : v = .tuple #[.int .i64 ((Nat.min k l : Nat) : Int), .agg (cells.take l ++ (((denL ρ α B.c).drop oo).take l).drop (Nat.min k l)).toArray])
    (hw : effWf s nm (resV sh0.length (.tp [.one, .ag l]) (some (V.x sh0.length [0]))) none (some (n, ⟨spliceV B.c oo ((List.range l).map fun j => V.x sh0.length [1, j]), B.t, B.k⟩)) = true) (hK : ∀ a' W', Inv w0 ps T ρ (s.eff nm o.dst (resV sh0.length (.tp [.one, .ag l]) (some (V.x sh0.length [0]))) none (some (n, ⟨spliceV B.c oo ((List.range l).map fun j => V.x sh0.length [1, j]), B.t, B.k⟩))) a' W' → K a' W') : o.wp C.P a W K Q := by
  have hkl : cells.length = k := by simpa using hRd.1
  have hvD : ρ.getD sh0.length undef = .tuple #[.int .i64 ((Nat.min k l : Nat) : Int), .agg (cells.take l ++ (((denL ρ α B.c).drop oo).take l).drop (Nat.min k l)).toArray] := by rw [hvd, hv]
  have hmin : Nat.min k l = min k l := rfl
  have hct : cells.take l = cells.take (min k l) := by
    rcases Nat.le_total k l with hle | hle
    · rw [Nat.min_eq_left hle, List.take_of_length_le (by omega), List.take_of_length_le (by omega)]
    rw [Nat.min_eq_right hle]
  have hdl : (cells.take (min k l)).length = min k l := by rw [List.length_take]; omega
  have hBl : (denL ρ α B.c).length = B.c.length := denL_len ..
  have hxs := xs_den (ρ := ρ) (α := α) (u := undef) (path := [1]) (m := sh0.length) (N := l) (cs := cells.take l ++ (((denL ρ α B.c).drop oo).take l).drop (min k l)) (by rw [hvD]; rfl) (by
    rw [hct, List.length_append, hdl, List.length_drop, List.length_take, List.length_drop]; omega)
  simp only [List.cons_append, List.nil_append] at hxs
  have hms := mid_splice (D := denL ρ α B.c) (vs := cells.take (min k l)) (o := oo) (q := 0) (k := min k l) (L := l) (by omega) (by omega) hdl
  simp only [List.take_zero, List.nil_append, Nat.add_zero, Nat.zero_add] at hms
  have hnew : denL ρ α (spliceV B.c oo ((List.range l).map fun j => V.x sh0.length [1, j])) = (denL ρ α B.c).take oo ++ cells.take (min k l) ++ (denL ρ α B.c).drop (oo + min k l) := by
    unfold spliceV
    rw [denL_app, denL_app, hxs, hct]
    simp only [List.length_map, List.length_range]
    rw [show denL ρ α (B.c.take oo) = (denL ρ α B.c).take oo by simp [denL_map, List.map_take], show denL ρ α (B.c.drop (oo + l)) = (denL ρ α B.c).drop (oo + l) by simp [denL_map, List.map_drop], ← hms]
  have hup : Upd (α n).b (denL ρ α B.c).toArray B.t ((denL ρ α B.c).take oo ++ cells.take (min k l) ++ (denL ρ α B.c).drop (oo + min k l)).toArray (chs ρ α 0 s.hp) (chs ρ α 0 (s.hp.set n (some ⟨spliceV B.c oo ((List.range l).map fun j => V.x sh0.length [1, j]), B.t, B.k⟩))) := by
    refine chs_set (k := 0) hbn (by simp only [Blk.ch, hbk, Nat.zero_add]) ?_
    simp only [Blk.ch, hbk, Nat.zero_add, hnew]
  have hrow : (⟨spliceV B.c oo ((List.range l).map fun j => V.x sh0.length [1, j]), B.t, B.k⟩ : Blk).rowOk ρ α n := by simp [Blk.rowOk, hbk]
  have hown : (⟨spliceV B.c oo ((List.range l).map fun j => V.x sh0.length [1, j]), B.t, B.k⟩ : Blk).own = true := by simp [Blk.own, hbk]
  have hres : (resV sh0.length (.tp [.one, .ag l]) (some (V.x sh0.length [0]))).den ρ α = .int .i64 ((min k l : Nat) : Int) := by
    simp only [resV, Option.getD_some, V.den, hvD, List.foldl_cons, List.foldl_nil]
    rfl
  rcases Nat.eq_zero_or_pos (min k l) with h0 | h0
  · refine wp_copy_no hop hp hq (slOf_eq hsl) hsz h0 ?_
    refine fin_wr hI hbn hrow hown hw hK (hS := ?_) (by rw [hres, h0]; rfl)
    have : ((denL ρ α B.c).take oo ++ cells.take (min k l) ++ (denL ρ α B.c).drop (oo + min k l)) = denL ρ α B.c := by rw [h0]; simp
    rw [this] at hup
    rw [upd_same hup]
    exact hI.st
  obtain ⟨ad, rfl, hlt, hcl⟩ := hRd.2 (by omega)
  refine wp_copy_to (cs := cells.take (min k l)) hop hp hq (slOf_eq hsl) hsz hI.st (by simpa only [hdl] using hup) hdl (fun j u hu => ?_) (by rw [hdl]; simp; omega) (fun u hu => hone u (List.mem_of_mem_take hu)) fun W' hS => ?_
  · rw [List.getElem?_take] at hu
    split at hu
    · exact hcl j u hu
    cases hu
  rw [hdl]
  exact fin_wr hI hbn hrow hown hw hK hS (by rw [hres])
theorem run_b2s {P : Program} {src dst : TypeId} {x : Operand} {A : Option Addr} {n c : Nat} {l : List UInt8} (hop : o.op = .convert src dst x) (hx : a.eval x = .slice A n c) (hr : Rd W 1 A n (l.map fun b => Value.int .u8 (b.toNat : Int))) (hb : isB2s P src dst = true) : (execOp a.eval o).run P W = .ok (.value (.string ⟨l.toArray⟩)) W := by
  unfold isB2s at hb
  split at hb
  case h_2 => cases hb
  rename_i e hsl hd
  split at hb
  case h_2 => cases hb
  rename_i heu
  have hl : l.length = n := by have := hr.1; simpa using this
  have hrun : (convert src dst (.slice A n c)).run P W = .ok (.string ⟨l.toArray⟩) W := by
    cases A with
    | none =>
      have h0 : n = 0 := by
        rcases Nat.eq_zero_or_pos n with h | h
        · exact h
        obtain ⟨ad, e1, _⟩ := hr.2 h; cases e1
      subst h0
      obtain rfl : l = [] := List.eq_nil_of_length_eq_zero hl
      rw [run_convert_bytes_string W src dst e none 0 c (slOf_eq hsl) heu hd]
      rfl
    | some ad =>
      subst hl
      rcases Nat.eq_zero_or_pos l.length with h | h
      · obtain rfl : l = [] := List.eq_nil_of_length_eq_zero h
        exact run_convert_bytes_back W src dst e ad c [] (slOf_eq hsl) heu hd (fun j hj => absurd hj (by simp))
      obtain ⟨ad', e1, _, hc⟩ := hr.2 h
      cases e1
      exact run_convert_bytes_back W src dst e ad c l (slOf_eq hsl) heu hd (fun j hj => hc j _ (by simp [hj]))
  simp [execOp, hop, hx, hrun, Result.andThen]
theorem rw_plain (hI : InvA w0 ps T ρ s a W α) {vv : List V} : ∀ {ts : List TypeId} {vs : List V} {rw : List Rw} {as' : List Arg}, rwOf C.P (blks s.hp vv) ts vs = some rw → argsOk C ρ α rw vs as' → ∀ p ∈ rw.zip as', p.1.isOwn = true → PlainA W p.2
  | [], [], rw, as', h, ha => by
    obtain rfl : [] = rw := by simpa [rwOf] using h
    intro p hp
    simp at hp
  | [], _ :: _, rw, as', h, ha => by simp [rwOf] at h
  | _ :: _, [], rw, as', h, ha => by simp [rwOf] at h
  | t :: ts, v :: vs, rw, as', h, ha => by
    unfold rwOf at h
    simp only [Option.bind_eq_some_iff, Option.map_eq_some_iff] at h
    obtain ⟨r, hr, rw', hrw, rfl⟩ := h
    cases as' with
    | nil => intro p hp; simp at hp
    | cons x xs =>
      have rest : argsOk C ρ α rw' vs xs := by
        cases r <;> simp only [argsOk] at ha
        · exact ha.2.2
        · exact ha.2
        · exact ha.2.2.2
        exact ha.2
      intro p hp ho
      rw [List.zip_cons_cons] at hp
      rcases List.mem_cons.1 hp with rfl | hp
      · split at hr
        · rename_i n oo l cc e he
          split at hr
          · rename_i sz b hsz hb
            split at hr
            · obtain rfl : Rw.own sz ((b.c.drop oo).take (l * sz)) = r := by simpa using hr
              obtain ⟨rfl, _⟩ := ha
              intro ad n' c' e'
              simp only [V.den, Value.slice.injEq, Option.some.injEq] at e'
              obtain ⟨rfl, rfl, rfl⟩ := e'
              exact ⟨_, _, hI.rdc (rdcOf_eq hb).1 (rdcOf_eq hb).2⟩
            cases hr
          cases hr
        · rename_i cc e he
          split at hr
          · rename_i sz hsz
            obtain rfl : Rw.own sz [] = r := by simpa using hr
            obtain ⟨rfl, _⟩ := ha
            intro ad n' c' e'
            simp [V.den] at e'
          cases hr
        · split at hr
          · obtain rfl := Option.some.inj hr
            cases ho
          cases hr
        · obtain ⟨q, _, rfl⟩ := Option.map_eq_some_iff.1 hr
          cases ho
        · cases hr
        · cases hr
        · cases hr
        obtain rfl := Option.some.inj hr
        cases ho
      exact rw_plain hI hrw rest p hp ho
theorem rc_ok {sh0 : List Sh} {f : Operand} {ar : Array Operand} {ats : Array TypeId} {g : FuncId} {args' vv0 : List V} {q : Opq} {args : List V} {sh : Sh} {mk : Option V} {new : Option Blk} {wr : Option (Nat × Blk)} {v : Value} (hop : o.op = .call { callee := .value f, args := ar, argTypes := ats }) (h7 : a.eval f = .func (.func g) #[] #[]) (h8 : ar.toList.map a.eval = denL ρ α args')
    (h : planRc C (blks s.hp vv0) nm sh0.length g ats.toList args' = .df q args sh mk new wr) (hps : Ctx C w0 ps) (hI : InvA w0 ps T ρ s a W α) (hv : ρ[sh0.length]? = some v) (hrel : q.rel C ρ α args v)
    (hnm : new = none ∨ freeIn s nm) (hw : effWf s nm (resV sh0.length sh mk) new wr = true) (hK : ∀ a' W', Inv w0 ps T ρ (s.eff nm o.dst (resV sh0.length sh mk) new wr) a' W' → K a' W') : o.wp C.P a W K Q := by
  have hKf : Kf C W := hI.fact hps.1
  have hvD : ρ.getD sh0.length undef = v := by rw [List.getD_eq_getElem?_getD, hv]; rfl
  unfold planRc at h
  split at h
  · -- a row is taken
    rename_i hrc hen
    split at h
    case h_2 => cases h
    rename_i n r t ts' hts
    split at h
    case h_2 => cases h
    rename_i c e sz e' rw' hrow hsl hrw
    split at h
    case isFalse => cases h
    rename_i hc
    obtain ⟨rfl, h0, hdis⟩ := hc
    injection h with h1 h2 h3 h4 h5 h6
    subst h1; subst h2; subst h3; subst h4; subst h5; subst h6
    have hnm' : freeIn s nm := hnm.resolve_left nofun
    obtain ⟨as', ha, hP⟩ := (hrel : ∃ as', argsOk C ρ α rw' r as' ∧ RCall C g rw' as' (cellsV ((V.cat c).den ρ α)) sz e v)
    have hcat : cellsV ((V.cat c).den ρ α) = (denL ρ α c).flatMap cellsV := by simp [V.den, cellsV]
    rw [hcat] at hP
    have hn := rowOfN_eq hrow
    have hne : n ≠ nm := lv_ne (lv_of hn) hnm'.1
    have hset : (s.hp.set nm (some ⟨[.x sh0.length []], e, .row sz⟩)).set n (some tomb) = (s.hp.set n (some tomb)).set nm (some ⟨[.x sh0.length []], e, .row sz⟩) := List.set_comm _ _ (fun h => hne h.symm)
    have hnm2 : (s.hp.set n (some tomb))[nm]? = some none := by rw [List.getElem?_set_ne hne]; exact hnm'.1
    have hxs : ∀ α', (⟨[.x sh0.length []], e, .row sz⟩ : Blk).xs ρ α' = cellsV v := fun α' => by
      simp [Blk.xs, denL, V.den, List.getD_eq_getElem?_getD, hv]
    obtain ⟨_, hinfo⟩ := row_info hI hn
    obtain ⟨h5, h6⟩ := rw_args hI hKf hrw ha
    have hRow : RowAt sz (α n).h (α n).b e ((denL ρ α c).flatMap cellsV) (α n).tl W := by
      rcases hinfo with ⟨h1, h2⟩ | ⟨len, cap, h1, h2, h3, h4, h5, h6⟩
      · exact .inl ⟨h2, h1⟩
      exact .inr ⟨len, cap, h1, h2, h3, h4, h5, hI.st.at_ h6⟩
    have hbm : ∀ b0 ∈ ownB (α n).h, ∃ (m : Nat) (B : Blk) (e : Ch), s.hp[m]? = some (some B) ∧ B.ch ρ α m = some e ∧ b0 = e.id ∧ m ∈ [n] := fun b0 hb0 => by
      rcases hinfo with ⟨h1, h2⟩ | ⟨len, cap, h1, h2, h3, h4, h5, h6⟩
      · rw [h2] at hb0; simp [ownB] at hb0
      rw [h1] at hb0
      obtain rfl := List.mem_singleton.1 hb0
      exact ⟨n, _, ⟨(α n).b, ((denL ρ α c).flatMap cellsV ++ (α n).tl).toArray, e⟩, hn, by simp only [Blk.ch, h1]; rfl, rfl, List.mem_cons_self ..⟩
    have hsub : ∀ b0 ∈ ownB (α n).h, b0 ∈ muts (chs ρ α 0 s.hp) (osA a s T) := fun b0 hb0 => by
      obtain ⟨m, B, e, h1, h2, rfl, _⟩ := hbm b0 hb0
      exact List.mem_append.2 (.inl (List.mem_map.2 ⟨_, chs_mem (k := 0) h1 (by rw [Nat.zero_add]; exact h2), rfl⟩))
    have hup : ∀ {W2 : World}, Same (ownB (α n).h) W W2 → Same (muts (chs ρ α 0 s.hp) (osA a s T)) W W2 := fun h => ⟨h.size, fun b0 hb0 hn => h.block b0 hb0 fun hm => hn (hsub b0 hm)⟩
    have hcall := hP W (α n).h (α n).b (α n).tl hRow (fun x hx W2 hW2 => rw_pers hI hps hbm hrw ha (fun m hm hc => by
      have := List.all_eq_true.1 hdis m hm
      simp only [Bool.not_eq_true', List.contains_eq_mem, decide_eq_false_iff_not] at this
      exact this hc) W2 hW2 x hx) (fun u z cells hk W2 hW2 => hI.st.pers _ (List.mem_append.2 (.inr hps.1)) W2 (hup hW2) _ _ _ hk) (rw_plain hI hrw ha)
    refine wp_callB hop h7 (vs := ((α n).h :: as'.map Arg.v).toArray) ?_ (enters_run hen _ _) (R := fun u W' => ∃ b' tl', W'.os = W.os ∧ W'.tape = W.tape ∧ W'.output = W.output ∧ Same (ownB (α n).h) W W' ∧ RowAt sz u b' e (cellsV v) tl' W' ∧ (b' ∈ ownB (α n).h ∨ W.heap.size ≤ b')) (hcall.mono fun e W' ⟨h', b', tl', h1, h2⟩ => ⟨h', h1, b', tl', h2⟩) ?_
    · rw [h5]
      exact Array.ext' (by simpa [denL, V.den] using h8)
    rintro u W' ⟨b', tl', hos, htp, hout, hsm, hR, hb'⟩
    refine fin_move hI hnm' hw hK ⟨b', u, tl'⟩ (fun α' h1 h2 h3 h5 h4 => ?_) rfl (fun α' h1 => by simp only [resV, Option.getD_some, V.den, h1])
    rw [hset]
    have hfin : ∀ {L : List Ch}, chs ρ α' 0 (s.hp.set n (some tomb)) = L → (u = .slice none 0 0 → St w0 L (osA a s T) (exs w0 ρ α 0 s.hp ++ ps) W') → (∀ c : Array Value, W'.heap[b']? = some (.cells c e (0, 0)) → St w0 (⟨b', c, e⟩ :: L) (osA a s T) (exs w0 ρ α 0 s.hp ++ ps) W') → St w0 (chs ρ α' 0 ((s.hp.set n (some tomb)).set nm (some ⟨[.x sh0.length []], e, .row sz⟩))) (osA a s T) (exs w0 ρ α 0 s.hp ++ ps) W' ∧ (⟨[.x sh0.length []], e, .row sz⟩ : Blk).rowOk ρ α' nm := fun {L} hL hno hyes => by
      rcases hR with ⟨rfl, hcells⟩ | ⟨len, cap, rfl, hl1, hl2, hlc, hcm, hat⟩
      · refine ⟨?_, h0, .inl ⟨by rw [hxs, hcells], by rw [h1]⟩⟩
        rw [chs_new0 (k := 0) hnm2 (by simp only [Blk.ch, Nat.zero_add, h1]), hL]
        exact hno rfl
      refine ⟨St.perm ?_ (chs_new (k := 0) hnm2 (e := ⟨b', (cellsV v ++ tl').toArray, e⟩) (by simp only [Blk.ch, Nat.zero_add, h1, hxs])), h0, .inr ⟨len, cap, by rw [h1], by rw [hxs]; exact hl1, by rw [hxs, h1]; exact hl2, hlc, hcm⟩⟩
      rw [hL]
      exact hyes _ hat
    rcases hinfo with ⟨hx0, hh⟩ | ⟨len, cap, hh, hl1, hl2, hlc, hcm, hmem⟩
    · have hsame : chs ρ α' 0 (s.hp.set n (some tomb)) = chs ρ α 0 s.hp := by
        obtain ⟨l1, l2, q1, q2⟩ := chs_split (ρ := ρ) (α := α') (k := 0) hn
        rw [← h4, q1, q2]
        have : (⟨c, e, .row sz⟩ : Blk).ch ρ α' (0 + n) = none := by
          have e5 := h5 n _ hn
          rw [Nat.zero_add, e5]
          simp only [Blk.ch, hh]
        simp only [Option.bind_some, this]
        simp [tomb, Blk.ch]
      rw [hh] at hsm hb'
      have hbel : Below W.heap.size W W' := ⟨hos, htp, hout, hsm.size, fun b hb => hsm.block b hb (by simp [ownB])⟩
      exact hfin hsame (fun _ => hI.st.step hbel) fun c hc => hI.st.made hbel hc (hb'.resolve_left (by simp [ownB]))
    obtain ⟨l1, l2, q1, q2⟩ := chs_split (ρ := ρ) (α := α) (k := 0) hn
    have hchn : (⟨c, e, .row sz⟩ : Blk).ch ρ α (0 + n) = some ⟨(α n).b, ((denL ρ α c).flatMap cellsV ++ (α n).tl).toArray, e⟩ := by
      simp only [Blk.ch, Nat.zero_add, hh]; rfl
    have hq1 : chs ρ α 0 s.hp = l1 ++ (⟨(α n).b, ((denL ρ α c).flatMap cellsV ++ (α n).tl).toArray, e⟩ :: l2) := by
      rw [q1]
      simp only [Option.bind_some, hchn, Option.toList_some, List.cons_append, List.nil_append]
    have hrest : chs ρ α' 0 (s.hp.set n (some tomb)) = l1 ++ l2 := by
      have e1 : chs ρ α 0 (s.hp.set n (some tomb)) = l1 ++ l2 := by
        rw [q2]; simp [tomb, Blk.ch]
      rw [← e1]
      refine chs_same fun k b hb => ?_
      rcases set_cases hb with ⟨rfl, rfl⟩ | ⟨_, hb⟩
      · simp [tomb, Blk.ch]
      simpa using h5 k b hb
    have hS0 := hI.st
    rw [hq1] at hS0
    have hS1 := hS0.perm List.perm_middle
    rw [hh] at hsm hb'
    exact hfin hrest (fun _ => hS1.gave hos htp hout hsm) fun c hc => hS1.took hos htp hout hsm hc (hb'.imp (fun h => List.mem_singleton.1 h) id)
  · -- a new row
    rename_i hrc hen
    split at h
    case h_2 => cases h
    rename_i t ts' hts
    split at h
    case h_2 => cases h
    rename_i e rw' hsl hrw
    split at h
    case h_2 => cases h
    rename_i sz hsz
    split at h
    case isFalse => cases h
    rename_i h0
    injection h with h1 h2 h3 h4 h5 h6
    subst h1; subst h2; subst h3; subst h4; subst h5; subst h6
    have hnm' : freeIn s nm := hnm.resolve_left nofun
    obtain ⟨as', ha, hP⟩ := (hrel : ∃ as', argsOk C ρ α rw' args' as' ∧ NCall C g rw' as' sz e v)
    have hxs : ∀ α', (⟨[.x sh0.length []], e, .row sz⟩ : Blk).xs ρ α' = cellsV v := fun α' => by
      simp [Blk.xs, denL, V.den, List.getD_eq_getElem?_getD, hv]
    obtain ⟨h5, h6⟩ := rw_args hI hKf hrw ha
    have hup : ∀ {W2 : World}, Same [] W W2 → Same (muts (chs ρ α 0 s.hp) (osA a s T)) W W2 := fun h => ⟨h.size, fun b0 hb0 hn => h.block b0 hb0 (by simp)⟩
    have hcall := hP W (fun x hx W2 hW2 => rw_pers (bs := []) (ns := []) hI hps (fun _ h => nomatch h) hrw ha (fun m hm hc => nomatch hc) W2 hW2 x hx) (fun u z cells hk W2 hW2 => hI.st.pers _ (List.mem_append.2 (.inr hps.1)) W2 (hup hW2) _ _ _ hk) (rw_plain hI hrw ha)
    refine wp_callB hop h7 (vs := (as'.map Arg.v).toArray) ?_ (enters_run hen _ _) (R := fun u W' => ∃ b' tl', Below W.heap.size W W' ∧ RowAt sz u b' e (cellsV v) tl' W' ∧ W.heap.size ≤ b') (hcall.mono fun e W' ⟨h', b', tl', h1, h2⟩ => ⟨h', h1, b', tl', h2⟩) ?_
    · rw [h5]
      exact Array.ext' (by simpa using h8)
    rintro u W' ⟨b', tl', hbel, hR, hb'⟩
    refine fin_row hI hnm' rfl hw hK ⟨b', u, tl'⟩ (fun α' h1 h2 h3 h4 => ?_) (fun α' h1 => by simp only [resV, Option.getD_some, V.den, h1])
    rcases hR with ⟨rfl, hcells⟩ | ⟨len, cap, rfl, hl1, hl2, hlc, hcm, hat⟩
    · refine ⟨?_, h0, .inl ⟨by rw [hxs, hcells], by rw [h1]⟩⟩
      rw [chs_new0 (k := 0) hnm'.1 (by simp only [Blk.ch, Nat.zero_add, h1]), h4]
      exact hI.st.step hbel
    refine ⟨St.perm ?_ (chs_new (k := 0) hnm'.1 (e := ⟨b', (cellsV v ++ tl').toArray, e⟩) (by simp only [Blk.ch, Nat.zero_add, h1, hxs])), h0, .inr ⟨len, cap, by rw [h1], by rw [hxs]; exact hl1, by rw [hxs, h1]; exact hl2, hlc, hcm⟩⟩
    rw [h4]
    exact hI.st.made hbel hat hb'
  cases h
theorem dfN_gen {sh0 : List Sh} {q : Opq} {args : List V} {sh : Sh} {mk : Option V} {new : Option Blk} {wr : Option (Nat × Blk)} {vs : List V} (hsh : sh0 <+: s.sh) (hC : C.Ok) (hps : Ctx C w0 ps) (hvs : o.op.operands.toList.mapM s.ev = some vs) (h : planN C sh0 nm o.op vs (s.see o.op vs) = .df q args sh mk new wr) (hI : InvA w0 ps T ρ s a W α) {v : Value} (hv : ρ[sh0.length]? = some v) (hrel : q.rel C ρ α args v) (hfit : sh.fit v = true)
    (hnm : new = none ∨ freeIn s nm) (hw : effWf s nm (resV sh0.length sh mk) new wr = true) (hK : ∀ a' W', Inv w0 ps T ρ (s.eff nm o.dst (resV sh0.length sh mk) new wr) a' W' → K a' W') : o.wp C.P a W K Q := by
  have he := mapM_den hI.good hI.fm hvs
  have hKf : Kf C W := hI.fact hps.1
  have hL := lens_see hI o.op vs
  have hvD : ρ.getD sh0.length undef = v := by rw [List.getD_eq_getElem?_getD, hv]; rfl
  have hu : mk = none → v = (resV sh0.length sh mk).den ρ α := fun e => by
    subst e
    exact (exp_den ρ α _ sh [] v (by simpa using hvD) hfit).symm
  have hsee : shapeOp o.op = false → ∃ vv, s.see o.op vs = blks s.hp vv := fun hs => ⟨deepV s.hp o.op vs, by simp [S.see, hs]⟩
  generalize hop : o.op = op at *
  unfold planN at h
  split at h
  · -- a package variable
    rename_i t x ad
    simp [Op.operands, denL, V.den] at he
    split at h
    · rename_i b n hr hs
      obtain ⟨vv, hbv⟩ := hsee rfl
      rw [hbv] at h
      obtain ⟨rfl, rfl⟩ := planLd_nn h
      obtain ⟨rfl, ad', len, cap, kk, j, hs', hi', hb⟩ := ld_core hI hKf h hrel
      simp only [V.den, Value.slice.injEq, Option.some.injEq, Value.int.injEq] at hs' hi'
      obtain ⟨rfl, rfl, rfl⟩ := hs'
      obtain ⟨rfl, rfl⟩ := hi'
      have hz : ∀ (x : Addr), x.add ((0 : Int).toNat * n + 0) = x := fun x => by simp [Addr.add]
      rw [hz] at hb
      have hK' := fin_pure hI hw hK
      rw [← hu rfl] at hK'
      rcases hb with ⟨rfl, hcell⟩ | ⟨rfl, cs, rfl, hsz, hcells⟩
      · exact wp_load_cell hop he hr hcell hK'
      exact wp_load_at hop he hr hcells (by rw [hs, hsz]) hK'
    cases h
  · -- load of an own array's part
    rename_i t x n oo l cc i sz o'
    simp [Op.operands, denL, V.den] at he
    split at h
    · rename_i b k B hr hs hB
      obtain ⟨vv, hbv⟩ := hsee rfl
      rw [hbv] at hB
      obtain ⟨hbn, hbk⟩ := blkOf_eq hB
      have hat := hI.st.at_ (hI.blk hbn hbk)
      split at h
      · rename_i hc
        obtain ⟨hc1, hc2⟩ := hc
        have hplen : ((B.c.drop oo).take (l * sz)).length = l * sz := by simp; omega
        have hcat : cellsV ((V.cat [.a ((B.c.drop oo).take (l * sz))]).den ρ α) = ((denL ρ α B.c).drop oo).take (l * sz) := by
          simp [V.den, denL, cellsV, denL_map, List.map_take, List.map_drop]
        have hrd : Rd W sz (some ⟨(α n).b, oo, none⟩) l (((denL ρ α B.c).drop oo).take (l * sz)) := Rd.of_part hat rfl (by simp [denL_len]; omega)
        have hDl : (((denL ρ α B.c).drop oo).take (l * sz)).length = l * sz := by simp [denL_len]; omega
        split at h
        · rename_i hb
          subst hb
          injection h with h1 h2 h3 h4 h5 h6
          subst h1; subst h2; subst h3; subst h4; subst h5; subst h6
          have hr2 : Rbnd (cellsV ((V.cat [.a ((B.c.drop oo).take (l * sz))]).den ρ α)).length sz (i.den ρ α) ∧ idxOf (i.den ρ α) * sz + o' + k ≤ (cellsV ((V.cat [.a ((B.c.drop oo).take (l * sz))]).den ρ α)).length ∧ v = .agg ((cellsV ((V.cat [.a ((B.c.drop oo).take (l * sz))]).den ρ α)).drop (idxOf (i.den ρ α) * sz + o') |>.take k).toArray := hrel
          rw [hcat] at hr2
          obtain ⟨hbd, hlt, hvv⟩ := hr2
          obtain ⟨kk, j, hi', hj0, hj1⟩ := rbnd_of hbd
          rw [hi'] at he hlt hvv
          simp only [epv, idxOf] at he hlt hvv
          have hK' := fin_pure hI hw hK
          rw [← hu rfl, hvv] at hK'
          exact wp_load_at hop he hr (Rd.cells_at hrd hlt) (by rw [hs]; simp only [List.size_toArray, List.length_take, List.length_drop]; congr 1; simp only [List.length_take, List.length_drop] at hlt; omega) hK'
        rename_i hb
        injection h with h1 h2 h3 h4 h5 h6
        subst h1; subst h2; subst h3; subst h4; subst h5; subst h6
        have hr2 : Rbnd (cellsV ((V.cat [.a ((B.c.drop oo).take (l * sz))]).den ρ α)).length sz (i.den ρ α) ∧ (cellsV ((V.cat [.a ((B.c.drop oo).take (l * sz))]).den ρ α))[idxOf (i.den ρ α) * sz + o']? = some v := hrel
        rw [hcat] at hr2
        obtain ⟨hbd, hcell⟩ := hr2
        obtain ⟨kk, j, hi', hj0, hj1⟩ := rbnd_of hbd
        rw [hi'] at he hcell
        simp only [epv, idxOf] at he hcell
        have hK' := fin_pure hI hw hK
        rw [← hu rfl] at hK'
        obtain ⟨ad', e', hcl⟩ := Rd.in hrd (List.getElem?_eq_some_iff.1 hcell).1
        cases e'
        exact wp_load_cell hop he (by simpa using (show rowOf C.P t = some false by rw [hr]; simp at hb; rw [hb])) (hcl _ _ hcell) hK'
      cases h
    cases h
  · -- store into an own array
    rename_i t x y n oo l cc i sz o' vv
    simp [Op.operands, denL, V.den] at he
    obtain ⟨he1, he2⟩ := he
    split at h
    · rename_i B k hB hs
      obtain ⟨vv0, hbv⟩ := hsee rfl
      rw [hbv] at hB
      obtain ⟨hbn, hbk⟩ := blkOf_eq hB
      split at h
      · rename_i hc
        obtain ⟨hc1, hc2, hc3, hc4, hc5⟩ := hc
        injection h with h1 h2 h3 h4 h5 h6
        subst h1; subst h2; subst h3; subst h4; subst h5; subst h6
        have hcat : cellsV ((V.cat [.a ((B.c.drop oo).take (l * sz))]).den ρ α) = ((denL ρ α B.c).drop oo).take (l * sz) := by
          simp [V.den, denL, cellsV, denL_map, List.map_take, List.map_drop]
        have hDl : (((denL ρ α B.c).drop oo).take (l * sz)).length = l * sz := by simp [denL_len]; omega
        have hr2 : Rbnd (cellsV ((V.cat [.a ((B.c.drop oo).take (l * sz))]).den ρ α)).length sz (i.den ρ α) ∧ o' + vv.cells.length ≤ sz ∧ v = .agg ((cellsV ((V.cat [.a ((B.c.drop oo).take (l * sz))]).den ρ α)).take (idxOf (i.den ρ α) * sz + o') ++ denL ρ α vv.cells ++ (cellsV ((V.cat [.a ((B.c.drop oo).take (l * sz))]).den ρ α)).drop (idxOf (i.den ρ α) * sz + o' + vv.cells.length)).toArray := hrel
        rw [hcat] at hr2
        obtain ⟨hbd, hlt, hvv⟩ := hr2
        obtain ⟨kk, j, hi', hj0, hj1⟩ := rbnd_of hbd
        rw [hi'] at he1 hvv
        simp only [epv, idxOf, add_zero_addr] at he1 hvv
        rw [hDl, Nat.mul_div_cancel _ hc2] at hj1
        have hjm : (j.toNat + 1) * sz ≤ l * sz := Nat.mul_le_mul_right _ (by omega)
        rw [Nat.add_mul] at hjm
        have hql : j.toNat * sz + o' + vv.cells.length ≤ l * sz := by omega
        have hxs := xs_den (ρ := ρ) (α := α) (u := undef) (path := []) (m := sh0.length) (N := l * sz) (cs := (((denL ρ α B.c).drop oo).take (l * sz)).take (j.toNat * sz + o') ++ denL ρ α vv.cells ++ (((denL ρ α B.c).drop oo).take (l * sz)).drop (j.toNat * sz + o' + vv.cells.length)) (by rw [List.foldl_nil, hvD, hvv]) (by simp only [List.length_append, List.length_take, List.length_drop, denL_len]; omega)
        simp only [List.nil_append] at hxs
        have hup : Upd (α n).b (denL ρ α B.c).toArray B.t (splice (denL ρ α B.c).toArray (oo + (j.toNat * sz + o')) (denL ρ α vv.cells).toArray) (chs ρ α 0 s.hp) (chs ρ α 0 (s.hp.set n (some ⟨spliceV B.c oo ((List.range (l * sz)).map fun j => V.x sh0.length [j]), B.t, B.k⟩))) := by
          refine chs_set (k := 0) hbn (by simp only [Blk.ch, hbk, Nat.zero_add]) ?_
          simp only [Blk.ch, hbk, Nat.zero_add]
          congr 2
          unfold spliceV splice
          rw [denL_app, denL_app, hxs]
          have hms := mid_splice (D := denL ρ α B.c) (vs := denL ρ α vv.cells) (o := oo) (q := j.toNat * sz + o') (k := vv.cells.length) (L := l * sz) hql (by simp [denL_len]; omega) (denL_len ..)
          simp only [List.length_map, List.length_range]
          rw [show denL ρ α (B.c.take oo) = (denL ρ α B.c).take oo by simp [denL_map, List.map_take], show denL ρ α (B.c.drop (oo + l * sz)) = (denL ρ α B.c).drop (oo + l * sz) by simp [denL_map, List.map_drop], hms]
          simp [denL_len, Nat.add_assoc]
        have hrow : (⟨spliceV B.c oo ((List.range (l * sz)).map fun j => V.x sh0.length [j]), B.t, B.k⟩ : Blk).rowOk ρ α n := by simp [Blk.rowOk, hbk]
        have hown : (⟨spliceV B.c oo ((List.range (l * sz)).map fun j => V.x sh0.length [j]), B.t, B.k⟩ : Blk).own = true := by simp [Blk.own, hbk]
        have hones : (denL ρ α vv.cells).toArray.all (·.oneCell') = true := ones_ok hI.good hsh α hc5
        cases hA : vv.isA
        · have hcs : vv.cells = [vv] := by cases vv <;> first | rfl | simp [V.isA] at hA
          rw [hcs] at hup hones hql hc3
          simp at hc3
          subst hc3
          have h1c : (vv.den ρ α).oneCell' = true := by simpa [denL] using hones
          refine wp_store_one hop he1 he2 hI.st hup ?_ hs (by simp [denL_len] at hql ⊢; omega) h1c fun W' hS => fin_wr hI hbn hrow hown hw hK hS rfl
          rw [setL_splice (by simp [denL_len] at hql ⊢; omega)]
          rfl
        obtain ⟨cs, rfl⟩ : ∃ cs, vv = .a cs := by cases vv <;> simp [V.isA] at hA; exact ⟨_, rfl⟩
        simp only [V.cells] at *
        refine wp_store_sub hop he1 he2 hI.st hup ?_ ?_ hones fun W' hS => fin_wr hI hbn hrow hown hw hK hS rfl
        · rw [hs]; simp [denL_len, hc3]
        simp [denL_len] at hql ⊢; omega
      cases h
    cases h
  · -- an element's address in a package variable
    rename_i t x y ad i
    simp [Op.operands, denL] at he
    split at h
    · rename_i len e hf
      split at h
      · rename_i sz hs
        obtain ⟨rfl, rfl⟩ := planEp_nn h
        obtain ⟨rfl, ad', len', cap, kk, j, hs', hi', h0, h1⟩ := ep_core hL h hrel
        simp only [V.den, Value.slice.injEq, Option.some.injEq] at hs'
        obtain ⟨rfl, rfl, rfl⟩ := hs'
        have hK' := fin_pure hI hw hK
        simp only [resV, Option.getD_some, V.den, hi', epv, Nat.add_zero] at hK'
        exact wp_indexAddr_ptr hop (by rw [he.1]; rfl) (he.2.trans hi') hf h0 h1 hs hK'
      cases h
    cases h
  · -- an element's address in an own array
    rename_i t x y n oo i path
    simp [Op.operands, denL] at he
    split at h
    · split at h
      · rename_i len e hf
        split at h
        · rename_i sz hs
          obtain ⟨rfl, rfl⟩ := planEp_nn h
          obtain ⟨rfl, ad', len', cap, kk, j, hs', hi', h0, h1⟩ := ep_core hL h hrel
          simp only [V.den, Value.slice.injEq, Option.some.injEq] at hs'
          obtain ⟨rfl, rfl, rfl⟩ := hs'
          have hK' := fin_pure hI hw hK
          have hi2 : (V.x i path).den ρ α = .int kk j := hi'
          simp only [resV, Option.getD_some] at hK'
          rw [show (V.ep (.sl n oo len len) (.x i path) sz 0).den ρ α = .pointer (some ((⟨(α n).b, oo, none⟩ : Addr).add (j.toNat * sz))) by simp only [V.den] at hi2 ⊢; rw [hi2]; simp [epv]] at hK'
          exact wp_indexAddr_ptr hop (by rw [he.1]; rfl) (he.2.trans hi2) hf h0 h1 hs hK'
        cases h
      cases h
    cases h
  · -- an element's address in an own slice
    rename_i t x y n oo l cc i path
    simp [Op.operands, denL] at he
    split at h
    · split at h
      · rename_i e hf
        split at h
        · rename_i sz hs
          obtain ⟨rfl, rfl⟩ := planEp_nn h
          obtain ⟨rfl, ad', len', cap, kk, j, hs', hi', h0, h1⟩ := ep_core hL h hrel
          simp only [V.den, Value.slice.injEq, Option.some.injEq] at hs'
          obtain ⟨rfl, rfl, rfl⟩ := hs'
          have hK' := fin_pure hI hw hK
          have hi2 : (V.x i path).den ρ α = .int kk j := hi'
          simp only [resV, Option.getD_some] at hK'
          rw [show (V.ep (.sl n oo l cc) (.x i path) sz 0).den ρ α = .pointer (some ((⟨(α n).b, oo, none⟩ : Addr).add (j.toNat * sz))) by simp only [V.den] at hi2 ⊢; rw [hi2]; simp [epv]] at hK'
          exact wp_indexAddr_sl hop (by rw [he.1]; rfl) (he.2.trans hi2) (slOf_eq hf) h0 h1 hs rfl hK'
        cases h
      cases h
    cases h
  · -- an element of an array's value
    rename_i t x y cs i path
    simp [Op.operands, denL] at he
    split at h
    · split at h
      · rename_i len e hf
        split at h
        · rename_i hr hs
          split at h
          · rename_i hlen
            injection h with h1 h2 h3 h4 h5 h6
            subst h1; subst h2; subst h3; subst h4; subst h5; subst h6
            have hr2 : Rbnd (cellsV ((V.cat [.a cs]).den ρ α)).length 1 ((V.x i path).den ρ α) ∧ (cellsV ((V.cat [.a cs]).den ρ α))[idxOf ((V.x i path).den ρ α) * 1 + 0]? = some v := hrel
            have hcat : cellsV ((V.cat [.a cs]).den ρ α) = denL ρ α cs := by simp [V.den, denL, cellsV]
            rw [hcat] at hr2
            obtain ⟨hbd, hcell⟩ := hr2
            obtain ⟨kk, j, hi', hj0, hj1⟩ := rbnd_of hbd
            rw [hi'] at hcell
            simp only [idxOf, Nat.mul_one, Nat.add_zero] at hcell
            rw [denL_len, hlen, Nat.div_one] at hj1
            have hK' := fin_pure hI hw hK
            rw [← hu rfl] at hK'
            exact wp_index_one hop (by rw [he.1]; rfl) (he.2.trans hi') hf hj0 hj1 hr hs (by rw [lookL_eq]; exact hcell) hK'
          cases h
        cases h
      cases h
    cases h
  · -- makeSlice
    split at h
    · split at h
      · split at h <;> cases h
      cases h
    cases h
  · -- bytes of a string
    rename_i src dst y x
    simp [Op.operands, denL] at he
    split at h
    · rename_i e hsu hsl
      split at h
      · rename_i heu
        injection h with h1 h2 h3 h4 h5 h6
        subst h1; subst h2; subst h3; subst h4; subst h5; subst h6
        obtain ⟨b, hb, rfl⟩ := (hrel : ∃ b : ByteArray, x.den ρ α = .string b ∧ v = .agg (b.data.toList.map fun x => Value.int .u8 (x.toNat : Int)).toArray)
        have hrun := run_bytes_of_string (P := C.P) W src dst e b hsu (slOf_eq hsl) heu
        have hnm' : freeIn s nm := hnm.resolve_left nofun
        have hxs : ∀ α', (⟨[.x sh0.length []], 0, .ext 1⟩ : Blk).xs ρ α' = b.data.toList.map fun x => Value.int .u8 (x.toNat : Int) := fun α' => by
          simp [Blk.xs, denL, V.den, List.getD_eq_getElem?_getD, hv, cellsV]
        have hsz : b.data.toList.length = b.size := by rw [Array.length_toList]; rfl
        have hbel : Below W.heap.size W (W.drew.alloc (.cells (bytesRow b (grownCap W b.size 0 e)) e ((bytesRow b (grownCap W b.size 0 e)).size, (bytesRow b (grownCap W b.size 0 e)).size + 1))) := (Below.refl _ _).drew.alloc (Nat.le_refl _) _
        have hc : (execOp a.eval o).run C.P W = .ok (.value (.slice (some ⟨W.heap.size, 0, none⟩) b.size (grownCap W b.size 0 e))) (W.drew.alloc (.cells (bytesRow b (grownCap W b.size 0 e)) e ((bytesRow b (grownCap W b.size 0 e)).size, (bytesRow b (grownCap W b.size 0 e)).size + 1))) := by
          unfold execOp
          simp only [hop, he.trans hb, Sem.run_bind, Sem.run_pure, Result.andThen_ok, hrun]
        unfold Oper.wp
        rw [hc]
        refine fin_ext (b := ⟨[.x sh0.length []], 0, .ext 1⟩) hI hnm' rfl hw hK ⟨0, .slice (some ⟨W.heap.size, 0, none⟩) b.size (grownCap W b.size 0 e), []⟩ (hI.step hbel).st (by omega) ⟨_, _, _, rfl, by rw [hxs]; simp, grownCap_ge W b.size 0 e, fun _ => rfl⟩ (fun W2 hW2 => ?_) fun α' h1 _ => by simp only [resV, Option.getD_some, V.den, h1]
        rw [hxs]
        refine ⟨⟨?_, grownCap_ge W b.size 0 e⟩, .inl fun ad n' c' e' _ => ?_⟩
        · have hR : Rd (W.drew.alloc (.cells (bytesRow b (grownCap W b.size 0 e)) e ((bytesRow b (grownCap W b.size 0 e)).size, (bytesRow b (grownCap W b.size 0 e)).size + 1))) 1 (some ⟨W.heap.size, 0, none⟩) b.size (b.data.toList.map fun x => Value.int .u8 (x.toNat : Int)) := by
            refine ⟨by simp, fun _ => ⟨_, rfl, by show W.heap.size < (W.heap.push _).size; rw [Array.size_push]; exact Nat.lt_succ_self _, fun j u hu => ?_⟩⟩
            have hadd : (⟨W.heap.size, 0, none⟩ : Addr).add j = ⟨W.heap.size, j, none⟩ := by unfold Addr.add; split <;> simp_all
            rw [hadd]
            unfold World.cell?
            have hh : (W.drew.alloc (.cells (bytesRow b (grownCap W b.size 0 e)) e ((bytesRow b (grownCap W b.size 0 e)).size, (bytesRow b (grownCap W b.size 0 e)).size + 1))).heap[W.heap.size]? = some (.cells (bytesRow b (grownCap W b.size 0 e)) e ((bytesRow b (grownCap W b.size 0 e)).size, (bytesRow b (grownCap W b.size 0 e)).size + 1)) := by
              show (W.heap.push _)[W.heap.size]? = _
              simp
            simp only [hh, Option.isSome_none, Bool.false_eq_true, if_false]
            have hj := (List.getElem?_eq_some_iff.1 hu).1
            simp only [List.length_map] at hj
            unfold bytesRow
            rw [Array.getElem?_append_left (by simpa using hj)]
            simpa using hu
          refine hR.same hW2 fun ad e' hm => ?_
          cases e'
          exact absurd (hI.st.mut_lt hm).2 (Nat.lt_irrefl _)
        cases e'
        exact hI.st.old.size
      cases h
    split at h
    case isFalse => cases h
    rename_i hb2
    obtain ⟨vv0, hbv⟩ := hsee rfl
    rw [hbv] at h
    unfold planBs at h
    split at h
    · -- a row's bytes
      rename_i n
      split at h
      case h_2 => cases h
      rename_i c' e' sz' hrow
      split at h
      case isFalse => cases h
      rename_i hs1
      subst hs1
      injection h with h1 h2 h3 h4 h5 h6
      subst h1; subst h2; subst h3; subst h4; subst h5; subst h6
      obtain ⟨kk, hrn, hkk⟩ := rdOfN_eq hrow
      have hrd := rd_any hI hrn hkk
      have hl := (hI.rows n _ hrn).2.len
      have hl : ∃ A len cap, (α n).h = .slice A len cap := by
        rcases hkk with rfl | rfl
        · obtain ⟨_, A, len, cap, h, _⟩ := hl; exact ⟨A, len, cap, h⟩
        obtain ⟨_, A, len, cap, h, _⟩ := hl; exact ⟨A, len, cap, h⟩
      obtain ⟨A, k, cap, hyd⟩ := hl
      rw [hyd] at hrd
      have hRd : Rd W 1 A k ((denL ρ α c').flatMap cellsV) := hrd.1
      have hcat : cellsV ((V.cat c').den ρ α) = (denL ρ α c').flatMap cellsV := by simp [V.den, cellsV]
      obtain ⟨l, hcl, rfl⟩ := (hrel : ∃ l : List UInt8, cellsV ((V.cat c').den ρ α) = l.map (fun b => Value.int .u8 (b.toNat : Int)) ∧ v = .string ⟨l.toArray⟩)
      rw [hcat] at hcl
      rw [hcl] at hRd
      have hK2 := fin_pure hI hw hK
      rw [← hu rfl] at hK2
      exact wp_val (run_b2s hop (he.trans hyd) hRd hb2) hK2
    · -- an own part
      rename_i n oo l cc
      split at h
      case h_2 => cases h
      rename_i B hB
      split at h
      case isFalse => cases h
      rename_i hc1
      injection h with h1 h2 h3 h4 h5 h6
      subst h1; subst h2; subst h3; subst h4; subst h5; subst h6
      obtain ⟨hbn, hbk⟩ := blkOf_eq hB
      have hat := hI.st.at_ (hI.blk hbn hbk)
      have hrd : Rd W 1 (some ⟨(α n).b, oo, none⟩) l (((denL ρ α B.c).drop oo).take (l * 1)) := Rd.of_part hat rfl (by simp [denL_len]; omega)
      rw [Nat.mul_one] at hrd
      have hcat : cellsV ((V.a ((B.c.drop oo).take l)).den ρ α) = ((denL ρ α B.c).drop oo).take l := by
        simp [V.den, cellsV, denL_map, List.map_take, List.map_drop]
      obtain ⟨l', hcl, rfl⟩ := (hrel : ∃ l' : List UInt8, cellsV ((V.a ((B.c.drop oo).take l)).den ρ α) = l'.map (fun b => Value.int .u8 (b.toNat : Int)) ∧ v = .string ⟨l'.toArray⟩)
      rw [hcat] at hcl
      rw [hcl] at hrd
      have hK2 := fin_pure hI hw hK
      rw [← hu rfl] at hK2
      exact wp_val (run_b2s hop he hrd hb2) hK2
    · rename_i i path
      injection h with h1 h2 h3 h4 h5 h6
      subst h1; subst h2; subst h3; subst h4; subst h5; subst h6
      obtain ⟨l, A, n, c, hKc, hxd, rfl⟩ := (hrel : ∃ (l : List UInt8) (A : Option Addr) (n c : Nat), C.K ((V.x i path).den ρ α) 1 (l.map fun b => Value.int .u8 (b.toNat : Int)) ∧ (V.x i path).den ρ α = .slice A n c ∧ v = .string ⟨l.toArray⟩)
      have hRd : Rd W 1 A n (l.map fun b => Value.int .u8 (b.toNat : Int)) := by have := hKf _ _ _ hKc; rw [hxd] at this; exact this.1
      have hK2 := fin_pure hI hw hK
      rw [← hu rfl] at hK2
      exact wp_val (run_b2s hop (he.trans hxd) hRd hb2) hK2
    cases h
  · -- copy
    rename_i c n oo l cc y
    split at h
    · rename_i t t' hcal hat
      split at h
      · rename_i e B hsl hB
        obtain ⟨vv0, hbv⟩ := hsee (by simp [shapeOp, hcal])
        rw [hbv] at hB
        obtain ⟨hbn, hbk⟩ := blkOf_eq hB
        split at h
        · rename_i hsz
          split at h
          · rename_i hlen
            split at h
            · split at h
              · split at h <;> cases h
              cases h
            · rename_i n'
              split at h
              · rename_i c' e' sz' hrow
                split at h
                · rename_i hs1
                  subst hs1
                  injection h with h1 h2 h3 h4 h5 h6
                  subst h1; subst h2; subst h3; subst h4; subst h5; subst h6
                  obtain ⟨p, q', rfl, hp, hq⟩ : ∃ p q', c = { callee := .builtin .copy, args := #[p, q'], argTypes := #[t, t'] } ∧ a.eval p = .slice (some ⟨(α n).b, oo, none⟩) l cc ∧ a.eval q' = (α n').h := by
                    obtain ⟨cal, ar, at'⟩ := c
                    simp only at hcal hat
                    subst hcal
                    have hat2 : at' = #[t, t'] := by rw [← Array.toArray_toList (xs := at'), hat]
                    subst hat2
                    simp only [Op.operands, Call.operands, denL, V.den] at he
                    have hpq : ∃ p q', ar = #[p, q'] ∧ a.eval p = .slice (some ⟨(α n).b, oo, none⟩) l cc ∧ a.eval q' = (α n').h := map2' (Array.ext' (by simpa using he))
                    obtain ⟨p, q', rfl, hp, hq⟩ := hpq
                    exact ⟨p, q', rfl, hp, hq⟩
                  obtain ⟨kk, hrn, hkk⟩ := rdOfN_eq hrow
                  have hrd := rd_any hI hrn hkk
                  have hl := (hI.rows n' _ hrn).2.len
                  have hl : ∃ A len cap, (α n').h = .slice A len cap := by
                    rcases hkk with rfl | rfl
                    · obtain ⟨_, A, len, cap, h, _⟩ := hl; exact ⟨A, len, cap, h⟩
                    obtain ⟨_, A, len, cap, h, _⟩ := hl; exact ⟨A, len, cap, h⟩
                  obtain ⟨A, k, cap, hyd⟩ := hl
                  rw [hyd] at hrd
                  have hRd : Rd W 1 A k ((denL ρ α c').flatMap cellsV) := hrd.1
                  have hcat : cellsV ((V.cat c').den ρ α) = (denL ρ α c').flatMap cellsV := by simp [V.den, cellsV]
                  obtain ⟨hone, rfl⟩ := (hrel : (∀ u ∈ cellsV ((V.cat c').den ρ α), u.oneCell' = true) ∧ v = .tuple #[.int .i64 ((Nat.min (cellsV ((V.cat c').den ρ α)).length l : Nat) : Int), .agg ((cellsV ((V.cat c').den ρ α)).take l ++ (cellsV ((V.a ((B.c.drop oo).take l)).den ρ α)).drop (Nat.min (cellsV ((V.cat c').den ρ α)).length l)).toArray])
                  have hkl : ((denL ρ α c').flatMap cellsV).length = k := by have := hRd.1; omega
                  have hD : cellsV ((V.a ((B.c.drop oo).take l)).den ρ α) = ((denL ρ α B.c).drop oo).take l := by
                    simp [V.den, cellsV, denL_map, List.map_take, List.map_drop]
                  exact cpy_ok hop hp (hq.trans hyd) hsl hsz hbn hbk hlen hI hvD hRd (by rw [← hcat]; exact hone) (by rw [hD, hcat, hkl]) hw hK
                cases h
              cases h
            · rename_i i path
              injection h with h1 h2 h3 h4 h5 h6
              subst h1; subst h2; subst h3; subst h4; subst h5; subst h6
              obtain ⟨p, q', rfl, hp, hq⟩ : ∃ p q', c = { callee := .builtin .copy, args := #[p, q'], argTypes := #[t, t'] } ∧ a.eval p = .slice (some ⟨(α n).b, oo, none⟩) l cc ∧ a.eval q' = (V.x i path).den ρ α := by
                obtain ⟨cal, ar, at'⟩ := c
                simp only at hcal hat
                subst hcal
                have hat2 : at' = #[t, t'] := by rw [← Array.toArray_toList (xs := at'), hat]
                subst hat2
                simp only [Op.operands, Call.operands, denL, V.den] at he
                have hpq : ∃ p q', ar = #[p, q'] ∧ a.eval p = .slice (some ⟨(α n).b, oo, none⟩) l cc ∧ a.eval q' = path.foldl comp (ρ.getD i undef) := map2' (Array.ext' (by simpa using he))
                obtain ⟨p, q', rfl, hp, hq⟩ := hpq
                exact ⟨p, q', rfl, hp, hq⟩
              obtain ⟨cells, A, k, cap, hKc, hyd, hone, rfl⟩ := (hrel : ∃ cells A k cap, C.K ((V.x i path).den ρ α) 1 cells ∧ (V.x i path).den ρ α = .slice A k cap ∧ (∀ u ∈ cells, u.oneCell' = true) ∧ v = .tuple #[.int .i64 ((Nat.min k l : Nat) : Int), .agg (cells.take (l * 1) ++ (cellsV ((V.a ((B.c.drop oo).take l)).den ρ α)).drop (Nat.min k l * 1)).toArray])
              have hRd : Rd W 1 A k cells := by have := hKf _ _ _ hKc; rw [hyd] at this; exact this.1
              have hD : cellsV ((V.a ((B.c.drop oo).take l)).den ρ α) = ((denL ρ α B.c).drop oo).take l := by
                simp [V.den, cellsV, denL_map, List.map_take, List.map_drop]
              exact cpy_ok hop hp (hq.trans hyd) hsl hsz hbn hbk hlen hI hvD hRd hone (by rw [hD, Nat.mul_one, Nat.mul_one]) hw hK
            cases h
          cases h
        cases h
      cases h
    cases h
  · -- a row cut to nothing
    split at h
    · split at h <;> cases h
    cases h
  · split at h <;> cases h
  · -- zeros
    rename_i c y
    split at h
    · rename_i t t' hcal hat
      split at h
      · rename_i kk e hui hsl
        split at h
        · rename_i sz by' z hsz hby hz
          split at h
          · rename_i hc
            obtain ⟨h0, hzs⟩ := hc
            injection h with h1 h2 h3 h4 h5 h6
            subst h1; subst h2; subst h3; subst h4; subst h5; subst h6
            have hnm' : freeIn s nm := hnm.resolve_left nofun
            obtain ⟨cal, ar, at'⟩ := c
            simp only at hcal hat
            subst hcal
            have hat2 : at' = #[t, t'] := by rw [← Array.toArray_toList (xs := at'), hat]
            subst hat2
            simp only [Op.operands, Call.operands, denL] at he
            have hpq : ∃ p q', ar = #[p, q'] ∧ a.eval p = (V.k (.slice none 0 0)).den ρ α ∧ a.eval q' = y.den ρ α := map2' (Array.ext' (by simpa using he))
            obtain ⟨p, q', rfl, hp, hq⟩ := hpq
            obtain ⟨k, L, hy, hL0, hL1, hL2, rfl⟩ := (hrel : ∃ k L, y.den ρ α = .int k L ∧ 0 < L ∧ L ≤ 70368744177664 ∧ L * (by' : Int) ≤ 140737488355328 ∧ v = .agg (madeCells z.cells (L.toNat * sz)))
            refine wp_appz hop hp (hq.trans hy) (slOf_eq hsl) hui hsz hz hzs hby hL0 hL1 hL2 hI.st fun k' cap Z W' hS hl hcap hmax => ?_
            have hxs : ∀ α', (⟨[.x sh0.length []], e, .row sz⟩ : Blk).xs ρ α' = (madeCells z.cells (L.toNat * sz)).toList := fun α' => by
              simp [Blk.xs, denL, V.den, List.getD_eq_getElem?_getD, hv, cellsV]
            refine fin_row (b := ⟨[.x sh0.length []], e, .row sz⟩) hI hnm' rfl hw hK ⟨k', .slice (some ⟨k', 0, none⟩) L.toNat cap, Z⟩ (fun α' h1 h2 h3 h4 => ⟨St.perm ?_ (chs_new (k := 0) hnm'.1 (e := ⟨k', ((madeCells z.cells (L.toNat * sz)).toList ++ Z).toArray, e⟩) ?_), h0, .inr ⟨L.toNat, cap, by rw [h1], by rw [hxs]; simp [madeCells], by rw [hxs, h1]; exact hl, hcap, hmax⟩⟩) fun α' h1 => by simp only [resV, Option.getD_some, V.den, h1]
            · rw [h4]; exact hS
            simp only [Blk.ch, Nat.zero_add, h1, hxs]
          cases h
        cases h
      cases h
    cases h
  · -- a call of a method value that writes its receiver
    rename_i c g n args'
    split at h
    · rename_i f hcal
      obtain ⟨vv0, hbv⟩ := hsee (by simp [shapeOp, hcal])
      rw [hbv] at h
      unfold planCp at h
      split at h
      case h_2 => cases h
      rename_i L b rw' hcp hB hrw hen
      split at h
      case isFalse => cases h
      rename_i hc
      obtain ⟨hlen, hdis⟩ := hc
      injection h with h1 h2 h3 h4 h5 h6
      subst h1; subst h2; subst h3; subst h4; subst h5; subst h6
      obtain ⟨hbn, hbk⟩ := blkOf_eq hB
      have hl := rwOf_len hrw
      obtain ⟨as', ha, hP⟩ := (hrel : ∃ as', argsOk C ρ α rw' ((args' ++ b.c).take rw'.length) as' ∧ PCall C g as' (denL ρ α ((args' ++ b.c).drop rw'.length)) b.t v)
      rw [List.take_left' hl.symm] at ha
      rw [List.drop_left' hl.symm] at hP
      obtain ⟨h5, h6⟩ := rw_args hI hKf hrw ha
      have hbm : ∀ b0 ∈ [(α n).b], ∃ (m : Nat) (B : Blk) (e : Ch), s.hp[m]? = some (some B) ∧ B.ch ρ α m = some e ∧ b0 = e.id ∧ m ∈ [n] := fun b0 hb0 => by
        obtain rfl := List.mem_singleton.1 hb0
        exact ⟨n, b, ⟨(α n).b, (denL ρ α b.c).toArray, b.t⟩, hbn, by simp only [Blk.ch, hbk], rfl, List.mem_cons_self ..⟩
      have hsub : ∀ b0 ∈ [(α n).b], b0 ∈ muts (chs ρ α 0 s.hp) (osA a s T) := fun b0 hb0 => by
        obtain rfl := List.mem_singleton.1 hb0
        exact List.mem_append.2 (.inl (List.mem_map.2 ⟨_, hI.blk hbn hbk, rfl⟩))
      have hup : ∀ {W2 : World}, Same [(α n).b] W W2 → Same (muts (chs ρ α 0 s.hp) (osA a s T)) W W2 := fun h => ⟨h.size, fun b0 hb0 hn => h.block b0 hb0 fun hm => hn (hsub b0 hm)⟩
      have hcall := hP W (α n).b (fun x hx W2 hW2 => rw_pers hI hps hbm hrw ha (fun m hm hc => by
        have := List.all_eq_true.1 hdis m hm
        simp only [Bool.not_eq_true', List.contains_eq_mem, decide_eq_false_iff_not] at this
        exact this hc) W2 hW2 x hx) (fun u z cells hk W2 hW2 => hI.st.pers _ (List.mem_append.2 (.inr hps.1)) W2 (hup hW2) _ _ _ hk) (hI.st.at_ (hI.blk hbn hbk))
      obtain ⟨cal, ar, at'⟩ := c
      simp only at hcal
      subst hcal
      simp only [Op.operands, Call.operands, denL, V.den] at he
      simp at he
      obtain ⟨h7, h8⟩ := he
      have hcs : denL ρ α ((List.range L).map fun j => V.x sh0.length [j]) = cellsV v := by
        obtain ⟨cs, rfl, hsz⟩ : ∃ cs : Array Value, v = .agg cs ∧ cs.size = L := by
          cases v <;> simp only [Sh.fit, Bool.false_eq_true] at hfit
          rename_i cs
          simp only [Bool.and_eq_true, beq_iff_eq, Array.length_toList] at hfit
          exact ⟨cs, rfl, hfit.1⟩
        have := xs_den (ρ := ρ) (α := α) (u := undef) (path := []) (m := sh0.length) (N := L) (cs := cs.toList) (by rw [List.foldl_nil, hvD]) (by simpa using hsz)
        simp only [List.nil_append] at this
        rw [this]
        rfl
      refine wp_callB hop h7 (vs := (Value.pointer (some ⟨(α n).b, 0, none⟩) :: as'.map Arg.v).toArray) ?_ (enters_run hen _ _) (R := fun u W' => u = .tuple #[] ∧ W'.os = W.os ∧ W'.tape = W.tape ∧ W'.output = W.output ∧ Same [(α n).b] W W' ∧ W'.heap[(α n).b]? = some (.cells (cellsV v).toArray b.t (0, 0))) (hcall.mono fun e W' ⟨h1, h2⟩ => ⟨_, h1, rfl, h2⟩) ?_
      · rw [h5]
        exact Array.ext' (by simp [h8])
      rintro u W' ⟨rfl, hos, htp, hout, hsm, hbl⟩
      have hupd : Upd (α n).b (denL ρ α b.c).toArray b.t (cellsV v).toArray (chs ρ α 0 s.hp) (chs ρ α 0 (s.hp.set n (some ⟨(List.range L).map fun j => V.x sh0.length [j], b.t, b.k⟩))) := chs_set (k := 0) hbn (by simp only [Blk.ch, hbk, Nat.zero_add]) (by simp only [Blk.ch, hbk, Nat.zero_add, hcs])
      exact fin_wr hI hbn (by simp [Blk.rowOk, hbk]) (by simp [Blk.own, hbk]) hw hK (hI.st.wrote hupd hos htp hout hsm hbl) rfl
    cases h
  · -- bits turned over
    simp [Op.operands, denL] at he
    injection h with h1 h2 h3 h4 h5 h6
    subst h1; subst h2; subst h3; subst h4; subst h5; subst h6
    have hK' := fin_pure hI hw hK
    rw [← hu rfl] at hK'
    exact wp_val (run_cpl hop he hrel) hK'
  · -- a string's bytes appended
    rename_i c n y
    split at h
    case h_2 => cases h
    rename_i t t' hcal hat
    obtain ⟨vv0, hbv⟩ := hsee (by simp [shapeOp, hcal])
    rw [hbv] at h
    unfold planAs at h
    split at h
    case h_2 => cases h
    rename_i e hut hsl
    split at h
    case h_2 => cases h
    rename_i by' z hsz hby hz
    split at h
    case h_2 => cases h
    rename_i cc old hold
    split at h
    case isFalse => cases h
    rename_i hc
    obtain ⟨hzs, hbyl⟩ := hc
    injection h with h1 h2 h3 h4 h5 h6
    subst h1; subst h2; subst h3; subst h4; subst h5; subst h6
    have hnm' : freeIn s nm := hnm.resolve_left nofun
    obtain ⟨cal, ar, at'⟩ := c
    simp only at hcal hat
    subst hcal
    have hat2 : at' = #[t, t'] := by rw [← Array.toArray_toList (xs := at'), hat]
    subst hat2
    simp only [Op.operands, Call.operands, denL] at he
    have hpq : ∃ p q', ar = #[p, q'] ∧ a.eval p = (V.row n).den ρ α ∧ a.eval q' = y.den ρ α := map2' (Array.ext' (by simpa using he))
    obtain ⟨p, q', rfl, hp, hq⟩ := hpq
    obtain ⟨b, hyb, hb1, hb2, rfl⟩ := (hrel : ∃ b : ByteArray, y.den ρ α = .string b ∧ ((cellsV ((V.cat cc).den ρ α)).length + b.size) * by' ≤ 140737488355328 ∧ (cellsV ((V.cat cc).den ρ α)).length + b.size ≤ 140737488355328 ∧ v = .agg (b.data.toList.map fun x => Value.int .u8 (x.toNat : Int)).toArray)
    have hcat : cellsV ((V.cat cc).den ρ α) = (denL ρ α cc).flatMap cellsV := by simp [V.den, cellsV]
    rw [hcat] at hb1 hb2
    exact app_gen (cells := byteCells b) (m := b.size) hop hp (hq.trans hyb) (Src.ofString W hut b) (by rw [byteCells_length, Nat.mul_one]) hsl hsz hby hz hold (by omega) hzs hbyl (by simp [V.den, List.getD_eq_getElem?_getD, hv, byteCells]) (by rw [byteCells_length, Nat.div_one]; exact hb1) (by rw [byteCells_length, Nat.div_one]; exact hb2) hI hnm' hw hK
  · split at h <;> cases h
  · unfold planTa at h
    split at h
    · cases h
    · split at h
      · cases h
      split at h <;> cases h
    cases h
  · -- a value of an interface asked for its type
    rename_i x xt ta i path
    have hu0 := hu
    simp [Op.operands, denL] at he
    unfold planTx at h
    split at h
    · cases h
    · rename_i d z hni hud hz
      split at h
      · rename_i hone
        injection h with h1 h2 h3 h4 h5 h6
        subst h1; subst h2; subst h3; subst h4; subst h5; subst h6
        have hK' := fin_pure hI hw hK
        rw [← hu0 rfl] at hK'
        obtain ⟨t, c, z', hx, hz', rfl⟩ := hrel
        rw [hz] at hz'
        cases hz'
        by_cases ht : t = ta
        · subst ht
          simp only [if_true, decide_true] at hK'
          exact wp_val (run_tassert hop (he.trans hx) hud (fun ms e => hni ms e)) hK'
        simp only [if_neg ht, decide_eq_false ht] at hK'
        exact wp_val (run_tassert_no hop (he.trans hx) hud (fun ms e => hni ms e) ht hz) hK'
      cases h
    cases h
  · split at h <;> cases h
  · -- a look into a map
    rename_i t x1 x2 ok n x
    simp [Op.operands, denL, V.den] at he
    obtain ⟨he1, he2⟩ := he
    unfold planMl at h
    split at h
    case h_2 => cases h
    rename_i K' sz b z c bt k ag hm hp
    split at h
    case isFalse => cases h
    rename_i hc
    obtain ⟨rfl, rfl, hk⟩ := hc
    injection h with h1 h2 h3 h4 h5 h6
    subst h1; subst h2; subst h3; subst h4; subst h5; subst h6
    obtain ⟨vv0, hbv⟩ := hsee rfl
    rw [hbv] at hp
    have hn := mpOf_eq hp
    obtain ⟨kt, e, hu1, hu2, hr, hsz, hz⟩ := mapOf_eq hm
    have hat := hI.st.atO (chs_mem (k := 0) hn (e := ⟨(α n).b, ((denL ρ α c).flatMap cellsV).toArray, .map k ag⟩) (by simp only [Blk.ch, Nat.zero_add, Blk.xs]))
    obtain ⟨l, i, hcl, hl, hxi, hvv⟩ := (hrel : ∃ (l : List (Int × List Value)) (i : Int), cellsV ((V.cat c).den ρ α) = l.flatMap (mCells K') ∧ (∀ e ∈ l, e.2.length = k) ∧ x.den ρ α = .int K' i ∧ v = (match getM l i with
      | some cs => if ok then .tuple #[elV ag cs, .bool true] else elV ag cs
      | none => if ok then .tuple #[z, .bool false] else z))
    have hcat : cellsV ((V.cat c).den ρ α) = (denL ρ α c).flatMap cellsV := by simp [V.den, cellsV]
    rw [hcat] at hcl
    rw [hcl] at hat
    have hrun := run_mapLookup (P := C.P) (ok := ok) (i := i) hu1 hu2 hz hk hl hat
    have hK2 := fin_pure hI hw hK
    rw [← hu rfl, hvv] at hK2
    refine wp_val ?_ hK2
    simp only [execOp, hop, he1, he2.trans hxi, Sem.run_bind, Sem.run_pure, hrun, Result.andThen_ok] <;> rfl
  · -- a store into a map
    rename_i t x1 x2 x3 n x vv
    simp [Op.operands, denL, V.den] at he
    obtain ⟨he1, he2, he3⟩ := he
    unfold planMs at h
    split at h
    case h_2 => cases h
    rename_i K' sz b z c bt k ag hm hp
    split at h
    case isFalse => cases h
    rename_i hc
    obtain ⟨rfl, rfl, hk, hA, hcl0⟩ := hc
    injection h with h1 h2 h3 h4 h5 h6
    subst h1; subst h2; subst h3; subst h4; subst h5; subst h6
    obtain ⟨vv0, hbv⟩ := hsee rfl
    rw [hbv] at hp
    have hn := mpOf_eq hp
    obtain ⟨kt, e, hu1, hu2, hr, hsz, hz⟩ := mapOf_eq hm
    have hat := hI.st.atO (chs_mem (k := 0) hn (e := ⟨(α n).b, ((denL ρ α c).flatMap cellsV).toArray, .map k ag⟩) (by simp only [Blk.ch, Nat.zero_add, Blk.xs]))
    obtain ⟨l, i, hcl, hl, hxi, hvv⟩ := (hrel : ∃ (l : List (Int × List Value)) (i : Int), cellsV ((V.cat c).den ρ α) = l.flatMap (mCells K') ∧ (∀ e ∈ l, e.2.length = k) ∧ x.den ρ α = .int K' i ∧ v = .agg ((putM l i (denL ρ α vv.cells)).flatMap (mCells K')).toArray)
    have hcat : cellsV ((V.cat c).den ρ α) = (denL ρ α c).flatMap cellsV := by simp [V.den, cellsV]
    rw [hcat] at hcl
    have hvd : vv.den ρ α = elV ag (denL ρ α vv.cells) := by
      subst hA
      cases vv <;> simp [V.isA, V.cells, elV, denL, V.den]
    have hup : Upd (α n).b ((denL ρ α c).flatMap cellsV).toArray (.map k ag) ((putM l i (denL ρ α vv.cells)).flatMap (mCells K')).toArray (chs ρ α 0 s.hp) (chs ρ α 0 (s.hp.set n (some ⟨[.x sh0.length []], bt, .mp k ag⟩))) := by
      refine chs_set (k := 0) hn (by simp only [Blk.ch, Nat.zero_add, Blk.xs]) ?_
      simp [Blk.ch, Blk.xs, denL, V.den, List.getD_eq_getElem?_getD, hv, hvv, cellsV]
    have hS := hI.st.putO hup
    have hat' : W.heap[(α n).b]? = some (mapObj k ag (l.flatMap (mCells K')).toArray) := by rw [hat, ← hcl]; rfl
    have hrun := run_mapStore (P := C.P) (i := i) (xs := denL ρ α vv.cells) hu1 hu2 hk hl (by rw [denL_len, hcl0]) hat'
    have hrun2 : (execOp a.eval o).run C.P W = .ok .skip { W with heap := W.heap.setIfInBounds (α n).b (Ch.obj ⟨(α n).b, ((putM l i (denL ρ α vv.cells)).flatMap (mCells K')).toArray, .map k ag⟩) } := by
      simp only [execOp, hop, he1, he2.trans hxi, he3.trans hvd, Sem.run_bind, Sem.run_pure, hrun, Result.andThen_ok]
      rfl
    unfold Oper.wp
    rw [hrun2]
    exact fin_wr hI hn (by simp [Blk.rowOk]) rfl hw hK hS rfl
  · -- a call that hands back a row of one's own
    rename_i c g args'
    split at h
    case h_2 => cases h
    rename_i f hcal
    obtain ⟨vv0, hbv⟩ := hsee (by simp [shapeOp, hcal])
    rw [hbv] at h
    obtain ⟨cal, ar, at'⟩ := c
    simp only at hcal
    subst hcal
    simp only [Op.operands, Call.operands, denL, V.den] at he
    simp at he
    obtain ⟨h7, h8⟩ := he
    exact rc_ok hop h7 (by simpa using h8) h hps hI hv hrel hnm hw hK
  cases h
theorem df_gen {sh0 : List Sh} {q : Opq} {args : List V} {sh : Sh} {mk : Option V} {new : Option Blk} {wr : Option (Nat × Blk)} {vs : List V} (hsh : sh0 <+: s.sh) (hC : C.Ok) (hps : Ctx C w0 ps) (hvs : o.op.operands.toList.mapM s.ev = some vs) (h : planV C sh0 nm o.op vs (s.see o.op vs) = .df q args sh mk new wr) (hI : InvA w0 ps T ρ s a W α) {v : Value} (hv : ρ[sh0.length]? = some v) (hrel : q.rel C ρ α args v) (hfit : sh.fit v = true)
    (hnm : new = none ∨ freeIn s nm) (hw : effWf s nm (resV sh0.length sh mk) new wr = true) (hK : ∀ a' W', Inv w0 ps T ρ (s.eff nm o.dst (resV sh0.length sh mk) new wr) a' W' → K a' W') : o.wp C.P a W K Q := by
  rcases planV_eq h with ⟨h1, _⟩ | ⟨_, h2⟩
  · exact dfN_gen hsh hC hps hvs h1 hI hv hrel hfit hnm hw hK
  exact df_gen0 hsh hC hps hvs h2 hI hv hrel hfit hnm hw hK
theorem df_ok {q : Opq} {args : List V} {sh : Sh} {mk : Option V} {new : Option Blk} {wr : Option (Nat × Blk)} {vs : List V} (hC : C.Ok) (hps : Ctx C w0 ps) (hvs : o.op.operands.toList.mapM s.ev = some vs) (h : planV C s.sh nm o.op vs (s.see o.op vs) = .df q args sh mk new wr) (hI : InvA w0 ps T ρ s a W α) {v : Value} (hrel : q.rel C (ρ ++ [v]) α args v) (hv : sh.fit v = true)
    (hnm : new = none ∨ freeIn s nm) (hw : effWf (s.ext sh) nm (resV s.sh.length sh mk) new wr = true) (hK : ∀ a' W', Inv w0 ps T (ρ ++ [v]) ((s.ext sh).eff nm o.dst (resV s.sh.length sh mk) new wr) a' W' → K a' W') : o.wp C.P a W K Q := by
  refine df_gen (s := s.ext sh) (sh0 := s.sh) (vs := vs) (q := q) (args := args) (sh := sh) (mk := mk) (new := new) (wr := wr) (v := v) ⟨[sh], rfl⟩ hC hps hvs h (hI.ext hv) ?_ hrel hv hnm hw hK
  rw [hI.good.len]
  simp
end
end SX
end Go.Proofs.YtbbofkpolcjmgaaDoor
