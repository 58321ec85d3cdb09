/-
  A symbolic executor, fourth part: operations whose value is not known.
-/
import Derived.Test.YtklppgkolcpbbaaSx3
namespace Go.Proofs.Ytklppgkolcpbbaa
set_option linter.unusedSimpArgs false
set_option linter.unusedVariables false
open Go Go.RowKit
namespace SX

/-- the contents that are known lie there -/
def Kf (C : Cx) (W : World) : Prop := ∀ s sz cells, C.K s sz cells → Arg.rd W ⟨s, sz, cells⟩
/-- the functions answer as the context says -/
def Cx.Ok (C : Cx) : Prop := ∀ f as v W, C.R f as v → (∀ x ∈ as, x.rd W) → Kf C W → Calls C.P f (as.map Arg.v).toArray W fun e W' => e = .returned v ∧ Below W.heap.size W W'

theorem comp_agg {cs : Array Value} {j : Nat} : comp (.agg cs) j = cs.toList.getD j undef := rfl
theorem range_getD (l : List Value) (u : Value) : (List.range l.length).map (fun j => l.getD j u) = l := by
  apply List.ext_getElem
  · simp
  · intro i h1 h2
    simp at h1
    simp [h1]
mutual
theorem exp_den (ρ : List Value) (α : Nat → AV) (i : Nat) : ∀ (s : Sh) (path : List Nat) (v : Value), path.foldl comp (ρ.getD i undef) = v → s.fit v = true → (s.exp i path).den ρ α = v
  | .one, path, v, h, _ => by simp only [Sh.exp, V.den]; exact h
  | .any, path, v, h, _ => by simp only [Sh.exp, V.den]; exact h
  | .ag n, path, v, h, hf => by
    cases v <;> simp [Sh.fit] at hf
    rename_i cs
    obtain ⟨rfl, _⟩ := hf
    simp only [Sh.exp, V.den, denL_map, List.map_map]
    have : (List.range cs.size).map (V.den ρ α ∘ fun j => V.x i (path ++ [j])) = cs.toList := by
      rw [← range_getD cs.toList undef, Array.length_toList]
      refine List.map_congr_left fun j _ => ?_
      simp only [Function.comp, V.den, List.foldl_append, h, List.foldl_cons, List.foldl_nil, comp_agg]
    rw [this]
  | .tp l, path, v, h, hf => by
    cases v <;> simp [Sh.fit] at hf
    rename_i vs
    simp only [Sh.exp, V.den]
    rw [expL_den ρ α i l path 0 vs.toList (fun j => by
      simp only [List.foldl_append, h, List.foldl_cons, List.foldl_nil, comp, Nat.zero_add]) hf]
theorem expL_den (ρ : List Value) (α : Nat → AV) (i : Nat) : ∀ (l : List Sh) (path : List Nat) (k : Nat) (vs : List Value), (∀ j, (path ++ [k + j]).foldl comp (ρ.getD i undef) = vs.getD j undef) → Sh.fitL l vs = true → denL ρ α (Sh.expL i l path k) = vs
  | [], path, k, [], _, _ => by simp [Sh.expL, denL]
  | [], path, k, _ :: _, _, h => by simp [Sh.fitL] at h
  | _ :: _, path, k, [], _, h => by simp [Sh.fitL] at h
  | s :: l, path, k, v :: vs, h, hf => by
    simp only [Sh.fitL, Bool.and_eq_true] at hf
    simp only [Sh.expL, denL]
    rw [exp_den ρ α i s (path ++ [k]) v (by simpa using h 0) hf.1, expL_den ρ α i l path (k + 1) vs (fun j => by
      have := h (j + 1)
      rw [show k + (j + 1) = k + 1 + j by omega] at this
      simpa using this) hf.2]
end
/-- the symbol for a value that was asked for -/
def resV (m : Nat) (sh : Sh) (mk : Option V) : V := mk.getD (sh.exp m [])

theorem enters_run {P : Program} {f : FuncId} (h : enters P f = true) (args : Array Value) (W : World) : (callFunc f args).run P W = .ok (.enter f args) W := by
  unfold enters at h
  split at h
  · rename_i fn hf
    simp only [Bool.and_eq_true, Bool.not_eq_true'] at h
    have h1 : ¬ fn.name = "runtime.NumGoroutine" := by simpa using h.1
    obtain ⟨c, hc⟩ := Option.isSome_iff_exists.1 h.2
    simp [callFunc, hf, h1, hc]
  · cases h

section
variable {C : Cx} {w0 : Org} {ps : List (World → Prop)} {T : List (Array Value)} {ρ : List Value} {s : S} {a : Act} {W : World} {α : Nat → AV} {K : Act → World → Prop} {Q : Exit → Act → World → Prop} {o : Oper} {nm : Nat}

theorem fin_df {sh : Sh} {mk : Option V} {v : Value} (hI : InvA w0 ps T ρ s a W α) (hv : sh.fit v = true) (hw : (resV s.sh.length sh mk).wf s.ln (s.sh.length + 1) = true) (hK : ∀ a' W', Inv w0 ps T (ρ ++ [v]) ((s.ext sh).put o.dst (resV s.sh.length sh mk)) a' W' → K a' W')
    {W' : World} (hb : Below W.heap.size W W') {u : Value} (hu : u = (resV s.sh.length sh mk).den (ρ ++ [v]) α) : K (a.put o.dst u) W' :=
  hK _ _ ⟨α, ((hI.step hb).ext hv).put_any o.dst (by rw [hI.good.len] at hw ⊢; simpa [S.ext] using hw) hu⟩
theorem fin_df0 {sh : Sh} {v : Value} (hI : InvA w0 ps T ρ s a W α) (hv : sh.fit v = true) (hw : (resV s.sh.length sh none).wf s.ln (s.sh.length + 1) = true) (hK : ∀ a' W', Inv w0 ps T (ρ ++ [v]) ((s.ext sh).put o.dst (resV s.sh.length sh none)) a' W' → K a' W')
    {W' : World} (hb : Below W.heap.size W W') : K (a.put o.dst v) W' :=
  fin_df hI hv hw hK hb (by
    rw [hI.good.len]
    simp only [resV, Option.getD_none]
    exact (exp_den _ _ _ sh [] v (by simp [List.getD_eq_getElem?_getD]) hv).symm)

theorem sc1_df {q q' : Opq} {f : Value → Option Value} {x : V} {args : List V} {sh : Sh} {mk : Option V} (h : sc1 q f x = .df q' args sh mk none none) : q' = q ∧ args = [x] ∧ sh = .one ∧ mk = none := by
  unfold sc1 at h
  split at h
  · split at h
    · split at h <;> cases h
    · cases h
  · injection h with h1 h2 h3 h4
    exact ⟨h1.symm, h2.symm, h3.symm, h4.symm⟩
theorem sc2_df {q q' : Opq} {f : Value → Value → Option Value} {x y : V} {args : List V} {sh : Sh} {mk : Option V} (h : sc2 q f x y = .df q' args sh mk none none) : q' = q ∧ args = [x, y] ∧ sh = .one ∧ mk = none := by
  unfold sc2 at h
  split at h
  · split at h
    · split at h <;> cases h
    · cases h
  · injection h with h1 h2 h3 h4
    exact ⟨h1.symm, h2.symm, h3.symm, h4.symm⟩

theorem Rd.in {W : World} {sz n : Nat} {A : Option Addr} {xs : List Value} (h : Rd W sz A n xs) {i : Nat} (hi : i < xs.length) : ∃ ad, A = some ad ∧ ∀ j u, xs[j]? = some u → W.cell? (ad.add j) = some u := by
  have hn : 0 < n := by
    rcases Nat.eq_zero_or_pos n with rfl | hn
    · rw [h.1] at hi; omega
    · exact hn
  obtain ⟨ad, e, _, hc⟩ := h.2 hn
  exact ⟨ad, e, hc⟩

/-- what is known of a row -/
theorem row_info (hI : InvA w0 ps T ρ s a W α) {n sz : Nat} {c : List V} {e : TypeId} (hn : s.hp[n]? = some (some ⟨c, e, .row sz⟩)) : 0 < sz ∧ (((denL ρ α c).flatMap cellsV = [] ∧ (α n).h = .slice none 0 0) ∨ ∃ len cap, (α n).h = .slice (some ⟨(α n).b, 0, none⟩) len cap ∧ ((denL ρ α c).flatMap cellsV).length = len * sz ∧ ((denL ρ α c).flatMap cellsV ++ (α n).tl).length = cap * sz ∧ len ≤ cap ∧ cap ≤ maxLen ∧
    (⟨(α n).b, ((denL ρ α c).flatMap cellsV ++ (α n).tl).toArray, e⟩ : Ch) ∈ chs ρ α 0 s.hp) := by
  obtain ⟨_, h0, h1⟩ := hI.rows n _ hn
  refine ⟨h0, h1.imp id fun ⟨len, cap, h2, h3, h4, h5, h6⟩ => ⟨len, cap, h2, h3, h4, h5, h6, chs_mem (k := 0) hn ?_⟩⟩
  simp only [Blk.ch, Nat.zero_add, h2]
  rfl
theorem row_rd (hI : InvA w0 ps T ρ s a W α) {n sz : Nat} {c : List V} {e : TypeId} (hn : s.hp[n]? = some (some ⟨c, e, .row sz⟩)) : Arg.rd W ⟨(α n).h, sz, (denL ρ α c).flatMap cellsV⟩ := by
  obtain ⟨h0, h | ⟨len, cap, h2, h3, h4, h5, h6, hm⟩⟩ := row_info hI hn
  · rw [h.1, h.2]; exact Rd.none_
  · rw [h2]
    show Rd W sz (some ⟨(α n).b, 0, none⟩) len _
    refine Rd.of_blk (hI.st.at_ hm) h3 fun j u hu => ?_
    rw [Nat.zero_add]
    have : ((denL ρ α c).flatMap cellsV ++ (α n).tl)[j]? = some u := by rw [List.getElem?_append_left (List.getElem?_eq_some_iff.1 hu).1]; exact hu
    simpa using this
theorem rw_args (hI : InvA w0 ps T ρ s a W α) (hKf : Kf C W) {vv : List V} : ∀ {ts : List TypeId} {vs : List V} {rw : List Rw} {as : List Arg}, rwOf C.P (blks s.hp vv) ts vs = some rw → argsOk C ρ α rw vs as → as.map Arg.v = denL ρ α vs ∧ ∀ x ∈ as, x.rd W
  | [], [], rw, as, h, ha => by
    obtain rfl : [] = rw := by simpa [rwOf] using h
    cases as with
    | nil => exact ⟨rfl, fun _ h => nomatch h⟩
    | cons _ _ => exact ha.elim
  | [], _ :: _, rw, as, h, ha => by simp [rwOf] at h
  | _ :: _, [], rw, as, h, ha => by simp [rwOf] at h
  | t :: ts, v :: vs, rw, as, h, ha => by
    unfold rwOf at h
    simp only [Option.bind_eq_some_iff, Option.map_eq_some_iff] at h
    obtain ⟨r, hr, rw', hrw, rfl⟩ := h
    have key : ∀ x xs, as = x :: xs → x.v = v.den ρ α → x.rd W → argsOk C ρ α rw' vs xs → as.map Arg.v = denL ρ α (v :: vs) ∧ ∀ x ∈ as, x.rd W := fun x xs h1 h2 h3 h4 => by
      obtain ⟨h5, h6⟩ := rw_args hI hKf hrw h4
      subst h1
      refine ⟨by simp [denL, h2, h5], fun y hy => ?_⟩
      rcases List.mem_cons.1 hy with rfl | hy
      · exact h3
      · exact h6 y hy
    split at hr
    · rename_i n oo l cc e he
      split at hr
      · rename_i sz b hsz hb
        split at hr
        · rename_i hlt
          obtain rfl : Rw.own sz ((b.c.drop oo).take (l * sz)) = r := by simpa using hr
          cases as with
          | nil => exact ha.elim
          | cons x xs =>
            obtain ⟨rfl, h4⟩ := ha
            refine key _ _ rfl rfl ?_ h4
            have hblk := (hI.st.at_ (hI.blk (blkOf_eq hb).1 (blkOf_eq hb).2))
            show Rd W sz (some ⟨(α n).b, oo, none⟩) l (denL ρ α ((b.c.drop oo).take (l * sz)))
            exact Rd.of_part hblk (by rw [denL_drop]) (by rw [denL_drop]; simp [denL_len]; omega)
        · cases hr
      · cases hr
    · rename_i cc e he
      split at hr
      · rename_i sz hsz
        obtain rfl : Rw.own sz [] = r := by simpa using hr
        cases as with
        | nil => exact ha.elim
        | cons x xs =>
          obtain ⟨rfl, h4⟩ := ha
          refine key _ _ rfl rfl ?_ h4
          show Rd W sz none 0 []
          exact Rd.none_
      · cases hr
    · rename_i i p e he
      split at hr
      · rename_i sz hsz
        obtain rfl : Rw.ext sz = r := by simpa using hr
        cases as with
        | nil => exact ha.elim
        | cons x xs =>
          obtain ⟨h1, h2, h3, h4⟩ := ha
          refine key _ _ rfl h1 ?_ h4
          have := hKf _ _ _ h3
          rw [← h1] at this
          cases x
          subst h2
          exact this
      · cases hr
    · rename_i n e he
      simp only [Option.map_eq_some_iff] at hr
      obtain ⟨⟨c, e', sz⟩, hrow, rfl⟩ := hr
      cases as with
      | nil => exact ha.elim
      | cons x xs =>
        obtain ⟨rfl, h4⟩ := ha
        refine key _ _ rfl rfl ?_ h4
        have hrn := rowOfN_eq hrow
        show Arg.rd W ⟨(α n).h, sz, (denL ρ α c).flatMap cellsV⟩
        exact row_rd hI hrn
    · cases hr
    · cases hr
    · cases hr
    · obtain rfl : Rw.no = r := by simpa using hr
      cases as with
      | nil => exact ha.elim
      | cons x xs =>
        obtain ⟨rfl, h1, h4⟩ := ha
        refine key _ _ rfl rfl ?_ h4
        unfold Arg.rd
        split
        · rename_i hq
          dsimp only at hq
          rw [hq] at h1
          cases h1
        · trivial

theorem run_eq_agg {P : Program} {neq : Bool} {t t' : TypeId} {x y : Operand} {l : List CK} {xs ys : List Value} {b : Bool} (hop : o.op = .binOp (if neq then .neq else .eql) t x y t') (hx : a.eval x = .agg xs.toArray) (hy : a.eval y = .agg ys.toArray) (hk : kindsT P 20 t = some l) (hr : rowOf P t = some true) (hg : P.eqGuardType P.depth t = false)
    (fx : fits l xs = true) (fy : fits l ys = true) (hB : b = true ↔ xs = ys) (h : K (a.put o.dst (.bool (neq ^^ b))) W) : o.wp P a W K Q := by
  have hB' : b = true ↔ xs.toArray = ys.toArray := by rw [hB]; exact ⟨fun h => by rw [h], fun h => by simpa using h⟩
  cases neq
  · exact wp_eql hop hx hy hk hr hg (by simpa using fx) (by simpa using fy) hB' (by simpa using h)
  · exact wp_neq hop hx hy hk hr hg (by simpa using fx) (by simpa using fy) hB' (by simpa using h)

theorem bnd_of {s i : Value} (h : Bnd s i) : ∃ ad n c k j, s = .slice (some ad) n c ∧ i = .int k j ∧ 0 ≤ j ∧ j < n := by
  unfold Bnd at h
  split at h
  · exact ⟨_, _, _, _, _, rfl, rfl, h.1, h.2⟩
  · exact h.elim
theorem Rd.cells_at {W : World} {sz n' : Nat} {ad : Addr} {xs : List Value} (h : Rd W sz (some ad) n' xs) {i n : Nat} (hi : i + n ≤ xs.length) : Cells W (ad.add i) ((xs.drop i).take n).toArray := by
  intro j u hu
  have hu' : ((xs.drop i).take n)[j]? = some u := by simpa using hu
  rw [List.getElem?_take] at hu'
  split at hu'
  · rw [List.getElem?_drop] at hu'
    obtain ⟨ad', e, hc⟩ := Rd.in h (List.getElem?_eq_some_iff.1 hu').1
    cases e
    rw [add_of_add]
    exact hc _ _ hu'
  · cases hu'
theorem den_more (hI : InvA w0 ps T ρ s a W α) (v : Value) {x : V} (hx : x.wf s.ln ρ.length = true) : x.den (ρ ++ [v]) α = x.den ρ α := V.den_eq (hp := s.ln) (fun _ _ => rfl) ⟨[v], rfl⟩ x hx

/-- the value of a slice, out of its operands -/
def slcR (str : Bool) (sz : Nat) (x : Value) (r : Option Value × Option Value × Option Value) : Option Value := match str, x with
  | false, .slice a len cap => (boundsV len cap r.1 r.2.1 r.2.2).map fun (l, h, m) => .slice (if m = l then a else a.map (·.add (l * sz))) (h - l) (m - l)
  | true, .string s => if r.2.2.isSome then none else (boundsV s.size s.size r.1 r.2.1 none).map fun (l, h, _) => .string (s.extract l h)
  | _, _ => none
theorem slc_ops {t : TypeId} {xo : Operand} {lo hi mx : Option Operand} {str : Bool} {sz : Nat} {xs : List Value} {v : Value} (he : (Op.slice t xo lo hi mx).operands.toList.map a.eval = xs) (h : slcV str sz lo.isSome hi.isSome mx.isSome xs = some v) : ∃ x r, a.eval xo = x ∧ optsO a lo hi mx = r ∧ slcR str sz x r = some v := by
  cases xs with
  | nil => simp [slcV] at h
  | cons x bs =>
    have he' : a.eval xo :: (lo.toArray ++ hi.toArray ++ mx.toArray).toList.map a.eval = x :: bs := by
      rw [← he]; simp [Op.operands]
    injection he' with h3 h4
    simp only [slcV, Option.bind_eq_some_iff] at h
    obtain ⟨r, hr, h⟩ := h
    exact ⟨x, r, h3, opts_eval h4 hr, h⟩
theorem slc_str {sz : Nat} {x v : Value} {r : Option Value × Option Value × Option Value} (h : slcR true sz x r = some v) : ∃ s l h m, x = .string s ∧ r.2.2.isSome = false ∧ boundsV s.size s.size r.1 r.2.1 none = some (l, h, m) ∧ v = .string (s.extract l h) := by
  cases x <;> simp only [slcR, reduceCtorEq] at h
  rename_i s
  split at h
  · cases h
  · rename_i hm
    simp only [Option.map_eq_some_iff, Option.some.injEq] at h
    obtain ⟨⟨l, h1, m⟩, hb, rfl⟩ := h
    exact ⟨_, l, h1, m, rfl, by simpa using hm, hb, rfl⟩
theorem slc_sl {sz : Nat} {x v : Value} {r : Option Value × Option Value × Option Value} (h : slcR false sz x r = some v) : ∃ A len cap l h m, x = .slice A len cap ∧ boundsV len cap r.1 r.2.1 r.2.2 = some (l, h, m) ∧ v = .slice (if m = l then A else A.map (·.add (l * sz))) (h - l) (m - l) := by
  cases x <;> simp only [slcR, reduceCtorEq] at h
  simp only [Option.map_eq_some_iff] at h
  obtain ⟨⟨l, h1, m⟩, hb, rfl⟩ := h
  exact ⟨_, _, _, l, h1, m, rfl, hb, rfl⟩
theorem lenT_str {P : Program} {t : TypeId} (h : lenT P t = some true) : P.underlying t = some .string := by
  unfold lenT at h
  split at h
  · assumption
  · cases h
  · cases h
theorem planAp_none {bs : List (Nat × Option Blk)} {nm m : Nat} {t : TypeId} {x y : V} {q : Opq} {args : List V} {sh : Sh} {mk : Option V} {wr : Option (Nat × Blk)} (h : planAp C bs nm m t x y = .df q args sh mk none wr) : False := by
  unfold planAp at h
  split at h
  · split at h
    · split at h
      · split at h <;> cases h
      · cases h
    · cases h
  · cases h
theorem rbnd_of {len sz : Nat} {i : Value} (h : Rbnd len sz i) : ∃ k j, i = .int k j ∧ 0 ≤ j ∧ j < ((len / sz : Nat) : Int) := by
  unfold Rbnd at h
  split at h
  · exact ⟨_, _, rfl, h.1, h.2⟩
  · exact h.elim
/-- a row that has elements -/
theorem row_full (hI : InvA w0 ps T ρ s a W α) {n sz : Nat} {c : List V} {e : TypeId} (hn : s.hp[n]? = some (some ⟨c, e, .row sz⟩)) {i : Value} (hb : Rbnd (cellsV ((V.cat c).den ρ α)).length sz i) : ∃ len cap k j, (α n).h = .slice (some ⟨(α n).b, 0, none⟩) len cap ∧ i = .int k j ∧ 0 ≤ j ∧ j < (len : Int) ∧ ((denL ρ α c).flatMap cellsV).length = len * sz ∧ ((denL ρ α c).flatMap cellsV ++ (α n).tl).length = cap * sz ∧ len ≤ cap ∧ cap ≤ maxLen ∧
    (⟨(α n).b, ((denL ρ α c).flatMap cellsV ++ (α n).tl).toArray, e⟩ : Ch) ∈ chs ρ α 0 s.hp := by
  obtain ⟨k, j, hi, h0, h1⟩ := rbnd_of hb
  simp only [V.den, cellsV] at h1
  obtain ⟨hz, ⟨h2, _⟩ | ⟨len, cap, h2, h3, h4, h5, h6, h7⟩⟩ := row_info hI hn
  · rw [h2] at h1; simp at h1; omega
  · rw [h3, Nat.mul_div_cancel _ hz] at h1
    exact ⟨len, cap, k, j, h2, hi, h0, h1, h3, h4, h5, h6, h7⟩
/-- the length of a row is that of these parts -/
def LenI (ρ : List Value) (α : Nat → AV) (n sz : Nat) (c : List V) : Prop := 0 < sz ∧ (((denL ρ α c).flatMap cellsV = [] ∧ (α n).h = .slice none 0 0) ∨ ∃ ad len cap, (α n).h = .slice (some ad) len cap ∧ ((denL ρ α c).flatMap cellsV).length = len * sz)
def LensI (ρ : List Value) (α : Nat → AV) (bs : List (Nat × Option Blk)) : Prop := ∀ (n sz : Nat) (c : List V) (e : TypeId), rowOfN bs n = some (c, e, sz) → LenI ρ α n sz c
theorem lens_see (hI : InvA w0 ps T ρ s a W α) (op : Op) (vs : List V) : LensI ρ α (s.see op vs) := by
  intro n sz c e h
  unfold S.see at h
  split at h
  · exact hI.lens n _ (rowOfN_eq h)
  · exact (hI.rows n _ (rowOfN_eq h)).2.len
theorem ep_core {bs : List (Nat × Option Blk)} {s' i' : V} {sz o' : Nat} {q : Opq} {args : List V} {sh : Sh} {mk : Option V} {new : Option Blk} {wr : Option (Nat × Blk)} {v : Value} (hL : LensI ρ α bs) (h : planEp bs s' i' sz o' = .df q args sh mk new wr) (hrel : q.rel C ρ α args v) :
    mk = some (.ep s' i' sz o') ∧ ∃ ad n c k j, s'.den ρ α = .slice (some ad) n c ∧ i'.den ρ α = .int k j ∧ 0 ≤ j ∧ j < n := by
  unfold planEp at h
  split at h
  · split at h
    · rename_i c e sz' hrow
      split at h
      · rename_i hs
        subst hs
        injection h with h1 h2 h3 h4
        subst h1; subst h2; subst h4
        have hb : Rbnd (cellsV ((V.cat c).den ρ α)).length sz' (i'.den ρ α) ∧ _ := hrel
        obtain ⟨hb, _⟩ := hb
        unfold Rbnd at hb
        split at hb
        · rename_i k j hi
          simp only [V.den, cellsV] at hb
          obtain ⟨h0, ⟨h5, h6⟩ | ⟨ad, len, cap, h5, h6⟩⟩ := hL _ _ _ _ hrow
          · rw [h5] at hb; simp at hb; omega
          · rw [h6, Nat.mul_div_cancel _ h0] at hb
            exact ⟨rfl, ad, len, cap, k, j, by simp only [V.den]; exact h5, by assumption, hb.1, hb.2⟩
        · exact hb.elim
      · cases h
    · cases h
  · injection h with h1 h2 h3 h4
    subst h1; subst h2; subst h4
    obtain ⟨hbnd, _⟩ := hrel
    obtain ⟨ad, n', c', k', j, hs', hi', h0, h1⟩ := bnd_of hbnd
    exact ⟨rfl, ad, n', c', k', j, hs', hi', h0, h1⟩
theorem ld_core {vs : List V} {s' i' : V} {sz o' n : Nat} {b : Bool} {q : Opq} {args : List V} {sh : Sh} {mk : Option V} {new : Option Blk} {wr : Option (Nat × Blk)} {v : Value} (hI : InvA w0 ps T ρ s a W α) (hKf : Kf C W) (h : planLd (blks s.hp vs) b n s' i' sz o' = .df q args sh mk new wr) (hrel : q.rel C ρ α args v) :
    mk = none ∧ ∃ ad len c k j, s'.den ρ α = .slice (some ad) len c ∧ i'.den ρ α = .int k j ∧ ((b = false ∧ W.cell? (ad.add (j.toNat * sz + o')) = some v) ∨ (b = true ∧ ∃ cs : Array Value, v = .agg cs ∧ cs.size = n ∧ Cells W (ad.add (j.toNat * sz + o')) cs)) := by
  unfold planLd at h
  split at h
  · split at h
    · rename_i c e sz' hrow
      split at h
      · rename_i hs
        subst hs
        split at h
        · rename_i hb
          injection h with h1 h2 h3 h4
          subst h1; subst h2; subst h4
          have hr : Rbnd (cellsV ((V.cat c).den ρ α)).length sz' (i'.den ρ α) ∧ idxOf (i'.den ρ α) * sz' + o' + n ≤ (cellsV ((V.cat c).den ρ α)).length ∧ v = .agg ((cellsV ((V.cat c).den ρ α)).drop (idxOf (i'.den ρ α) * sz' + o') |>.take n).toArray := hrel
          obtain ⟨hbd, hlt, rfl⟩ := hr
          obtain ⟨len, cap, k, j, g1, g2, g3, g4, g5, g6, g7, g8, g9⟩ := row_full hI (rowOfN_eq hrow) hbd
          rw [g2] at hlt ⊢
          simp only [V.den, cellsV, idxOf] at hlt
          refine ⟨rfl, _, len, cap, k, j, g1, rfl, .inr ⟨hb, (((denL ρ α c).flatMap cellsV).drop (j.toNat * sz' + o') |>.take n).toArray, rfl, by simp only [List.size_toArray, List.length_take, List.length_drop]; omega, ?_⟩⟩
          intro jj u hu
          have hu' : ((((denL ρ α c).flatMap cellsV).drop (j.toNat * sz' + o')).take n)[jj]? = some u := by simpa using hu
          rw [List.getElem?_take] at hu'
          split at hu'
          · rw [List.getElem?_drop] at hu'
            rw [add_zero_addr, add_zero_addr, cell_of_row W _ _ _ _ (0, 0) (hI.st.at_ g9)]
            simp only [List.getElem?_toArray]
            rw [List.getElem?_append_left (by have := (List.getElem?_eq_some_iff.1 hu').1; omega), Nat.zero_add]
            exact hu'
          · cases hu'
        · rename_i hb
          injection h with h1 h2 h3 h4
          subst h1; subst h2; subst h4
          have hr : Rbnd (cellsV ((V.cat c).den ρ α)).length sz' (i'.den ρ α) ∧ (cellsV ((V.cat c).den ρ α))[idxOf (i'.den ρ α) * sz' + o']? = some v := hrel
          obtain ⟨hbd, hcell⟩ := hr
          obtain ⟨len, cap, k, j, g1, g2, g3, g4, g5, g6, g7, g8, g9⟩ := row_full hI (rowOfN_eq hrow) hbd
          rw [g2] at hcell ⊢
          simp only [V.den, cellsV, idxOf] at hcell
          refine ⟨rfl, _, len, cap, k, j, g1, rfl, .inl ⟨by simpa using hb, ?_⟩⟩
          rw [add_zero_addr, cell_of_row W _ _ _ _ (0, 0) (hI.st.at_ g9)]
          simp only [List.getElem?_toArray]
          rw [List.getElem?_append_left (by have := (List.getElem?_eq_some_iff.1 hcell).1; omega), Nat.zero_add]
          simpa using hcell
      · cases h
    · cases h
  · split at h
    · rename_i hb
      injection h with h1 h2 h3 h4
      subst h1; subst h2; subst h4
      obtain ⟨hbnd, cells, hc, hlt, rfl⟩ := hrel
      have hR := hKf _ _ _ hc
      obtain ⟨ad, n', c', k', j, hs', hi', h0, h1⟩ := bnd_of hbnd
      rw [hs'] at hR
      have hcell := Rd.cells_at hR (i := idxOf (i'.den ρ α) * sz + o') (n := n) hlt
      rw [hi'] at hcell hlt ⊢
      exact ⟨rfl, ad, n', c', k', j, hs', rfl, .inr ⟨hb, _, rfl, by simp [idxOf] at hlt ⊢; omega, hcell⟩⟩
    · rename_i hb
      injection h with h1 h2 h3 h4
      subst h1; subst h2; subst h4
      obtain ⟨hbnd, cells, hc, hcell⟩ := hrel
      have hR := hKf _ _ _ hc
      obtain ⟨ad, n', c', k', j, hs', hi', h0, h1⟩ := bnd_of hbnd
      rw [hs'] at hR
      obtain ⟨ad', e, hcl⟩ := Rd.in hR (List.getElem?_eq_some_iff.1 hcell).1
      cases e
      rw [hi'] at hcell ⊢
      exact ⟨rfl, ad, n', c', k', j, hs', rfl, .inl ⟨by simpa using hb, hcl _ _ hcell⟩⟩
/-- the value that an operation yields, where a symbol is given for it -/
def mkVal (ρ : List Value) (α : Nat → AV) (v : Value) : Option V → Value
  | none => v
  | some e => e.den ρ α
theorem df_core {sh0 : List Sh} {q : Opq} {args : List V} {sh : Sh} {mk : Option V} {vs : List V} (hC : C.Ok) (hps : Kf C ∈ ps) (hvs : o.op.operands.toList.mapM s.ev = some vs) {bs : List (Nat × Option Blk)} (hbs : shapeOp o.op = false → bs = blks s.hp vs) (hL : LensI ρ α bs) (h : planV C sh0 nm o.op vs bs = .df q args sh mk none none) (hI : InvA w0 ps T ρ s a W α) {v : Value} (hrel : q.rel C ρ α args v)
    (hK : ∀ W', Below W.heap.size W W' → K (a.put o.dst (mkVal ρ α v mk)) W') : o.wp C.P a W K Q := by
  have he := mapM_den hI.good hI.fm hvs
  have hKf : Kf C W := hI.st.fact hps
  have hrefl := Below.refl W.heap.size W
  generalize hop : o.op = op at *
  unfold planV at h
  split at h
  · cases h
  · cases h
  · split at h <;> cases h
  · split at h
    · cases h
    · split at h <;> cases h
  · split at h
    · cases h
    · split at h <;> cases h
    · cases h
  · split at h
    · split at h <;> cases h
    · split at h <;> cases h
    · cases h
  · -- load of an element
    rename_i s' i' sz o'
    simp [Op.operands, denL, V.den] at he
    split at h
    · rename_i b n hr hs
      rw [hbs rfl] at h
      obtain ⟨rfl, ad, len, cap, kk, j, hs', hi', hb⟩ := ld_core hI hKf h hrel
      rw [hs', hi'] at he
      rcases hb with ⟨rfl, hcell⟩ | ⟨rfl, cs, rfl, hsz, hcells⟩
      · exact wp_load_cell hop he hr hcell (hK W hrefl)
      · exact wp_load_at hop he hr hcells (by rw [hs, hsz]) (hK W hrefl)
    · cases h
  · split at h
    · split at h <;> cases h
    · cases h
  · cases h
  · split at h <;> cases h
  · -- fieldAddr of an element
    rename_i s' i' sz o'
    simp [Op.operands, denL, V.den] at he
    split at h
    · rename_i d hd
      obtain ⟨rfl, ad, len, cap, kk, j, hs', hi', h0, h1⟩ := ep_core hL h hrel
      rw [hs', hi'] at he
      have hk := hK W hrefl
      simp only [mkVal, V.den, hs', hi', epv] at hk
      refine wp_fieldAddr' hop he hd ?_
      simp only [add_of_add, Nat.add_assoc]
      exact hk
    · cases h
  · split at h
    · split at h
      · split at h <;> cases h
      · split at h <;> cases h
      · cases h
    · cases h
  · split at h
    · split at h
      · split at h <;> cases h
      · cases h
    · cases h
  · split at h <;> cases h
  · split at h
    · split at h
      · split at h <;> cases h
      · cases h
    · cases h
  · cases h
  · -- indexAddr of a slice
    simp [Op.operands, denL] at he
    split at h
    · rename_i e hsl
      split at h
      · rename_i sz hsz
        obtain ⟨rfl, ad, len, cap, kk, j, hs', hi', h0, h1⟩ := ep_core hL h hrel
        have hk := hK W hrefl
        simp only [V.den] at hs'
        simp only [mkVal, V.den, hs', hi', epv] at hk
        refine wp_indexAddr_sl hop (he.1.trans hs') (he.2.trans hi') (slOf_eq hsl) h0 h1 hsz rfl ?_
        exact hk
      · cases h
    · cases h
  · -- indexAddr of a row
    simp [Op.operands, denL] at he
    split at h
    · rename_i e hsl
      split at h
      · rename_i sz hsz
        obtain ⟨rfl, ad, len, cap, kk, j, hs', hi', h0, h1⟩ := ep_core hL h hrel
        have hk := hK W hrefl
        simp only [V.den] at hs'
        simp only [mkVal, V.den, hs', hi', epv] at hk
        refine wp_indexAddr_sl hop (he.1.trans hs') (he.2.trans hi') (slOf_eq hsl) h0 h1 hsz rfl ?_
        exact hk
      · cases h
    · cases h
  · -- store into a row
    split at h
    · split at h <;> cases h
    · cases h
  · split at h
    · split at h
      · split at h <;> cases h
      · split at h
        · split at h <;> cases h
        · cases h
      · cases h
    · cases h
  · split at h <;> cases h
  · split at h <;> cases h
  · -- binOp
    simp [Op.operands, denL] at he
    split at h
    · split at h
      · split at h
        · rename_i hc
          injection h with h1 h2 h3 h4
          subst h1; subst h2; subst h3; subst h4
          obtain ⟨b, hb, fx, fy, rfl⟩ := hrel
          rw [List.take_left' hc.2.1] at hb fx
          rw [List.drop_left' hc.2.1] at hb fy
          exact run_eq_agg (neq := false) hop he.1 he.2 (by assumption) (by assumption) hc.1 fx fy hb (hK W hrefl)
        · cases h
      · split at h
        · rename_i hc
          injection h with h1 h2 h3 h4
          subst h1; subst h2; subst h3; subst h4
          obtain ⟨b, hb, fx, fy, rfl⟩ := hrel
          rw [List.take_left' hc.2.1] at hb fx
          rw [List.drop_left' hc.2.1] at hb fy
          exact run_eq_agg (neq := true) hop he.1 he.2 (by assumption) (by assumption) hc.1 fx fy hb (hK W hrefl)
        · cases h
      · cases h
    · obtain ⟨rfl, rfl, rfl, rfl⟩ := sc2_df h
      exact wp_val (run_bin hop he.1 he.2 hrel) (hK W hrefl)
  · simp [Op.operands, denL] at he
    obtain ⟨rfl, rfl, rfl, rfl⟩ := sc1_df h
    exact wp_val (run_not hop he hrel) (hK W hrefl)
  · simp [Op.operands, denL] at he
    obtain ⟨rfl, rfl, rfl, rfl⟩ := sc1_df h
    exact wp_val (run_neg hop he hrel) (hK W hrefl)
  · simp [Op.operands, denL] at he
    split at h
    · rename_i hs hd
      obtain ⟨rfl, rfl, rfl, rfl⟩ := sc1_df h
      exact wp_val (run_conv hop he hs hd hrel) (hK W hrefl)
    · cases h
  · -- slice
    rename_i bs
    unfold planSl at h
    split at h
    · split at h
      · split at h
        · split at h <;> cases h
        · cases h
      · cases h
    · split at h
      · split at h
        · split at h <;> cases h
        · cases h
      · cases h
    · split at h
      · rename_i hlt
        injection h with h1 h2 h3 h4
        subst h1; subst h2; subst h3; subst h4
        obtain ⟨x, r, hx, ho, hr⟩ := slc_ops he hrel
        obtain ⟨s', l1, h1, m1, rfl, hm, hb, rfl⟩ := slc_str hr
        exact wp_val (run_slStr hop hx (lenT_str hlt) ho hm hb) (hK W hrefl)
      · rename_i hlt
        split at h
        · rename_i sz hsz
          injection h with h1 h2 h3 h4
          subst h1; subst h2; subst h3; subst h4
          obtain ⟨x, r, hx, ho, hr⟩ := slc_ops he hrel
          obtain ⟨A, len, cap, l1, h1, m1, rfl, hb, rfl⟩ := slc_sl hr
          obtain ⟨e, he1, he2⟩ := Option.bind_eq_some_iff.1 hsz
          exact wp_val (run_slSl hop hx (slOf_eq he1) he2 ho hb) (hK W hrefl)
        · cases h
      · cases h
  · cases h
  · split at h
    · split at h
      · split at h <;> cases h
      · cases h
    · cases h
  · split at h
    · split at h
      · split at h
        · cases h
        · split at h <;> cases h
      · cases h
    · cases h
  · -- call
    rename_i c
    have hargs : ∀ b, c.callee = .builtin b → c.args.map a.eval = (denL ρ α vs).toArray := fun b hb => by
      rw [← he]
      exact Array.ext' (by simp [Op.operands, Call.operands, hb])
    split at h
    · split at h
      · split at h
        · exact (planAp_none h).elim
        · cases h
      · cases h
    · rename_i n hcal
      have ha := hargs _ hcal
      split at h
      · rename_i c' e sz hlt hrow
        injection h with h1 h2 h3 h4
        subst h1; subst h2; subst h3; subst h4
        have hv : v = .int .i64 ((cellsV ((V.cat c').den ρ α)).length / sz : Nat) := hrel
        obtain ⟨h0, hh⟩ := hL _ _ _ _ hrow
        have hlen : kLen false ((α n).h) = some v := by
          rw [hv]
          simp only [V.den, cellsV]
          rcases hh with ⟨h5, h6⟩ | ⟨ad, len, cap, h5, h6⟩
          · rw [h5, h6]; simp [kLen]
          · rw [h5, h6, Nat.mul_div_cancel _ h0]; rfl
        exact wp_val (run_len hop hcal hlt (by rw [ha]; simp [denL, V.den]) hlen) (hK W hrefl)
      · cases h
    · rename_i x hcal
      have ha := hargs _ hcal
      split at h
      · rename_i str hstr
        split at h
        · cases h
        · obtain ⟨rfl, rfl, rfl, rfl⟩ := sc1_df h
          exact wp_val (run_len hop hcal hstr (by rw [ha]; simp [denL, V.den]) hrel) (hK W hrefl)
      · cases h
    · rename_i x hcal
      have ha := hargs _ hcal
      split at h
      · rename_i hstr
        split at h
        · cases h
        · obtain ⟨rfl, rfl, rfl, rfl⟩ := sc1_df h
          exact wp_val (run_cap hop hcal hstr (by rw [ha]; simp [denL, V.den]) hrel) (hK W hrefl)
      · cases h
    · rename_i x y hcal
      have ha := hargs _ hcal
      obtain ⟨rfl, rfl, rfl, rfl⟩ := sc2_df h
      exact wp_val (run_min hop hcal (by rw [ha]; simp [denL, V.den]) hrel) (hK W hrefl)
    · rename_i x y hcal
      have ha := hargs _ hcal
      obtain ⟨rfl, rfl, rfl, rfl⟩ := sc2_df h
      exact wp_val (run_max hop hcal (by rw [ha]; simp [denL, V.den]) hrel) (hK W hrefl)
    · -- a function
      rename_i f g cap args' hcal
      split at h
      · rename_i sh' rw' hsh hrw hen
        split at h
        · rename_i hcap
          injection h with h1 h2 h3 h4
          subst h1; subst h2; subst h3; subst h4
          obtain ⟨as, ha, hR⟩ := hrel
          rw [hbs (by simp [shapeOp, hcal])] at hrw
          obtain ⟨h5, h6⟩ := rw_args hI hKf hrw ha
          have hcall := hC g as v W hR h6 hKf
          rw [h5] at hcall
          have hcap' : cap = [] := by simpa using hcap
          subst hcap'
          simp only [Op.operands, Call.operands, hcal, denL, V.den] at he
          simp at he
          obtain ⟨h7, h8⟩ := he
          obtain ⟨cal, ar, at'⟩ := c
          simp only at hcal h8
          subst hcal
          refine wp_callF hop h7 (vs := (denL ρ α args').toArray) ?_ (enters_run hen _ _) (R := fun u W' => u = v ∧ Below W.heap.size W W') (hcall.mono fun e W' h => ⟨_, h.1, rfl, h.2⟩) ?_
          · exact Array.ext' (by simpa using h8)
          · rintro u W' ⟨rfl, hb⟩
            exact hK _ hb
        · cases h
      · cases h
    · cases h
  · cases h
theorem sc1_nn {q q' : Opq} {f : Value → Option Value} {x : V} {args : List V} {sh : Sh} {mk : Option V} {new : Option Blk} {wr : Option (Nat × Blk)} (h : sc1 q f x = .df q' args sh mk new wr) : new = none ∧ wr = none := by
  unfold sc1 at h
  repeat' split at h
  all_goals (cases h; try exact ⟨rfl, rfl⟩)
theorem sc2_nn {q q' : Opq} {f : Value → Value → Option Value} {x y : V} {args : List V} {sh : Sh} {mk : Option V} {new : Option Blk} {wr : Option (Nat × Blk)} (h : sc2 q f x y = .df q' args sh mk new wr) : new = none ∧ wr = none := by
  unfold sc2 at h
  repeat' split at h
  all_goals (cases h; try exact ⟨rfl, rfl⟩)
theorem planEp_nn {bs : List (Nat × Option Blk)} {s i : V} {sz o : Nat} {q : Opq} {args : List V} {sh : Sh} {mk : Option V} {new : Option Blk} {wr : Option (Nat × Blk)} (h : planEp bs s i sz o = .df q args sh mk new wr) : new = none ∧ wr = none := by
  unfold planEp at h
  repeat' split at h
  all_goals (cases h; try exact ⟨rfl, rfl⟩)
theorem planLd_nn {bs : List (Nat × Option Blk)} {b : Bool} {n : Nat} {s i : V} {sz o : Nat} {q : Opq} {args : List V} {sh : Sh} {mk : Option V} {new : Option Blk} {wr : Option (Nat × Blk)} (h : planLd bs b n s i sz o = .df q args sh mk new wr) : new = none ∧ wr = none := by
  unfold planLd at h
  repeat' split at h
  all_goals (cases h; try exact ⟨rfl, rfl⟩)
theorem planSl_nn {t : TypeId} {lo hi mx : Bool} {x : V} {bs : List V} {q : Opq} {args : List V} {sh : Sh} {mk : Option V} {new : Option Blk} {wr : Option (Nat × Blk)} (h : planSl C t lo hi mx x bs = .df q args sh mk new wr) : new = none ∧ wr = none := by
  unfold planSl at h
  repeat' split at h
  all_goals (cases h; try exact ⟨rfl, rfl⟩)
/-- what changes a row: a store, an append -/
theorem df_rows {sh : List Sh} {nm : Nat} {op : Op} {vs : List V} {bs : List (Nat × Option Blk)} {q : Opq} {args : List V} {sh' : Sh} {mk : Option V} {new : Option Blk} {wr : Option (Nat × Blk)} (h : planV C sh nm op vs bs = .df q args sh' mk new wr) (hnw : ¬ (new = none ∧ wr = none)) :
    (∃ t x y n i sz o v c e k, op = .store t x y ∧ vs = [.ep (.row n) i sz o, v] ∧ rowOfN bs n = some (c, e, sz) ∧ szOf C.P t = some k ∧ v.cells.length = k ∧ 0 < k ∧ vones sh v.cells = true ∧ q = .rset sz o ∧ args = .cat c :: i :: v.cells ∧ mk = some (.k undef) ∧ new = none ∧ wr = some (n, ⟨[.x sh.length []], e, .row sz⟩)) ∨
    (∃ c t x y, op = .call c ∧ c.callee = .builtin .append ∧ c.argTypes.toList = [t, t] ∧ vs = [x, y] ∧ planAp C bs nm sh.length t x y = .df q args sh' mk new wr) := by
  unfold planV at h
  split at h
  case h_19 =>
    rename_i t xo yo n i sz o v
    split at h
    · rename_i c e sz' k hrow hs
      split at h
      · rename_i hc
        obtain ⟨rfl, h2, h3, h4⟩ := hc
        cases h
        exact .inl ⟨t, xo, yo, n, i, sz', o, v, c, e, k, rfl, rfl, hrow, hs, h2, h3, h4, rfl, rfl, rfl, rfl, rfl⟩
      · cases h
    · cases h
  case h_31 =>
    rename_i c
    split at h
    · rename_i x y hcal
      split at h
      · rename_i t t' hts
        split at h
        · rename_i htt
          subst htt
          exact .inr ⟨c, t, x, y, rfl, hcal, hts, rfl, h⟩
        · cases h
      · cases h
    all_goals (exfalso; (repeat' split at h) <;> first | exact hnw (sc1_nn h) | exact hnw (sc2_nn h) | (cases h; done) | (cases h; exact hnw ⟨rfl, rfl⟩))
  all_goals (exfalso; (repeat' split at h) <;> first | exact hnw (sc1_nn h) | exact hnw (sc2_nn h) | exact hnw (planEp_nn h) | exact hnw (planLd_nn h) | exact hnw (planSl_nn h) | (cases h; done) | (cases h; exact hnw ⟨rfl, rfl⟩))
theorem splice_row {xs tl cs : List Value} {o : Nat} (h : o + cs.length ≤ xs.length) : splice (xs ++ tl).toArray o cs.toArray = (xs.take o ++ cs ++ xs.drop (o + cs.length) ++ tl).toArray := by
  unfold splice
  rw [List.take_append_of_le_length (by omega), List.drop_append_of_le_length (by simpa using h)]
  simp
theorem splice_end {xs tl cs : List Value} (h : cs.length ≤ tl.length) : splice (xs ++ tl).toArray xs.length cs.toArray = (xs ++ cs ++ tl.drop cs.length).toArray := by
  unfold splice
  simp
theorem map2 {args : Array Operand} {f : Operand → Value} {x y : Value} (h : args.map f = #[x, y]) : ∃ p q, args = #[p, q] ∧ f p = x ∧ f q = y := by
  have h1 : args.size = 2 := by have := congrArg Array.size h; simpa using this
  refine ⟨args[0], args[1], ?_, ?_, ?_⟩
  · apply Array.ext
    · simp [h1]
    · intro i hi hi2
      have : i = 0 ∨ i = 1 := by omega
      rcases this with rfl | rfl <;> rfl
  · have := congrArg (fun a => a[0]?) h; simpa [h1] using this
  · have := congrArg (fun a => a[1]?) h; simpa [h1] using this
theorem fin_move {v : V} {b : Blk} {n : Nat} {u : Value} (hI : InvA w0 ps T ρ s a W α) (hnm : freeIn s nm) (hw : effWf s nm v (some b) (some (n, tomb)) = true) (hK : ∀ a' W', Inv w0 ps T ρ (s.eff nm o.dst v (some b) (some (n, tomb))) a' W' → K a' W')
    (A : AV) {W' : World} (hS : ∀ α', α' nm = A → (∀ n, lv s.ln n = true → α' n = α n) → denL ρ α' b.c = denL ρ α b.c → (∀ (m : Nat) (c : Blk), s.hp[m]? = some (some c) → c.ch ρ α' m = c.ch ρ α m) → chs ρ α' 0 s.hp = chs ρ α 0 s.hp → St w0 (chs ρ α' 0 ((s.hp.set nm (some b)).set n (some tomb))) [] ps W' ∧ b.rowOk ρ α' nm) (hu : ∀ α', α' nm = A → u = v.den ρ α') : K (a.put o.dst u) W' := by
  simp only [effWf, effH, Bool.and_eq_true, hI.good.len] at hw
  obtain ⟨α', h1, h2, h3⟩ := hI.move (n := n) hnm hw.2.2 hw.1.2 A hS
  exact hK _ _ ⟨α', h3.put_any o.dst hw.1.1 (hu α' h1)⟩

/-- a store into a row -/
theorem rset_ok {sh0 : List Sh} {t : TypeId} {xo yo : Operand} {n sz off k : Nat} {i vv : V} {c : List V} {e : TypeId} {v : Value} (hsh : sh0 <+: s.sh) (hop : o.op = .store t xo yo) (hx : a.eval xo = epv ((α n).h) (i.den ρ α) sz off) (hy : a.eval yo = vv.den ρ α) (hrow : s.hp[n]? = some (some ⟨c, e, .row sz⟩)) (hs : szOf C.P t = some k) (hk : vv.cells.length = k) (hk0 : 0 < k) (hone : vones sh0 vv.cells = true)
    (hI : InvA w0 ps T ρ s a W α) (hv : ρ[sh0.length]? = some v) (hrel : (Opq.rset sz off).rel C ρ α (.cat c :: i :: vv.cells) v) (hw : effWf s nm (.k undef) none (some (n, ⟨[.x sh0.length []], e, .row sz⟩)) = true) (hK : ∀ a' W', Inv w0 ps T ρ (s.eff nm o.dst (.k undef) none (some (n, ⟨[.x sh0.length []], e, .row sz⟩))) a' W' → K a' W') : o.wp C.P a W K Q := by
  have hr : Rbnd (cellsV ((V.cat c).den ρ α)).length sz (i.den ρ α) ∧ off + vv.cells.length ≤ sz ∧ v = .agg ((cellsV ((V.cat c).den ρ α)).take (idxOf (i.den ρ α) * sz + off) ++ denL ρ α vv.cells ++ (cellsV ((V.cat c).den ρ α)).drop (idxOf (i.den ρ α) * sz + off + vv.cells.length)).toArray := hrel
  obtain ⟨hbd, hlt, rfl⟩ := hr
  obtain ⟨len, cap, kk, j, g1, g2, g3, g4, g5, g6, g7, g8, g9⟩ := row_full hI hrow hbd
  simp only [V.den, cellsV] at hv
  rw [g2] at hv hx
  rw [g1] at hx
  simp only [epv, add_zero_addr, Nat.zero_add, idxOf] at hx hv
  have hj : j.toNat * sz + off + vv.cells.length ≤ ((denL ρ α c).flatMap cellsV).length := by
    rw [g5]
    have h1 : (j.toNat + 1) * sz ≤ len * sz := Nat.mul_le_mul_right _ (by omega)
    rw [Nat.add_mul] at h1
    omega
  have hd : denL ρ α [V.x sh0.length []] = [.agg (((denL ρ α c).flatMap cellsV).take (j.toNat * sz + off) ++ denL ρ α vv.cells ++ ((denL ρ α c).flatMap cellsV).drop (j.toNat * sz + off + vv.cells.length)).toArray] := by
    simp [denL, V.den, List.getD_eq_getElem?_getD, hv]
  have hxs : (⟨[.x sh0.length []], e, .row sz⟩ : Blk).xs ρ α = ((denL ρ α c).flatMap cellsV).take (j.toNat * sz + off) ++ denL ρ α vv.cells ++ ((denL ρ α c).flatMap cellsV).drop (j.toNat * sz + off + vv.cells.length) := by
    simp only [Blk.xs, hd, List.flatMap_cons, List.flatMap_nil, cellsV, List.append_nil]
  have hxl : ((⟨[.x sh0.length []], e, .row sz⟩ : Blk).xs ρ α).length = ((denL ρ α c).flatMap cellsV).length := by
    rw [hxs]
    simp only [List.length_append, List.length_take, List.length_drop, denL_len]
    omega
  have hrowOk : (⟨[.x sh0.length []], e, .row sz⟩ : Blk).rowOk ρ α n := by
    refine ⟨(row_info hI hrow).1, .inr ⟨len, cap, g1, by rw [hxl, g5], ?_, g7, g8⟩⟩
    rw [List.length_append, hxl, ← List.length_append, g6]
  have hup : Upd (α n).b ((denL ρ α c).flatMap cellsV ++ (α n).tl).toArray e (splice ((denL ρ α c).flatMap cellsV ++ (α n).tl).toArray (j.toNat * sz + off) (denL ρ α vv.cells).toArray) (chs ρ α 0 s.hp) (chs ρ α 0 (s.hp.set n (some ⟨[.x sh0.length []], e, .row sz⟩))) := by
    refine chs_set (k := 0) hrow ?_ ?_
    · simp only [Blk.ch, Nat.zero_add, g1]; rfl
    · simp only [Blk.ch, Nat.zero_add, g1]
      rw [hxs, splice_row (by rw [denL_len]; exact hj), denL_len]
  cases hA : vv.isA
  · have hcs : vv.cells = [vv] := by cases vv <;> first | rfl | simp [V.isA] at hA
    rw [hcs] at hup hk hone hj
    simp at hk
    subst hk
    have h1c : (vv.den ρ α).oneCell' = true := one_ok hI.good hsh α (by simpa [vones] using hone)
    refine wp_store_one hop hx hy hI.st hup ?_ hs (by simp at hj ⊢; omega) h1c fun W' hS => fin_wr hI hrow hrowOk hw hK hS rfl
    rw [setL_splice (by simp at hj ⊢; omega)]
    rfl
  · obtain ⟨cs, rfl⟩ : ∃ cs, vv = .a cs := by cases vv <;> simp [V.isA] at hA; exact ⟨_, rfl⟩
    simp only [V.cells] at *
    refine wp_store_sub hop hx hy hI.st hup ?_ ?_ (ones_ok hI.good hsh α hone) fun W' hS => fin_wr hI hrow hrowOk hw hK hS rfl
    · rw [hs]; simp [denL_len, hk]
    · simp [denL_len]; simp at hj; omega
theorem sub_mid {α : Type} (l1 : List α) (x : α) (l2 : List α) : List.Sublist (l1 ++ l2) (l1 ++ (x :: l2)) := (List.Sublist.refl _).append (List.sublist_cons_self _ _)
theorem chs_same {ρ : List Value} {α α' : Nat → AV} : ∀ {hp : List (Option Blk)} {k : Nat}, (∀ (n : Nat) (b : Blk), hp[n]? = some (some b) → b.ch ρ α' (k + n) = b.ch ρ α (k + n)) → chs ρ α' k hp = chs ρ α k hp
  | [], _, _ => rfl
  | none :: l, k, h => by
    unfold chs
    exact chs_same fun n b hb => by
      have := h (n + 1) b (by simpa using hb)
      rwa [show k + 1 + n = k + (n + 1) by omega]
  | some b :: l, k, h => by
    have h0 := h 0 b rfl
    rw [Nat.add_zero] at h0
    have hl : chs ρ α' (k + 1) l = chs ρ α (k + 1) l := chs_same fun n b hb => by
      have := h (n + 1) b (by simpa using hb)
      rwa [show k + 1 + n = k + (n + 1) by omega]
    unfold chs
    rw [hl, h0]
/-- an append -/
theorem app_ok {sh0 : List Sh} {t : TypeId} {xo yo : Operand} {x y : V} {vs : List V} {q : Opq} {args : List V} {sh : Sh} {mk : Option V} {new : Option Blk} {wr : Option (Nat × Blk)} {v : Value} (hop : o.op = .call { callee := .builtin .append, args := #[xo, yo], argTypes := #[t, t] }) (hx : a.eval xo = x.den ρ α) (hy : a.eval yo = y.den ρ α) (hap : planAp C (blks s.hp vs) nm sh0.length t x y = .df q args sh mk new wr)
    (hC : C.Ok) (hps : Kf C ∈ ps) (hI : InvA w0 ps T ρ s a W α) (hv : ρ[sh0.length]? = some v) (hrel : q.rel C ρ α args v) (hnm : new = none ∨ freeIn s nm) (hw : effWf s nm (resV sh0.length sh mk) new wr = true) (hK : ∀ a' W', Inv w0 ps T ρ (s.eff nm o.dst (resV sh0.length sh mk) new wr) a' W' → K a' W') : o.wp C.P a W K Q := by
  have hKf : Kf C W := hI.st.fact hps
  unfold planAp at hap
  split at hap
  case h_2 => cases hap
  rename_i e hsl
  split at hap
  case h_2 => cases hap
  rename_i sz by' z hsz hby hz
  split at hap
  case h_2 => cases hap
  rename_i cc old src hold hsrc
  split at hap
  case isFalse => cases hap
  rename_i hc
  obtain ⟨h0, hzs, hbyl⟩ := hc
  cases hap
  have hnm' : freeIn s nm := hnm.resolve_left nofun
  obtain ⟨xa, hargs, hxsz, ⟨hone, hkind⟩, hb1, hb2, rfl⟩ := (hrel : ∃ x, argsOk C ρ α [src] [y] [x] ∧ x.sz = sz ∧ srcOk x ∧ ((cellsV ((V.cat cc).den ρ α)).length + x.cells.length) / sz * by' ≤ 140737488355328 ∧ ((cellsV ((V.cat cc).den ρ α)).length + x.cells.length) / sz ≤ 140737488355328 ∧ v = .agg x.cells.toArray)
  obtain ⟨hv1, hrd⟩ := rw_args hI hKf hsrc hargs
  have hyv : a.eval yo = xa.v := by rw [hy]; simpa [denL] using hv1.symm
  have hxrd := hrd xa (by simp)
  simp only [V.den, cellsV] at hb1 hb2
  -- what is appended
  obtain ⟨m, hSrc, hml⟩ : ∃ m, Src C.P sz t xa.v m xa.cells W ∧ xa.cells.length = m * sz := by
    rcases hkind with ⟨h1, h2⟩ | ⟨ad, m, c, h1⟩
    · exact ⟨0, by rw [h1, h2]; exact Src.ofNil W (slOf_eq hsl) 0, by simp [h2]⟩
    · unfold Arg.rd at hxrd
      rw [h1] at hxrd ⊢
      simp only at hxrd
      rw [hxsz] at hxrd
      refine ⟨m, Src.ofSlice W (slOf_eq hsl) ad m c xa.cells hxrd.1 (fun j u hu => ?_) hone, hxrd.1⟩
      obtain ⟨ad', e', hcl⟩ := Rd.in hxrd (List.getElem?_eq_some_iff.1 hu).1
      cases e'
      exact hcl j u hu
  have hd : denL ρ α (cc ++ [V.x sh0.length []]) = denL ρ α cc ++ [.agg xa.cells.toArray] := by
    rw [denL_app]
    simp [denL, V.den, List.getD_eq_getElem?_getD, hv]
  have hxsα : ∀ α', denL ρ α' (cc ++ [V.x sh0.length []]) = denL ρ α (cc ++ [V.x sh0.length []]) → (⟨cc ++ [V.x sh0.length []], e, .row sz⟩ : Blk).xs ρ α' = (denL ρ α cc).flatMap cellsV ++ xa.cells := fun α' h => by
    unfold Blk.xs
    simp only [h, hd, List.flatMap_append, List.flatMap_cons, List.flatMap_nil, cellsV, List.append_nil]
  have hres : resV sh0.length Sh.any (some (V.row nm)) = .row nm := rfl
  rw [hres] at hw hK
  have hsub2 : ∀ n, (cc.length = cc.length) → n * sz / sz = n := fun n _ => Nat.mul_div_cancel _ h0
  -- from nothing
  have fromNil : (denL ρ α cc).flatMap cellsV = [] → x.den ρ α = .slice none 0 0 →
      (∀ (A : AV) (W' : World) (u : Value), (∀ α', α' nm = A → u = (V.row nm).den ρ α') → (∀ α', α' nm = A → (∀ n, lv s.ln n = true → α' n = α n) → denL ρ α' (cc ++ [V.x sh0.length []]) = denL ρ α (cc ++ [V.x sh0.length []]) → chs ρ α' 0 s.hp = chs ρ α 0 s.hp →
        ((A.h = .slice none 0 0 ∧ xa.cells = [] ∧ W' = W) ∨ ∃ cap, A.h = .slice (some ⟨A.b, 0, none⟩) m cap ∧ (xa.cells ++ A.tl).length = cap * sz ∧ m ≤ cap ∧ cap ≤ maxLen ∧ St w0 (⟨A.b, (xa.cells ++ A.tl).toArray, e⟩ :: chs ρ α 0 s.hp) [] ps W')) → K (a.put o.dst u) W') → o.wp C.P a W K Q := by
    intro hc0 hx0 hfin
    rcases Nat.eq_zero_or_pos m with rfl | hm
    · have hcells : xa.cells = [] := List.eq_nil_of_length_eq_zero (by simpa using hml)
      exact wp_app_nil hop (hx.trans hx0) hyv hSrc (slOf_eq hsl) hsz (hfin ⟨0, .slice none 0 0, []⟩ W _ (fun α' h => by simp only [V.den, h]) fun α' h1 _ _ _ => .inl ⟨rfl, hcells, rfl⟩)
    · rw [hc0] at hb1 hb2
      simp only [List.length_nil, Nat.zero_add, hml, Nat.mul_div_cancel _ h0] at hb1 hb2
      refine wp_app_grow (olds := []) hop (hx.trans hx0) rfl (by simp) hyv hSrc (slOf_eq hsl) hsz hz hzs hby (by omega) hbyl (by simpa using hb1) (by simpa using hb2) hI.st fun k cap Z W' hS hl hcap hmax => ?_
      simp only [List.nil_append, Nat.zero_add] at hS hl hcap ⊢
      exact hfin ⟨k, .slice (some ⟨k, 0, none⟩) m cap, Z⟩ W' _ (fun α' h => by simp only [V.den, h]) fun α' h1 _ _ _ => .inr ⟨cap, rfl, hl, hcap, hmax, hS⟩
  have hch : ∀ α', denL ρ α' (cc ++ [V.x sh0.length []]) = denL ρ α (cc ++ [V.x sh0.length []]) → ∀ (A : AV), α' nm = A → (⟨cc ++ [V.x sh0.length []], e, .row sz⟩ : Blk).ch ρ α' (0 + nm) = (match A.h with
      | .slice (some _) _ _ => some ⟨A.b, ((denL ρ α cc).flatMap cellsV ++ xa.cells ++ A.tl).toArray, e⟩
      | _ => none) := fun α' h A hA => by
    simp only [Blk.ch, Nat.zero_add, hA, hxsα α' h]
    rfl
  unfold apOld at hold
  split at hold
  · -- nothing
    obtain ⟨rfl, rfl⟩ : [] = cc ∧ none = old := by simpa using hold
    refine fromNil rfl rfl fun A W' u hu hcase => fin_row hI hnm' hw hK A (fun α' h1 h2 h3 h4 => ?_) hu
    rcases hcase α' h1 h2 h3 h4 with ⟨hA, hcells, rfl⟩ | ⟨cap, hA, hl, hcap, hmax, hS⟩
    · refine ⟨?_, h0, .inl ⟨by rw [hxsα α' h3, hcells]; rfl, by rw [h1, hA]⟩⟩
      rw [chs_new0 (k := 0) hnm'.1 (by rw [hch α' h3 A h1, hA]), h4]
      exact hI.st
    · refine ⟨St.perm ?_ (chs_new (k := 0) hnm'.1 (e := ⟨A.b, (xa.cells ++ A.tl).toArray, e⟩) (by rw [hch α' h3 A h1, hA]; rfl)), h0, .inr ⟨m, cap, by rw [h1]; exact hA, by rw [hxsα α' h3]; exact hml, by rw [hxsα α' h3, h1]; exact hl, hcap, hmax⟩⟩
      rw [h4]; exact hS
  · -- a row
    rename_i n
    split at hold
    · rename_i c' e' sz' hrow
      split at hold
      · rename_i hes
        obtain ⟨rfl, rfl⟩ := hes
        obtain ⟨rfl, rfl⟩ : c' = cc ∧ some n = old := by simpa using hold
        have hn := rowOfN_eq hrow
        have hne : n ≠ nm := lv_ne (lv_of hn) hnm'.1
        have hset : (s.hp.set nm (some ⟨c' ++ [V.x sh0.length []], e', .row sz'⟩)).set n (some tomb) = (s.hp.set n (some tomb)).set nm (some ⟨c' ++ [V.x sh0.length []], e', .row sz'⟩) := List.set_comm _ _ (fun h => hne h.symm)
        have hnm2 : (s.hp.set n (some tomb))[nm]? = some none := by rw [List.getElem?_set_ne hne]; exact hnm'.1
        obtain ⟨_, hinfo⟩ := row_info hI hn
        rcases hinfo with ⟨hx0, hh⟩ | ⟨len, cap, hh, hl1, hl2, hlc, hcm, hmem⟩
        · refine fromNil hx0 hh fun A W' u hu hcase => fin_move hI hnm' hw hK A (fun α' h1 h2 h3 h5 h4 => ?_) hu
          have hsame : chs ρ α' 0 (s.hp.set n (some tomb)) = chs ρ α 0 s.hp := by
            obtain ⟨l1, l2, q1, q2⟩ := chs_split (ρ := ρ) (α := α') (k := 0) hn
            rw [← h4, q1, q2]
            have : (⟨c', e', .row sz'⟩ : Blk).ch ρ α' (0 + n) = none := by
              have e5 := h5 n _ hn
              rw [Nat.zero_add, e5]
              simp only [Blk.ch, hh]
            simp only [Option.bind_some, this]
            simp [tomb, Blk.ch]
          rcases hcase α' h1 h2 h3 h4 with ⟨hA, hcells, rfl⟩ | ⟨cap, hA, hl, hcap, hmax, hS⟩
          · refine ⟨?_, h0, .inl ⟨by rw [hxsα α' h3, hcells, hx0]; rfl, by rw [h1, hA]⟩⟩
            rw [hset, chs_new0 (k := 0) hnm2 (by rw [hch α' h3 A h1, hA]), hsame]
            exact hI.st
          · refine ⟨?_, h0, .inr ⟨m, cap, by rw [h1]; exact hA, by rw [hxsα α' h3, hx0]; exact hml, by rw [hxsα α' h3, h1, hx0]; exact hl, hcap, hmax⟩⟩
            rw [hset]
            refine St.perm ?_ (chs_new (k := 0) hnm2 (e := ⟨A.b, (xa.cells ++ A.tl).toArray, e'⟩) (by rw [hch α' h3 A h1, hA, hx0]; rfl))
            rw [hsame]; exact hS
        · have hxv : a.eval xo = .slice (some ⟨(α n).b, 0, none⟩) len cap := hx.trans hh
          rw [hl1, hml, ← Nat.add_mul, Nat.mul_div_cancel _ h0] at hb1 hb2
          obtain ⟨l1, l2, q1, q2⟩ := chs_split (ρ := ρ) (α := α) (k := 0) hn
          have hchn : (⟨c', e', .row sz'⟩ : Blk).ch ρ α (0 + n) = some ⟨(α n).b, ((denL ρ α c').flatMap cellsV ++ (α n).tl).toArray, e'⟩ := by
            simp only [Blk.ch, Nat.zero_add, hh]; rfl
          have hq1 : chs ρ α 0 s.hp = l1 ++ (⟨(α n).b, ((denL ρ α c').flatMap cellsV ++ (α n).tl).toArray, e'⟩ :: l2) := by
            rw [q1]
            simp only [Option.bind_some, hchn, Option.toList_some, List.cons_append, List.nil_append]
          have hrest : ∀ α', (∀ (m : Nat) (c : Blk), s.hp[m]? = some (some c) → c.ch ρ α' m = c.ch ρ α m) → chs ρ α' 0 s.hp = chs ρ α 0 s.hp → chs ρ α' 0 (s.hp.set n (some tomb)) = l1 ++ l2 := by
            intro α' h5 h4
            have e1 : chs ρ α 0 (s.hp.set n (some tomb)) = l1 ++ l2 := by
              rw [q2]; simp [tomb, Blk.ch]
            rw [← e1]
            refine chs_same fun k b hb => ?_
            rcases set_cases hb with ⟨rfl, rfl⟩ | ⟨_, hb⟩
            · simp [tomb, Blk.ch]
            · simpa using h5 k b hb
          by_cases hroom : len + m ≤ cap
          · have hlen3 : xa.cells.length ≤ (α n).tl.length := by
              have : len * sz' + m * sz' ≤ cap * sz' := by rw [← Nat.add_mul]; exact Nat.mul_le_mul_right _ hroom
              rw [List.length_append, hl1] at hl2
              omega
            have hsp : splice ((denL ρ α c').flatMap cellsV ++ (α n).tl).toArray (len * sz') xa.cells.toArray = ((denL ρ α c').flatMap cellsV ++ xa.cells ++ (α n).tl.drop xa.cells.length).toArray := by
              rw [← hl1]; exact splice_end hlen3
            have hS0 := hI.st
            rw [hq1] at hS0
            refine wp_app_room hop hxv hyv hSrc (slOf_eq hsl) hsz hroom hS0 (upd_mid l2 l1) ?_ fun W' hS => ?_
            · simp only [List.size_toArray, hl2, ← Nat.add_mul]
              exact Nat.mul_le_mul_right _ hroom
            · refine fin_move hI hnm' hw hK ⟨(α n).b, .slice (some ⟨(α n).b, 0, none⟩) (len + m) cap, (α n).tl.drop xa.cells.length⟩ (fun α' h1 h2 h3 h5 h4 => ⟨?_, h0, .inr ⟨len + m, cap, by rw [h1], ?_, ?_, hroom, hcm⟩⟩) fun α' h1 => by simp only [V.den, h1]
              · rw [hset]
                refine St.perm ?_ (chs_new (k := 0) hnm2 (e := ⟨(α n).b, ((denL ρ α c').flatMap cellsV ++ xa.cells ++ (α n).tl.drop xa.cells.length).toArray, e'⟩) (by rw [hch α' h3 _ h1]))
                rw [hrest α' h5 h4, ← hsp]
                exact hS.perm List.perm_middle
              · rw [hxsα α' h3, List.length_append, hl1, hml, Nat.add_mul]
              · rw [hxsα α' h3, h1]
                simp only [List.length_append, List.length_drop] at hl2 ⊢
                omega
          · have holdc : (Builtin.firstCells sz' len (.slice (some ⟨(α n).b, 0, none⟩) len cap)).run C.P W.drew = .ok ((denL ρ α c').flatMap cellsV).toArray W.drew := by
              refine run_firstCells_some W.drew sz' len _ len cap _ hl1 fun j u hu => ?_
              have hrd2 := row_rd hI hn
              rw [hh] at hrd2
              obtain ⟨ad', e2, hcl⟩ := Rd.in hrd2 (List.getElem?_eq_some_iff.1 hu).1
              cases e2
              have := hcl j u hu
              simpa using this
            refine wp_app_grow hop hxv holdc hl1 hyv hSrc (slOf_eq hsl) hsz hz hzs hby (by omega) hbyl hb1 hb2 hI.st fun k cap' Z W' hS hl hcap hmax => ?_
            refine fin_move hI hnm' hw hK ⟨k, .slice (some ⟨k, 0, none⟩) (len + m) cap', Z⟩ (fun α' h1 h2 h3 h5 h4 => ⟨?_, h0, .inr ⟨len + m, cap', by rw [h1], ?_, ?_, hcap, hmax⟩⟩) fun α' h1 => by simp only [V.den, h1]
            · rw [hset]
              refine St.perm ?_ (chs_new (k := 0) hnm2 (e := ⟨k, ((denL ρ α c').flatMap cellsV ++ xa.cells ++ Z).toArray, e'⟩) (by rw [hch α' h3 _ h1]))
              rw [hrest α' h5 h4]
              rw [hq1] at hS
              exact hS.weak (.cons_cons _ (sub_mid _ _ _)) (.refl _) fun _ h => h
            · rw [hxsα α' h3, List.length_append, hl1, hml, Nat.add_mul]
            · rw [hxsα α' h3, h1]; exact hl
      · cases hold
    · cases hold
  · cases hold
/-- an operation whose value is asked: the value is in the environment -/
theorem df_gen {sh0 : List Sh} {q : Opq} {args : List V} {sh : Sh} {mk : Option V} {new : Option Blk} {wr : Option (Nat × Blk)} {vs : List V} (hsh : sh0 <+: s.sh) (hC : C.Ok) (hps : Kf C ∈ ps) (hvs : o.op.operands.toList.mapM s.ev = some vs) (h : planV C sh0 nm o.op vs (s.see o.op vs) = .df q args sh mk new wr) (hI : InvA w0 ps T ρ s a W α) {v : Value} (hv : ρ[sh0.length]? = some v) (hrel : q.rel C ρ α args v) (hfit : sh.fit v = true)
    (hnm : new = none ∨ freeIn s nm) (hw : effWf s nm (resV sh0.length sh mk) new wr = true) (hK : ∀ a' W', Inv w0 ps T ρ (s.eff nm o.dst (resV sh0.length sh mk) new wr) a' W' → K a' W') : o.wp C.P a W K Q := by
  by_cases hnw : new = none ∧ wr = none
  · obtain ⟨rfl, rfl⟩ := hnw
    refine df_core hC hps hvs (fun hs => by simp [S.see, hs]) (lens_see hI _ _) h hI hrel fun W' hb => ?_
    have hu : mkVal ρ α v mk = (resV sh0.length sh mk).den ρ α := by
      cases mk with
      | some e => rfl
      | none =>
        simp only [mkVal, resV, Option.getD_none]
        exact (exp_den ρ α _ sh [] v (by simp [List.getD_eq_getElem?_getD, hv]) hfit).symm
    rw [hu]
    exact fin_pure (hI.step hb) hw hK
  · have hsee : shapeOp o.op = false → s.see o.op vs = blks s.hp vs := fun hs => by simp [S.see, hs]
    rcases df_rows h hnw with ⟨t, xo, yo, n, i, sz, off, vv, c, e, k, hop, rfl, hrow, hs, hk, hk0, hone, rfl, rfl, rfl, rfl, rfl⟩ | ⟨c, t, x, y, hop, hcal, hts, rfl, hap⟩
    · have he := mapM_den hI.good hI.fm hvs
      rw [hsee (by rw [hop]; rfl)] at hrow
      rw [hop] at he
      simp [Op.operands, denL, V.den] at he
      exact rset_ok hsh hop he.1 he.2 (rowOfN_eq hrow) hs hk hk0 hone hI hv hrel hw hK
    · have he := mapM_den hI.good hI.fm hvs
      rw [hsee (by rw [hop]; simp [shapeOp, hcal])] at hap
      rw [hop] at he
      obtain ⟨cal, ar, at'⟩ := c
      simp only at hcal hts
      subst hcal
      have har : ar.map a.eval = #[x.den ρ α, y.den ρ α] := by
        have : (denL ρ α [x, y]).toArray = #[x.den ρ α, y.den ρ α] := by simp [denL]
        rw [← this, ← he]
        exact Array.ext' (by simp [Op.operands, Call.operands])
      obtain ⟨p, q', rfl, hp, hq⟩ := map2 har
      have hat : at' = #[t, t] := by rw [← Array.toArray_toList (xs := at'), hts]
      subst hat
      exact app_ok hop hp hq hap hC hps hI hv hrel hnm hw hK
theorem df_ok {q : Opq} {args : List V} {sh : Sh} {mk : Option V} {new : Option Blk} {wr : Option (Nat × Blk)} {vs : List V} (hC : C.Ok) (hps : Kf C ∈ ps) (hvs : o.op.operands.toList.mapM s.ev = some vs) (h : planV C s.sh nm o.op vs (s.see o.op vs) = .df q args sh mk new wr) (hI : InvA w0 ps T ρ s a W α) {v : Value} (hrel : q.rel C (ρ ++ [v]) α args v) (hv : sh.fit v = true)
    (hnm : new = none ∨ freeIn s nm) (hw : effWf (s.ext sh) nm (resV s.sh.length sh mk) new wr = true) (hK : ∀ a' W', Inv w0 ps T (ρ ++ [v]) ((s.ext sh).eff nm o.dst (resV s.sh.length sh mk) new wr) a' W' → K a' W') : o.wp C.P a W K Q := by
  refine df_gen (s := s.ext sh) (sh0 := s.sh) (vs := vs) (q := q) (args := args) (sh := sh) (mk := mk) (new := new) (wr := wr) (v := v) ⟨[sh], rfl⟩ hC hps hvs h (hI.ext hv) ?_ hrel hv hnm hw hK
  rw [hI.good.len]
  simp
end
end SX
end Go.Proofs.Ytklppgkolcpbbaa
