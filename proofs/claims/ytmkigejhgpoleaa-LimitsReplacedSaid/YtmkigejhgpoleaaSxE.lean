/-
  A symbolic executor: the plan of a region that draws its order.
-/
import Derived.Test.YtmkigejhgpoleaaSxD
namespace Go.Proofs.Ytmkigejhgpoleaa
set_option linter.unusedSimpArgs false
set_option linter.unusedVariables false
open Go Go.RowKit
namespace SX

/-- with other shapes and decisions -/
def S.wk (s : S) (sh : List Sh) (kn : List (Nat × List Nat × Value)) : S := { s with sh := sh, kn := kn }
theorem eff_wk (s : S) (sh : List Sh) (kn : List (Nat × List Nat × Value)) (nm : Nat) (d : Option Tmp) (v : V) (new : Option Blk) (wr : Option (Nat × Blk)) : (s.wk sh kn).eff nm d v new wr = (s.eff nm d v new wr).wk sh kn := by
  cases wr <;> cases new <;> cases d <;> rfl
theorem app_wk (base : Nat) (c : Nat → Bool) (sh : List Sh) (kn : List (Nat × List Nat × Value)) : ∀ (l : List (Oper × Done)) (i : Nat) (s : S), appS base c i l (s.wk sh kn) = (appS base c i l s).wk sh kn
  | [], _, _ => rfl
  | (o, d) :: l, i, s => by
    unfold appS
    split
    · rw [eff_wk, app_wk base c sh kn l]
    · rw [app_wk base c sh kn l]
theorem app_take {base : Nat} : ∀ (l : List (Oper × Done)) (k i : Nat) (s : S), appS base (fun j => decide (j < k + i)) k l s = appS base (fun _ => true) k (l.take i) s
  | [], k, i, s => by simp [appS]
  | (o, d) :: l, k, 0, s => by
    have h : ∀ (l : List (Oper × Done)) (m : Nat) (s : S), k ≤ m → appS base (fun j => decide (j < k + 0)) m l s = s := by
      intro l
      induction l with
      | nil => intro m s _; rfl
      | cons x l ih =>
        intro m s hm
        obtain ⟨o, d⟩ := x
        unfold appS
        rw [if_neg (by simp; omega)]
        exact ih (m + 1) s (by omega)
    rw [h _ _ _ (Nat.le_refl _)]
    rfl
  | (o, d) :: l, k, i + 1, s => by
    simp only [List.take_succ_cons, appS]
    rw [if_pos (by simp), if_pos trivial]
    have := app_take (base := base) l (k + 1) i (s.eff (base + k) o.dst d.v d.new d.wr)
    rw [← this]
    congr 1
    funext j
    rw [show k + 1 + i = k + (i + 1) by omega]

section
variable {C : Cx} {w0 : Org} {ps : List (World → Prop)} {T : List TF} {ρ ρ' : List Value} {s : S} {a : Act} {W : World} {α : Nat → AV} {Q : Exit → Act → World → Prop} {rr : Option Nat}
/-- fewer decisions are known -/
theorem InvA.wk (h : InvA w0 ps T ρ s a W α) {kn : List (Nat × List Nat × Value)} (hk : ∀ e ∈ kn, e.1 < ρ.length ∧ e.2.1.foldl comp (ρ.getD e.1 undef) = e.2.2) : InvA w0 ps T ρ (s.wk s.sh kn) a W α :=
  ⟨h.defers, ⟨h.good.len, h.good.fit, hk⟩, ⟨h.wf.fr, h.wf.stk, h.wf.hp, h.wf.ln⟩, h.fm, h.fms, h.st, h.rows, h.lens⟩
theorem kn_mono (hp : ρ <+: ρ') {kn : List (Nat × List Nat × Value)} (hk : ∀ e ∈ kn, e.1 < ρ.length ∧ e.2.1.foldl comp (ρ.getD e.1 undef) = e.2.2) : ∀ e ∈ kn, e.1 < ρ'.length ∧ e.2.1.foldl comp (ρ'.getD e.1 undef) = e.2.2 := fun e he => by
  obtain ⟨h1, h2⟩ := hk e he
  obtain ⟨r, rfl⟩ := hp
  refine ⟨by simp; omega, ?_⟩
  rwa [List.getD_eq_getElem?_getD, List.getElem?_append_left h1, ← List.getD_eq_getElem?_getD]

/-- what an operation that is planned does: at every later environment, wherever what it looks at is as planned -/
def Hist (C : Cx) (rr : Option Nat) (w0 : Org) (ps : List (World → Prop)) (T : List TF) (ρ : List Value) (Q : Exit → Act → World → Prop) (all : Array Oper) (nm : Nat) (o : Oper) (d : Done) (s pre : S) : Prop :=
  ∀ ρf shf knf, ρ <+: ρf → s.sh <+: shf → StepOk C rr w0 ps T ρf Q all nm o d (pre.wk shf knf)

theorem ev_agree {s s' : S} {xs : List Operand} {vs : List V} (hk : s'.kn = s.kn) (hf : ∀ x ∈ tmpsOf xs, s'.fr[x]? = s.fr[x]?) (h : xs.mapM s.ev = some vs) : xs.mapM s'.ev = some vs := by
  induction xs generalizing vs with
  | nil => exact h
  | cons x xs ih =>
    simp only [List.mapM_cons, Option.bind_eq_bind, Option.bind_eq_some_iff] at h ⊢
    obtain ⟨v, hv, vs', hvs, h⟩ := h
    refine ⟨v, ?_, vs', ih (fun y hy => hf y ?_) hvs, h⟩
    · cases x with
      | tmp t =>
        have := hf t (by simp [tmpsOf])
        simp only [S.ev, this, hk] at hv ⊢
        exact hv
      | const v => exact hv
      | global g => exact hv
      | func f => exact hv
    · cases x <;> simp [tmpsOf, hy]
theorem blks_agree {hp hp' : List (Option Blk)} {vs : List V} (h : ∀ n ∈ namesV vs, hp'[n]? = hp[n]?) : blks hp' vs = blks hp vs := by
  unfold blks
  exact List.map_congr_left fun n hn => by rw [h n hn]
theorem nest_agree {hp hp' : List (Option Blk)} : ∀ {vs : List V}, (∀ n ∈ namesV vs, hp'[n]? = hp[n]?) → nestV hp' vs = nestV hp vs
  | [], _ => rfl
  | v :: l, h => by
    have h1 : ∀ n ∈ namesV l, hp'[n]? = hp[n]? := fun n hn => h n (by simp only [namesV, List.flatMap_cons, List.mem_append]; exact .inr hn)
    unfold nestV
    rw [nest_agree h1]
    congr 1
    cases v <;> try rfl
    rename_i n _ _ _
    simp only
    rw [h n (by simp [namesV, names1])]
theorem see_agree {s s' : S} {op : Op} {vs : List V} (h : ∀ n ∈ cNames s.hp op vs, s'.hp[n]? = s.hp[n]?) (h' : ∀ n ∈ shNames op vs, s'.ln[n]? = s.ln[n]?) : s'.see op vs = s.see op vs := by
  unfold S.see
  unfold cNames at h
  unfold shNames at h'
  split
  · rename_i hs
    rw [if_pos hs] at h'
    exact blks_agree h'
  · rename_i hs
    rw [if_neg hs] at h
    have hd : deepV s'.hp op vs = deepV s.hp op vs := by
      unfold deepV at h ⊢
      split
      · rename_i hc
        rw [if_pos hc] at h
        rw [nest_agree fun n hn => h n (by simp only [namesV, List.flatMap_append, List.mem_append] at hn ⊢; exact .inl hn)]
      · rfl
    rw [hd]
    exact blks_agree h
mutual
theorem V.wf_agree {hp hp' : List (Option Blk)} {m : Nat} : ∀ v : V, (∀ n ∈ v.names, lv hp' n = lv hp n) → v.wf hp' m = v.wf hp m
  | .k _, _ => rfl
  | .x _ _, _ => rfl
  | .p n _, h => h n (by simp [V.names])
  | .sl n _ _ _, h => h n (by simp [V.names])
  | .row n, h => h n (by simp [V.names])
  | .y n, h => h n (by simp [V.names])
  | .mapV n, h => h n (by simp [V.names])
  | .cat cs, h => wfL_agree cs h
  | .a cs, h => wfL_agree cs h
  | .t cs, h => wfL_agree cs h
  | .f _ a b, h => by simp only [V.wf, wfL_agree a fun n hn => h n (by simp [V.names, hn]), wfL_agree b fun n hn => h n (by simp [V.names, hn])]
  | .ep s i _ _, h => by simp only [V.wf, V.wf_agree s fun n hn => h n (by simp [V.names, hn]), V.wf_agree i fun n hn => h n (by simp [V.names, hn])]
  | .ifc _ v, h => V.wf_agree v h
theorem wfL_agree {hp hp' : List (Option Blk)} {m : Nat} : ∀ l : List V, (∀ n ∈ namesL l, lv hp' n = lv hp n) → wfL hp' m l = wfL hp m l
  | [], _ => rfl
  | v :: l, h => by simp only [wfL, V.wf_agree v fun n hn => h n (by simp [namesL, hn]), wfL_agree l fun n hn => h n (by simp [namesL, hn])]
end
theorem lv_agree {hp hp' : List (Option Blk)} {n : Nat} (h : hp'[n]? = hp[n]?) : lv hp' n = lv hp n := by unfold lv; rw [h]
theorem lv_set_agree {hp hp' : List (Option Blk)} {n nm : Nat} {b : Blk} (hl : hp'.length = hp.length) (h : n ≠ nm → hp'[n]? = hp[n]?) : lv (hp'.set nm (some b)) n = lv (hp.set nm (some b)) n := by
  apply lv_agree
  by_cases e : nm = n
  · subst e; simp [List.getElem?_set, hl]
  · rw [List.getElem?_set_ne e, List.getElem?_set_ne e, h fun h => e h.symm]
theorem mem_effNames {n nm : Nat} {v : V} {new : Option Blk} {wr : Option (Nat × Blk)} (hn : n ∈ v.names ∨ (∃ b, new = some b ∧ n ∈ namesL b.c) ∨ (∃ m b, wr = some (m, b) ∧ (n = m ∨ n ∈ namesL b.c))) (h : n ≠ nm) : n ∈ effNames nm v new wr := by
  unfold effNames
  refine List.mem_filter.2 ⟨?_, by simpa using h⟩
  rcases hn with hn | ⟨b, rfl, hn⟩ | ⟨m, b, rfl, hn⟩
  · simp [hn]
  · simp [hn]
  · rcases hn with rfl | hn
    · simp
    · simp [hn]
theorem effWf_agree {s s' : S} {nm : Nat} {v : V} {new : Option Blk} {wr : Option (Nat × Blk)} (hl : s'.ln.length = s.ln.length) (h0 : s'.ln[nm]? = s.ln[nm]?) (h : ∀ n ∈ effNames nm v new wr, s'.ln[n]? = s.ln[n]?) (hs : s.sh.length ≤ s'.sh.length) (hw : effWf s nm v new wr = true) : effWf s' nm v new wr = true := by
  have hin : ∀ n, n ∈ v.names ∨ (∃ b, new = some b ∧ n ∈ namesL b.c) ∨ (∃ m b, wr = some (m, b) ∧ (n = m ∨ n ∈ namesL b.c)) → s'.ln[n]? = s.ln[n]? := fun n hn => by
    by_cases e : n = nm
    · rw [e]; exact h0
    · exact h n (mem_effNames hn e)
  clear h
  unfold effWf at *
  simp only [Bool.and_eq_true] at hw ⊢
  obtain ⟨⟨h1, h2⟩, h3⟩ := hw
  refine ⟨⟨V.wf_mono (fun _ h => h) hs v ?_, ?_⟩, ?_⟩
  · rw [V.wf_agree v fun n hn => ?_]
    · exact h1
    · unfold effH
      cases new with
      | none => exact lv_agree (hin n (.inl hn))
      | some b => exact lv_set_agree hl fun _ => hin n (.inl hn)
  · cases new with
    | none => rfl
    | some b =>
      refine wfL_mono (fun _ h => h) hs b.c ?_
      rw [wfL_agree b.c fun n hn => lv_agree (hin n (.inr (.inl ⟨b, rfl, hn⟩)))]
      exact h2
  · cases wr with
    | none => rfl
    | some e =>
      obtain ⟨m, b⟩ := e
      simp only [Bool.and_eq_true] at h3 ⊢
      refine ⟨wfL_mono (fun _ h => h) hs b.c ?_, ?_⟩
      · rw [wfL_agree b.c fun n hn => lv_agree (hin n (.inr (.inr ⟨m, b, rfl, .inr hn⟩)))]
        exact h3.1
      · rw [lv_agree (hin m (.inr (.inr ⟨m, b, rfl, .inl rfl⟩)))]; exact h3.2

theorem wk_same {s s' pre : S} {shf : List Sh} {knf : List (Nat × List Nat × Value)} (h : Same0 s' (pre.wk shf knf)) : s'.sh = shf ∧ s'.hp.length = pre.hp.length ∧ s'.fr.length = pre.fr.length := ⟨h.sh, h.hpl, h.frl⟩

theorem plan_nd {sh : List Sh} {nm : Nat} {op : Op} {vs : List V} {bs : List (Nat × Option Blk)} {p : Pl} (h : planV C sh nm op vs bs = p) (hp : p ≠ .no) : ∀ c, op ≠ .defer c := by
  rintro c rfl
  exact hp (h.symm.trans (by simp [planV, planN, planV0]))
/-- an operation that is carried out -/
theorem hist_ef {all : Array Oper} {nm : Nat} {o : Oper} {v : V} {new : Option Blk} {wr : Option (Nat × Blk)} {vs : List V} (hg : Good ρ s) (hwant : ∀ (s' : S) ρf a' W', s'.kn = s.kn → AgreeAt (slotsOf all o) [] [] s' s → Inv w0 ps T ρf s' a' W' → Region.wanted o (yielded all a'.tmps) = true) (hvs : o.op.operands.toList.mapM s.ev = some vs) (h : planV C s.sh nm o.op vs (s.see o.op vs) = .ef v new wr) (hw : effWf s nm v new wr = true) (hnm : freeIn s nm) :
    Hist C rr w0 ps T ρ Q all nm o ⟨v, new, wr, slotsOf all o, cNames s.hp o.op vs, shNames o.op vs ++ effNames nm v new wr⟩ s s := by
  intro ρf shf knf hρ hsh s' a' W' K hsame hag hI hK
  · obtain ⟨α, hA⟩ := hI
    have hkn := kn_mono hρ hg.kn
    have hA' := hA.wk hkn
    have hfr : ∀ x ∈ slotsOf all o, s'.fr[x]? = s.fr[x]? := hag.fr
    have hhp : ∀ n ∈ nm :: cNames s.hp o.op vs, s'.hp[n]? = s.hp[n]? := hag.hp
    have hln : ∀ n ∈ nm :: (shNames o.op vs ++ effNames nm v new wr), s'.ln[n]? = s.ln[n]? := hag.ln
    rw [if_pos (hwant (s'.wk s'.sh s.kn) ρf a' W' rfl ⟨hfr, (fun _ h => nomatch h), (fun _ h => nomatch h)⟩ ⟨α, hA'⟩)]
    refine operIn_of_wp (plan_nd h nofun) ?_
    refine ef_ok (s := s'.wk s'.sh s.kn) (nm := nm) (sh := s.sh) (v := v) (new := new) (wr := wr) (vs := vs) ?_ (ev_agree (s := s) rfl (fun x hx => hfr x (by simp [slotsOf, hx])) hvs) ?_ hA' (.inr ?_) ?_ fun a2 W2 h2 => hK a2 W2 ?_
    · show s.sh <+: s'.sh
      rw [hsame.sh]; exact hsh
    · show planV C s.sh nm o.op vs (s'.see o.op vs) = _
      rw [see_agree (s := s) (fun n hn => hhp n (by simp [hn])) (fun n hn => hln n (by simp [hn]))]
      exact h
    · exact ⟨(hhp nm (List.mem_cons_self ..)).trans hnm.1, (hln nm (List.mem_cons_self ..)).trans hnm.2⟩
    · refine effWf_agree (s := s) (s' := s'.wk s'.sh s.kn) hsame.lnl (hln nm (List.mem_cons_self ..)) (fun n hn => hln n (by simp [hn])) ?_ hw
      show s.sh.length ≤ s'.sh.length
      rw [hsame.sh]
      exact List.IsPrefix.length_le hsh
    · obtain ⟨α2, h2⟩ := h2
      rw [eff_wk] at h2
      have e : s' = s'.wk s'.sh s'.kn := rfl
      rw [e, eff_wk]
      have hkk : ∀ e ∈ s'.kn, e.1 < ρf.length ∧ e.2.1.foldl comp (ρf.getD e.1 undef) = e.2.2 := hA.good.kn
      exact ⟨α2, h2.wk hkk |> fun q => q⟩

theorem unwk {w0 : Org} {nm : Nat} {o : Oper} {d : Done} {s' : S} {kn : List (Nat × List Nat × Value)} {ρf : List Value} {a2 : Act} {W2 : World} (hk : ∀ e ∈ s'.kn, e.1 < ρf.length ∧ e.2.1.foldl comp (ρf.getD e.1 undef) = e.2.2) (h2 : Inv w0 ps T ρf ((s'.wk s'.sh kn).eff nm o.dst d.v d.new d.wr) a2 W2) : Inv w0 ps T ρf (s'.eff nm o.dst d.v d.new d.wr) a2 W2 := by
  obtain ⟨α2, h2⟩ := h2
  rw [eff_wk] at h2
  have h3 := h2.wk hk
  have e : s' = s'.wk s'.sh s'.kn := rfl
  rw [e, eff_wk]
  exact ⟨α2, h3⟩
/-- an operation under a guard that does not hold -/
theorem hist_skip {all : Array Oper} {nm : Nat} {o : Oper} (hwant : ∀ (s' : S) ρf a' W', s'.kn = s.kn → AgreeAt (slotsOf all o) [] [] s' s → Inv w0 ps T ρf s' a' W' → Region.wanted o (yielded all a'.tmps) = false) (hg : Good ρ s) :
    Hist C rr w0 ps T ρ Q all nm o ⟨.k undef, none, none, slotsOf all o, [], []⟩ s s := by
  intro ρf shf knf hρ hsh s' a' W' K hsame hag hI hK
  obtain ⟨α, hA⟩ := hI
  have hkn := kn_mono hρ hg.kn
  rw [if_neg (by rw [hwant (s'.wk s'.sh s.kn) ρf a' W' rfl ⟨hag.fr, (fun _ h => nomatch h), (fun _ h => nomatch h)⟩ ⟨α, hA.wk hkn⟩]; decide)]
  exact hK _ _ ⟨α, hA.put_any o.dst rfl rfl⟩
theorem args_mono (hp : ρ <+: ρ') {hp0 : List (Option Blk)} : ∀ {rw : List Rw} {args : List V} {as' : List Arg}, wfL hp0 ρ.length args = true → rw.all (Rw.wf hp0 ρ.length) = true → argsOk C ρ α rw args as' → argsOk C ρ' α rw args as'
  | [], [], [], _, _, _ => trivial
  | .no :: r, v :: vs, x :: xs, h1, h2, h3 => by
    simp only [wfL, Bool.and_eq_true, List.all_cons] at h1 h2
    obtain ⟨h4, h5, h6⟩ := h3
    exact ⟨by rw [den_pre hp h1.1]; exact h4, by rw [den_pre hp h1.1]; exact h5, args_mono hp h1.2 h2.2 h6⟩
  | .own sz cs :: r, v :: vs, x :: xs, h1, h2, h3 => by
    simp only [wfL, Bool.and_eq_true, List.all_cons] at h1 h2
    obtain ⟨h4, h6⟩ := h3
    exact ⟨by rw [den_pre hp h1.1, denL_eq (hp := hp0) (fun _ _ => rfl) hp cs h2.1]; exact h4, args_mono hp h1.2 h2.2 h6⟩
  | .ext sz :: r, v :: vs, x :: xs, h1, h2, h3 => by
    simp only [wfL, Bool.and_eq_true, List.all_cons] at h1 h2
    obtain ⟨h4, h5, h6, h7⟩ := h3
    exact ⟨by rw [den_pre hp h1.1]; exact h4, h5, by rw [den_pre hp h1.1]; exact h6, args_mono hp h1.2 h2.2 h7⟩
  | .row sz cs :: r, v :: vs, x :: xs, h1, h2, h3 => by
    simp only [wfL, Bool.and_eq_true, List.all_cons] at h1 h2
    obtain ⟨h4, h6⟩ := h3
    exact ⟨by rw [den_pre hp h1.1, denL_eq (hp := hp0) (fun _ _ => rfl) hp cs h2.1]; exact h4, args_mono hp h1.2 h2.2 h6⟩
  | .row _ _ :: _, [], _, _, _, h => h.elim
  | .row _ _ :: _, _ :: _, [], _, _, h => h.elim
  | [], [], _ :: _, _, _, h => h.elim
  | [], _ :: _, _, _, _, h => h.elim
  | .no :: _, [], _, _, _, h => h.elim
  | .own _ _ :: _, [], _, _, _, h => h.elim
  | .ext _ :: _, [], _, _, _, h => h.elim
  | .no :: _, _ :: _, [], _, _, h => h.elim
  | .own _ _ :: _, _ :: _, [], _, _, h => h.elim
  | .ext _ :: _, _ :: _, [], _, _, h => h.elim
theorem rel_mono (hp : ρ <+: ρ') {hp0 : List (Option Blk)} {q : Opq} {args : List V} {v : Value} (ha : wfL hp0 ρ.length args = true) (hq : q.wf hp0 ρ.length = true) (h : q.rel C ρ α args v) : q.rel C ρ' α args v := by
  have e := denL_eq (hp := hp0) (α := α) (α' := α) (fun _ _ => rfl) hp args ha
  unfold Opq.rel at h
  split at h
  all_goals first
    | exact h.elim
    | (simp only [denL, List.cons.injEq, and_true] at e
       simp only [Opq.rel, e]
       exact h)
    | skip
  · -- app
    rename_i c y
    simp only [denL, List.cons.injEq, and_true] at e
    simp only [wfL, Bool.and_eq_true] at ha
    obtain ⟨x, h1, h2⟩ := h
    refine ⟨x, args_mono (rw := [_]) (args := [y]) hp (hp0 := hp0) (by simp [wfL, ha.2.1]) (by simpa [Opq.wf] using hq) h1, ?_⟩
    rw [e.1]
    exact h2
  · show slcV _ _ _ _ _ (denL ρ' α _) = some v
    rw [e]; exact h
  · obtain ⟨as', h1, h2⟩ := h
    exact ⟨as', args_mono hp ha hq h1, h2⟩
  · -- callg
    rename_i f rw grw
    obtain ⟨as', gs, h1, h2, h3⟩ := h
    simp only [Opq.wf, Bool.and_eq_true] at hq
    exact ⟨as', gs, args_mono hp (wfL_of fun u hu => wfL_mem ha u (List.mem_of_mem_take hu)) hq.1 h1, args_mono hp (wfL_of fun u hu => wfL_mem ha u (List.mem_of_mem_drop hu)) hq.2 h2, h3⟩
  · -- callp
    rename_i f rw t
    obtain ⟨as', h1, h2⟩ := h
    have ed : denL ρ' α (args.drop rw.length) = denL ρ α (args.drop rw.length) := by rw [denL_map, denL_map, List.map_drop, List.map_drop, ← denL_map, ← denL_map, e]
    exact ⟨as', args_mono hp (wfL_of fun u hu => wfL_mem ha u (List.mem_of_mem_take hu)) (by simpa [Opq.wf] using hq) h1, by rw [ed]; exact h2⟩
  · -- callr
    rename_i f rw sz t c vs
    simp only [denL, List.cons.injEq] at e
    simp only [wfL, Bool.and_eq_true] at ha
    obtain ⟨as', h1, h2⟩ := h
    exact ⟨as', args_mono hp ha.2 (by simpa [Opq.wf] using hq) h1, by rw [e.1]; exact h2⟩
  · -- calln
    obtain ⟨as', h1, h2⟩ := h
    exact ⟨as', args_mono hp ha (by simpa [Opq.wf] using hq) h1, h2⟩
  · -- callw
    rename_i f rw caps
    obtain ⟨as', h1, h2⟩ := h
    simp only [Opq.wf, Bool.and_eq_true] at hq
    refine ⟨as', args_mono hp (wfL_of fun u hu => wfL_mem ha u (List.mem_of_mem_take hu)) hq.1 h1, ?_⟩
    have : caps.map (denL ρ' α) = caps.map (denL ρ α) := List.map_congr_left fun c hc => denL_eq (hp := hp0) (fun _ _ => rfl) hp c (List.all_eq_true.1 hq.2 c hc)
    rw [this]
    exact h2
  · -- appx
    rename_i x y
    simp only [denL, List.cons.injEq, and_true] at e
    simp only [wfL, Bool.and_eq_true] at ha
    obtain ⟨cells, xa, A, n, h1, h2, h3, h4, h5, h6⟩ := h
    refine ⟨cells, xa, A, n, by rw [e.1]; exact h1, by rw [e.1]; exact h2, by rw [e.1]; exact h3, h4, args_mono (rw := [_]) (args := [y]) hp (hp0 := hp0) (by simp [wfL, ha.2.1]) (by simpa [Opq.wf] using hq) h5, h6⟩
  · rename_i neq n l
    have et : ∀ m, denL ρ' α (args.take m) = denL ρ α (args.take m) := fun m => by rw [denL_map, denL_map, List.map_take, List.map_take, ← denL_map, ← denL_map, e]
    have ed : ∀ m, denL ρ' α (args.drop m) = denL ρ α (args.drop m) := fun m => by rw [denL_map, denL_map, List.map_drop, List.map_drop, ← denL_map, ← denL_map, e]
    obtain ⟨b, h1, h2, h3, h4⟩ := h
    exact ⟨b, by rw [et, ed]; exact h1, by rw [et]; exact h2, by rw [ed]; exact h3, h4⟩
/-- an operation whose value is asked for -/
theorem hist_df {all : Array Oper} {nm : Nat} {o : Oper} {q : Opq} {args : List V} {sh : Sh} {mk : Option V} {new : Option Blk} {wr : Option (Nat × Blk)} {vs : List V} {v : Value} (hC : C.Ok) (hps : Ctx C w0 ps) (hg : Good ρ s) (hwant : ∀ (s' : S) ρf a' W', s'.kn = s.kn → AgreeAt (slotsOf all o) [] [] s' s → Inv w0 ps T ρf s' a' W' → Region.wanted o (yielded all a'.tmps) = true) (hvs : o.op.operands.toList.mapM s.ev = some vs) (h : planV C s.sh nm o.op vs (s.see o.op vs) = .df q args sh mk new wr)
    (hrel : ∀ α, q.rel C ρ α args v) (hargs : wfL s.ln s.sh.length args = true) (hq : q.wf s.ln s.sh.length = true) (hfit : sh.fit v = true) (hw : effWf (s.ext sh) nm (resV s.sh.length sh mk) new wr = true) (hnm : freeIn s nm) :
    Hist C rr w0 ps T (ρ ++ [v]) Q all nm o ⟨resV s.sh.length sh mk, new, wr, slotsOf all o, cNames s.hp o.op vs, shNames o.op vs ++ effNames nm (resV s.sh.length sh mk) new wr⟩ (s.ext sh) s := by
  intro ρf shf knf hρ hsh s' a' W' K hsame hag hI hK
  obtain ⟨α, hA⟩ := hI
  have hρ0 : ρ <+: ρf := (List.prefix_append ρ [v]).trans hρ
  have hkn := kn_mono hρ0 hg.kn
  have hA' := hA.wk hkn
  have hfr : ∀ x ∈ slotsOf all o, s'.fr[x]? = s.fr[x]? := hag.fr
  have hhp : ∀ n ∈ nm :: cNames s.hp o.op vs, s'.hp[n]? = s.hp[n]? := hag.hp
  have hln : ∀ n ∈ nm :: (shNames o.op vs ++ effNames nm (resV s.sh.length sh mk) new wr), s'.ln[n]? = s.ln[n]? := hag.ln
  rw [if_pos (hwant (s'.wk s'.sh s.kn) ρf a' W' rfl ⟨hfr, (fun _ h => nomatch h), (fun _ h => nomatch h)⟩ ⟨α, hA'⟩)]
  have hsh2 : (s.ext sh).sh <+: s'.sh := by rw [hsame.sh]; exact hsh
  have hv : ρf[s.sh.length]? = some v := by
    obtain ⟨r, rfl⟩ := hρ
    rw [hg.len]
    simp
  refine operIn_of_wp (plan_nd h nofun) ?_
  refine df_gen (s := s'.wk s'.sh s.kn) (sh0 := s.sh) (nm := nm) (vs := vs) (v := v) (q := q) (args := args) (sh := sh) (mk := mk) (new := new) (wr := wr) ((List.prefix_append s.sh [sh]).trans hsh2) hC hps (ev_agree (s := s) rfl (fun x hx => hfr x (by simp [slotsOf, hx])) hvs) ?_ hA' hv ?_ hfit (.inr ?_) ?_ fun a2 W2 h2 => hK a2 W2 (unwk hA.good.kn h2)
  · show planV C s.sh nm o.op vs (s'.see o.op vs) = _
    rw [see_agree (s := s) (fun n hn => hhp n (by simp [hn])) (fun n hn => hln n (by simp [hn]))]
    exact h
  · rw [hg.len] at hargs hq
    exact rel_mono hρ0 hargs hq (hrel α)
  · exact ⟨(hhp nm (List.mem_cons_self ..)).trans hnm.1, (hln nm (List.mem_cons_self ..)).trans hnm.2⟩
  · exact effWf_agree (s := s.ext sh) (s' := s'.wk s'.sh s.kn) hsame.lnl (hln nm (List.mem_cons_self ..)) (fun n hn => hln n (by simp [hn])) (List.IsPrefix.length_le hsh2) hw

theorem St.reorg {hs : List Ch} (h : St w0 hs [] ps W) : St ⟨W, hs.map (·.id), fun _ => False, fun _ => False⟩ hs [] ps W :=
  ⟨⟨rfl, rfl, rfl, Nat.le_refl _, fun _ _ _ => rfl⟩, fun e he => ⟨.inr (List.mem_map_of_mem (f := (·.id)) he), (h.blk e he).2⟩, (fun _ h => nomatch h), h.nodup, h.pers⟩
/-- every run of less fuel does what its tree says -/
def RunOk (C : Cx) (ps : List (World → Prop)) (n : Nat) : Prop := ∀ (w0 : Org) (T0 : List TF) (R : Ending → World → Prop) (G : Cfg) (lv : Nat) (s : S) (items : List It) (T : List TF) (J : List (Act → World → Prop)) (L : List (List Value → Prop)) (ρ : List Value) (a : Act) (W : World),
  (G.keep = 12 → w0.ms = []) → Ctx C w0 ps → VC C w0 ps T0 R L ρ (run C G n lv s items) → L.length = lv → Rel w0 ps T0 L ρ items T J → Inv w0 ps T ρ s a W → wpK C.P R items T J .normal a W

theorem keepH_at {nms : List Nat} {hp : List (Option Blk)} {n : Nat} {b : Blk} (h : (keepH nms hp)[n]? = some (some b)) : hp[n]? = some (some b) ∧ n ∈ nms := by
  simp only [keepH, List.getElem?_mapIdx, Option.map_eq_some_iff] at h
  obtain ⟨o, ho, h⟩ := h
  split at h
  · rename_i hc
    subst h
    exact ⟨ho, by simpa using hc⟩
  · cases h
theorem wfS_wf {s : S} {m : Nat} (h : wfS s = true) (hm : s.sh.length = m) : s.Wf m := by
  subst hm
  simp only [wfS, Bool.and_eq_true] at h
  obtain ⟨⟨⟨⟨h1, h2⟩, h3⟩, h4⟩, h5⟩ := h
  refine ⟨fun v hv => List.all_eq_true.1 h1 _ hv, fun f hf v hv => List.all_eq_true.1 (List.all_eq_true.1 h2 f hf) _ hv, fun b hb => ?_, fun b hb => List.all_eq_true.1 h3 _ hb⟩
  have := List.all_eq_true.1 h5 _ hb
  simp only [Bool.and_eq_true] at this
  exact this.1
theorem wfS_live {s : S} (h : wfS s = true) {n : Nat} {b : Blk} (hn : s.hp[n]? = some (some b)) : lv s.ln n = true := by
  simp only [wfS, Bool.and_eq_true] at h
  have := List.all_eq_true.1 h.1.2 n (by simpa using (List.getElem?_eq_some_iff.1 hn).1)
  rw [hn] at this
  exact this

theorem sub_run {n : Nat} (hrun : RunOk C ps n) (hps : Ctx C w0 ps) {Gk : Cfg} (hgk : Gk.keep ≠ 12) {g : FuncId} {fn : Func} {body : Code} {args : List V} {v : V} {hp' : List (Option Blk)} {stk' : List (List (Option V))} (hfn : C.P.funcs[g]? = some fn) (hbody : fn.body = some body)
    (ht : run C Gk n 0 (inlS s g fn args) [.code body, .top fn] = .ret v hp' stk') (hlen : args.length ≤ fn.ntmps) (hwf : wfS (inlS s g fn args) = true) (hh : eqbH [] noSkip 0 (inlS s g fn args).hp hp' = true) (hk : eqbS (inlS s g fn args).stk stk' = true)
    (hg : Good ρ s) (hρ : ρ <+: ρ') {s' : S} (hA : InvA w0 ps T ρ' s' a W α) (hagree : ∀ n ∈ namesL args, s'.hp[n]? = s.hp[n]?) (hagreeL : ∀ n ∈ namesL args, s'.ln[n]? = s.ln[n]?) :
    Calls C.P g (denL ρ' α args).toArray W fun e W' => Below W.heap.size W W' ∧ ∃ α', e = .returned (v.den ρ α') ∧ (∀ m ∈ namesL args, (α' m).b = (α m).b ∧ (α' m).h = (α m).h) ∧ St ⟨W, (chs ρ α 0 (inlS s g fn args).hp).map (·.id), fun _ => False, fun _ => False⟩ (chs ρ α' 0 hp') [] ps W' := by
  have hwfI := wfS_wf (m := ρ.length) hwf hg.len
  have hkc : ∀ (m : Nat) (b : Blk), (inlS s g fn args).hp[m]? = some (some b) → b.k = .cells := fun m b hb => by
    simp only [wfS, Bool.and_eq_true] at hwf
    have := List.all_eq_true.1 hwf.2 _ (List.mem_of_getElem? hb)
    simp only [Bool.and_eq_true, decide_eq_true_eq] at this
    exact this.2
  have hargsw : wfL (inlS s g fn args).ln ρ.length args = true := wfL_of fun u hu => hwfI.fr u (List.mem_append_left _ (List.mem_map_of_mem (f := some) hu))
  have hargs : denL ρ' α args = denL ρ α args := denL_eq (hp := (inlS s g fn args).ln) (fun _ _ => rfl) hρ args hargsw
  rw [hargs]
  have hsub : List.Sublist (chs ρ α 0 (inlS s g fn args).hp) (chs ρ' α 0 s'.hp) := chs_sub fun m b hb => by
    obtain ⟨h1, h2⟩ := keepH_at hb
    refine ⟨b, by rw [hagree m h2]; exact h1, rfl, rfl, ?_⟩
    exact (denL_eq (hp := (inlS s g fn args).ln) (fun _ _ => rfl) hρ b.c (hwfI.hp b (List.mem_of_getElem? hb))).symm
  have hSt := hA.st.weak hsub (List.nil_sublist _) (fun _ h => h)
  refine calls_of_endR hfn hbody ?_
  have hI : Inv ⟨W, (chs ρ α 0 (inlS s g fn args).hp).map (·.id), fun _ => False, fun _ => False⟩ ps [⟨(((namesL args).map fun m => Value.pointer (some ⟨(α m).b, 0, none⟩)) ++ (namesL args).map fun m => (α m).h).toArray, [], none⟩] ρ (inlS s g fn args) { tmps := (denL ρ α args).toArray ++ Array.replicate (fn.ntmps - (denL ρ α args).toArray.size) undef, defers := [] } W := by
    refine ⟨α, ⟨nofun, nofun, rfl⟩, ⟨hg.len, hg.fit, hg.kn⟩, hwfI, ⟨by simp [inlS, denL_len], fun d u hd => ?_⟩, ⟨⟨by simp [inlS], fun d u hd => ?_⟩, trivial⟩, st_ps (St.reorg hSt) fun p hpm => ?_, fun m b hb => ?_, fun m b hb => ?_⟩
    · rw [Array.getElem?_append]
      simp only [List.size_toArray, denL_len]
      simp only [inlS] at hd
      by_cases hlt : d < args.length
      · rw [List.getElem?_append_left (by simpa using hlt), List.getElem?_map, List.getElem?_eq_getElem hlt] at hd
        simp only [Option.map_some, Option.some.injEq] at hd
        rw [if_pos hlt]
        simpa using denL_at (ρ := ρ) (α := α) (by rw [List.getElem?_eq_getElem hlt, hd])
      · rw [List.getElem?_append_right (by simpa using hlt), List.getElem?_replicate] at hd
        rw [if_neg hlt, Array.getElem?_replicate]
        simp only [List.length_map] at hd
        split at hd
        · rename_i h9
          rw [if_pos h9]
          cases hd
          rfl
        · cases hd
    · have e : (((namesL args).map fun m => Value.pointer (some ⟨(α m).b, 0, none⟩)) ++ (namesL args).map fun m => (α m).h) = ((namesL args).map (fun n => V.p n 0) ++ (namesL args).map (fun n => V.row n)).map (V.den ρ α) := by
        simp [V.den, Function.comp_def]
      rw [e]
      rw [show (namesL args).map (fun n => some (V.p n 0)) ++ (namesL args).map (fun n => some (V.row n)) = ((namesL args).map (fun n => V.p n 0) ++ (namesL args).map (fun n => V.row n)).map some by simp [Function.comp_def]] at hd
      rw [List.getElem?_map, Option.map_eq_some_iff] at hd
      obtain ⟨u', hu', hd⟩ := hd
      cases hd
      rw [List.getElem?_toArray, List.getElem?_map, hu']
      rfl
    · rcases List.mem_append.1 hpm with hpm | hpm
      · obtain ⟨m, b, h1, h2⟩ := exs_mem.1 hpm
        rw [Blk.own_ex (by simp [Blk.own, hkc m b h1])] at h2
        cases h2
      · exact List.mem_append.2 (.inr hpm)
    · exact ⟨wfS_live hwf hb, by simp only [Blk.rowOk, hkc m b hb]⟩
    · obtain ⟨h1, h2⟩ := keepH_at hb
      have h3 := hA.lens m b (by rw [hagreeL m h2]; exact h1)
      have h4 := hwfI.ln b (List.mem_of_getElem? hb)
      unfold Blk.lenOk Blk.xs at h3 ⊢
      rw [← denL_eq (hp := (inlS s g fn args).ln) (α := α) (α' := α) (fun _ _ => rfl) hρ b.c h4]
      exact h3
  have := hrun ⟨W, (chs ρ α 0 (inlS s g fn args).hp).map (·.id), fun _ => False, fun _ => False⟩ [⟨(((namesL args).map fun m => Value.pointer (some ⟨(α m).b, 0, none⟩)) ++ (namesL args).map fun m => (α m).h).toArray, [], none⟩] (fun e W' => Below W.heap.size W W' ∧ ∃ α', e = .returned (v.den ρ α') ∧ (∀ m ∈ namesL args, (α' m).b = (α m).b ∧ (α' m).h = (α m).h) ∧ St ⟨W, (chs ρ α 0 (inlS s g fn args).hp).map (·.id), fun _ => False, fun _ => False⟩ (chs ρ α' 0 hp') [] ps W') Gk 0 (inlS s g fn args) [.code body, .top fn] _ [] [] ρ _ W (fun h => absurd h hgk) ⟨hps.1, fun _ h => h.elim, fun _ h => h.elim⟩ ?_ rfl rfl hI
  · exact this
  · rw [ht]
    simp only [VC]
    intro α' W' hF _ hS
    have hF2 := StkLe.fms (eqbS_le hk) hF
    have hα : ∀ m ∈ namesL args, (α' m).b = (α m).b ∧ (α' m).h = (α m).h := fun m hm => by
      obtain ⟨j, hj⟩ := List.mem_iff_getElem?.1 hm
      have hjl := (List.getElem?_eq_some_iff.1 hj).1
      have h1 := hF2.1.2 j (.p m 0) (by
        have := (List.getElem?_eq_some_iff.1 hj).2
        simp [inlS, hjl, List.getElem?_append_left, this])
      have h2 := hF2.1.2 ((namesL args).length + j) (.row m) (by simp [inlS, hj, List.getElem?_append_right])
      have hm2 : (namesL args)[j] = m := by
        have := (List.getElem?_eq_some_iff.1 hj).2
        exact this
      simp [hj, hjl, V.den, List.getElem?_append_left, List.getElem?_append_right] at h1 h2
      rw [hm2] at h1 h2
      exact ⟨h1.symm, h2.symm⟩
    refine ⟨⟨hS.old.os, hS.old.tape, hS.old.output, hS.old.size, fun b hb => ?_⟩, α', rfl, hα, hS.weak (.refl _) (.refl _) fun p h => List.mem_append.2 (.inr h)⟩
    by_cases hm : b ∈ (chs ρ α 0 (inlS s g fn args).hp).map (·.id)
    · obtain ⟨e, he, rfl⟩ := List.mem_map.1 hm
      obtain ⟨m, b0, h1, hch⟩ := chs_inv he
      rw [Nat.zero_add] at hch
      have hk0 := hkc m b0 h1
      obtain ⟨b', h2, h3, hk', h4, h5⟩ := eqbH_le hh m b0 h1 (by simp)
      have hbc : b'.c = b0.c := by
        apply List.ext_getElem?
        intro j
        cases hq : b0.c[j]? with
        | some u => exact h5 j u rfl hq
        | none => rw [List.getElem?_eq_none_iff] at hq ⊢; omega
      have h8 : denL ρ α' b'.c = denL ρ α b0.c := by
        rw [hbc]
        exact denL_eq2 (hp := (inlS s g fn args).ln) (fun n hn => by
          obtain ⟨b, hb⟩ := lv_iff.1 hn
          exact hα n (keepH_at hb).2) (List.prefix_refl _) b0.c (hwfI.hp b0 (List.mem_of_getElem? h1))
      have hch' : b'.ch ρ α' (0 + m) = some e := by
        rw [← hch]
        simp only [Blk.ch, hk', hk0, Nat.zero_add, h8, h3, (hα m (keepH_at h1).2).1]
      have h6 := hS.atO (chs_mem (k := 0) h2 hch')
      have h7 := hSt.atO (chs_mem (k := 0) h1 (by rw [Nat.zero_add]; exact hch))
      rw [h6]
      exact h7.symm
    · exact hS.old.block b hb hm

theorem sub_calls {n : Nat} (hrun : RunOk C ps n) (hps : Ctx C w0 ps) {Gk : Cfg} (hgk : Gk.keep ≠ 12) {g : FuncId} {fn : Func} {body : Code} {args : List V} {v : V} {hp' : List (Option Blk)} {stk' : List (List (Option V))} (hfn : C.P.funcs[g]? = some fn) (hbody : fn.body = some body)
    (ht : run C Gk n 0 (inlS s g fn args) [.code body, .top fn] = .ret v hp' stk') (hlen : args.length ≤ fn.ntmps) (hwf : wfS (inlS s g fn args) = true) (hh : eqbH [] noSkip 0 (inlS s g fn args).hp hp' = true) (hk : eqbS (inlS s g fn args).stk stk' = true) (hv : v.wf (inlS s g fn args).ln s.sh.length = true)
    (hg : Good ρ s) (hρ : ρ <+: ρ') {s' : S} (hA : InvA w0 ps T ρ' s' a W α) (hagree : ∀ n ∈ namesL args, s'.hp[n]? = s.hp[n]?) (hagreeL : ∀ n ∈ namesL args, s'.ln[n]? = s.ln[n]?) :
    Calls C.P g (denL ρ' α args).toArray W fun e W' => e = .returned (v.den ρ' α) ∧ Below W.heap.size W W' := by
  refine (sub_run hrun hps hgk hfn hbody ht hlen hwf hh hk hg hρ hA hagree hagreeL).mono fun e W' h => ?_
  obtain ⟨hb, α', rfl, hα, _⟩ := h
  refine ⟨?_, hb⟩
  have hα2 : ∀ n, lv (inlS s g fn args).ln n = true → (α' n).b = (α n).b ∧ (α' n).h = (α n).h := fun n hn => by
    obtain ⟨b, hb⟩ := lv_iff.1 hn
    exact hα n (keepH_at hb).2
  have h1 := V.den_eq2 (hp := (inlS s g fn args).ln) hα2 (List.prefix_refl ρ) v (by rw [← hg.len]; exact hv)
  have h2 := V.den_eq (hp := (inlS s g fn args).ln) (α := α) (α' := α) (fun _ _ => rfl) hρ v (by rw [← hg.len]; exact hv)
  rw [h1, h2]

/-- a function that is run on its own -/
theorem hist_inl {n : Nat} (hrun : RunOk C ps n) (hps : Ctx C w0 ps) {Gk : Cfg} (hgk : Gk.keep ≠ 12) {all : Array Oper} {nm : Nat} {o : Oper} {c : Call} {f : Operand} {g : FuncId} {fn : Func} {body : Code} {args cap : List V} {v : V} {hp' : List (Option Blk)} {stk' : List (List (Option V))} (hg : Good ρ s) (hwant : ∀ (s' : S) ρf a' W', s'.kn = s.kn → AgreeAt (slotsOf all o) [] [] s' s → Inv w0 ps T ρf s' a' W' → Region.wanted o (yielded all a'.tmps) = true) (hvs : o.op.operands.toList.mapM s.ev = some (.f (.func g) [] cap :: args))
    (hop : o.op = .call c) (hcal : c.callee = .value f) (hen : enters C.P g = true) (hfn : C.P.funcs[g]? = some fn) (hbody : fn.body = some body)
    (ht : run C Gk n 0 (inlS s g fn (args ++ cap)) [.code body, .top fn] = .ret v hp' stk') (hlen : (args ++ cap).length ≤ fn.ntmps) (hwf : wfS (inlS s g fn (args ++ cap)) = true) (hh : eqbH [] noSkip 0 (inlS s g fn (args ++ cap)).hp hp' = true) (hk : eqbS (inlS s g fn (args ++ cap)).stk stk' = true) (hv : v.wf (inlS s g fn (args ++ cap)).ln s.sh.length = true) :
    Hist C rr w0 ps T ρ Q all nm o ⟨v, none, none, slotsOf all o, namesL (args ++ cap), namesL (args ++ cap)⟩ s s := by
  intro ρf shf knf hρ hsh s' a' W' K hsame hag hI hK
  obtain ⟨α, hA⟩ := hI
  have hkn := kn_mono hρ hg.kn
  have hA' := hA.wk hkn
  have hfr : ∀ x ∈ slotsOf all o, s'.fr[x]? = s.fr[x]? := hag.fr
  have hhp : ∀ m ∈ nm :: namesL (args ++ cap), s'.hp[m]? = s.hp[m]? := hag.hp
  have hln : ∀ m ∈ nm :: namesL (args ++ cap), s'.ln[m]? = s.ln[m]? := hag.ln
  rw [if_pos (hwant (s'.wk s'.sh s.kn) ρf a' W' rfl ⟨hfr, (fun _ h => nomatch h), (fun _ h => nomatch h)⟩ ⟨α, hA'⟩)]
  have he := mapM_den hA'.good hA'.fm (ev_agree (s := s) (s' := s'.wk s'.sh s.kn) rfl (fun x hx => hfr x (by simp [slotsOf, hx])) hvs)
  rw [hop] at he
  obtain ⟨cal, ar, at'⟩ := c
  simp only at hcal
  subst hcal
  simp only [Op.operands, Call.operands, denL, V.den] at he
  simp at he
  obtain ⟨h7, h8⟩ := he
  have hc := sub_calls hrun hps hgk hfn hbody ht hlen hwf hh hk hv hg hρ hA (fun m hm => hhp m (List.mem_cons_of_mem _ hm)) fun m hm => hln m (List.mem_cons_of_mem _ hm)
  refine operIn_of_wp (by rw [hop]; intro c h; cases h) ?_
  refine wp_callF hop h7 (vs := (denL ρf α (args ++ cap)).toArray) ?_ (enters_run hen _ _) (R := fun u W2 => u = v.den ρf α ∧ Below W'.heap.size W' W2) (hc.mono fun e W2 h => ⟨_, h.1, rfl, h.2⟩) ?_
  · exact Array.ext' (by simp [denL_app, h8])
  · rintro u W2 ⟨rfl, hb⟩
    refine hK _ _ ⟨α, (hA.step hb).put_any o.dst ?_ rfl⟩
    refine V.wf_mono (hp := (inlS s g fn (args ++ cap)).ln) (fun m hm => ?_) (?_ : s.sh.length ≤ _) v hv
    · obtain ⟨b, hb⟩ := lv_iff.1 hm
      obtain ⟨h1, h2⟩ := keepH_at hb
      exact lv_iff.2 ⟨b, by rw [hln m (List.mem_cons_of_mem _ h2)]; exact h1⟩
    · rw [hg.len]; exact List.IsPrefix.length_le hρ
theorem fin_new2 {v : V} {b : Blk} {nm : Nat} {o : Oper} {K : Act → World → Prop} (hI : InvA w0 ps T ρ s a W α) (hnm : freeIn s nm) (hk : b.k = .cells) (hw : effWf s nm v (some b) none = true) (hK : ∀ a' W', Inv w0 ps T ρ (s.eff nm o.dst v (some b) none) a' W' → K a' W')
    {k : Nat} {W' : World} (hS : St w0 (⟨k, (denL ρ α b.c).toArray, b.t⟩ :: chs ρ α 0 s.hp) (osA a s T) (exs w0 ρ α 0 s.hp ++ ps) W') {u : Value} (hu : ∀ α', (α' nm).b = k → (∀ n, lv s.ln n = true → α' n = α n) → u = v.den ρ α') : K (a.put o.dst u) W' := by
  simp only [effWf, effH, Bool.and_eq_true, Bool.and_true, hI.good.len] at hw
  obtain ⟨α', h1, h2, h3⟩ := hI.new hnm hk hw.2 hS
  exact hK _ _ ⟨α', h3.put_any o.dst hw.1 (hu α' h1 h2)⟩
/-- a function that is run on its own, and that makes a block -/
theorem hist_new {n : Nat} (hrun : RunOk C ps n) (hps : Ctx C w0 ps) {Gk : Cfg} (hgk : Gk.keep ≠ 12) {all : Array Oper} {nm : Nat} {o : Oper} {c : Call} {f : Operand} {g : FuncId} {fn : Func} {body : Code} {args cap : List V} {v : V} {hp' : List (Option Blk)} {stk' : List (List (Option V))} {r : Nat} {b : Blk} (hg : Good ρ s) (hwant : ∀ (s' : S) ρf a' W', s'.kn = s.kn → AgreeAt (slotsOf all o) [] [] s' s → Inv w0 ps T ρf s' a' W' → Region.wanted o (yielded all a'.tmps) = true) (hvs : o.op.operands.toList.mapM s.ev = some (.f (.func g) [] cap :: args))
    (hop : o.op = .call c) (hcal : c.callee = .value f) (hen : enters C.P g = true) (hfn : C.P.funcs[g]? = some fn) (hbody : fn.body = some body)
    (ht : run C Gk n 0 (inlS s g fn (args ++ cap)) [.code body, .top fn] = .ret v hp' stk') (hlen : (args ++ cap).length ≤ fn.ntmps) (hwf : wfS (inlS s g fn (args ++ cap)) = true) (hh : eqbH [] noSkip 0 (inlS s g fn (args ++ cap)).hp hp' = true) (hk : eqbS (inlS s g fn (args ++ cap)).stk stk' = true)
    (had : adoptOf (inlS s g fn (args ++ cap)) v hp' = some (r, b)) (hro : v.renOk (namesL (args ++ cap)) r = true) (hwb : wfL (inlS s g fn (args ++ cap)).ln s.sh.length b.c = true) (hw : effWf s nm (v.ren r nm) (some b) none = true) (hnm : freeIn s nm) :
    Hist C rr w0 ps T ρ Q all nm o ⟨v.ren r nm, some b, none, slotsOf all o, namesL (args ++ cap), namesL (args ++ cap) ++ effNames nm (v.ren r nm) (some b) none⟩ s s := by
  intro ρf shf knf hρ hsh s' a' W' K hsame hag hI hK
  obtain ⟨α, hA⟩ := hI
  have hkn := kn_mono hρ hg.kn
  have hA' := hA.wk hkn
  have hfr : ∀ x ∈ slotsOf all o, s'.fr[x]? = s.fr[x]? := hag.fr
  have hhp : ∀ m ∈ nm :: namesL (args ++ cap), s'.hp[m]? = s.hp[m]? := hag.hp
  have hln : ∀ m ∈ nm :: (namesL (args ++ cap) ++ effNames nm (v.ren r nm) (some b) none), s'.ln[m]? = s.ln[m]? := hag.ln
  rw [if_pos (hwant (s'.wk s'.sh s.kn) ρf a' W' rfl ⟨hfr, (fun _ h => nomatch h), (fun _ h => nomatch h)⟩ ⟨α, hA'⟩)]
  have he := mapM_den hA'.good hA'.fm (ev_agree (s := s) (s' := s'.wk s'.sh s.kn) rfl (fun x hx => hfr x (by simp [slotsOf, hx])) hvs)
  rw [hop] at he
  obtain ⟨cal, ar, at'⟩ := c
  simp only at hcal
  subst hcal
  simp only [Op.operands, Call.operands, denL, V.den] at he
  simp at he
  obtain ⟨h7, h8⟩ := he
  have hc := sub_run hrun hps hgk hfn hbody ht hlen hwf hh hk hg hρ hA (fun m hm => hhp m (List.mem_cons_of_mem _ hm)) fun m hm => hln m (List.mem_cons_of_mem _ (List.mem_append_left _ hm))
  have hwfI := wfS_wf (m := ρ.length) hwf hg.len
  obtain ⟨r', hr1, hr2⟩ := Option.bind_eq_some_iff.1 had
  have hrn : (inlS s g fn (args ++ cap)).hp.length ≤ r' := by
    have := List.find?_some hr1
    simpa using this
  obtain ⟨b', hb1, hb2⟩ := Option.map_eq_some_iff.1 hr2
  simp only [Prod.mk.injEq] at hb2
  obtain ⟨rfl, rfl⟩ := hb2
  obtain ⟨b2, hb3, hb4⟩ := Option.bind_eq_some_iff.1 hb1
  have hbk : b2 = b' ∧ b'.k = .cells := by
    unfold cellsB at hb4
    split at hb4
    · rename_i hkk
      obtain rfl : b2 = b' := by simpa using hb4
      exact ⟨rfl, hkk⟩
    · cases hb4
  obtain ⟨rfl, hbk⟩ := hbk
  have hpr : hp'[r']? = some (some b2) := by
    cases hq : hp'[r']? with
    | none => simp [hq] at hb3
    | some x => simp [hq] at hb3; rw [hb3]
  have hlive : ∀ m ∈ namesL (args ++ cap), lv s.ln m = true := fun m hm => by
    have h1 := hwfI.stk _ (List.mem_singleton.2 rfl) (.p m 0) (by simp; exact hm)
    obtain ⟨b9, hb9⟩ := lv_iff.1 (show lv (inlS s g fn (args ++ cap)).ln m = true by simpa [V.wf] using h1)
    exact lv_iff.2 ⟨b9, (keepH_at hb9).1⟩
  refine operIn_of_wp (by rw [hop]; intro c h; cases h) ?_
  refine wp_callF hop h7 (vs := (denL ρf α (args ++ cap)).toArray) ?_ (enters_run hen _ _) (R := fun u W2 => Below W'.heap.size W' W2 ∧ ∃ α', u = v.den ρ α' ∧ (∀ m ∈ namesL (args ++ cap), (α' m).b = (α m).b ∧ (α' m).h = (α m).h) ∧ St ⟨W', (chs ρ α 0 (inlS s g fn (args ++ cap)).hp).map (·.id), fun _ => False, fun _ => False⟩ (chs ρ α' 0 hp') [] ps W2) (hc.mono fun e W2 h => by
    obtain ⟨h1, α', h2, h3⟩ := h
    exact ⟨_, h2, h1, α', rfl, h3⟩) ?_
  · exact Array.ext' (by simp [denL_app, h8])
  · rintro u W2 ⟨hb, α', rfl, hα, hS⟩
    have hα2 : ∀ n, lv (inlS s g fn (args ++ cap)).ln n = true → (α' n).b = (α n).b ∧ (α' n).h = (α n).h := fun n hn => by
      obtain ⟨b, hb⟩ := lv_iff.1 hn
      exact hα n (keepH_at hb).2
    have hch : b2.ch ρ α' (0 + r') = some ⟨(α' r').b, (denL ρ α' b2.c).toArray, b2.t⟩ := by simp only [Blk.ch, hbk, Nat.zero_add]
    have hm := chs_mem (k := 0) hpr hch
    have hden : denL ρ α' b2.c = denL ρf α b2.c := by
      rw [hg.len] at hwb
      rw [denL_eq2 (hp := (inlS s g fn (args ++ cap)).ln) hα2 (List.prefix_refl ρ) b2.c hwb]
      exact (denL_eq (hp := (inlS s g fn (args ++ cap)).ln) (α := α) (α' := α) (fun _ _ => rfl) hρ b2.c hwb).symm
    have hnew : W'.heap.size ≤ (α' r').b := by
      rcases hS.ge_ hm with h | h
      · exact h
      · exfalso
        obtain ⟨e, he, hid⟩ := List.mem_map.1 h
        obtain ⟨m, b0, h1, hch0⟩ := chs_inv he
        rw [Nat.zero_add] at hch0
        have hk0 : b0.k = .cells := by
          simp only [wfS, Bool.and_eq_true] at hwf
          have := List.all_eq_true.1 hwf.2 _ (List.mem_of_getElem? h1)
          simp only [Bool.and_eq_true, decide_eq_true_eq] at this
          exact this.2
        obtain ⟨b1, h2, h3, hk', h4, h5⟩ := eqbH_le hh m b0 h1 (by simp)
        have hmr : m ≠ r' := by
          have := (List.getElem?_eq_some_iff.1 h1).1
          omega
        have hch1 : b1.ch ρ α' (0 + m) = some ⟨(α' m).b, (denL ρ α' b1.c).toArray, b1.t⟩ := by simp only [Blk.ch, hk', hk0, Nat.zero_add]
        have hnd : ((chs ρ α' 0 hp').map (·.id)).Nodup := by
          have := hS.nodup
          unfold muts at this
          exact (List.nodup_append.1 this).1
        have := chs_ne hnd hmr h2 (by rw [← Nat.zero_add m]; exact hch1) hpr (by rw [← Nat.zero_add r']; exact hch)
        apply this
        show (α' m).b = (α' r').b
        rw [(hα m (keepH_at h1).2).1, ← hid]
        simp only [Blk.ch, hk0] at hch0
        cases hch0
        rfl
    have hat := hS.at_ hm
    rw [hden] at hat
    have hmade := hA'.st.made hb hat hnew
    have hw' : effWf (s'.wk s'.sh s.kn) nm (v.ren r' nm) (some b2) none = true :=
      effWf_agree (s := s) (s' := s'.wk s'.sh s.kn) hsame.lnl (hln nm (List.mem_cons_self ..)) (fun n hn => hln n (by simp [hn])) (List.IsPrefix.length_le (by rw [hsame.sh]; exact hsh)) hw
    refine fin_new2 (s := s'.wk s'.sh s.kn) hA' ⟨(hhp nm (List.mem_cons_self ..)).trans hnm.1, (hln nm (List.mem_cons_self ..)).trans hnm.2⟩ hbk hw' (fun a2 W3 h2 => hK a2 W3 (unwk hA.good.kn h2)) hmade fun α2 q1 q2 => ?_
    have hw1 : (v.ren r' nm).wf (effH s nm (some b2)) ρ.length = true := by
      simp only [effWf, Bool.and_eq_true] at hw
      rw [← hg.len]; exact hw.1.1
    rw [V.den_eq (hp := effH s nm (some b2)) (α := α2) (α' := α2) (fun _ _ => rfl) hρ _ hw1]
    refine (ren_den q1 (fun m hm => ?_) v hro).symm
    rw [q2 m (by
      have h1 := hlive m hm
      obtain ⟨b9, hb9⟩ := lv_iff.1 h1
      exact lv_iff.2 ⟨b9, by show s'.ln[m]? = _; rw [hln m (List.mem_cons_of_mem _ (List.mem_append_left _ hm))]; exact hb9⟩)]
    exact (hα m hm).1.symm
end
end SX
end Go.Proofs.Ytmkigejhgpoleaa
