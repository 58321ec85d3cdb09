/-
  A symbolic executor, eighth part: the main law.
-/
import Derived.Test.YtklppgkolcpbbaaSxF
namespace Go.Proofs.Ytklppgkolcpbbaa
set_option linter.unusedSimpArgs false
set_option linter.unusedVariables false
open Go Go.RowKit
namespace SX

section
variable {C : Cx} {R : Ending → World → Prop} {w0 : Org} {ps : List (World → Prop)} {T T0 : List (Array Value)} {ρ : List Value} {s : S} {a : Act} {W : World} {α : Nat → AV}
theorem res_ok (hI : InvA w0 ps T ρ s a W α) {fn : Func} {v : V} (h : resOf C.P s fn = some v) : (results fn a.tmps).run C.P W = .ok (v.den ρ α) W := by
  have key : ∀ {l : List ResultVar} {vs : List V}, l.mapM (resOf1 C.P s) = some vs → (l.mapM (res1 a.tmps)).run C.P W = .ok (denL ρ α vs) W := by
    intro l
    induction l with
    | nil => intro vs h; simp at h; subst h; simp [denL]
    | cons r l ih =>
      intro vs h
      simp only [List.mapM_cons, Option.bind_eq_bind, Option.bind_eq_some_iff] at h
      obtain ⟨v, hv, vs', hvs, h⟩ := h
      simp at h
      subst h
      have h1 := res1_ok hI hv
      simp only [List.mapM_cons, Sem.run_bind, h1, Result.andThen_ok, ih hvs, Sem.run_pure, denL]
  rw [results_eq, Array.mapM_eq_mapM_toList]
  unfold resOf at h
  split at h
  · rename_i u hu
    obtain rfl : u = v := by simpa using h
    have := key hu
    simp only [map_eq_pure_bind, bind_assoc, pure_bind, Sem.run_bind, this, Result.andThen_ok, Sem.run_pure, denL]
    simp
  · rename_i vs hne hu
    obtain rfl : V.t vs = v := by simpa using h
    have := key hu
    simp only [map_eq_pure_bind, bind_assoc, pure_bind, Sem.run_bind, this, Result.andThen_ok, Sem.run_pure, V.den]
    have hl : ¬ (denL ρ α vs).toArray.size = 1 := by
      simp [denL_len]
      intro h1
      match vs, h1, hne with
      | [v], _, hne => exact hne v rfl
    rw [dif_neg hl]
  · cases h

theorem blks_room (hp : List (Option Blk)) (m : Nat) (vs : List V) : blks (hp ++ List.replicate m none) vs = blks hp vs := by
  unfold blks
  refine List.map_congr_left fun n _ => ?_
  congr 1
  by_cases h : n < hp.length
  · rw [List.getElem?_append_left h]
  · rw [List.getElem?_append_right (by omega), List.getElem?_eq_none (l := hp) (by omega), List.getElem?_replicate]
    split <;> rfl
theorem see_room (s : S) (m : Nat) (op : Op) (vs : List V) : (s.room m).see op vs = s.see op vs := by
  unfold S.see
  split
  · exact blks_room s.ln m vs
  · exact blks_room s.hp m vs
theorem ef_old {K : Act → World → Prop} {Q : Exit → Act → World → Prop} {o : Oper} {v : V} {wr : Option (Nat × Blk)} {vs : List V} (hvs : o.op.operands.toList.mapM s.ev = some vs) (h : planV C s.sh s.hp.length o.op vs (s.see o.op vs) = .ef v none wr) (hI : Inv w0 ps T ρ s a W)
    (hw : effWf s s.hp.length v none wr = true) (hK : ∀ a' W', Inv w0 ps T ρ (s.eff s.hp.length o.dst v none wr) a' W' → K a' W') : o.wp C.P a W K Q := by
  obtain ⟨α, hI⟩ := hI
  exact ef_ok (s := s) (nm := s.hp.length) (vs := vs) (List.prefix_refl _) hvs h hI (.inl rfl) hw hK
theorem ef_new {K : Act → World → Prop} {Q : Exit → Act → World → Prop} {o : Oper} {v : V} {b : Blk} {wr : Option (Nat × Blk)} {vs : List V} (hvs : o.op.operands.toList.mapM s.ev = some vs) (h : planV C s.sh s.hp.length o.op vs (s.see o.op vs) = .ef v (some b) wr) (hI : Inv w0 ps T ρ s a W)
    (hw : (effWf (s.room 1) s.hp.length v (some b) wr && freeAt (s.room 1) s.hp.length) = true) (hK : ∀ a' W', Inv w0 ps T ρ ((s.room 1).eff s.hp.length o.dst v (some b) wr) a' W' → K a' W') : o.wp C.P a W K Q := by
  obtain ⟨α, hI⟩ := hI
  simp only [Bool.and_eq_true] at hw
  refine ef_ok (s := s.room 1) (nm := s.hp.length) (vs := vs) (List.prefix_refl _) hvs ?_ (hI.room 1) (.inr (free_at hw.2)) hw.1 hK
  rw [see_room]
  exact h
theorem df_old (hC : C.Ok) (hps : Kf C ∈ ps) {K : Act → World → Prop} {Q : Exit → Act → World → Prop} {o : Oper} {q : Opq} {args : List V} {sh : Sh} {mk : Option V} {wr : Option (Nat × Blk)} {v : Value} {vs : List V} (hvs : o.op.operands.toList.mapM s.ev = some vs) (h : planV C s.sh s.hp.length o.op vs (s.see o.op vs) = .df q args sh mk none wr) (hI : InvA w0 ps T ρ s a W α)
    (hrel : q.rel C ρ α args v) (hfit : sh.fit v = true) (hw : (wfL s.ln s.sh.length args && q.wf s.ln s.sh.length && effWf (s.ext sh) s.hp.length (resV s.sh.length sh mk) none wr) = true) (hK : ∀ a' W', Inv w0 ps T (ρ ++ [v]) ((s.ext sh).eff s.hp.length o.dst (resV s.sh.length sh mk) none wr) a' W' → K a' W') : o.wp C.P a W K Q := by
  simp only [Bool.and_eq_true] at hw
  obtain ⟨⟨h1, h2⟩, h3⟩ := hw
  rw [hI.good.len] at h1 h2
  exact df_ok hC hps hvs h hI (rel_mono ⟨[v], rfl⟩ h1 h2 hrel) hfit (.inl rfl) h3 hK
theorem df_new (hC : C.Ok) (hps : Kf C ∈ ps) {K : Act → World → Prop} {Q : Exit → Act → World → Prop} {o : Oper} {q : Opq} {args : List V} {sh : Sh} {mk : Option V} {b : Blk} {wr : Option (Nat × Blk)} {v : Value} {vs : List V} (hvs : o.op.operands.toList.mapM s.ev = some vs) (h : planV C s.sh s.hp.length o.op vs (s.see o.op vs) = .df q args sh mk (some b) wr) (hI : InvA w0 ps T ρ s a W α)
    (hrel : q.rel C ρ α args v) (hfit : sh.fit v = true) (hw : (wfL s.ln s.sh.length args && q.wf s.ln s.sh.length && effWf ((s.room 1).ext sh) s.hp.length (resV s.sh.length sh mk) (some b) wr && freeAt (s.room 1) s.hp.length) = true) (hK : ∀ a' W', Inv w0 ps T (ρ ++ [v]) (((s.room 1).ext sh).eff s.hp.length o.dst (resV s.sh.length sh mk) (some b) wr) a' W' → K a' W') : o.wp C.P a W K Q := by
  simp only [Bool.and_eq_true] at hw
  obtain ⟨⟨⟨h1, h2⟩, h3⟩, h4⟩ := hw
  rw [hI.good.len] at h1 h2
  refine df_ok (s := s.room 1) hC hps hvs ?_ (hI.room 1) (rel_mono ⟨[v], rfl⟩ h1 h2 hrel) hfit (.inr (free_at h4)) h3 hK
  rw [see_room]
  exact h
theorem skip_inv (hI : Inv w0 ps T ρ s a W) (d : Option Tmp) : Inv w0 ps T ρ (s.put d (.k undef)) (a.put d undef) W :=
  let ⟨α, h⟩ := hI; ⟨α, h.put_any d rfl rfl⟩
theorem br_inv (hI : Inv w0 ps T ρ s a W) {i : Nat} {p : List Nat} {v : Value} (hi : i < s.sh.length) (hv : p.foldl comp (ρ.getD i undef) = v) : Inv w0 ps T ρ (s.dec i p v) a W :=
  let ⟨α, h⟩ := hI; ⟨α, h.dec (by rw [← h.good.len]; exact hi) hv⟩

/-- the run of one operation -/
def goT (C : Cx) (G : Cfg) (n lv : Nat) (s : S) (all : Array Oper) (o : Oper) (rest : List Oper) (k : List It) : Tree :=
  match o.op.operands.toList.mapM s.ev with
        | none => .bad 16 [o.op]
        | some vs => match planV C s.sh s.hp.length o.op vs (s.see o.op vs) with
          | .ef v none wr => if effWf s s.hp.length v none wr then run C G n lv (s.eff s.hp.length o.dst v none wr) (.ops all rest :: k) else .bad 17 [o.op]
          | .ef v (some b) wr => if effWf (s.room 1) s.hp.length v (some b) wr && freeAt (s.room 1) s.hp.length then run C G n lv ((s.room 1).eff s.hp.length o.dst v (some b) wr) (.ops all rest :: k) else .bad 18 [o.op]
          | .df q args sh mk none wr => if wfL s.ln s.sh.length args && q.wf s.ln s.sh.length && effWf (s.ext sh) s.hp.length (resV s.sh.length sh mk) none wr then .df q args sh (run C G n lv ((s.ext sh).eff s.hp.length o.dst (resV s.sh.length sh mk) none wr) (.ops all rest :: k)) else .bad 20 [o.op]
          | .df q args sh mk (some b) wr => if wfL s.ln s.sh.length args && q.wf s.ln s.sh.length && effWf ((s.room 1).ext sh) s.hp.length (resV s.sh.length sh mk) (some b) wr && freeAt (s.room 1) s.hp.length then .df q args sh (run C G n lv (((s.room 1).ext sh).eff s.hp.length o.dst (resV s.sh.length sh mk) (some b) wr) (.ops all rest :: k)) else .bad 19 [o.op]
          | .br i p => if i < s.sh.length then .br i p (run C G n lv (s.dec i p (.bool true)) (.ops all (o :: rest) :: k)) (run C G n lv (s.dec i p (.bool false)) (.ops all (o :: rest) :: k)) else .bad 21 [o.op]
          | .sp i p m => if i < s.sh.length then .sp i p ((List.range m).map fun (j : Nat) => run C G n lv (s.dec i p (.int .i64 (j : Int))) (.ops all (o :: rest) :: k)) else .bad 22 [o.op]
          | .no => match o.op, vs with
            | .call c, .f (.func g) [] cap :: args => match c.callee, C.P.funcs[g]?, enters C.P g && G.inl g with
              | .value _, some fn, true => match fn.body with
                | some body => if (args ++ cap).length ≤ fn.ntmps && wfL s.ln s.sh.length (args ++ cap) then
                    run C G n lv { s with fr := (args ++ cap).map some ++ List.replicate (fn.ntmps - (args ++ cap).length) (some (.k undef)), stk := s.fr :: s.stk, cur := g } (.code body :: .back fn s.cur o.dst all rest :: k) else .bad 23 [o.op]
                | none => .bad 24 [o.op]
              | _, _, _ => .bad 25 [o.op]
            | _, _ => .bad 26 [o.op]
theorem go_ok (hC : C.Ok) (hps : Kf C ∈ ps) {G : Cfg} {n lv : Nat} {all : Array Oper} {o : Oper} {rest : List Oper} {k : List It} {J : List (Act → World → Prop)} {L : List (List Value → Prop)} (hI : Inv w0 ps T ρ s a W) (hwant : Region.wanted o (yielded all a.tmps) = true)
    (hrest : ∀ s' ρ' a' W', VC C w0 ps T0 R L ρ' (run C G n lv s' (.ops all rest :: k)) → ρ <+: ρ' → Inv w0 ps T ρ' s' a' W' → wpList C.P all (wpK C.P R k T J) rest a' W')
    (hself : ∀ s' ρ', VC C w0 ps T0 R L ρ' (run C G n lv s' (.ops all (o :: rest) :: k)) → ρ <+: ρ' → Inv w0 ps T ρ' s' a W → wpList C.P all (wpK C.P R k T J) (o :: rest) a W)
    (ih : ∀ (lv : Nat) (s : S) (items : List It) (T : List (Array Value)) (J : List (Act → World → Prop)) (L : List (List Value → Prop)) (ρ : List Value) (a : Act) (W : World), VC C w0 ps T0 R L ρ (run C G n lv s items) → L.length = lv → Rel w0 ps T0 L ρ items T J → Inv w0 ps T ρ s a W → wpK C.P R items T J .normal a W)
    (hL : L.length = lv) (hr : Rel w0 ps T0 L ρ k T J) (hv : VC C w0 ps T0 R L ρ (goT C G n lv s all o rest k)) : wpList C.P all (wpK C.P R k T J) (o :: rest) a W := by
  have hleft : o.wp C.P a W (wpList C.P all (wpK C.P R k T J) rest) (wpK C.P R k T J) → wpList C.P all (wpK C.P R k T J) (o :: rest) a W := fun h => by
    unfold wpList
    rw [if_pos hwant]
    exact .inl h
  have hrefl := List.prefix_refl ρ
  unfold goT at hv
  split at hv
  · simp [VC] at hv
  · rename_i vs hvs
    split at hv
    · rename_i v wr hpl
      split at hv
      · rename_i hw
        exact hleft (ef_old hvs hpl hI hw fun a' W' h => hrest _ ρ a' W' hv hrefl h)
      · simp [VC] at hv
    · rename_i v b wr hpl
      split at hv
      · rename_i hw
        exact hleft (ef_new hvs hpl hI hw fun a' W' h => hrest _ ρ a' W' hv hrefl h)
      · simp [VC] at hv
    · rename_i q args sh mk wr hpl
      split at hv
      · rename_i hw
        simp only [VC] at hv
        obtain ⟨v, hrel, hfit, hv⟩ := hv
        obtain ⟨α, hA⟩ := hI
        exact hleft (df_old hC hps hvs hpl hA (hrel α) hfit hw fun a' W' h => hrest _ (ρ ++ [v]) a' W' hv ⟨[v], rfl⟩ h)
      · simp [VC] at hv
    · rename_i q args sh mk b wr hpl
      split at hv
      · rename_i hw
        simp only [VC] at hv
        obtain ⟨v, hrel, hfit, hv⟩ := hv
        obtain ⟨α, hA⟩ := hI
        exact hleft (df_new hC hps hvs hpl hA (hrel α) hfit hw fun a' W' h => hrest _ (ρ ++ [v]) a' W' hv ⟨[v], rfl⟩ h)
      · simp [VC] at hv
    · rename_i i p hpl
      split at hv
      · rename_i hi
        simp only [VC] at hv
        obtain ⟨b, hb, hbt, hbf⟩ := hv
        cases b
        · exact hself _ ρ (hbf rfl) hrefl (br_inv hI hi hb)
        · exact hself _ ρ (hbt rfl) hrefl (br_inv hI hi hb)
      · simp [VC] at hv
    · rename_i i p m hpl
      split at hv
      · rename_i hi
        simp only [VC] at hv
        obtain ⟨⟨j, hj, hu⟩, hv⟩ := hv
        have hj' : j < m := by simpa using hj
        have := VCs_at (j := j) hv (t := run C G n lv (s.dec i p (.int .i64 (j : Int))) (.ops all (o :: rest) :: k)) (by simp [hj']) (by rw [hu, Nat.zero_add])
        exact hself _ ρ this hrefl (br_inv hI hi hu)
      · simp [VC] at hv
    · split at hv
      · rename_i c g cap args hop _
        split at hv
        · rename_i f fn hcal hfn hen
          split at hv
          · rename_i body hbody
            split at hv
            · rename_i hw
              simp only [Bool.and_eq_true, decide_eq_true_eq] at hw hen
              obtain ⟨α, hA⟩ := hI
              have he := mapM_den hA.good hA.fm hvs
              rw [hop] at he
              obtain ⟨cal, ar, at'⟩ := c
              simp only at hcal
              subst hcal
              simp only [Op.operands, Call.operands, denL, V.den] at he
              simp at he
              obtain ⟨h7, h8⟩ := he
              have ha : a = { tmps := a.tmps, defers := [] } := by
                have := hA.defers
                cases a
                simp at this
                rw [this]
              refine hleft (wp_callF hop h7 (vs := (denL ρ α (args ++ cap)).toArray) ?_ (enters_run hen.1 _ _)
                (R := fun v W' => wpList C.P all (wpK C.P R k T J) rest (({ tmps := a.tmps, defers := [] } : Act).put o.dst v) W') ?_ ?_)
              · exact Array.ext' (by simp [denL_app, h8])
              · refine calls_of_wp hfn hbody ?_
                have hI' : Inv w0 ps (a.tmps :: T) ρ { s with fr := (args ++ cap).map some ++ List.replicate (fn.ntmps - (args ++ cap).length) (some (.k undef)), stk := s.fr :: s.stk, cur := g }
                    { tmps := (denL ρ α (args ++ cap)).toArray ++ Array.replicate (fn.ntmps - (denL ρ α (args ++ cap)).toArray.size) undef, defers := [] } W := by
                  refine ⟨α, rfl, ⟨hA.good.len, hA.good.fit, hA.good.kn⟩, ⟨fun v hv' => ?_, fun f hf => ?_, hA.wf.hp, hA.wf.ln⟩, ⟨by simp [denL_len]; omega, fun d v hd => ?_⟩, ⟨hA.fm, hA.fms⟩, hA.st, hA.rows, hA.lens⟩
                  · rcases List.mem_append.1 hv' with h | h
                    · obtain ⟨u, hu, e⟩ := List.mem_map.1 h
                      obtain rfl : u = v := by simpa using e
                      rw [← hA.good.len]
                      exact wfL_mem hw.2 u hu
                    · have := List.eq_of_mem_replicate h
                      cases this
                      rfl
                  · rcases List.mem_cons.1 hf with rfl | hf
                    · exact hA.wf.fr
                    · exact hA.wf.stk f hf
                  · rw [Array.getElem?_append]
                    simp only [List.size_toArray, denL_len]
                    by_cases hlt : d < (args ++ cap).length
                    · rw [List.getElem?_append_left (by simpa using hlt), List.getElem?_map, List.getElem?_eq_getElem hlt] at hd
                      simp only [Option.map_some, Option.some.injEq] at hd
                      rw [if_pos hlt]
                      simpa using denL_at (ρ := ρ) (α := α) (by rw [List.getElem?_eq_getElem hlt, hd])
                    · rw [List.getElem?_append_right (by simpa using hlt), List.getElem?_replicate] at hd
                      rw [if_neg hlt, Array.getElem?_replicate]
                      simp only [List.length_map] at hd
                      split at hd
                      · rename_i h9
                        rw [if_pos h9]
                        cases hd
                        rfl
                      · cases hd
                have := ih lv _ (.code body :: .back fn s.cur o.dst all rest :: k) (a.tmps :: T) J L ρ _ W hv hL hr hI'
                exact this
              · intro v W' h
                rw [ha]
                exact h
            · simp [VC] at hv
          · simp [VC] at hv
        · simp [VC] at hv
      · simp [VC] at hv
theorem run_ok (hC : C.Ok) (hps : Kf C ∈ ps) : ∀ n, RunOk C ps n := by
  intro n
  induction n with
  | zero => intro w0 T0 R G lv s items T J L ρ a W hv; simp [run, VC] at hv
  | succ n ih0 =>
    intro w0 T0 R G lv s items T J L ρ a W hv hL hr hI
    have ih := ih0 w0 T0 R G
    unfold run at hv
    split at hv
    · simp [VC] at hv
    · -- top
      rename_i fn k
      split at hv
      · rename_i v hres
        split at hv
        · rename_i hwf
          simp only [VC] at hv
          obtain ⟨α, hA⟩ := hI
          refine ⟨hA.defers, v.den ρ α, res_ok hA hres, hv α W (by have := hA.fms; rwa [show T = T0 from hr] at this) ?_ ?_⟩
          · split
            · exact fun m b h => (hA.rows m b h).2
            · exact fun m b h => nomatch h
          · split
            · exact hA.st
            · exact hA.st.weak (List.nil_sublist _) (.refl _) fun _ h => h
        · simp [VC] at hv
      · simp [VC] at hv
    · -- back
      rename_i fn cur dst all rest k
      split at hv
      · rename_i v fr stk hres hstk
        split at hv
        · rename_i hwf
          obtain ⟨α, hA⟩ := hI
          cases T with
          | nil => exact hr.elim
          | cons t T =>
            refine ⟨hA.defers, v.den ρ α, res_ok hA hres, v.den ρ α, rfl, ?_⟩
            have hfm := hA.fms
            rw [hstk] at hfm
            have hI' : Inv w0 ps T ρ (({ s with fr := fr, stk := stk, cur := cur } : S).put dst v) (({ tmps := t, defers := [] } : Act).put dst (v.den ρ α)) W := by
              refine ⟨α, InvA.put (s := { s with fr := fr, stk := stk, cur := cur }) ⟨rfl, ⟨hA.good.len, hA.good.fit, hA.good.kn⟩, ⟨hA.wf.stk fr (by rw [hstk]; exact List.mem_cons_self ..), fun f hf => hA.wf.stk f (by rw [hstk]; exact List.mem_cons_of_mem _ hf), hA.wf.hp, hA.wf.ln⟩, hfm.1, hfm.2, hA.st, hA.rows, hA.lens⟩ dst (by rw [← hA.good.len]; exact hwf)⟩
            exact ih lv _ (.ops all rest :: k) T J L ρ _ W hv hL hr hI'
        · simp [VC] at hv
      · simp [VC] at hv
    · -- again
      rename_i l an ws s0 k
      split at hv
      · rename_i vals hvals
        split at hv
        · rename_i hc
          simp only [Bool.and_eq_true, beq_iff_eq] at hc
          obtain ⟨⟨⟨⟨⟨⟨h1, h2⟩, h3⟩, h3l⟩, h4⟩, h5⟩, h6⟩ := hc
          simp only [VC] at hv
          obtain ⟨α, hA⟩ := hI
          cases J with
          | nil => exact hr.elim
          | cons j J =>
            obtain ⟨⟨ρ0, A, hA1, hp, hg, hw, hlive, hj⟩, _⟩ := hr
            have hvv := hv α
            rw [List.getD_eq_getElem?_getD, hA1] at hvv
            have hM : Match an ws s0 s := by
              obtain ⟨q1, q2⟩ := eqbFr_le h1
              refine ⟨⟨q1, fun d v hd1 hd2 hv' => q2 d v (by rw [Nat.zero_add]; simp [hd1, hd2]) hv'⟩, eqbS_le h2, fun m b hb => ?_, fun m b hb => eqbH_same h3l hb, hlive⟩
              have := eqbH_le h3 m b hb
              simpa using this
            have hf := fresh_inv hA hp hg hw hM hvals h5
            have h7 := ones_ok hA.good (List.prefix_refl _) α h5
            exact hj _ a W hvv (by rw [denL_len, (annVals_spec hvals).1]) ⟨α, hf⟩ (by simpa using h7)
        · simp [VC] at hv
      · simp [VC] at hv
    · -- inBlock
      rename_i id k
      exact ih lv s k T J L ρ a W hv hL hr hI
    · -- rounds
      rename_i c m k
      cases m with
      | zero => simp [VC] at hv
      | succ m => exact ih lv s (.code c :: .rounds c m :: k) T J L ρ a W hv hL hr hI
    · -- code
      rename_i c k
      split at hv
      · exact wp_skip (ih lv s k T J L ρ a W hv hL hr hI)
      · exact wp_label (ih lv s k T J L ρ a W hv hL hr hI)
      · rename_i x y
        have := ih lv s (.code x :: .code y :: k) T J L ρ a W hv hL hr hI
        exact wp_seq this
      · rename_i id c
        exact wp_block (ih lv s (.code c :: .inBlock id :: k) T J L ρ a W hv hL hr hI)
      · -- cond
        rename_i x c1 c2
        obtain ⟨α, hA⟩ := hI
        split at hv
        · rename_i hx
          exact wp_cond_true (ev_den hA.good hA.fm hx) (ih lv s (.code c1 :: k) T J L ρ a W hv hL hr ⟨α, hA⟩)
        · rename_i hx
          exact wp_cond_false (ev_den hA.good hA.fm hx) (ih lv s (.code c2 :: k) T J L ρ a W hv hL hr ⟨α, hA⟩)
        · rename_i i p hx
          split at hv
          · rename_i hi
            simp only [VC] at hv
            obtain ⟨b, hb, hbt, hbf⟩ := hv
            have hx' : a.eval x = .bool b := (ev_den hA.good hA.fm hx).trans hb
            cases b
            · exact wp_cond_false hx' (ih lv _ (.code c2 :: k) T J L ρ a W (hbf rfl) hL hr (br_inv ⟨α, hA⟩ hi hb))
            · exact wp_cond_true hx' (ih lv _ (.code c1 :: k) T J L ρ a W (hbt rfl) hL hr (br_inv ⟨α, hA⟩ hi hb))
          · simp [VC] at hv
        · simp [VC] at hv
      · -- exit
        rename_i id
        split at hv
        · rename_i k' hk
          obtain ⟨J', h1, h2⟩ := unwind_ok (P := C.P) (R := R) hk hr
          exact wp_exit (h2 a W (ih lv s k' T J' L ρ a W hv hL h1 hI))
        · simp [VC] at hv
      · -- ret
        split at hv
        · rename_i k' hk
          obtain ⟨J', h1, h2⟩ := ret_ok (P := C.P) (R := R) hk hr
          exact wp_ret (h2 a W (ih lv s k' T J' L ρ a W hv hL h1 hI))
        · simp [VC] at hv
      · -- loop
        rename_i c
        split at hv
        · exact wp_loop_rounds _ (ih lv s (.rounds c G.rounds :: k) T J L ρ a W hv hL hr hI)
        · rename_i an _
          split at hv
          · rename_i vals hvals
            split at hv
            · rename_i hc
              simp only [Bool.and_eq_true] at hc
              simp only [VC] at hv
              obtain ⟨I, μ, h0, hround⟩ := hv
              obtain ⟨α, hA⟩ := hI
              have hf := fresh_inv (an := an) (ws := written c) hA (List.prefix_refl _) hA.good hA.wf (Match.refl _ _ _ hA.live) hvals hc.2
              have h7 := ones_ok hA.good (List.prefix_refl _) α hc.2
              refine wp_loop_ghost (γ := List Value) (fun xs a W => I xs ∧ xs.length = vals.length ∧ xs.all (·.oneCell') = true ∧ Inv w0 ps T (ρ ++ xs) (freshS an (written c) s) a W) μ (denL ρ α vals) ⟨h0 α, denL_len _ _ _, by simpa using h7, α, hf⟩ ?_
              intro xs a' W' ⟨hIx, hlen, hone, hInv⟩
              have hbody := ih (lv + 1) (freshS an (written c) s) (.code c :: .again lv an (written c) s :: k) T
                ((fun a' w' => ∃ g', (I g' ∧ g'.length = vals.length ∧ g'.all (·.oneCell') = true ∧ Inv w0 ps T (ρ ++ g') (freshS an (written c) s) a' w') ∧ μ g' < μ xs) :: J)
                (L ++ [fun ys => I ys ∧ μ ys < μ xs]) (ρ ++ xs) a' W' (hround xs hlen hone hIx) (by simp [hL])
                ⟨⟨ρ, (fun ys => I ys ∧ μ ys < μ xs), by rw [← hL]; simp, ⟨xs, rfl⟩, hA.good, hA.wf, hA.live, fun ys a2 W2 hys hyl hyI hyo => ⟨ys, ⟨hys.1, by rw [hyl, (annVals_spec hvals).1], hyo, hyI⟩, hys.2⟩⟩, hr.mono ⟨xs, rfl⟩ ⟨_, rfl⟩⟩ hInv
              exact hbody
            · simp [VC] at hv
          · simp [VC] at hv
      · -- region
        rename_i id ops
        have := ih lv s (.ops ops ops.toList :: k) T J L ρ a W hv hL hr hI
        exact wp_region_list this
      · -- a region that draws its order
        rename_i id ops
        split at hv
        · rename_i hmix
          obtain ⟨α, hA⟩ := hI
          refine plan_ok (base := s.hp.length) (s0 := s.room ops.size) (ρ0 := ρ) hC hps ih0 hmix ⟨α, hA.room _⟩ (fun s' ρ' h1 h2 a' W' h3 => ?_) (4 * ops.size + 20) (s.room ops.size) [] ops.toList [] ρ (by simp) rfl (List.prefix_refl _) hv ⟨hA.good.len, hA.good.fit, hA.good.kn⟩ rfl (fun i o d h => by simp at h)
          exact ih lv s' k T J L ρ' a' W' h1 hL (hr.mono h2 (List.prefix_refl _)) h3
        · simp [VC] at hv
      · simp [VC] at hv
    · -- no operation is left
      rename_i all k
      exact ih lv s k T J L ρ a W hv hL hr hI
    · -- an operation
      rename_i all o rest k
      have hrest : ∀ s' ρ' a' W', VC C w0 ps T0 R L ρ' (run C G n lv s' (.ops all rest :: k)) → ρ <+: ρ' → Inv w0 ps T ρ' s' a' W' → wpList C.P all (wpK C.P R k T J) rest a' W' := fun s' ρ' a' W' h1 h2 h3 => ih lv s' (.ops all rest :: k) T J L ρ' a' W' h1 hL (hr.mono h2 (List.prefix_refl _)) h3
      have hself : ∀ s' ρ', VC C w0 ps T0 R L ρ' (run C G n lv s' (.ops all (o :: rest) :: k)) → ρ <+: ρ' → Inv w0 ps T ρ' s' a W → wpList C.P all (wpK C.P R k T J) (o :: rest) a W := fun s' ρ' h1 h2 h3 => ih lv s' (.ops all (o :: rest) :: k) T J L ρ' a W h1 hL (hr.mono h2 (List.prefix_refl _)) h3
      have hskip : VC C w0 ps T0 R L ρ (run C G n lv (s.put o.dst (.k undef)) (.ops all rest :: k)) → Region.wanted o (yielded all a.tmps) = false → wpList C.P all (wpK C.P R k T J) (o :: rest) a W := fun h1 h2 => by
        unfold wpList
        rw [if_neg (by rw [h2]; decide)]
        exact hrest _ ρ _ _ h1 (List.prefix_refl _) (skip_inv hI _)
      dsimp only at hv
      show wpList C.P all (wpK C.P R k T J) (o :: rest) a W
      split at hv
      · rename_i hg
        exact go_ok hC hps hI (by simp [Region.wanted, hg]) hrest hself ih hL hr hv
      · rename_i g want hg
        split at hv
        · simp [VC] at hv
        · rename_i d hd
          obtain ⟨α, hA⟩ := hI
          split at hv
          · rename_i u hl
            exact hskip hv (wanted_no hA hg hd hl)
          · rename_i b hl
            have hwa := wanted_of hA hg hd hl
            split at hv
            · rename_i hb
              exact go_ok hC hps ⟨α, hA⟩ (hwa.trans hb) hrest hself ih hL hr hv
            · rename_i hb
              exact hskip hv (hwa.trans (by simpa using hb))
          · rename_i i p hl
            split at hv
            · rename_i hi
              simp only [VC] at hv
              obtain ⟨b, hb, hbt, hbf⟩ := hv
              cases b
              · exact hself _ ρ (hbf rfl) (List.prefix_refl _) (br_inv ⟨α, hA⟩ hi hb)
              · exact hself _ ρ (hbt rfl) (List.prefix_refl _) (br_inv ⟨α, hA⟩ hi hb)
            · simp [VC] at hv
          · simp [VC] at hv
end
end SX
end Go.Proofs.Ytklppgkolcpbbaa
