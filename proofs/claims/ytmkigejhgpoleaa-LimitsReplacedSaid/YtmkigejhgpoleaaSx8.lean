/-
  A symbolic executor, eighth part: the main law.
-/
import Derived.Test.YtmkigejhgpoleaaSxF
namespace Go.Proofs.Ytmkigejhgpoleaa
set_option linter.unusedSimpArgs false
set_option linter.unusedVariables false
open Go Go.RowKit
namespace SX

section
variable {C : Cx} {R : Ending → World → Prop} {w0 : Org} {ps : List (World → Prop)} {T T0 : List TF} {ρ : List Value} {s : S} {a : Act} {W : World} {α : Nat → AV}
theorem res_ok (hI : InvA w0 ps T ρ s a W α) {fn : Func} {v : V} (h : resOf C.P s fn = some v) : (results fn a.tmps).run C.P W = .ok (v.den ρ α) W := by
  have key : ∀ {l : List ResultVar} {vs : List V}, l.mapM (resOf1 C.P s) = some vs → (l.mapM (res1 a.tmps)).run C.P W = .ok (denL ρ α vs) W := by
    intro l
    induction l with
    | nil => intro vs h; simp at h; subst h; simp [denL]
    | cons r l ih =>
      intro vs h
      simp only [List.mapM_cons, Option.bind_eq_bind, Option.bind_eq_some_iff] at h
      obtain ⟨v, hv, vs', hvs, h⟩ := h
      simp at h
      subst h
      have h1 := res1_ok hI hv
      simp only [List.mapM_cons, Sem.run_bind, h1, Result.andThen_ok, ih hvs, Sem.run_pure, denL]
  rw [results_eq, Array.mapM_eq_mapM_toList]
  unfold resOf at h
  split at h
  · rename_i u hu
    obtain rfl : u = v := by simpa using h
    have := key hu
    simp only [map_eq_pure_bind, bind_assoc, pure_bind, Sem.run_bind, this, Result.andThen_ok, Sem.run_pure, denL]
    simp
  · rename_i vs hne hu
    obtain rfl : V.t vs = v := by simpa using h
    have := key hu
    simp only [map_eq_pure_bind, bind_assoc, pure_bind, Sem.run_bind, this, Result.andThen_ok, Sem.run_pure, V.den]
    have hl : ¬ (denL ρ α vs).toArray.size = 1 := by
      simp [denL_len]
      intro h1
      match vs, h1, hne with
      | [v], _, hne => exact hne v rfl
    rw [dif_neg hl]
  · cases h

theorem blks_room (hp : List (Option Blk)) (m : Nat) (vs : List V) : blks (hp ++ List.replicate m none) vs = blks hp vs := by
  unfold blks
  refine List.map_congr_left fun n _ => ?_
  congr 1
  by_cases h : n < hp.length
  · rw [List.getElem?_append_left h]
  · rw [List.getElem?_append_right (by omega), List.getElem?_eq_none (l := hp) (by omega), List.getElem?_replicate]
    split <;> rfl
theorem at_room (hp : List (Option Blk)) (m n : Nat) : ((hp ++ List.replicate m none)[n]?).join = (hp[n]?).join := by
  by_cases h : n < hp.length
  · rw [List.getElem?_append_left h]
  · rw [List.getElem?_append_right (by omega), List.getElem?_eq_none (l := hp) (by omega), List.getElem?_replicate]
    split <;> rfl
theorem nest_room (hp : List (Option Blk)) (m : Nat) : ∀ vs : List V, nestV (hp ++ List.replicate m none) vs = nestV hp vs
  | [] => rfl
  | v :: l => by
    unfold nestV
    rw [nest_room hp m l]
    congr 1
    cases v <;> try rfl
    simp only [at_room]
theorem see_room (s : S) (m : Nat) (op : Op) (vs : List V) : (s.room m).see op vs = s.see op vs := by
  unfold S.see
  split
  · exact blks_room s.ln m vs
  · show blks (s.hp ++ List.replicate m none) (deepV (s.hp ++ List.replicate m none) op vs) = blks s.hp (deepV s.hp op vs)
    have : deepV (s.hp ++ List.replicate m none) op vs = deepV s.hp op vs := by
      unfold deepV; rw [nest_room]
    rw [this]
    exact blks_room s.hp m _
theorem ef_old {K : Act → World → Prop} {Q : Exit → Act → World → Prop} {o : Oper} {v : V} {wr : Option (Nat × Blk)} {vs : List V} (hvs : o.op.operands.toList.mapM s.ev = some vs) (h : planV C s.sh s.hp.length o.op vs (s.see o.op vs) = .ef v none wr) (hI : Inv w0 ps T ρ s a W)
    (hw : effWf s s.hp.length v none wr = true) (hK : ∀ a' W', Inv w0 ps T ρ (s.eff s.hp.length o.dst v none wr) a' W' → K a' W') : o.wp C.P a W K Q := by
  obtain ⟨α, hI⟩ := hI
  exact ef_ok (s := s) (nm := s.hp.length) (vs := vs) (List.prefix_refl _) hvs h hI (.inl rfl) hw hK
theorem ef_new {K : Act → World → Prop} {Q : Exit → Act → World → Prop} {o : Oper} {v : V} {b : Blk} {wr : Option (Nat × Blk)} {vs : List V} (hvs : o.op.operands.toList.mapM s.ev = some vs) (h : planV C s.sh s.hp.length o.op vs (s.see o.op vs) = .ef v (some b) wr) (hI : Inv w0 ps T ρ s a W)
    (hw : (effWf (s.room 1) s.hp.length v (some b) wr && freeAt (s.room 1) s.hp.length) = true) (hK : ∀ a' W', Inv w0 ps T ρ ((s.room 1).eff s.hp.length o.dst v (some b) wr) a' W' → K a' W') : o.wp C.P a W K Q := by
  obtain ⟨α, hI⟩ := hI
  simp only [Bool.and_eq_true] at hw
  refine ef_ok (s := s.room 1) (nm := s.hp.length) (vs := vs) (List.prefix_refl _) hvs ?_ (hI.room 1) (.inr (free_at hw.2)) hw.1 hK
  rw [see_room]
  exact h
theorem df_old (hC : C.Ok) (hps : Ctx C w0 ps) {K : Act → World → Prop} {Q : Exit → Act → World → Prop} {o : Oper} {q : Opq} {args : List V} {sh : Sh} {mk : Option V} {wr : Option (Nat × Blk)} {v : Value} {vs : List V} (hvs : o.op.operands.toList.mapM s.ev = some vs) (h : planV C s.sh s.hp.length o.op vs (s.see o.op vs) = .df q args sh mk none wr) (hI : InvA w0 ps T ρ s a W α)
    (hrel : q.rel C ρ α args v) (hfit : sh.fit v = true) (hw : (wfL s.ln s.sh.length args && q.wf s.ln s.sh.length && effWf (s.ext sh) s.hp.length (resV s.sh.length sh mk) none wr) = true) (hK : ∀ a' W', Inv w0 ps T (ρ ++ [v]) ((s.ext sh).eff s.hp.length o.dst (resV s.sh.length sh mk) none wr) a' W' → K a' W') : o.wp C.P a W K Q := by
  simp only [Bool.and_eq_true] at hw
  obtain ⟨⟨h1, h2⟩, h3⟩ := hw
  rw [hI.good.len] at h1 h2
  exact df_ok hC hps hvs h hI (rel_mono ⟨[v], rfl⟩ h1 h2 hrel) hfit (.inl rfl) h3 hK
theorem df_new (hC : C.Ok) (hps : Ctx C w0 ps) {K : Act → World → Prop} {Q : Exit → Act → World → Prop} {o : Oper} {q : Opq} {args : List V} {sh : Sh} {mk : Option V} {b : Blk} {wr : Option (Nat × Blk)} {v : Value} {vs : List V} (hvs : o.op.operands.toList.mapM s.ev = some vs) (h : planV C s.sh s.hp.length o.op vs (s.see o.op vs) = .df q args sh mk (some b) wr) (hI : InvA w0 ps T ρ s a W α)
    (hrel : q.rel C ρ α args v) (hfit : sh.fit v = true) (hw : (wfL s.ln s.sh.length args && q.wf s.ln s.sh.length && effWf ((s.room 1).ext sh) s.hp.length (resV s.sh.length sh mk) (some b) wr && freeAt (s.room 1) s.hp.length) = true) (hK : ∀ a' W', Inv w0 ps T (ρ ++ [v]) (((s.room 1).ext sh).eff s.hp.length o.dst (resV s.sh.length sh mk) (some b) wr) a' W' → K a' W') : o.wp C.P a W K Q := by
  simp only [Bool.and_eq_true] at hw
  obtain ⟨⟨⟨h1, h2⟩, h3⟩, h4⟩ := hw
  rw [hI.good.len] at h1 h2
  refine df_ok (s := s.room 1) hC hps hvs ?_ (hI.room 1) (rel_mono ⟨[v], rfl⟩ h1 h2 hrel) hfit (.inr (free_at h4)) h3 hK
  rw [see_room]
  exact h
theorem skip_inv (hI : Inv w0 ps T ρ s a W) (d : Option Tmp) : Inv w0 ps T ρ (s.put d (.k undef)) (a.put d undef) W :=
  let ⟨α, h⟩ := hI; ⟨α, h.put_any d rfl rfl⟩
theorem br_inv (hI : Inv w0 ps T ρ s a W) {i : Nat} {p : List Nat} {v : Value} (hi : i < s.sh.length) (hv : p.foldl comp (ρ.getD i undef) = v) : Inv w0 ps T ρ (s.dec i p v) a W :=
  let ⟨α, h⟩ := hI; ⟨α, h.dec (by rw [← h.good.len]; exact hi) hv⟩

theorem InvA.take (hI : InvA w0 ps T ρ s a W α) : ∃ W', takeM a.defers W = some W' ∧ InvA w0 ps T ρ s { a with defers := [] } W' α := by
  obtain ⟨W', h1, h2⟩ := take_ok (os := loopOs s.lps T) a.defers W hI.defers.1 hI.st
  exact ⟨W', h1, ⟨nofun, hI.defers.2⟩, hI.good, hI.wf, hI.fm, hI.fms, h2, hI.rows, hI.lens⟩
theorem loopOs_some {c : TF} {l : Nat} {r : Loop} (h : c.lp = some (l, r)) (q : Nat × LS) (lps : List (Nat × LS)) (T : List TF) : loopOs (q :: lps) (c :: T) = ⟨l, .loop { r with state := q.2.st, pending := q.2.pe }⟩ :: ⟨r.defers, .deferred (some [])⟩ :: (markOs c.ds ++ loopOs lps T) := by
  conv => lhs; unfold loopOs
  rw [h]
theorem loopOs_none {c : TF} (h : c.lp = none) (lps : List (Nat × LS)) (T : List TF) : loopOs lps (c :: T) = markOs c.ds ++ loopOs lps T := by
  conv => lhs; unfold loopOs
  rw [h]
theorem Lps_some {ok : Nat → Bool} {c : TF} {l : Nat} {r : Loop} (h : c.lp = some (l, r)) {q : Nat × LS} {lps : List (Nat × LS)} {T : List TF} : Lps α ok (q :: lps) (c :: T) ↔ Marks c.ds ∧ (ok q.1 = true ∧ (α q.1).b = l ∧ r.state = .ready ∧ r.pending = none ∧ r.tmps = c.t) ∧ Lps α ok lps T := by
  conv => lhs; unfold Lps
  rw [h]
theorem Lps_none {ok : Nat → Bool} {c : TF} (h : c.lp = none) {lps : List (Nat × LS)} {T : List TF} : Lps α ok lps (c :: T) ↔ Marks c.ds ∧ Lps α ok lps T := by
  conv => lhs; unfold Lps
  rw [h]
theorem rec_ready {r : Loop} (h1 : r.state = .ready) (h2 : r.pending = none) : ({ r with state := .ready, pending := none } : Loop) = r := by cases r; simp_all
theorem rec_busy {r : Loop} (h2 : r.pending = none) : ({ r with state := .busy, pending := none } : Loop) = { r with state := .busy } := by cases r; simp_all
theorem lpOf_some {T : List TF} (h : (lpOf T).isSome = true) : ∃ c T' l r, T = c :: T' ∧ c.lp = some (l, r) := by
  cases T with
  | nil => simp [lpOf] at h
  | cons c T' =>
    simp only [lpOf] at h
    cases hc : c.lp with
    | none => rw [hc] at h; cases h
    | some e => exact ⟨c, T', e.1, e.2, rfl, by rw [hc]⟩
theorem roundF_ok (args : List V) : ∀ (l : List Tmp) (as' : List V) (fr : List (Option V)) (t : Array Value), Fm ρ α fr t → Fm ρ α ((l.zip as').foldl (fun f e => f.set e.1 (some e.2)) fr) ((l.zip (denL ρ α as')).foldl (fun tmps e => tmps.setIfInBounds e.1 e.2) t)
  | [], _, fr, t, h => by simpa using h
  | _ :: _, [], fr, t, h => by simpa [denL] using h
  | x :: l, v :: as', fr, t, h => by
    simp only [denL, List.zip_cons_cons, List.foldl_cons]
    exact roundF_ok args l as' _ _ (h.set x v)
theorem roundF_wf {ln : List (Option Blk)} {m : Nat} : ∀ (l : List Tmp) (as' : List V) (fr : List (Option V)), WfF ln m fr → wfL ln m as' = true → WfF ln m ((l.zip as').foldl (fun f e => f.set e.1 (some e.2)) fr)
  | [], _, fr, h, _ => by simpa using h
  | _ :: _, [], fr, h, _ => by simpa using h
  | x :: l, v :: as', fr, h, hw => by
    simp only [wfL, Bool.and_eq_true] at hw
    simp only [List.zip_cons_cons, List.foldl_cons]
    refine roundF_wf l as' _ (fun u hu => ?_) hw.2
    rcases mem_set hu with hu | hu
    · obtain rfl : u = v := by simpa using hu
      exact hw.1
    · exact h u hu
theorem roundT_eq (r : Loop) (as' : List V) : roundT r (denL ρ α as').toArray = (r.params.toList.zip (denL ρ α as')).foldl (fun tmps e => tmps.setIfInBounds e.1 e.2) r.tmps := by
  unfold roundT
  rw [← Array.foldl_toList, Array.toList_zip]

theorem none_rest {l : List (Option Blk)} {k : Nat} (h : (l.drop k).all Option.isNone = true) {n : Nat} {b : Blk} (hn : l[n]? = some (some b)) : (l.take k)[n]? = some (some b) := by
  rcases Nat.lt_or_ge n k with hk | hk
  · rw [List.getElem?_take, if_pos hk]; exact hn
  · exfalso
    have h1 : (l.drop k)[n - k]? = some (some b) := by rw [List.getElem?_drop, show k + (n - k) = n by omega]; exact hn
    have := List.all_eq_true.1 h _ (List.mem_of_getElem? h1)
    cases this
theorem none_split {l : List (Option Blk)} {k : Nat} (h : (l.drop k).all Option.isNone = true) : l = l.take k ++ List.replicate (l.drop k).length none := by
  have : l.drop k = List.replicate (l.drop k).length none := List.eq_replicate_iff.2 ⟨rfl, fun x hx => by
    have := List.all_eq_true.1 h x hx
    cases x
    · rfl
    · cases this⟩
  rw [← this, List.take_append_drop]
theorem InvA.trim (hI : InvA w0 ps T ρ s a W α) (b : Bool) (base : Nat) : InvA w0 ps T ρ (s.trim b base) a W α := by
  unfold S.trim
  split
  · exact hI
  · generalize max base (max (lastSome 0 0 s.hp) (lastSome 0 0 s.ln)) = k
    dsimp only
    split
    · rename_i hc
      simp only [Bool.and_eq_true] at hc
      obtain ⟨h1, h2⟩ := hc
      have hlv : ∀ n, lv s.ln n = true → lv (s.ln.take k) n = true := fun n hn => by
        obtain ⟨b, hb⟩ := lv_iff.1 hn
        exact lv_iff.2 ⟨b, none_rest h2 hb⟩
      have hback : ∀ {l : List (Option Blk)} {n : Nat} {b : Blk}, (l.take k)[n]? = some (some b) → l[n]? = some (some b) := fun {l n b} h => by
        rw [List.getElem?_take] at h
        split at h
        · exact h
        · cases h
      refine ⟨⟨hI.defers.1, hI.defers.2.to (fun _ _ => rfl) hlv⟩, ⟨hI.good.len, hI.good.fit, hI.good.kn⟩, ⟨hI.wf.fr.mono hlv (Nat.le_refl _), fun f hf => (hI.wf.stk f hf).mono hlv (Nat.le_refl _), fun c hc => ?_, fun c hc => ?_⟩, hI.fm, hI.fms, ?_, fun n b hb => ?_, fun n b hb => hI.lens n b (hback hb)⟩
      · exact wfL_mono hlv (Nat.le_refl _) c.c (hI.wf.hp c (List.mem_of_mem_take hc))
      · exact wfL_mono hlv (Nat.le_refl _) c.c (hI.wf.ln c (List.mem_of_mem_take hc))
      · have e1 := none_split h1
        have hst := hI.st
        have e2 : chs ρ α 0 s.hp = chs ρ α 0 (s.hp.take k) := by
          conv => lhs; rw [e1, chs_append]
        rw [e2] at hst
        exact st_ps hst (app_sub (exs_sub fun n b hb => .inr ⟨b, hback hb, rfl⟩))
      · obtain ⟨h3, h4⟩ := hI.rows n b (hback hb)
        exact ⟨hlv n h3, h4⟩
    · exact hI
theorem wpK_panic {P : Program} {R : Ending → World → Prop} : ∀ {k : List It} {T : List TF} {J : List (Act → World → Prop)}, noJmp k = true → ∀ c a W, ¬ wpK P R k T J (.panic c) a W
  | [], _, _, _, _, _, _ => fun h => h
  | .top _ :: _, _, _, _, _, _, _ => fun h => h
  | .code _ :: k, _, _, h, c, a, W => fun hh => wpK_panic (k := k) h c a W hh
  | .inBlock _ :: k, _, _, h, c, a, W => fun hh => wpK_panic (k := k) h c a W hh
  | .rounds _ _ :: k, _, _, h, c, a, W => fun hh => wpK_panic (k := k) h c a W hh
  | .ops _ _ :: k, _, _, h, c, a, W => fun hh => wpK_panic (k := k) h c a W hh
  | .back _ _ _ _ _ :: _, [], _, _, _, _, _ => fun h => h
  | .back _ _ _ _ _ :: _, _ :: _, _, _, _, _, _ => fun h => h
  | .again _ _ _ _ :: k, _, [], _, _, _, _ => fun h => h
  | .again _ _ _ _ :: k, _, _ :: _, h, c, a, W => fun hh => wpK_panic (k := k) h c a W hh
  | .beginR :: _, _, _, _, _, _, _ => fun h => h
  | .endR _ _ _ _ :: _, [], _, _, _, _, _ => fun h => h
  | .endR _ _ _ _ :: _, _ :: _, _, _, _, _, _ => fun ⟨_, _, _, h⟩ => h.2
  | .endl _ _ _ _ _ :: _, [], _, _, _, _, _ => fun h => h
  | .endl _ _ _ _ _ :: _, _ :: _, _, _, _, _, _ => fun h => h
  | .jump _ :: _, _, _, h, _, _, _ => nomatch h
theorem cutT_vc {R : Ending → World → Prop} {T0 : List TF} {L : List (List Value → Prop)} {i : Nat} {b : Bool} {t : Tree} (h : VC C w0 ps T0 R L ρ (cutT C s i b t)) : VC C w0 ps T0 R L ρ t := by
  unfold cutT at h
  split at h
  · simp [VC] at h
  · exact h
/-- the run of one operation -/
def goT (C : Cx) (G : Cfg) (n lv : Nat) (s : S) (all : Array Oper) (o : Oper) (rest : List Oper) (k : List It) : Tree :=
  match o.op.operands.toList.mapM s.ev with
        | none => .bad 16 [o.op]
        | some vs => match planV C s.sh s.hp.length o.op vs (s.see o.op vs) with
          | .ef v none wr => if effWf s s.hp.length v none wr then run C G n lv (s.eff s.hp.length o.dst v none wr) (.ops all rest :: k) else .bad 17 [o.op]
          | .ef v (some b) wr => if effWf (s.room 1) s.hp.length v (some b) wr && freeAt (s.room 1) s.hp.length then run C G n lv ((s.room 1).eff s.hp.length o.dst v (some b) wr) (.ops all rest :: k) else .bad 18 [o.op]
          | .df q args sh mk none wr => if wfL s.ln s.sh.length args && q.wf s.ln s.sh.length && effWf (s.ext sh) s.hp.length (resV s.sh.length sh mk) none wr then .df q args sh (run C G n lv ((s.ext sh).eff s.hp.length o.dst (resV s.sh.length sh mk) none wr) (.ops all rest :: k)) else .bad 20 [o.op]
          | .df q args sh mk (some b) wr => if wfL s.ln s.sh.length args && q.wf s.ln s.sh.length && effWf ((s.room 1).ext sh) s.hp.length (resV s.sh.length sh mk) (some b) wr && freeAt (s.room 1) s.hp.length then .df q args sh (run C G n lv (((s.room 1).ext sh).eff s.hp.length o.dst (resV s.sh.length sh mk) (some b) wr) (.ops all rest :: k)) else .bad 19 [o.op]
          | .br i p => if i < s.sh.length then .br i p (run C G n lv (s.dec i p (.bool true)) (.ops all (o :: rest) :: k)) (run C G n lv (s.dec i p (.bool false)) (.ops all (o :: rest) :: k)) else .bad 21 [o.op]
          | .sp i p m => if i < s.sh.length then .sp i p ((List.range m).map fun (j : Nat) => run C G n lv (s.dec i p (.int .i64 (j : Int))) (.ops all (o :: rest) :: k)) else .bad 22 [o.op]
          | .no => match frzV C s G.keep o.op vs with
            | some n0 => run C G n lv (s.freeze n0) (.ops all (o :: rest) :: k)
            | none => match o.op, vs with
            | .call c, .f (.func g) fs cap :: args => match c.callee, C.P.funcs[g]?, enters C.P g && G.inl g with
              | .value _, some fn, true => match fn.body with
                | some body => if (fs ++ (args ++ cap)).length ≤ fn.ntmps && wfL s.ln s.sh.length (fs ++ (args ++ cap)) then
                    run C G n lv { s with fr := (fs ++ (args ++ cap)).map some ++ List.replicate (fn.ntmps - (fs ++ (args ++ cap)).length) (some (.k undef)), stk := s.fr :: s.stk, cur := g } (.code body :: .back fn s.cur o.dst all rest :: k) else .bad 23 [o.op]
                | none => .bad 24 [o.op]
              | _, _, _ => .bad 25 [o.op]
            | .call c, .y m :: args => match c.callee, s.lps, s.stk, endlOf k with
              | .value _, (m', .ready) :: _, fr :: _, some (cur, ps, assign, body) => if m = m' ∧ args.length = ps.size ∧ wfL s.ln s.sh.length args = true then
                  run C G n lv { s with fr := roundF fr ps args, stk := s.fr :: s.stk, cur := cur } (.code assign :: .beginR :: .code body :: .endR s.cur o.dst all rest :: k) else .bad 61 [o.op]
              | _, _, _, _ => .bad 62 [o.op]
            | _, _ => .bad 26 [o.op]
theorem frzV_eq {k : Nat} {op : Op} {vs : List V} {n0 : Nat} (h : frzV C s k op vs = some n0) : k = 12 ∧ ∃ b, s.hp[n0]? = some (some b) ∧ b.k = .cells := by
  unfold frzV at h
  split at h
  · rename_i hk
    refine ⟨hk, ?_⟩
    split at h
    · split at h
      · have hm := List.mem_of_getElem? h
        obtain ⟨j, _, hj⟩ := List.mem_filterMap.1 hm
        split at hj
        · split at hj
          · rename_i b hb
            split at hj
            · rename_i hbk
              cases hj
              exact ⟨b, join_some hb, hbk⟩
            · cases hj
          · cases hj
        · cases hj
      · cases h
    · cases h
  · cases h
/-- a block is written no more -/
theorem InvA.freeze (hI : InvA w0 ps T ρ s a W α) (hms : w0.ms = []) {n0 : Nat} {b : Blk} (hn : s.hp[n0]? = some (some b)) (hk : b.k = .cells) : InvA w0 ps T ρ (s.freeze n0) a W α := by
  have hfz : s.freeze n0 = s.lay n0 ⟨b.c, b.t, .froz⟩ := by unfold S.freeze; rw [hn]; rfl
  rw [hfz]
  obtain ⟨l1, l2, h1, h2⟩ := chs_split (ρ := ρ) (α := α) (k := 0) hn
  have hch : (some b).bind (fun b => b.ch ρ α (0 + n0)) = some ⟨(α n0).b, (denL ρ α b.c).toArray, b.t⟩ := by simp [Blk.ch, hk]
  have hst := hI.st
  rw [h1, hch] at hst
  have hst : St w0 (l1 ++ ((⟨(α n0).b, (denL ρ α b.c).toArray, b.t⟩ : Ch) :: l2)) (osA a s T) (exs w0 ρ α 0 s.hp ++ ps) W := hst
  have hmem : (⟨(α n0).b, (denL ρ α b.c).toArray, b.t⟩ : Ch) ∈ l1 ++ ((⟨(α n0).b, (denL ρ α b.c).toArray, b.t⟩ : Ch) :: l2) := by simp
  have hat := hst.at_ hmem
  have hge : w0.w.heap.size ≤ (α n0).b := (hst.ge_ hmem).resolve_right (by rw [hms]; simp)
  have hlt := hst.lt_ hmem
  have hnm : (α n0).b ∉ muts (l1 ++ l2) (osA a s T) := by
    have hnd := hst.nodup
    unfold muts at hnd ⊢
    rw [List.map_append, List.map_cons] at hnd
    rw [List.map_append]
    have hp : (l1.map (·.id) ++ (α n0).b :: l2.map (·.id) ++ (osA a s T).flatMap Ow.blk).Perm ((α n0).b :: (l1.map (·.id) ++ l2.map (·.id) ++ (osA a s T).flatMap Ow.blk)) := by
      simp only [List.append_assoc, List.cons_append]
      exact List.perm_middle
    exact (List.nodup_cons.1 (hp.nodup_iff.1 hnd)).1
  have hst2 : St w0 (l1 ++ l2) (osA a s T) (exs w0 ρ α 0 s.hp ++ ps) W := hst.weak (sub_mid _ _ _) (.refl _) fun _ h => h
  have hst3 := hst2.keep (p := fun W => W.heap[(α n0).b]? = some (.cells (denL ρ α b.c).toArray b.t (0, 0)) ∧ w0.w.heap.size ≤ (α n0).b) fun W' hW => ⟨(hW.block _ hlt hnm).trans hat, hge⟩
  refine ⟨hI.defers, ⟨hI.good.len, hI.good.fit, hI.good.kn⟩, ⟨hI.wf.fr, hI.wf.stk, fun d hd => ?_, hI.wf.ln⟩, hI.fm, hI.fms, ?_, fun m c hc => ?_, hI.lens⟩
  · rcases mem_set hd with h | h
    · obtain rfl : d = ⟨b.c, b.t, .froz⟩ := by simpa using h
      exact hI.wf.hp b (List.mem_of_getElem? hn)
    · exact hI.wf.hp d h
  · show St w0 (chs ρ α 0 (s.hp.set n0 (some ⟨b.c, b.t, .froz⟩))) (osA a s T) (exs w0 ρ α 0 (s.hp.set n0 (some ⟨b.c, b.t, .froz⟩)) ++ ps) W
    rw [h2]
    have e : (some (⟨b.c, b.t, .froz⟩ : Blk)).bind (fun b => b.ch ρ α (0 + n0)) = none := by simp [Blk.ch]
    rw [e]
    refine st_ps hst3 fun p hp => ?_
    rcases List.mem_append.1 hp with hp | hp
    · obtain ⟨m, c, hc, he⟩ := exs_mem.1 hp
      rw [Nat.zero_add] at he
      rcases set_cases hc with ⟨rfl, rfl⟩ | ⟨_, h⟩
      · simp only [Blk.ex, Option.some.injEq] at he
        subst he
        exact List.mem_cons_self ..
      · exact List.mem_cons_of_mem _ (List.mem_append.2 (.inl (exs_mem.2 ⟨m, c, h, by rw [Nat.zero_add]; exact he⟩)))
    · exact List.mem_cons_of_mem _ (List.mem_append.2 (.inr hp))
  · rcases set_cases hc with ⟨rfl, rfl⟩ | ⟨_, h⟩
    · exact ⟨hI.live _ _ hn, by simp [Blk.rowOk]⟩
    · exact hI.rows m c h
theorem go_ok (hC : C.Ok) (hps : Ctx C w0 ps) {G : Cfg} (hk12 : G.keep = 12 → w0.ms = []) {n lv : Nat} {all : Array Oper} {o : Oper} {rest : List Oper} {k : List It} {J : List (Act → World → Prop)} {L : List (List Value → Prop)} (hI : Inv w0 ps T ρ s a W) (hwant : Region.wanted o (yielded all a.tmps) = true)
    (hrest : ∀ s' ρ' a' W', VC C w0 ps T0 R L ρ' (run C G n lv s' (.ops all rest :: k)) → ρ <+: ρ' → Inv w0 ps T ρ' s' a' W' → wpLR (rnd k T) C.P all (wpK C.P R k T J) rest a' W')
    (hself : ∀ s' ρ', VC C w0 ps T0 R L ρ' (run C G n lv s' (.ops all (o :: rest) :: k)) → ρ <+: ρ' → Inv w0 ps T ρ' s' a W → wpLR (rnd k T) C.P all (wpK C.P R k T J) (o :: rest) a W)
    (ih : ∀ (lv : Nat) (s : S) (items : List It) (T : List TF) (J : List (Act → World → Prop)) (L : List (List Value → Prop)) (ρ : List Value) (a : Act) (W : World), VC C w0 ps T0 R L ρ (run C G n lv s items) → L.length = lv → Rel w0 ps T0 L ρ items T J → Inv w0 ps T ρ s a W → wpK C.P R items T J .normal a W)
    (hL : L.length = lv) (hr : Rel w0 ps T0 L ρ k T J) (hv : VC C w0 ps T0 R L ρ (goT C G n lv s all o rest k)) : wpLR (rnd k T) C.P all (wpK C.P R k T J) (o :: rest) a W := by
  have hleft : (∀ c, o.op ≠ .defer c) → o.wp C.P a W (wpLR (rnd k T) C.P all (wpK C.P R k T J) rest) (wpK C.P R k T J) → wpLR (rnd k T) C.P all (wpK C.P R k T J) (o :: rest) a W := fun hd h => wpLR_cons hwant (operIn_of_wp hd h)
  have hrefl := List.prefix_refl ρ
  unfold goT at hv
  split at hv
  · simp [VC] at hv
  · rename_i vs hvs
    split at hv
    · rename_i v wr hpl
      split at hv
      · rename_i hw
        exact hleft (plan_nd hpl nofun) (ef_old hvs hpl hI hw fun a' W' h => hrest _ ρ a' W' hv hrefl h)
      · simp [VC] at hv
    · rename_i v b wr hpl
      split at hv
      · rename_i hw
        exact hleft (plan_nd hpl nofun) (ef_new hvs hpl hI hw fun a' W' h => hrest _ ρ a' W' hv hrefl h)
      · simp [VC] at hv
    · rename_i q args sh mk wr hpl
      split at hv
      · rename_i hw
        simp only [VC] at hv
        obtain ⟨v, hrel, hfit, hv⟩ := hv
        obtain ⟨α, hA⟩ := hI
        exact hleft (plan_nd hpl nofun) (df_old hC hps hvs hpl hA (hrel α) hfit hw fun a' W' h => hrest _ (ρ ++ [v]) a' W' hv ⟨[v], rfl⟩ h)
      · simp [VC] at hv
    · rename_i q args sh mk b wr hpl
      split at hv
      · rename_i hw
        simp only [VC] at hv
        obtain ⟨v, hrel, hfit, hv⟩ := hv
        obtain ⟨α, hA⟩ := hI
        exact hleft (plan_nd hpl nofun) (df_new hC hps hvs hpl hA (hrel α) hfit hw fun a' W' h => hrest _ (ρ ++ [v]) a' W' hv ⟨[v], rfl⟩ h)
      · simp [VC] at hv
    · rename_i i p hpl
      split at hv
      · rename_i hi
        simp only [VC] at hv
        obtain ⟨b, hb, hbt, hbf⟩ := hv
        cases b
        · exact hself _ ρ (hbf rfl) hrefl (br_inv hI hi hb)
        · exact hself _ ρ (hbt rfl) hrefl (br_inv hI hi hb)
      · simp [VC] at hv
    · rename_i i p m hpl
      split at hv
      · rename_i hi
        simp only [VC] at hv
        obtain ⟨⟨j, hj, hu⟩, hv⟩ := hv
        have hj' : j < m := by simpa using hj
        have := VCs_at (j := j) hv (t := run C G n lv (s.dec i p (.int .i64 (j : Int))) (.ops all (o :: rest) :: k)) (by simp [hj']) (by rw [hu, Nat.zero_add])
        exact hself _ ρ this hrefl (br_inv hI hi hu)
      · simp [VC] at hv
    · split at hv
      · rename_i n0 hz
        obtain ⟨h12, b, hn0, hbk⟩ := frzV_eq hz
        obtain ⟨α, hA⟩ := hI
        exact hself _ ρ hv hrefl ⟨α, hA.freeze (hk12 h12) hn0 hbk⟩
      split at hv
      · rename_i c g fs cap args hop _ _
        split at hv
        · rename_i f fn hcal hfn hen
          split at hv
          · rename_i body hbody
            split at hv
            · rename_i hw
              simp only [Bool.and_eq_true, decide_eq_true_eq] at hw hen
              obtain ⟨α, hA⟩ := hI
              have he := mapM_den hA.good hA.fm hvs
              rw [hop] at he
              obtain ⟨cal, ar, at'⟩ := c
              simp only at hcal
              subst hcal
              simp only [Op.operands, Call.operands, denL, V.den] at he
              simp at he
              obtain ⟨h7, h8⟩ := he
              refine hleft (by rw [hop]; intro c h; cases h) (wp_callB hop h7 (vs := (denL ρ α (fs ++ (args ++ cap))).toArray) ?_ (enters_run hen.1 _ _)
                (R := fun v W' => wpLR (rnd k T) C.P all (wpK C.P R k T J) rest (({ tmps := a.tmps, defers := a.defers } : Act).put o.dst v) W') ?_ ?_)
              · exact Array.ext' (by simp [denL_app, h8])
              · refine calls_of_endR hfn hbody ?_
                have hI' : Inv w0 ps (⟨a.tmps, a.defers, none⟩ :: T) ρ { s with fr := (fs ++ (args ++ cap)).map some ++ List.replicate (fn.ntmps - (fs ++ (args ++ cap)).length) (some (.k undef)), stk := s.fr :: s.stk, cur := g }
                    { tmps := (denL ρ α (fs ++ (args ++ cap))).toArray ++ Array.replicate (fn.ntmps - (denL ρ α (fs ++ (args ++ cap))).toArray.size) undef, defers := [] } W := by
                  refine ⟨α, ⟨nofun, hA.defers⟩, ⟨hA.good.len, hA.good.fit, hA.good.kn⟩, ⟨fun v hv' => ?_, fun f hf => ?_, hA.wf.hp, hA.wf.ln⟩, ⟨by simp [denL_len]; omega, fun d v hd => ?_⟩, ⟨hA.fm, hA.fms⟩, hA.st, hA.rows, hA.lens⟩
                  · rcases List.mem_append.1 hv' with h | h
                    · obtain ⟨u, hu, e⟩ := List.mem_map.1 h
                      obtain rfl : u = v := by simpa using e
                      rw [← hA.good.len]
                      exact wfL_mem hw.2 u hu
                    · have := List.eq_of_mem_replicate h
                      cases this
                      rfl
                  · rcases List.mem_cons.1 hf with rfl | hf
                    · exact hA.wf.fr
                    · exact hA.wf.stk f hf
                  · rw [Array.getElem?_append]
                    simp only [List.size_toArray, denL_len]
                    by_cases hlt : d < (fs ++ (args ++ cap)).length
                    · rw [List.getElem?_append_left (by simpa using hlt), List.getElem?_map, List.getElem?_eq_getElem hlt] at hd
                      simp only [Option.map_some, Option.some.injEq] at hd
                      rw [if_pos hlt]
                      simpa using denL_at (ρ := ρ) (α := α) (by rw [List.getElem?_eq_getElem hlt, hd])
                    · rw [List.getElem?_append_right (by simpa using hlt), List.getElem?_replicate] at hd
                      rw [if_neg hlt, Array.getElem?_replicate]
                      simp only [List.length_map] at hd
                      split at hd
                      · rename_i h9
                        rw [if_pos h9]
                        cases hd
                        rfl
                      · cases hd
                have := ih lv _ (.code body :: .back fn s.cur o.dst all rest :: k) (⟨a.tmps, a.defers, none⟩ :: T) J L ρ _ W hv hL ⟨rfl, hr⟩ hI'
                exact this
              · intro v W' h
                exact h
            · simp [VC] at hv
          · simp [VC] at hv
        · simp [VC] at hv
      · -- a round
        rename_i c m args hop _ _
        split at hv
        · rename_i f m' lps' fr stk' cur ps' assign body hcal hlps hstk hend
          split at hv
          · rename_i hw
            obtain ⟨rfl, hw2, hw3⟩ := hw
            obtain ⟨α, hA⟩ := hI
            obtain ⟨hrn, c0, T', l, r, rfl, hlp, hp1, hp2, hp3⟩ := endl_ok hend hr
            have hLps := hA.defers.2
            rw [hlps] at hLps
            obtain ⟨hm0, ⟨q1, q2, q3, q4, q5⟩, hLt⟩ := (Lps_some hlp).1 hLps
            have hst := hA.st
            have hos : osA a s (c0 :: T') = markOs a.defers ++ (⟨l, .loop r⟩ :: ⟨r.defers, .deferred (some [])⟩ :: (markOs c0.ds ++ loopOs lps' T')) := by
              unfold osA
              rw [hlps, loopOs_some hlp]
              simp only [LS.st, LS.pe, rec_ready q3 q4]
            have hl : W.heap[l]? = some (.loop r) := (hst.own ⟨l, .loop r⟩ (by rw [hos]; simp)).2
            have he := mapM_den hA.good hA.fm hvs
            rw [hop] at he
            obtain ⟨cal, ar, at'⟩ := c
            simp only at hcal
            subst hcal
            simp only [Op.operands, Call.operands, denL, V.den] at he
            simp at he
            obtain ⟨h7, h8⟩ := he
            have hfms := hA.fms
            rw [hstk] at hfms
            have hwstk := hA.wf.stk
            rw [hstk] at hwstk
            refine wpLR_cons hwant (wpR_yield (l := l) (r := r) (vs := (denL ρ α args).toArray) hop (by rw [h7, q2]) ?_ hl (by simp [denL_len, hw2, hp1]) q3 ?_)
            · exact Array.ext' (by simp [h8])
            · have hI' : Inv w0 ps (⟨a.tmps, a.defers, none⟩ :: c0 :: T') ρ { s with fr := roundF fr ps' args, stk := s.fr :: s.stk, cur := cur } { tmps := roundT r (denL ρ α args).toArray, defers := [] } W := by
                refine ⟨α, ⟨nofun, hA.defers⟩, ⟨hA.good.len, hA.good.fit, hA.good.kn⟩, ⟨?_, fun f hf => ?_, hA.wf.hp, hA.wf.ln⟩, ?_, ⟨hA.fm, hA.fms⟩, hA.st, hA.rows, hA.lens⟩
                · rw [← hA.good.len]
                  exact roundF_wf _ _ _ (by rw [hA.good.len]; exact hwstk fr (List.mem_cons_self ..)) hw3
                · rcases List.mem_cons.1 hf with rfl | hf
                  · exact hA.wf.fr
                  · exact hA.wf.stk f hf
                · rw [roundT_eq, q5, hp1]
                  exact roundF_ok args _ _ _ _ hfms.1
              have h := ih lv _ (.code assign :: .beginR :: .code body :: .endR s.cur o.dst all rest :: k) (⟨a.tmps, a.defers, none⟩ :: c0 :: T') J L ρ _ W hv hL ⟨⟨_, _, rfl, rfl, by simp [lpOf, hlp]⟩, rfl, by simp [lpOf, hlp], hr⟩ hI'
              have hrd : rnd (.endR s.cur o.dst all rest :: k) (⟨a.tmps, a.defers, none⟩ :: c0 :: T') = some l := by simp [rnd, hlp]
              have h : wpR (rnd (.endR s.cur o.dst all rest :: k) (⟨a.tmps, a.defers, none⟩ :: c0 :: T')) C.P assign (wpK C.P R (.beginR :: .code body :: .endR s.cur o.dst all rest :: k) (⟨a.tmps, a.defers, none⟩ :: c0 :: T') J) { tmps := roundT r (denL ρ α args).toArray, defers := [] } W := h
              rw [hrd] at h
              subst hp2
              subst hp3
              refine wpR_mono h fun e a1 W1 hq => ?_
              cases e with
              | normal =>
                obtain ⟨l', r', e1, e2, e3⟩ := hq
                have e1 : c0.lp = some (l', r') := e1
                rw [hlp] at e1
                cases e1
                refine ⟨e2, ?_⟩
                have e3 : wpR (rnd (.endR s.cur o.dst all rest :: k) (⟨a.tmps, a.defers, none⟩ :: c0 :: T')) C.P r.body (wpK C.P R (.endR s.cur o.dst all rest :: k) (⟨a.tmps, a.defers, none⟩ :: c0 :: T') J) a1 (W1.putObj l (.loop { r with state := .busy })) := e3
                rw [hrd] at e3
                refine wpR_mono e3 fun e2 a2 W2 hq2 => ?_
                obtain ⟨l', r', e1, e2⟩ := hq2
                have e1 : c0.lp = some (l', r') := e1
                rw [hlp] at e1
                cases e1
                exact e2
              | exit id => exact hq
              | ret => exact hq
              | goto t => exact hq
              | panic c => exact hq
              | outgrown => exact hq
          · simp [VC] at hv
        · simp [VC] at hv
      · simp [VC] at hv
theorem run_ok (hC : C.Ok) : ∀ n, RunOk C ps n := by
  intro n
  induction n with
  | zero => intro w0 T0 R G lv s items T J L ρ a W hk12 hps hv; simp [run, VC] at hv
  | succ n ih0 =>
    intro w0 T0 R G lv s items T J L ρ a W hk12 hps hv hL hr hI
    have ih := fun lv s items T J L ρ a W => ih0 w0 T0 R G lv s items T J L ρ a W hk12 hps
    unfold run at hv
    split at hv
    · simp [VC] at hv
    · -- top
      rename_i fn k
      split at hv
      · rename_i v hres
        split at hv
        · rename_i hwf
          simp only [VC] at hv
          obtain ⟨α, hA⟩ := hI
          obtain ⟨W2, htk, hA⟩ := hA.take
          refine ⟨W2, v.den ρ α, htk, res_ok hA hres, hv α W2 (by have := hA.fms; rwa [show T = T0 from hr] at this) ?_ ?_⟩
          · unfold keptH
            split
            · exact fun m b h => nomatch h
            · exact fun m b h => (hA.rows m b h).2
            · exact fun m b h => (hA.rows m b (keepH_at h).1).2
          · unfold keptH
            split
            · exact hA.st.weak (List.nil_sublist _) (List.nil_sublist _) fun p h => List.mem_append.2 (.inr (by simpa [exs] using h))
            · exact hA.st.weak (.refl _) (List.nil_sublist _) fun p h => h
            · exact hA.st.weak (chs_sub fun m b h => ⟨b, (keepH_at h).1, rfl, rfl, rfl⟩) (List.nil_sublist _) (app_sub (exs_sub fun m b h => .inr ⟨b, (keepH_at h).1, rfl⟩))
        · simp [VC] at hv
      · simp [VC] at hv
    · -- back
      rename_i fn cur dst all rest k
      split at hv
      · rename_i v fr stk hres hstk
        split at hv
        · rename_i hwf
          obtain ⟨α, hA⟩ := hI
          cases T with
          | nil => exact hr.elim
          | cons t T =>
            obtain ⟨W2, htk, hA⟩ := hA.take
            refine ⟨W2, v.den ρ α, htk, res_ok hA hres, v.den ρ α, rfl, ?_⟩
            have hfm := hA.fms
            rw [hstk] at hfm
            have hI' : Inv w0 ps T ρ (({ s with fr := fr, stk := stk, cur := cur } : S).put dst v) (({ tmps := t.t, defers := t.ds } : Act).put dst (v.den ρ α)) W2 := by
              refine ⟨α, InvA.put (s := { s with fr := fr, stk := stk, cur := cur }) ⟨(Lps_none hr.1).1 hA.defers.2, ⟨hA.good.len, hA.good.fit, hA.good.kn⟩, ⟨hA.wf.stk fr (by rw [hstk]; exact List.mem_cons_self ..), fun f hf => hA.wf.stk f (by rw [hstk]; exact List.mem_cons_of_mem _ hf), hA.wf.hp, hA.wf.ln⟩, hfm.1, hfm.2, by have := hA.st; unfold osA at this ⊢; rwa [loopOs_none hr.1] at this, hA.rows, hA.lens⟩ dst (by rw [← hA.good.len]; exact hwf)⟩
            exact ih lv _ (.ops all rest :: k) T J L ρ _ W2 hv hL hr.2 hI'
        · simp [VC] at hv
      · simp [VC] at hv
    · -- again
      rename_i l an ws s0 k
      refine settle_ok hps an.pos s ρ _ hv hI fun s ρ' hv hρ hI => ?_
      split at hv
      · rename_i vals hvals
        split at hv
        · rename_i hc
          simp only [Bool.and_eq_true, beq_iff_eq, decide_eq_true_eq] at hc
          obtain ⟨⟨⟨⟨⟨⟨⟨h1, h2⟩, h3⟩, h3l⟩, h4⟩, h5⟩, h6⟩, h7⟩ := hc
          simp only [VC] at hv
          obtain ⟨α, hA⟩ := hI
          cases J with
          | nil => exact hr.elim
          | cons j J =>
            obtain ⟨⟨ρ0, A, hA1, hp, hg, hw, hlive, hlpl, hj⟩, _⟩ := hr
            have hvv := hv α
            rw [List.getD_eq_getElem?_getD, hA1] at hvv
            have hM : Match an ws s0 s := by
              obtain ⟨q1, q2⟩ := eqbFr_le h1
              refine ⟨⟨q1, fun d v hd1 hv' => q2 d v (by rw [Nat.zero_add]; exact hd1) hv'⟩, eqbS_le h2, fun m b hb hnd => ?_, fun m b hb => eqbH_same h3l hb, hlive, h7, hlpl⟩
              have := eqbH_le h3 m b hb (by rw [Nat.zero_add]; exact hnd)
              simpa using this
            obtain ⟨hf, hfit⟩ := fresh_inv hA (hp.trans hρ) hg hw hM hvals h5
            exact hj _ a W hvv hfit hf
        · simp [VC] at hv
      · simp [VC] at hv
    · -- a round begins
      rename_i k
      split at hv
      · rename_i m lps' hlps
        obtain ⟨⟨it, T1, rfl, hit, hl1⟩, hr⟩ := hr
        obtain ⟨c, T', l, r, rfl, hlp⟩ := lpOf_some hl1
        obtain ⟨α, hA⟩ := hI
        have hLps := hA.defers.2
        rw [hlps, Lps_none hit, Lps_some hlp] at hLps
        obtain ⟨hmi, hmc, ⟨q1, q2, q3, q4, q5⟩, hLt⟩ := hLps
        have hst := hA.st
        unfold osA at hst
        rw [hlps, loopOs_none hit, loopOs_some hlp, ← List.append_assoc] at hst
        simp only [LS.st, LS.pe, rec_ready q3 q4] at hst
        have hl : W.heap[l]? = some (.loop r) := (hst.own ⟨l, .loop r⟩ (by simp)).2
        refine ⟨l, r, hlp, hl, ?_⟩
        refine ih lv _ k (it :: c :: T') J L ρ a (W.putObj l (.loop { r with state := .busy })) hv hL hr ⟨α, ⟨hA.defers.1, (Lps_none hit).2 ⟨hmi, (Lps_some hlp).2 ⟨hmc, ⟨q1, q2, q3, q4, q5⟩, hLt⟩⟩⟩, ⟨hA.good.len, hA.good.fit, hA.good.kn⟩, ⟨hA.wf.fr, hA.wf.stk, hA.wf.hp, hA.wf.ln⟩, hA.fm, hA.fms, ?_, hA.rows, hA.lens⟩
        unfold osA
        rw [loopOs_none hit, loopOs_some hlp, ← List.append_assoc]
        simp only [LS.st, LS.pe, rec_busy q4]
        exact St.put_ hst
      · simp [VC] at hv
    · -- a round ends
      rename_i cur dst all rest k
      split at hv
      · rename_i m lps' fr stk hlps hstk
        cases T with
        | nil => exact hr.elim
        | cons it T1 =>
          obtain ⟨hit, hl1, hr⟩ := hr
          obtain ⟨c, T', l, r, rfl, hlp⟩ := lpOf_some hl1
          obtain ⟨α, hA⟩ := hI
          have hLps := hA.defers.2
          rw [hlps, Lps_none hit, Lps_some hlp] at hLps
          obtain ⟨hmi, hmc, ⟨q1, q2, q3, q4, q5⟩, hLt⟩ := hLps
          have hst := hA.st.weak (os' := loopOs s.lps (it :: c :: T')) (.refl _) (List.sublist_append_right _ _) fun _ h => h
          rw [hlps, loopOs_none hit, loopOs_some hlp] at hst
          simp only [LS.st, LS.pe, rec_busy q4] at hst
          have hl : W.heap[l]? = some (.loop { r with state := .busy }) := (hst.own ⟨l, .loop { r with state := .busy }⟩ (by simp)).2
          have hfm := hA.fms
          rw [hstk] at hfm
          refine ⟨l, r, hlp, hl, ?_⟩
          have hI' : Inv w0 ps (c :: T') ρ (({ s with fr := fr, stk := stk, lps := (m, .ready) :: lps', cur := cur } : S).put dst (.k (.bool true))) (({ tmps := it.t, defers := it.ds } : Act).put dst (.bool true)) (W.putObj l (.loop { r with state := .ready, pending := none })) := by
            refine ⟨α, InvA.put_any (s := { s with fr := fr, stk := stk, lps := (m, .ready) :: lps', cur := cur }) (v := .k (.bool true)) ⟨⟨hmi, (Lps_some hlp).2 ⟨hmc, ⟨q1, q2, q3, q4, q5⟩, hLt⟩⟩, ⟨hA.good.len, hA.good.fit, hA.good.kn⟩, ⟨hA.wf.stk fr (by rw [hstk]; exact List.mem_cons_self ..), fun f hf => hA.wf.stk f (by rw [hstk]; exact List.mem_cons_of_mem _ hf), hA.wf.hp, hA.wf.ln⟩, hfm.1, hfm.2, ?_, hA.rows, hA.lens⟩ dst rfl rfl⟩
            unfold osA
            rw [loopOs_some hlp]
            simp only [LS.st, LS.pe]
            exact St.put_ hst
          exact ih lv _ (.ops all rest :: k) (c :: T') J L ρ _ _ hv hL hr hI'
      · simp [VC] at hv
    · -- a round is left
      rename_i j cur dst all rest k
      split at hv
      · rename_i m lps' fr stk hlps hstk
        split at hv
        · rename_i hpe
          cases T with
          | nil => exact hr.elim
          | cons it T1 =>
            obtain ⟨hit, hl1, hr⟩ : it.lp = none ∧ (lpOf T1).isSome = true ∧ Rel w0 ps T0 L ρ k T1 J := hr
            obtain ⟨c, T', l, r, rfl, hlp⟩ := lpOf_some hl1
            obtain ⟨α, hA⟩ := hI
            have hLps := hA.defers.2
            rw [hlps, Lps_none hit, Lps_some hlp] at hLps
            obtain ⟨hmi, hmc, ⟨q1, q2, q3, q4, q5⟩, hLt⟩ := hLps
            have hst := hA.st.weak (os' := loopOs s.lps (it :: c :: T')) (.refl _) (List.sublist_append_right _ _) fun _ h => h
            rw [hlps, loopOs_none hit, loopOs_some hlp] at hst
            simp only [LS.st, LS.pe, rec_busy q4] at hst
            have hl : W.heap[l]? = some (.loop { r with state := .busy }) := (hst.own ⟨l, .loop { r with state := .busy }⟩ (by simp)).2
            have hfm := hA.fms
            rw [hstk] at hfm
            have hI' : ∀ W2, W2 = W.putObj l (.loop { r with state := j.st, pending := j.pe }) → Inv w0 ps (c :: T') ρ (({ s with fr := fr, stk := stk, lps := (m, j) :: lps', cur := cur } : S).put dst (.k (.bool false))) (({ tmps := it.t, defers := it.ds } : Act).put dst (.bool false)) W2 := by
              rintro W2 rfl
              refine ⟨α, InvA.put_any (s := { s with fr := fr, stk := stk, lps := (m, j) :: lps', cur := cur }) (v := .k (.bool false)) ⟨⟨hmi, (Lps_some hlp).2 ⟨hmc, ⟨q1, q2, q3, q4, q5⟩, hLt⟩⟩, ⟨hA.good.len, hA.good.fit, hA.good.kn⟩, ⟨hA.wf.stk fr (by rw [hstk]; exact List.mem_cons_self ..), fun f hf => hA.wf.stk f (by rw [hstk]; exact List.mem_cons_of_mem _ hf), hA.wf.hp, hA.wf.ln⟩, hfm.1, hfm.2, ?_, hA.rows, hA.lens⟩ dst rfl rfl⟩
              unfold osA
              rw [loopOs_some hlp]
              exact St.put_ hst
            have hgo := fun W2 h => ih lv _ (.ops all rest :: k) (c :: T') J L ρ _ W2 hv hL hr (hI' W2 h)
            cases j with
            | ready => simp [LS.pe] at hpe
            | busy => simp [LS.pe] at hpe
            | ret => exact ⟨.ret, rfl, l, r, hlp, hl, hgo _ rfl⟩
            | exit id => exact ⟨.exit id, rfl, l, r, hlp, hl, hgo _ rfl⟩
        · simp [VC] at hv
      · simp [VC] at hv
    · simp [VC] at hv
    · -- an iterator's end
      rename_i fn cur ps' assign body k
      split at hv
      · rename_i v m q lps' fr stk hres hlps hstk
        split at hv
        · simp [VC] at hv
        · rename_i hq
          cases T with
          | nil => exact hr.elim
          | cons c T' =>
            obtain ⟨⟨l, r, hlp, hp1, hp2, hp3⟩, hrn, hr⟩ := hr
            obtain ⟨α, hA⟩ := hI
            obtain ⟨W2, htk, hA⟩ := hA.take
            have hLps := hA.defers.2
            rw [hlps, Lps_some hlp] at hLps
            obtain ⟨hmc, ⟨q1, q2, q3, q4, q5⟩, hLt⟩ := hLps
            have hst : St w0 (chs ρ α 0 s.hp) (loopOs s.lps (c :: T')) _ W2 := hA.st
            rw [hlps, loopOs_some hlp] at hst
            have hl : W2.heap[l]? = some (.loop { r with state := q.st, pending := q.pe }) := (hst.own ⟨l, .loop { r with state := q.st, pending := q.pe }⟩ (by simp)).2
            have hfm := hA.fms
            rw [hstk] at hfm
            refine ⟨W2, v.den ρ α, htk, res_ok hA hres, l, r, v.den ρ α, q.st, q.pe, hlp, rfl, by cases q <;> simp [LS.st] at hq ⊢, hl, ?_⟩
            have hI' : Inv w0 ps T' ρ { s with fr := fr, stk := stk, lps := lps', cur := cur } (markA r.defers { tmps := c.t, defers := c.ds }) (W2.putObj l (.loop { r with state := .exhausted, pending := q.pe })) := by
              refine ⟨α, ⟨fun d hd => ?_, hLt⟩, ⟨hA.good.len, hA.good.fit, hA.good.kn⟩, ⟨hA.wf.stk fr (by rw [hstk]; exact List.mem_cons_self ..), fun f hf => hA.wf.stk f (by rw [hstk]; exact List.mem_cons_of_mem _ hf), hA.wf.hp, hA.wf.ln⟩, hfm.1, hfm.2, ?_, hA.rows, hA.lens⟩
              · rcases List.mem_cons.1 hd with rfl | hd
                · exact ⟨_, rfl⟩
                · exact hmc d hd
              · exact (St.put_ (a := []) hst).drop_
            cases hpe : q.pe with
            | none =>
              simp only [hpe] at hv hI' ⊢
              exact ih lv _ k T' J L ρ _ _ hv hL hr hI'
            | some co =>
              simp only [hpe] at hv hI' ⊢
              have := ih lv _ (.code co :: k) T' J L ρ _ _ hv hL hr hI'
              have this : wpR (rnd k T') C.P co (wpK C.P R k T' J) _ _ := this
              rw [hrn] at this
              exact this
      · simp [VC] at hv
    · -- inBlock
      rename_i id k
      exact ih lv s k T J L ρ a W hv hL hr hI
    · -- rounds
      rename_i c m k
      cases m with
      | zero => simp [VC] at hv
      | succ m => exact ih lv s (.code c :: .rounds c m :: k) T J L ρ a W hv hL hr hI
    · -- code
      rename_i c k
      split at hv
      · exact wpR_skip (ih lv s k T J L ρ a W hv hL hr hI)
      · exact wpR_label (ih lv s k T J L ρ a W hv hL hr hI)
      · rename_i x y
        have := ih lv s (.code x :: .code y :: k) T J L ρ a W hv hL hr hI
        exact wpR_seq this
      · rename_i id c
        exact wpR_block (ih lv s (.code c :: .inBlock id :: k) T J L ρ a W hv hL hr hI)
      · -- cond
        rename_i x c1 c2
        obtain ⟨α, hA⟩ := hI
        split at hv
        · rename_i hx
          exact wpR_cond_true (ev_den hA.good hA.fm hx) (ih lv s (.code c1 :: k) T J L ρ a W hv hL hr ⟨α, hA⟩)
        · rename_i hx
          exact wpR_cond_false (ev_den hA.good hA.fm hx) (ih lv s (.code c2 :: k) T J L ρ a W hv hL hr ⟨α, hA⟩)
        · rename_i i p hx
          split at hv
          · rename_i hi
            simp only [VC] at hv
            obtain ⟨b, hb, hbt, hbf⟩ := hv
            have hx' : a.eval x = .bool b := (ev_den hA.good hA.fm hx).trans hb
            cases b
            · exact wpR_cond_false hx' (ih lv _ (.code c2 :: k) T J L ρ a W (cutT_vc (hbf rfl)) hL hr (br_inv ⟨α, hA⟩ hi hb))
            · exact wpR_cond_true hx' (ih lv _ (.code c1 :: k) T J L ρ a W (cutT_vc (hbt rfl)) hL hr (br_inv ⟨α, hA⟩ hi hb))
          · simp [VC] at hv
        · simp [VC] at hv
      · -- exit
        rename_i id
        split at hv
        · rename_i k' hk
          obtain ⟨J', h1, h2⟩ := unwind_ok (P := C.P) (R := R) hk hr
          exact wpR_exit (h2 a W (ih lv s k' T J' L ρ a W hv hL h1 hI))
        · rename_i hun
          split at hv
          · rename_i k' hk
            obtain ⟨J', h1, h2⟩ := leave_exit (P := C.P) (R := R) hk hun hr
            obtain ⟨e, he, h3⟩ := ih lv s (.jump (.exit id) :: k') T J' L ρ a W hv hL h1 hI
            cases he
            exact wpR_exit (h2 a W h3)
          · simp [VC] at hv
      · -- ret
        split at hv
        · rename_i k' hk
          obtain ⟨J', h1, h2⟩ := ret_ok (P := C.P) (R := R) hk hr
          exact wpR_ret (h2 a W (ih lv s k' T J' L ρ a W hv hL h1 hI))
        · split at hv
          · rename_i k' hk
            obtain ⟨J', h1, h2⟩ := leave_ret (P := C.P) (R := R) hk hr
            obtain ⟨e, he, h3⟩ := ih lv s (.jump .ret :: k') T J' L ρ a W hv hL h1 hI
            cases he
            exact wpR_ret (h2 a W h3)
          · simp [VC] at hv
      · -- a range over a function
        rename_i g ps' assign body
        split at hv
        · rename_i gf cap hg hpl
          split at hv
          · rename_i fn hfn hen
            split at hv
            · rename_i c hbody
              split at hv
              · rename_i hw
                simp only [Bool.and_eq_true, decide_eq_true_eq] at hw hen
                obtain ⟨⟨hw1, hw2⟩, hw3⟩ := hw
                obtain ⟨α, hA⟩ := hI
                have hge := ev_den hA.good hA.fm hg
                have hrn := rnd_plain (T := T) hpl
                show wpR (rnd k T) C.P _ _ a W
                rw [hrn]
                refine wpR_range (gf := gf) (lb := (denL ρ α cap).toArray) (by rw [hge]; simp [V.den, denL]) (fun args w => enters_run hen.1 _ _) ?_
                intro r q3 q4 q5 q6 q7 q8 q9
                refine calls_of_endR hfn hbody ?_
                have hfree := freeAt_in hw3
                obtain ⟨α', h1, h2, hB⟩ := (hA.room 1).new' (nm := s.hp.length) (b := tomb) hfree rfl (W' := W) ⟨W.heap.size + 1, undef, []⟩ fun α' g1 g2 g3 g4 => ⟨by rw [chs_new0 (k := 0) hfree.1 rfl, g4]; exact (hA.room 1).st, trivial⟩
                have hden : denL ρ α' cap = denL ρ α cap := denL_eq (hp := s.ln) (fun n hn => h2 n (lv_app hn)) (List.prefix_refl _) cap (by rw [← hA.good.len]; exact hw2)
                have hlvn : SX.lv ((s.room 1).ln.set s.hp.length (some tomb)) s.hp.length = true := lv_made hfree
                have hmono : ∀ n, SX.lv s.ln n = true → SX.lv ((s.room 1).ln.set s.hp.length (some tomb)) n = true := fun n hn => lv_set (lv_app hn)
                have hI' : Inv w0 ps (⟨a.tmps, a.defers, some (W.heap.size + 1, r)⟩ :: T) ρ { (s.room 1).make s.hp.length tomb with fr := (.y s.hp.length :: cap).map some ++ List.replicate (fn.ntmps - (.y s.hp.length :: cap : List V).length) (some (.k undef)), stk := s.fr :: s.stk, lps := (s.hp.length, .ready) :: s.lps, cur := gf }
                    { tmps := (#[Value.func (.yield (W.heap.size + 1)) #[] #[]] ++ (denL ρ α cap).toArray) ++ Array.replicate (fn.ntmps - (#[Value.func (.yield (W.heap.size + 1)) #[] #[]] ++ (denL ρ α cap).toArray).size) undef, defers := [] } (rangeW W r) := by
                  refine ⟨α', ⟨nofun, (Lps_some (c := ⟨a.tmps, a.defers, some (W.heap.size + 1, r)⟩) rfl).2 ⟨hA.defers.1, ⟨hlvn, by rw [h1], q3, q4, q5⟩, hB.defers.2⟩⟩, ⟨hA.good.len, hA.good.fit, hA.good.kn⟩, ⟨fun v hv' => ?_, fun f hf => ?_, hB.wf.hp, hB.wf.ln⟩, ⟨by simp [denL_len]; omega, fun d v hd => ?_⟩, ⟨hB.fm, hB.fms⟩, ?_, hB.rows, hB.lens⟩
                  · rcases List.mem_append.1 hv' with h | h
                    · obtain ⟨u, hu, e⟩ := List.mem_map.1 h
                      obtain rfl : u = v := by simpa using e
                      rcases List.mem_cons.1 hu with rfl | hu
                      · exact hlvn
                      · exact V.wf_mono hmono (Nat.le_of_eq hA.good.len) u (wfL_mem hw2 u hu)
                    · have := List.eq_of_mem_replicate h
                      cases this
                      rfl
                  · rcases List.mem_cons.1 hf with rfl | hf
                    · exact hB.wf.fr
                    · exact hB.wf.stk f hf
                  · rw [Array.getElem?_append]
                    have hl1 : (#[Value.func (.yield (W.heap.size + 1)) #[] #[]] ++ (denL ρ α cap).toArray).size = (V.y s.hp.length :: cap).length := by simp [denL_len, Nat.add_comm]
                    rw [hl1]
                    by_cases hlt : d < (V.y s.hp.length :: cap).length
                    · rw [List.getElem?_append_left (by simpa using hlt), List.getElem?_map, List.getElem?_eq_getElem hlt] at hd
                      simp only [Option.map_some, Option.some.injEq] at hd
                      rw [if_pos hlt]
                      have e2 : (#[Value.func (.yield (W.heap.size + 1)) #[] #[]] ++ (denL ρ α cap).toArray) = (denL ρ α' (.y s.hp.length :: cap)).toArray := by
                        apply Array.ext'
                        simp [denL, V.den, h1, hden]
                      rw [e2]
                      simpa using denL_at (ρ := ρ) (α := α') (l := .y s.hp.length :: cap) (by rw [List.getElem?_eq_getElem hlt, hd])
                    · rw [List.getElem?_append_right (by simpa using hlt), List.getElem?_replicate] at hd
                      rw [if_neg hlt, Array.getElem?_replicate]
                      simp only [List.length_map] at hd
                      split at hd
                      · rename_i h9
                        rw [if_pos h9]
                        cases hd
                        rfl
                      · cases hd
                  · have hst := (hB.st.rec_ (.deferred (some []))).rec_ (.loop r)
                    have e3 : osA { tmps := (#[Value.func (.yield (W.heap.size + 1)) #[] #[]] ++ (denL ρ α cap).toArray) ++ Array.replicate (fn.ntmps - (#[Value.func (.yield (W.heap.size + 1)) #[] #[]] ++ (denL ρ α cap).toArray).size) undef, defers := [] } { (s.room 1).make s.hp.length tomb with fr := (.y s.hp.length :: cap).map some ++ List.replicate (fn.ntmps - (.y s.hp.length :: cap : List V).length) (some (.k undef)), stk := s.fr :: s.stk, lps := (s.hp.length, .ready) :: s.lps, cur := gf } (⟨a.tmps, a.defers, some (W.heap.size + 1, r)⟩ :: T) = ⟨W.heap.size + 1, .loop r⟩ :: ⟨W.heap.size, .deferred (some [])⟩ :: osA a s T := by
                      unfold osA
                      rw [loopOs_some rfl]
                      simp only [LS.st, LS.pe]
                      rw [rec_ready q3 q4, q9]
                      rfl
                    rw [e3]
                    have e4 : (W.alloc (.deferred (some []))).heap.size = W.heap.size + 1 := by simp
                    rw [e4] at hst
                    exact hst
                have h := ih lv _ (.code c :: .endl fn s.cur ps' assign body :: k) (⟨a.tmps, a.defers, some (W.heap.size + 1, r)⟩ :: T) J L ρ _ _ hv hL ⟨⟨_, _, rfl, q6, q7, q8⟩, hrn, hr⟩ hI'
                have h : wpR none C.P c (wpK C.P R (.endl fn s.cur ps' assign body :: k) (⟨a.tmps, a.defers, some (W.heap.size + 1, r)⟩ :: T) J) _ _ := h
                have e5 : markA r.defers { tmps := (TF.mk a.tmps a.defers (some (W.heap.size + 1, r))).t, defers := (TF.mk a.tmps a.defers (some (W.heap.size + 1, r))).ds } = markA W.heap.size a := by rw [q9]
                refine wpR_mono h fun e a' w' hq => ?_
                cases e with
                | normal =>
                  obtain ⟨w2, v, t1, t2, l, r', v', st, pe, t3, t4, t5, t6, t7⟩ := hq
                  cases t3
                  rw [e5] at t7
                  exact ⟨w2, v, t1, t2, v', st, pe, t4, t5, t6, t7⟩
                | ret =>
                  obtain ⟨w2, v, t1, t2, l, r', v', st, pe, t3, t4, t5, t6, t7⟩ := hq
                  cases t3
                  rw [e5] at t7
                  exact ⟨w2, v, t1, t2, v', st, pe, t4, t5, t6, t7⟩
                | exit id => exact hq
                | goto t => exact hq
                | panic c => exact hq
                | outgrown => exact hq
              · simp [VC] at hv
            · simp [VC] at hv
          · simp [VC] at hv
        · simp [VC] at hv
      · -- loop
        rename_i c
        split at hv
        · exact wpR_loop_rounds _ (ih lv s (.rounds c G.rounds :: k) T J L ρ a W hv hL hr hI)
        · rename_i an _
          refine settle_ok hps an.pos s ρ _ hv hI fun s ρ' hv hρ hI => ?_
          replace hr := hr.mono hρ (List.prefix_refl L)
          clear hρ
          split at hv
          · rename_i vals hvals
            split at hv
            · rename_i hc
              simp only [Bool.and_eq_true] at hc
              simp only [VC] at hv
              obtain ⟨I, μ, h0, hround⟩ := hv
              obtain ⟨α, hA⟩ := hI
              obtain ⟨hf, hfit⟩ := fresh_inv (an := an) (ws := written c) hA (List.prefix_refl _) hA.good hA.wf (Match.refl _ _ _ hA.live hA.defers.2.ok) hvals hc.2
              refine wpR_loop_ghost (γ := List Value) (fun xs a W => I xs ∧ Sh.fitL (an.pos.map fun e => e.2.sh) xs = true ∧ Inv w0 ps T (ρ' ++ xs) (freshS an (written c) s) a W) μ (denL ρ' α vals) ⟨h0 α, hfit, hf⟩ ?_
              intro xs a' W' ⟨hIx, hfx, hInv⟩
              have hbody := ih (lv + 1) (freshS an (written c) s) (.code c :: .again lv an (written c) s :: k) T
                ((fun a' w' => ∃ g', (I g' ∧ Sh.fitL (an.pos.map fun e => e.2.sh) g' = true ∧ Inv w0 ps T (ρ' ++ g') (freshS an (written c) s) a' w') ∧ μ g' < μ xs) :: J)
                (L ++ [fun ys => I ys ∧ μ ys < μ xs]) (ρ' ++ xs) a' W' (hround xs hfx hIx) (by simp [hL])
                ⟨⟨ρ', (fun ys => I ys ∧ μ ys < μ xs), by rw [← hL]; simp, ⟨xs, rfl⟩, hA.good, hA.wf, hA.live, hA.defers.2.ok, fun ys a2 W2 hys hyf hyI => ⟨ys, ⟨hys.1, hyf, hyI⟩, hys.2⟩⟩, hr.mono ⟨xs, rfl⟩ ⟨_, rfl⟩⟩ hInv
              exact hbody
            · simp [VC] at hv
          · simp [VC] at hv
      · -- region
        rename_i id ops
        have := ih lv s (.ops ops ops.toList :: k) T J L ρ a W hv hL hr hI
        exact wpR_region this
      · -- a region that draws its order
        rename_i id ops
        split at hv
        · rename_i hmix
          obtain ⟨α, hA⟩ := hI
          refine plan_ok (base := s.hp.length) (s0 := s.room ops.size) (ρ0 := ρ) hC hps ih0 (by show 1 ≠ 12; decide) hmix ⟨α, hA.room _⟩ (fun s' ρ' h1 h2 a' W' h3 => ?_) (fun s' ρ' l h1 h2 => by
            split at h1
            · rename_i hnj
              exact ⟨wpK_panic hnj, fun a' W' ⟨α', h3⟩ => ih lv _ (.ops ops l :: k) T J L ρ' a' W' h1 hL (hr.mono h2 (List.prefix_refl _)) ⟨α', h3.trim _ _⟩⟩
            · simp [VC] at h1) (4 * ops.size + 20) (s.room ops.size) [] ops.toList [] ρ (by simp) rfl (List.prefix_refl _) hv ⟨hA.good.len, hA.good.fit, hA.good.kn⟩ rfl (fun i o d h => by simp at h)
          obtain ⟨α', h3⟩ := h3
          exact ih lv _ k T J L ρ' a' W' h1 hL (hr.mono h2 (List.prefix_refl _)) ⟨α', h3.trim _ _⟩
        · simp [VC] at hv
      · simp [VC] at hv
    · -- no operation is left
      rename_i all k
      exact ih lv s k T J L ρ a W hv hL hr hI
    · -- an operation
      rename_i all o rest k
      have hrest : ∀ s' ρ' a' W', VC C w0 ps T0 R L ρ' (run C G n lv s' (.ops all rest :: k)) → ρ <+: ρ' → Inv w0 ps T ρ' s' a' W' → wpLR (rnd k T) C.P all (wpK C.P R k T J) rest a' W' := fun s' ρ' a' W' h1 h2 h3 => ih lv s' (.ops all rest :: k) T J L ρ' a' W' h1 hL (hr.mono h2 (List.prefix_refl _)) h3
      have hself : ∀ s' ρ', VC C w0 ps T0 R L ρ' (run C G n lv s' (.ops all (o :: rest) :: k)) → ρ <+: ρ' → Inv w0 ps T ρ' s' a W → wpLR (rnd k T) C.P all (wpK C.P R k T J) (o :: rest) a W := fun s' ρ' h1 h2 h3 => ih lv s' (.ops all (o :: rest) :: k) T J L ρ' a W h1 hL (hr.mono h2 (List.prefix_refl _)) h3
      have hskip : VC C w0 ps T0 R L ρ (run C G n lv (s.put o.dst (.k undef)) (.ops all rest :: k)) → Region.wanted o (yielded all a.tmps) = false → wpLR (rnd k T) C.P all (wpK C.P R k T J) (o :: rest) a W := fun h1 h2 => wpLR_skip h2 (hrest _ ρ _ _ h1 (List.prefix_refl _) (skip_inv hI _))
      dsimp only at hv
      show wpLR (rnd k T) C.P all (wpK C.P R k T J) (o :: rest) a W
      split at hv
      · rename_i hg
        exact go_ok hC hps hk12 hI (by simp [Region.wanted, hg]) hrest hself ih hL hr hv
      · rename_i g want hg
        split at hv
        · simp [VC] at hv
        · rename_i d hd
          obtain ⟨α, hA⟩ := hI
          split at hv
          · rename_i u hl
            exact hskip hv (wanted_no hA hg hd hl)
          · rename_i b hl
            have hwa := wanted_of hA hg hd hl
            split at hv
            · rename_i hb
              exact go_ok hC hps hk12 ⟨α, hA⟩ (hwa.trans hb) hrest hself ih hL hr hv
            · rename_i hb
              exact hskip hv (hwa.trans (by simpa using hb))
          · rename_i i p hl
            split at hv
            · rename_i hi
              simp only [VC] at hv
              obtain ⟨b, hb, hbt, hbf⟩ := hv
              cases b
              · exact hself _ ρ (cutT_vc (hbf rfl)) (List.prefix_refl _) (br_inv ⟨α, hA⟩ hi hb)
              · exact hself _ ρ (cutT_vc (hbt rfl)) (List.prefix_refl _) (br_inv ⟨α, hA⟩ hi hb)
            · simp [VC] at hv
          · simp [VC] at hv
end
end SX
end Go.Proofs.Ytmkigejhgpoleaa
