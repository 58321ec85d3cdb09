/-
  A symbolic executor: a plan that holds is carried out in any order.
-/
import Derived.Test.YtmkigejhgpoleaaSxE
namespace Go.Proofs.Ytmkigejhgpoleaa
set_option linter.unusedSimpArgs false
set_option linter.unusedVariables false
open Go Go.RowKit
namespace SX
section
variable {C : Cx} {w0 : Org} {ps : List (World → Prop)} {T T0 : List TF} {R : Ending → World → Prop} {ρ ρ' ρ0 : List Value} {s s0 : S} {a : Act} {W : World} {α : Nat → AV} {Q : Exit → Act → World → Prop} {L : List (List Value → Prop)}
theorem InvA.grow (h : InvA w0 ps T ρ0 s0 a W α) (hρ : ρ0 <+: ρ) {sh : List Sh} {kn : List (Nat × List Nat × Value)} (hg : Good ρ (s0.wk sh kn)) : InvA w0 ps T ρ (s0.wk sh kn) a W α := by
  have ha : ∀ n, lv s0.ln n = true → α n = α n := fun _ _ => rfl
  have hl := List.IsPrefix.length_le hρ
  refine ⟨h.defers, hg, ⟨h.wf.fr.mono (fun _ h => h) hl, fun f hf => (h.wf.stk f hf).mono (fun _ h => h) hl, h.wf.hp.mono (fun _ h => h) hl, h.wf.ln.mono (fun _ h => h) hl⟩, h.fm.to ha hρ h.wf.fr, h.fms.to ha hρ h.wf.stk, ?_, rows_to ha hρ h.wf.hp h.rows, lens_to ha hρ h.wf.ln h.lens⟩
  show St w0 (chs ρ α 0 s0.hp) (osA a s0 T) (exs w0 ρ α 0 s0.hp ++ ps) W
  rw [chs_all ha hρ h.wf.hp h.live]
  exact st_ps h.st (app_sub (exs_all ha hρ h.wf.hp h.live))
theorem wanted_of {o : Oper} {all : Array Oper} {g d : Nat} {want b : Bool} (hI : InvA w0 ps T ρ s a W α) (hg : o.guard = some (g, want)) (hd : (all[g]?).bind (·.dst) = some d) (hl : lookFr s d = some (.k (.bool b))) : Region.wanted o (yielded all a.tmps) = (b == want) := by
  have := look_den hI.good hI.fm hl
  simp [Region.wanted, hg, yielded, hd, this, V.den]
theorem wanted_no {o : Oper} {all : Array Oper} {g d : Nat} {want : Bool} {u : Array Value} (hI : InvA w0 ps T ρ s a W α) (hg : o.guard = some (g, want)) (hd : (all[g]?).bind (·.dst) = some d) (hl : lookFr s d = some (.k (.tuple u))) : Region.wanted o (yielded all a.tmps) = false := by
  have := look_den hI.good hI.fm hl
  simp [Region.wanted, hg, yielded, hd, this, V.den]
theorem look_agree {s s' : S} {d : Nat} (hk : s'.kn = s.kn) (hf : s'.fr[d]? = s.fr[d]?) : lookFr s' d = lookFr s d := by unfold lookFr; rw [hk, hf]
theorem Good.br (hg : Good ρ s) {i : Nat} {p : List Nat} {v : Value} (hi : i < s.sh.length) (hv : p.foldl comp (ρ.getD i undef) = v) : Good ρ (s.dec i p v) :=
  ⟨hg.len, hg.fit, fun e he => by
    rcases List.mem_cons.1 he with rfl | he
    · exact ⟨by rw [← hg.len]; exact hi, hv⟩
    · exact hg.kn e he⟩

theorem free_at {s : S} {n : Nat} (h : freeAt s n = true) : freeIn s n := by
  unfold freeAt at h
  split at h
  · exact ⟨by assumption, by assumption⟩
  · cases h
/-- the plan of one operation -/
def planGo (C : Cx) (inl : FuncId → Bool) (sub : S → List It → Tree) (all : Array Oper) (base : Nat) (cont : S → Tree) (tail : S → List Oper → Tree) (n : Nat) (s : S) (ds : List Done) (o : Oper) (rest : List Oper) : Tree :=
  match o.op.operands.toList.mapM s.ev with
        | none => .bad 32 [o.op]
        | some vs => match planV C s.sh (base + ds.length) o.op vs (s.see o.op vs) with
          | .ef v new wr => if effWf s (base + ds.length) v new wr && freeAt s (base + ds.length) then planRun C inl sub all base cont tail n (s.eff (base + ds.length) o.dst v new wr) (ds ++ [⟨v, new, wr, slotsOf all o, cNames s.hp o.op vs, shNames o.op vs ++ effNames (base + ds.length) v new wr⟩]) rest else .bad 33 [o.op]
          | .df q args sh mk new wr => if wfL s.ln s.sh.length args && q.wf s.ln s.sh.length && effWf (s.ext sh) (base + ds.length) (resV s.sh.length sh mk) new wr && freeAt s (base + ds.length) then .df q args sh (planRun C inl sub all base cont tail n ((s.ext sh).eff (base + ds.length) o.dst (resV s.sh.length sh mk) new wr) (ds ++ [⟨resV s.sh.length sh mk, new, wr, slotsOf all o, cNames s.hp o.op vs, shNames o.op vs ++ effNames (base + ds.length) (resV s.sh.length sh mk) new wr⟩]) rest) else .bad 34 [o.op]
          | .br i p => if i < s.sh.length then .br i p (planRun C inl sub all base cont tail n (s.dec i p (.bool true)) ds (o :: rest)) (planRun C inl sub all base cont tail n (s.dec i p (.bool false)) ds (o :: rest)) else .bad 35 [o.op]
          | .sp i p m => if i < s.sh.length then .sp i p ((List.range m).map fun (j : Nat) => planRun C inl sub all base cont tail n (s.dec i p (.int .i64 (j : Int))) ds (o :: rest)) else .bad 36 [o.op]
          | .no => if tlCall C.tl vs && tailOk base all.toList ds then tail s (o :: rest) else match o.op, vs with
            | .call c, .f (.func g) [] cap :: args => match c.callee, C.P.funcs[g]?, enters C.P g && inl g with
              | .value _, some fn, true => match fn.body with
                | some body => if (args ++ cap).length ≤ fn.ntmps && wfS (inlS s g fn (args ++ cap)) then
                    match sub (inlS s g fn (args ++ cap)) [.code body, .top fn] with
                    | .ret v hp' stk' => if eqbH [] noSkip 0 (inlS s g fn (args ++ cap)).hp hp' && eqbS (inlS s g fn (args ++ cap)).stk stk' && v.wf (inlS s g fn (args ++ cap)).ln s.sh.length then planRun C inl sub all base cont tail n (s.put o.dst v) (ds ++ [⟨v, none, none, slotsOf all o, namesL (args ++ cap), namesL (args ++ cap)⟩]) rest else match adoptOf (inlS s g fn (args ++ cap)) v hp' with
                      | some (r, b) => if eqbH [] noSkip 0 (inlS s g fn (args ++ cap)).hp hp' && eqbS (inlS s g fn (args ++ cap)).stk stk' && v.renOk (namesL (args ++ cap)) r && wfL (inlS s g fn (args ++ cap)).ln s.sh.length b.c && effWf s (base + ds.length) (v.ren r (base + ds.length)) (some b) none && freeAt s (base + ds.length) then planRun C inl sub all base cont tail n (s.eff (base + ds.length) o.dst (v.ren r (base + ds.length)) (some b) none) (ds ++ [⟨v.ren r (base + ds.length), some b, none, slotsOf all o, namesL (args ++ cap), namesL (args ++ cap) ++ effNames (base + ds.length) (v.ren r (base + ds.length)) (some b) none⟩]) rest else .bad 47 [o.op]
                      | none => .bad 42 [o.op]
                    | t => match t with
                      | .bad n l => .bad (n + 100) l
                      | _ => .bad 43 [o.op]
                  else .bad 44 [o.op]
                | none => .bad 45 [o.op]
              | _, _, _ => .bad 37 [o.op]
            | _, _ => .bad 46 [o.op]
theorem plan_ok {rr : Option Nat} {m : Nat} {Gk : Cfg} {inl : FuncId → Bool} {all : Array Oper} {base id : Nat} {cont : S → Tree} {tail : S → List Oper → Tree} (hC : C.Ok) (hps : Ctx C w0 ps) (hrun : RunOk C ps m) (hgk : Gk.keep ≠ 12) (hmix : C.P.follows .mixedOrders = true) (hI0 : Inv w0 ps T ρ0 s0 a W)
    (hcont : ∀ s' ρ', VC C w0 ps T0 R L ρ' (cont s') → ρ0 <+: ρ' → ∀ a' W', Inv w0 ps T ρ' s' a' W' → Q .normal a' W')
    (htail : ∀ s' ρ' l, VC C w0 ps T0 R L ρ' (tail s' l) → ρ0 <+: ρ' → (∀ c a' W', ¬ Q (.panic c) a' W') ∧ ∀ a' W', Inv w0 ps T ρ' s' a' W' → wpLR rr C.P all Q l a' W') :
    ∀ (n : Nat) (s : S) (ds : List Done) (rest pre : List Oper) (ρ : List Value), all.toList = pre ++ rest → pre.length = ds.length → ρ0 <+: ρ → VC C w0 ps T0 R L ρ (planRun C inl (fun s' it => run C Gk m 0 s' it) all base cont tail n s ds rest) → Good ρ s →
      s = (appS base (fun _ => true) 0 (pre.zip ds) s0).wk s.sh s.kn →
      (∀ (i : Nat) (o : Oper) (d : Done), (pre.zip ds)[i]? = some (o, d) → ∀ ρf shf knf, ρ <+: ρf → s.sh <+: shf → StepOk C rr w0 ps T ρf Q all (base + i) o d ((appS base (fun _ => true) 0 ((pre.zip ds).take i) s0).wk shf knf)) →
      wpR rr C.P (Code.region id all true) Q a W := by
  intro n
  induction n with
  | zero => intro s ds rest pre ρ _ _ _ hv; simp [planRun, VC] at hv
  | succ n ih =>
    intro s ds rest pre ρ hall hlen hρ hv hg hs hh
    unfold planRun at hv
    dsimp only at hv
    split at hv
    · -- the end
      split at hv
      · rename_i hord
        have hpre : all = pre.toArray := by rw [← Array.toArray_toList (xs := all), hall]; simp
        subst hpre
        obtain ⟨α, hA⟩ := hI0
        have hgs : Good ρ (s0.wk s.sh s.kn) := ⟨hg.len, hg.fit, hg.kn⟩
        have hA' := hA.grow hρ hgs
        refine draw_region (base := base) (ds := ds) (s0 := s0.wk s.sh s.kn) hmix (by simpa using hord) (fun i o d hd => ?_) ⟨α, hA'⟩ fun a' W' h => ?_
        · have := hh i o d hd ρ s.sh s.kn (List.prefix_refl _) (List.prefix_refl _)
          have e2 := app_take (base := base) (pre.zip ds) 0 i (s0.wk s.sh s.kn)
          simp only [Nat.zero_add] at e2
          rw [e2, app_wk]
          exact this
        · refine hcont s ρ hv hρ a' W' ?_
          rw [app_wk, ← hs] at h
          exact h
      · simp [VC] at hv
    · rename_i o rest
      have hnm : base + ds.length = base + (0 + (pre.zip ds).length) := by simp [hlen]
      -- one more operation is planned
      have next : ∀ (d : Done) (s1 sx : S) (ρ1 : List Value), s1 = (s.eff (base + ds.length) o.dst d.v d.new d.wr).wk s1.sh s1.kn → ρ <+: ρ1 → s.sh <+: s1.sh → sx.sh = s1.sh → Good ρ1 s1 → Hist C rr w0 ps T ρ1 Q all (base + ds.length) o d sx s →
          VC C w0 ps T0 R L ρ1 (planRun C inl (fun s' it => run C Gk m 0 s' it) all base cont tail n s1 (ds ++ [d]) rest) → wpR rr C.P (Code.region id all true) Q a W := by
        intro d s1 sx ρ1 hs1 hρ1 hsh1 hsx hg1 hH hv1
        have hz : (pre ++ [o]).zip (ds ++ [d]) = pre.zip ds ++ [(o, d)] := by rw [List.zip_append hlen]; rfl
        refine ih s1 (ds ++ [d]) rest (pre ++ [o]) ρ1 (by rw [hall]; simp) (by simp [hlen]) (hρ.trans hρ1) hv1 hg1 ?_ ?_
        · rw [hz, app_split]
          simp only [appS, if_true]
          rw [← hnm]
          have e2 : ((appS base (fun _ => true) 0 (pre.zip ds) s0).eff (base + ds.length) o.dst d.v d.new d.wr).wk s1.sh s1.kn = (s.eff (base + ds.length) o.dst d.v d.new d.wr).wk s1.sh s1.kn := by
            rw [hs, eff_wk]; rfl
          rw [e2]
          exact hs1
        · intro i o' d' hi ρf shf knf hρf hshf
          rw [hz] at hi ⊢
          by_cases hlt : i < (pre.zip ds).length
          · rw [List.getElem?_append_left hlt] at hi
            rw [List.take_append_of_le_length (by omega)]
            exact hh i o' d' hi ρf shf knf (hρ1.trans hρf) (hsh1.trans hshf)
          · have hi0 : i = (pre.zip ds).length := by
              have := (List.getElem?_eq_some_iff.1 hi).1
              simp only [List.length_append, List.length_singleton] at this
              omega
            subst hi0
            rw [List.getElem?_append_right (by omega), Nat.sub_self] at hi
            obtain ⟨rfl, rfl⟩ : o = o' ∧ d = d' := by simpa using hi
            rw [List.take_left' rfl]
            have := hH ρf shf knf hρf (by rw [hsx]; exact hshf)
            rw [hs] at this
            have hl : (pre.zip ds).length = ds.length := by simp [hlen]
            rw [hl]
            exact this
      have again : ∀ (i : Nat) (p : List Nat) (v : Value), i < s.sh.length → p.foldl comp (ρ.getD i undef) = v → VC C w0 ps T0 R L ρ (planRun C inl (fun s' it => run C Gk m 0 s' it) all base cont tail n (s.dec i p v) ds (o :: rest)) → wpR rr C.P (Code.region id all true) Q a W := by
        intro i p v hi hu hv1
        refine ih (s.dec i p v) ds (o :: rest) pre ρ hall hlen hρ hv1 (hg.br hi hu) ?_ hh
        have : s.dec i p v = s.wk s.sh ((i, p, v) :: s.kn) := rfl
        rw [this]
        conv => lhs; rw [hs]
        rfl
      have put_eff : ∀ v, s.put o.dst v = (s.eff (base + ds.length) o.dst v none none).wk s.sh s.kn := fun v => by cases o.dst <;> rfl
      have skip : (∀ (s' : S) ρf a' W', s'.kn = s.kn → AgreeAt (slotsOf all o) [] [] s' s → Inv w0 ps T ρf s' a' W' → Region.wanted o (yielded all a'.tmps) = false) → VC C w0 ps T0 R L ρ (planRun C inl (fun s' it => run C Gk m 0 s' it) all base cont tail n (s.put o.dst (.k undef)) (ds ++ [⟨.k undef, none, none, slotsOf all o, [], []⟩]) rest) → wpR rr C.P (Code.region id all true) Q a W := by
        intro hwant hv1
        have hsh : (s.put o.dst (.k undef)).sh = s.sh := by cases o.dst <;> rfl
        have hkn : (s.put o.dst (.k undef)).kn = s.kn := by cases o.dst <;> rfl
        exact next _ _ s ρ (by rw [hsh, hkn]; exact put_eff _) (List.prefix_refl _) (by rw [hsh]; exact List.prefix_refl _) hsh.symm ⟨by rw [hsh]; exact hg.len, by rw [hsh]; exact hg.fit, by rw [hkn]; exact hg.kn⟩ (hist_skip hwant hg) hv1
      have go : ∀ (hwant : ∀ (s' : S) ρf a' W', s'.kn = s.kn → AgreeAt (slotsOf all o) [] [] s' s → Inv w0 ps T ρf s' a' W' → Region.wanted o (yielded all a'.tmps) = true),
          VC C w0 ps T0 R L ρ (planGo C inl (fun s' it => run C Gk m 0 s' it) all base cont tail n s ds o rest) → wpR rr C.P (Code.region id all true) Q a W := by
        intro hwant hv
        unfold planGo at hv
        split at hv
        · simp [VC] at hv
        · rename_i vs hvs
          split at hv
          · rename_i v new wr hpl
            split at hv
            · rename_i hw
              simp only [Bool.and_eq_true] at hw
              have hnone := free_at hw.2
              have hsh : (s.eff (base + ds.length) o.dst v new wr).sh = s.sh := (eff_same0 ..).sh
              have hkn : (s.eff (base + ds.length) o.dst v new wr).kn = s.kn := (eff_same0 ..).kn
              exact next ⟨v, new, wr, slotsOf all o, cNames s.hp o.op vs, shNames o.op vs ++ effNames (base + ds.length) v new wr⟩ _ s ρ rfl (List.prefix_refl _) (by rw [hsh]; exact List.prefix_refl _) hsh.symm ⟨by rw [hsh]; exact hg.len, by rw [hsh]; exact hg.fit, by rw [hkn]; exact hg.kn⟩ (hist_ef hg hwant hvs hpl hw.1 hnone) hv
            · simp [VC] at hv
          · rename_i q args sh mk new wr hpl
            split at hv
            · rename_i hw
              simp only [Bool.and_eq_true] at hw
              obtain ⟨⟨⟨h1, h2⟩, h3⟩, h4⟩ := hw
              simp only [VC] at hv
              obtain ⟨v, hrel, hfit, hv⟩ := hv
              have hsh : ((s.ext sh).eff (base + ds.length) o.dst (resV s.sh.length sh mk) new wr).sh = (s.ext sh).sh := (eff_same0 ..).sh
              have hkn : ((s.ext sh).eff (base + ds.length) o.dst (resV s.sh.length sh mk) new wr).kn = s.kn := (eff_same0 ..).kn
              have hge := hg.ext (h := sh) hfit
              exact next ⟨resV s.sh.length sh mk, new, wr, slotsOf all o, cNames s.hp o.op vs, shNames o.op vs ++ effNames (base + ds.length) (resV s.sh.length sh mk) new wr⟩ _ (s.ext sh) (ρ ++ [v]) (by
                  rw [hsh, hkn]
                  exact eff_wk s (s.ext sh).sh s.kn _ _ _ _ _) ⟨[v], rfl⟩ (by rw [hsh]; exact ⟨[sh], rfl⟩) hsh.symm ⟨by rw [hsh]; exact hge.len, by rw [hsh]; exact hge.fit, by rw [hkn]; exact hge.kn⟩
                (hist_df hC hps hg hwant hvs hpl hrel h1 h2 hfit h3 (free_at h4)) hv
            · simp [VC] at hv
          · rename_i i p hpl
            split at hv
            · rename_i hi
              simp only [VC] at hv
              obtain ⟨b, hb, hbt, hbf⟩ := hv
              cases b
              · exact again i p _ hi hb (hbf rfl)
              · exact again i p _ hi hb (hbt rfl)
            · simp [VC] at hv
          · rename_i i p k hpl
            split at hv
            · rename_i hi
              simp only [VC] at hv
              obtain ⟨⟨j, hj, hu⟩, hv⟩ := hv
              have hj' : j < k := by simpa using hj
              have := VCs_at (j := j) hv (t := planRun C inl (fun s' it => run C Gk m 0 s' it) all base cont tail n (s.dec i p (.int .i64 (j : Int))) ds (o :: rest)) (by simp [hj']) (by rw [hu, Nat.zero_add])
              exact again i p _ hi hu this
            · simp [VC] at hv
          · split at hv
            · rename_i htl
              simp only [Bool.and_eq_true] at htl
              obtain ⟨_, htl⟩ := htl
              obtain ⟨hQ, h9⟩ := htail s ρ (o :: rest) hv hρ
              have hpre : all = (pre ++ o :: rest).toArray := by rw [← Array.toArray_toList (xs := all), hall]
              subst hpre
              obtain ⟨α, hA⟩ := hI0
              have hgs : Good ρ (s0.wk s.sh s.kn) := ⟨hg.len, hg.fit, hg.kn⟩
              have hA' := hA.grow hρ hgs
              have hz : (pre ++ o :: rest).zip ds = pre.zip ds := by
                rw [← List.append_nil ds, List.zip_append hlen]; simp
              refine draw_tail (base := base) (ds := ds) (s0 := s0.wk s.sh s.kn) hmix hQ (by simpa using htl) (fun i o d hd => ?_) ⟨α, hA'⟩ fun a' W' h => ?_
              · rw [hz] at hd ⊢
                have := hh i o d hd ρ s.sh s.kn (List.prefix_refl _) (List.prefix_refl _)
                have e2 := app_take (base := base) (pre.zip ds) 0 i (s0.wk s.sh s.kn)
                simp only [Nat.zero_add] at e2
                rw [e2, app_wk]
                exact this
              · rw [hz, app_wk, ← hs] at h
                simpa [← hlen] using h9 a' W' h
            split at hv
            · rename_i c g cap args hop _ _
              split at hv
              · rename_i f fn hcal hfn hen
                split at hv
                · rename_i body hbody
                  split at hv
                  · rename_i hw
                    simp only [Bool.and_eq_true, decide_eq_true_eq] at hw hen
                    split at hv
                    · rename_i v hp' stk' ht
                      split at hv
                      · rename_i hc
                        simp only [Bool.and_eq_true] at hc
                        have hsh : (s.put o.dst v).sh = s.sh := by cases o.dst <;> rfl
                        have hkn : (s.put o.dst v).kn = s.kn := by cases o.dst <;> rfl
                        exact next ⟨v, none, none, slotsOf all o, namesL (args ++ cap), namesL (args ++ cap)⟩ _ s ρ (by rw [hsh, hkn]; exact put_eff _) (List.prefix_refl _) (by rw [hsh]; exact List.prefix_refl _) hsh.symm ⟨by rw [hsh]; exact hg.len, by rw [hsh]; exact hg.fit, by rw [hkn]; exact hg.kn⟩
                          (hist_inl hrun hps hgk hg hwant hvs hop hcal hen.1 hfn hbody ht hw.1 hw.2 hc.1.1 hc.1.2 hc.2) hv
                      · split at hv
                        · rename_i r b had
                          split at hv
                          · rename_i hc
                            simp only [Bool.and_eq_true] at hc
                            obtain ⟨⟨⟨⟨⟨c1, c2⟩, c3⟩, c4⟩, c5⟩, c6⟩ := hc
                            have hsh : (s.eff (base + ds.length) o.dst (v.ren r (base + ds.length)) (some b) none).sh = s.sh := by cases o.dst <;> rfl
                            have hkn : (s.eff (base + ds.length) o.dst (v.ren r (base + ds.length)) (some b) none).kn = s.kn := by cases o.dst <;> rfl
                            exact next ⟨v.ren r (base + ds.length), some b, none, slotsOf all o, namesL (args ++ cap), namesL (args ++ cap) ++ effNames (base + ds.length) (v.ren r (base + ds.length)) (some b) none⟩ _ s ρ (by rw [hsh, hkn]; cases o.dst <;> rfl) (List.prefix_refl _) (by rw [hsh]; exact List.prefix_refl _) hsh.symm ⟨by rw [hsh]; exact hg.len, by rw [hsh]; exact hg.fit, by rw [hkn]; exact hg.kn⟩
                              (hist_new hrun hps hgk hg hwant hvs hop hcal hen.1 hfn hbody ht hw.1 hw.2 c1 c2 had c3 c4 c5 (free_at c6)) hv
                          · simp [VC] at hv
                        · simp [VC] at hv
                    · split at hv <;> simp [VC] at hv
                  · simp [VC] at hv
                · simp [VC] at hv
              · simp [VC] at hv
            · simp [VC] at hv
      split at hv
      · rename_i hgd
        exact go (fun s' ρf a' W' _ _ _ => by simp [Region.wanted, hgd]) hv
      · rename_i g want hgd
        split at hv
        · simp [VC] at hv
        · rename_i d hd
          have hds : d ∈ slotsOf all o := by simp [slotsOf, hgd, hd]
          split at hv
          · rename_i u hl
            exact skip (fun s' ρf a' W' hk hag ⟨α, hA⟩ => wanted_no hA hgd hd (by rw [look_agree hk (hag.fr d hds)]; exact hl)) hv
          · rename_i b hl
            split at hv
            · rename_i hb
              exact go (fun s' ρf a' W' hk hag ⟨α, hA⟩ => (wanted_of hA hgd hd (by rw [look_agree hk (hag.fr d hds)]; exact hl)).trans hb) hv
            · rename_i hb
              exact skip (fun s' ρf a' W' hk hag ⟨α, hA⟩ => (wanted_of hA hgd hd (by rw [look_agree hk (hag.fr d hds)]; exact hl)).trans (by simpa using hb)) hv
          · rename_i i p hl
            split at hv
            · rename_i hi
              simp only [VC] at hv
              obtain ⟨b, hb, hbt, hbf⟩ := hv
              cases b
              · exact again i p _ hi hb (hbf rfl)
              · exact again i p _ hi hb (hbt rfl)
            · simp [VC] at hv
          · simp [VC] at hv
end
end SX
end Go.Proofs.Ytmkigejhgpoleaa
