/-
  A symbolic executor, ninth part: a call.
-/
import Derived.Test.YtmkigejhgpoleaaSx8
namespace Go.Proofs.Ytmkigejhgpoleaa
set_option linter.unusedSimpArgs false
set_option linter.unusedVariables false
open Go Go.RowKit
namespace SX

theorem Kf_none {C : Cx} (h : ∀ s sz cells, ¬ C.K s sz cells) (W : World) : Kf C W := fun s sz cells hk => (h s sz cells hk).elim
theorem fitL_get {sh : List Sh} {ρ : List Value} (h : Sh.fitL sh ρ = true) : sh.length = ρ.length ∧ ∀ (i : Nat) (s : Sh), sh[i]? = some s → s.fit (ρ.getD i undef) = true := by
  refine ⟨?_, fun i s hs => ?_⟩
  · induction sh generalizing ρ with
    | nil => cases ρ <;> simp [Sh.fitL] at h ⊢
    | cons s l ih => cases ρ with
      | nil => simp [Sh.fitL] at h
      | cons v r =>
        simp only [Sh.fitL, Bool.and_eq_true] at h
        simp [ih h.2]
  · obtain ⟨v, h1, h2⟩ := fitL_at h hs
    rw [List.getD_eq_getElem?_getD, h1]
    exact h2
mutual
/-- a tree without what its ends were -/
def Tree.strip : Tree → Tree
  | .df q a s t => .df q a s t.strip
  | .br i p t e => .br i p t.strip e.strip
  | .sp i p l => .sp i p (stripL l)
  | .ret v hp stk => .ret v hp stk
  | .loop v s t => .loop v s t.strip
  | .again l v => .again l v
  | .bad n _ => .bad n []
def stripL : List Tree → List Tree
  | [] => []
  | t :: l => t.strip :: stripL l
end
theorem stripL_len : ∀ l : List Tree, (stripL l).length = l.length
  | [] => rfl
  | _ :: l => by simp [stripL, stripL_len l]
section
variable {C : Cx} {w0 : Org} {ps : List (World → Prop)} {T0 : List TF} {R : Ending → World → Prop}
mutual
theorem VC_strip : ∀ (t : Tree) (L : List (List Value → Prop)) (ρ : List Value), VC C w0 ps T0 R L ρ t.strip → VC C w0 ps T0 R L ρ t
  | .df q a s t, L, ρ, h => by
    simp only [Tree.strip, VC] at h ⊢
    obtain ⟨v, h1, h2, h3⟩ := h
    exact ⟨v, h1, h2, VC_strip t _ _ h3⟩
  | .br i p t e, L, ρ, h => by
    simp only [Tree.strip, VC] at h ⊢
    obtain ⟨b, h1, h2, h3⟩ := h
    exact ⟨b, h1, fun hb => VC_strip t _ _ (h2 hb), fun hb => VC_strip e _ _ (h3 hb)⟩
  | .sp i p l, L, ρ, h => by
    simp only [Tree.strip, VC, stripL_len] at h ⊢
    exact ⟨h.1, VCs_strip l _ _ _ _ h.2⟩
  | .ret v hp stk, L, ρ, h => h
  | .loop v s t, L, ρ, h => by
    simp only [Tree.strip, VC] at h ⊢
    obtain ⟨I, μ, h1, h2⟩ := h
    exact ⟨I, μ, h1, fun xs h3 h4 => VC_strip t _ _ (h2 xs h3 h4)⟩
  | .again l v, L, ρ, h => h
  | .bad n o, L, ρ, h => by simp [Tree.strip, VC] at h
theorem VCs_strip : ∀ (l : List Tree) (L : List (List Value → Prop)) (ρ : List Value) (u : Value) (j : Nat), VCs C w0 ps T0 R L ρ u j (stripL l) → VCs C w0 ps T0 R L ρ u j l
  | [], L, ρ, u, j, h => by unfold VCs; trivial
  | t :: l, L, ρ, u, j, h => by
    simp only [stripL, VCs] at h ⊢
    exact ⟨fun hu => VC_strip t _ _ (h.1 hu), VCs_strip l _ _ _ _ h.2⟩
end
end
theorem calls_of_run {C : Cx} {G : Cfg} {R : Ending → World → Prop} {f : FuncId} {fn : Func} {body : Code} {args : List V} {sh : List Sh} {ρ : List Value} {w : World} {vals : Array Value} (n : Nat) (t : Tree) (hC : C.Ok) (hf : C.P.funcs[f]? = some fn) (hb : fn.body = some body) (ht : (run C G n 0 (door f fn args sh) [.code body, .top fn]).strip = t)
    (hd : doorOk fn args sh = true) (hfit : Sh.fitL sh ρ = true) (hvals : (denL ρ (fun _ => default) args).toArray = vals) (hK : ∀ W', Same [] w W' → Kf C W') (hv : VC C ⟨w, [], Af C, Bf C⟩ [Kf C] [] R [] ρ t) : Calls C.P f vals w R := by
  subst ht
  subst hvals
  replace hv := VC_strip _ _ _ hv
  refine calls_of_endR hf hb ?_
  simp only [doorOk, Bool.and_eq_true, decide_eq_true_eq] at hd
  obtain ⟨hl, hg⟩ := fitL_get hfit
  have hI : Inv ⟨w, [], Af C, Bf C⟩ [Kf C] [] ρ (door f fn args sh) { tmps := (denL ρ (fun _ => default) args).toArray ++ Array.replicate (fn.ntmps - (denL ρ (fun _ => default) args).toArray.size) undef, defers := [] } w := by
    refine ⟨fun _ => default, ⟨nofun, rfl⟩, ⟨hl, hg, fun e he => nomatch he⟩, ⟨fun v hv' => ?_, fun f hf => (nomatch hf), (fun b hb => nomatch hb), (fun b hb => nomatch hb)⟩, ⟨by simp [door, denL_len], fun d v hd' => ?_⟩, trivial, ?_, ?_, ?_⟩
    · rcases List.mem_append.1 hv' with h | h
      · obtain ⟨u, hu, e⟩ := List.mem_map.1 h
        obtain rfl : u = v := by simpa using e
        rw [← hl]
        exact wfL_mem hd.2 u hu
      · have := List.eq_of_mem_replicate h
        cases this
        rfl
    · rw [Array.getElem?_append]
      simp only [List.size_toArray, denL_len]
      simp only [door] at hd'
      by_cases hlt : d < args.length
      · rw [List.getElem?_append_left (by simpa using hlt), List.getElem?_map, List.getElem?_eq_getElem hlt] at hd'
        simp only [Option.map_some, Option.some.injEq] at hd'
        rw [if_pos hlt]
        simpa using denL_at (ρ := ρ) (α := fun _ => default) (by rw [List.getElem?_eq_getElem hlt, hd'])
      · rw [List.getElem?_append_right (by simpa using hlt), List.getElem?_replicate] at hd'
        rw [if_neg hlt, Array.getElem?_replicate]
        simp only [List.length_map] at hd'
        split at hd'
        · rename_i h9
          rw [if_pos h9]
          cases hd'
          rfl
        · cases hd'
    · exact ((⟨⟨rfl, rfl, rfl, Nat.le_refl _, fun _ _ _ => rfl⟩, (fun _ h => nomatch h), (fun _ h => nomatch h), (by simp [muts]), (fun _ h => nomatch h)⟩ : St ⟨w, [], Af C, Bf C⟩ [] [] [] w)).keep0 hK
    · exact fun n b h => nomatch h
    · exact fun n b h => nomatch h
  have := run_ok hC n ⟨w, [], Af C, Bf C⟩ [] R G 0 (door f fn args sh) [.code body, .top fn] [] [] [] ρ _ w (fun _ => rfl) ⟨List.mem_cons_self .., fun _ h => h, fun _ h => h⟩ hv rfl rfl hI
  exact this
/-- a closure: blocks of the caller's that it reads and writes -/
theorem calls_of_runW {C : Cx} {G : Cfg} {R : Ending → World → Prop} {f : FuncId} {fn : Func} {body : Code} {args : List V} {sh : List Sh} {ρ : List Value} {w : World} {vals : Array Value} {bs : List Nat} {bl : List Blk} (n : Nat) (t : Tree) (hC : C.Ok) (hf : C.P.funcs[f]? = some fn) (hb : fn.body = some body)
    (ht : (run C G n 0 { fr := args.map some ++ List.replicate (fn.ntmps - args.length) (some (.k undef)), stk := [(List.range bl.length).map fun n => some (.p n 0)], hp := bl.map some, ln := bl.map some, sh := sh, kn := [], lps := [], cur := f } [.code body, .top fn]).strip = t)
    (hd : (decide (args.length ≤ fn.ntmps) && wfL (bl.map some) sh.length args && bl.all fun b => wfL [] sh.length b.c && decide (b.k = .cells)) = true) (hfit : Sh.fitL sh ρ = true) (hvals : (denL ρ (fun n => ⟨bs.getD n 0, undef, []⟩) args).toArray = vals) (hK : ∀ W', Same bs w W' → Kf C W')
    (hnd : bs.Nodup) (hl : bs.length = bl.length) (hbl : ∀ (i b : Nat) (B : Blk), bs[i]? = some b → bl[i]? = some B → w.heap[b]? = some (.cells (denL ρ (fun _ => default) B.c).toArray B.t (0, 0)))
    (h12 : G.keep ≠ 12) (hv : VC C ⟨w, bs, Af C, Bf C⟩ [Kf C] [⟨(bs.map fun b => Value.pointer (some ⟨b, 0, none⟩)).toArray, [], none⟩] R [] ρ t) : Calls C.P f vals w R := by
  subst ht
  subst hvals
  replace hv := VC_strip _ _ _ hv
  refine calls_of_endR hf hb ?_
  simp only [Bool.and_eq_true, decide_eq_true_eq] at hd
  obtain ⟨⟨hle, hwa⟩, hwb⟩ := hd
  obtain ⟨hlg, hg⟩ := fitL_get hfit
  have hb1 : ∀ B ∈ bl, wfL [] ρ.length B.c = true ∧ B.k = .cells := fun B hB => by
    have := List.all_eq_true.1 hwb B hB
    simp only [Bool.and_eq_true, decide_eq_true_eq] at this
    rw [← hlg]; exact this
  have hbd : ∀ B ∈ bl, ∀ α α', denL ρ α B.c = denL ρ α' B.c := fun B hB α α' => denL_eq (hp := []) (fun n h => by simp [SX.lv] at h) (List.prefix_refl _) B.c (hb1 B hB).1
  have hat : ∀ (i : Nat) (B : Blk), (bl.map some)[i]? = some (some B) → bl[i]? = some B := fun i B h => by simpa using h
  have hgd : ∀ i, i < bl.length → bs[i]? = some (bs.getD i 0) := fun i hi => by
    rw [List.getD_eq_getElem?_getD, List.getElem?_eq_getElem (by omega)]; rfl
  have hch : ∀ (i : Nat) (B : Blk), bl[i]? = some B → B.ch ρ (fun n => ⟨bs.getD n 0, undef, []⟩) i = some ⟨bs.getD i 0, (denL ρ (fun n => ⟨bs.getD n 0, undef, []⟩) B.c).toArray, B.t⟩ := fun i B h => by simp only [Blk.ch, (hb1 B (List.mem_of_getElem? h)).2]
  have hlvb : ∀ i, i < bl.length → SX.lv (bl.map some) i = true := fun i hi => lv_iff.2 ⟨bl[i], by simp [hi]⟩
  have hids : ∀ {l : List Blk} {k : Nat} {α : Nat → AV}, (∀ (i : Nat) (B : Blk), l[i]? = some B → B.k = .cells) → (chs ρ α k (l.map some)).map (·.id) = (List.range' k l.length).map fun i => (α i).b := by
    intro l
    induction l with
    | nil => intro k α _; simp [chs]
    | cons B l ih =>
      intro k α hk
      simp only [List.map_cons, chs, Blk.ch, hk 0 B rfl, Option.toList_some, List.cons_append, List.nil_append, List.length_cons, List.range'_succ]
      rw [ih fun i B' h => hk (i + 1) B' (by simpa using h)]
  have hI : Inv ⟨w, bs, Af C, Bf C⟩ [Kf C] [⟨(bs.map fun b => Value.pointer (some ⟨b, 0, none⟩)).toArray, [], none⟩] ρ { fr := args.map some ++ List.replicate (fn.ntmps - args.length) (some (.k undef)), stk := [(List.range bl.length).map fun n => some (.p n 0)], hp := bl.map some, ln := bl.map some, sh := sh, kn := [], lps := [], cur := f } { tmps := (denL ρ (fun n => ⟨bs.getD n 0, undef, []⟩) args).toArray ++ Array.replicate (fn.ntmps - (denL ρ (fun n => ⟨bs.getD n 0, undef, []⟩) args).toArray.size) undef, defers := [] } w := by
    refine ⟨fun n => ⟨bs.getD n 0, undef, []⟩, ⟨nofun, nofun, rfl⟩, ⟨hlg, hg, fun e he => nomatch he⟩, ⟨fun v hv' => ?_, fun fr hfr => ?_, fun b hb => ?_, fun b hb => ?_⟩, ⟨by simp [denL_len], fun d v hd' => ?_⟩, ⟨⟨by simp [hl], fun d v hd' => ?_⟩, trivial⟩, ?_, ?_, ?_⟩
    · rcases List.mem_append.1 hv' with h | h
      · obtain ⟨u, hu, e⟩ := List.mem_map.1 h
        obtain rfl : u = v := by simpa using e
        rw [← hlg]
        exact wfL_mem hwa u hu
      · have := List.eq_of_mem_replicate h
        cases this
        rfl
    · obtain rfl := List.mem_singleton.1 hfr
      intro v hv'
      obtain ⟨i, hi, e⟩ := List.mem_map.1 hv'
      cases e
      exact hlvb i (List.mem_range.1 hi)
    · obtain ⟨B, hB, e⟩ := List.mem_map.1 hb
      cases e
      exact wfL_mono (fun n h => by simp [SX.lv] at h) (Nat.le_refl _) _ (hb1 _ hB).1
    · obtain ⟨B, hB, e⟩ := List.mem_map.1 hb
      cases e
      exact wfL_mono (fun n h => by simp [SX.lv] at h) (Nat.le_refl _) _ (hb1 _ hB).1
    · rw [Array.getElem?_append]
      simp only [List.size_toArray, denL_len]
      simp only at hd'
      by_cases hlt : d < args.length
      · rw [List.getElem?_append_left (by simpa using hlt), List.getElem?_map, List.getElem?_eq_getElem hlt] at hd'
        simp only [Option.map_some, Option.some.injEq] at hd'
        rw [if_pos hlt]
        simpa using denL_at (ρ := ρ) (α := fun n => ⟨bs.getD n 0, undef, []⟩) (by rw [List.getElem?_eq_getElem hlt, hd'])
      · rw [List.getElem?_append_right (by simpa using hlt), List.getElem?_replicate] at hd'
        rw [if_neg hlt, Array.getElem?_replicate]
        simp only [List.length_map] at hd'
        split at hd'
        · rename_i h9
          rw [if_pos h9]
          cases hd'
          rfl
        · cases hd'
    · simp only [List.getElem?_map, Option.map_eq_some_iff] at hd'
      obtain ⟨i, hi, e⟩ := hd'
      cases e
      have hil : d < bl.length := by have := (List.getElem?_eq_some_iff.1 hi).1; simpa using this
      obtain rfl : d = i := by simpa [hil] using hi
      simp only [List.getElem?_toArray, List.getElem?_map, hgd d hil, Option.map_some, V.den]
    · refine ⟨⟨rfl, rfl, rfl, Nat.le_refl _, fun _ _ _ => rfl⟩, fun e he => ?_, (fun _ h => nomatch h), ?_, fun p hp W' hW => ?_⟩
      · obtain ⟨i, B, h1, h2⟩ := chs_inv he
        rw [Nat.zero_add] at h2
        have hB := hat i B h1
        rw [hch i B hB] at h2
        cases h2
        have hil := (List.getElem?_eq_some_iff.1 hB).1
        refine ⟨.inr (List.mem_of_getElem? (hgd i hil)), ?_⟩
        have := hbl i _ B (hgd i hil) hB
        rw [hbd B (List.mem_of_getElem? hB) _ (fun _ => default)]
        exact this
      · show ((chs ρ (fun n => ⟨bs.getD n 0, undef, []⟩) 0 (bl.map some)).map Ch.id ++ []).Nodup
        rw [List.append_nil, hids fun i B h => (hb1 B (List.mem_of_getElem? h)).2]
        have : (List.range' 0 bl.length).map (fun i => bs.getD i 0) = bs := by
          apply List.ext_getElem?
          intro i
          by_cases hi : i < bl.length
          · rw [List.getElem?_map, List.getElem?_range' hi, hgd i hi]; simp
          · rw [List.getElem?_eq_none (by simpa using hi), List.getElem?_eq_none (by omega)]
        rw [this]
        exact hnd
      · have hmu : muts (chs ρ (fun n => ⟨bs.getD n 0, undef, []⟩) 0 (bl.map some)) [] = bs := by
          show (chs ρ (fun n => ⟨bs.getD n 0, undef, []⟩) 0 (bl.map some)).map Ch.id ++ [] = bs
          rw [List.append_nil, hids fun i B h => (hb1 B (List.mem_of_getElem? h)).2]
          apply List.ext_getElem?
          intro i
          by_cases hi : i < bl.length
          · rw [List.getElem?_map, List.getElem?_range' hi, hgd i hi]; simp
          · rw [List.getElem?_eq_none (by simpa using hi), List.getElem?_eq_none (by omega)]
        have hp : p = Kf C := by
          rcases List.mem_append.1 hp with hp | hp
          · obtain ⟨i, B, h1, h2⟩ := exs_mem.1 hp
            rw [Blk.own_ex (by simp [Blk.own, (hb1 B (List.mem_of_getElem? (hat i B h1))).2])] at h2
            cases h2
          · simpa using hp
        subst hp
        exact hK W' (by rw [← hmu]; exact hW)
    · intro i B h
      have hB := hat i B h
      exact ⟨hlvb i (List.getElem?_eq_some_iff.1 hB).1, by simp only [Blk.rowOk, (hb1 B (List.mem_of_getElem? hB)).2]⟩
    · intro i B h
      have hB := hat i B h
      simp only [Blk.lenOk, (hb1 B (List.mem_of_getElem? hB)).2]
  have := run_ok hC n ⟨w, bs, Af C, Bf C⟩ [⟨(bs.map fun b => Value.pointer (some ⟨b, 0, none⟩)).toArray, [], none⟩] R G 0 _ [.code body, .top fn] _ [] [] ρ _ w (fun h => absurd h h12) ⟨List.mem_cons_self .., fun _ h => h, fun _ h => h⟩ hv rfl rfl hI
  exact this
/-- what most functions say: the value, and the old blocks are as they were -/
def Ret (w : World) (u : Value) (e : Ending) (w' : World) : Prop := e = .returned u ∧ Below w.heap.size w w'
theorem St.ret {w : World} {rt : World → Prop} {rf : Nat → Prop} {hs : List Ch} {os : List Ow} {ps : List (World → Prop)} {W : World} {u v : Value} (h : St ⟨w, [], rt, rf⟩ hs os ps W) (hu : v = u) : Ret w u (.returned v) W := ⟨by rw [hu], h.below⟩
end SX
end Go.Proofs.Ytmkigejhgpoleaa
