/-
  Walks: the closure of body.Weaker, that lowers one body rule by rule; body.Weaker.
-/
import Derived.Test.YtklppgkolcpbbaaBodyW4
import Derived.Test.YtklppgkolcpbbaaBody2
import Derived.Test.YtklppgkolcpbbaaEq
namespace Go.Proofs.Ytklppgkolcpbbaa
set_option linter.unusedSimpArgs false
set_option linter.unusedVariables false
open Go Go.RowKit

/-- two blocks lent to a call -/
theorem St.lend2 {W : World} {k8 k9 : Nat} {c8 c9 : Array Value} {t8 t9 : TypeId} (h8 : W.heap[k8]? = some (.cells c8 t8 (0, 0))) (h9 : W.heap[k9]? = some (.cells c9 t9 (0, 0))) (hne : k8 ≠ k9) : St ⟨W, [k8, k9]⟩ [⟨k8, c8, t8⟩, ⟨k9, c9, t9⟩] [] [] W := by
  refine ⟨⟨rfl, rfl, rfl, Nat.le_refl _, fun _ _ _ => rfl⟩, fun e he => ?_, (fun _ h => nomatch h), ?_, (fun _ h => nomatch h)⟩
  · rcases List.mem_cons.1 he with rfl | he
    · exact ⟨.inr (by simp), h8⟩
    · obtain rfl := List.mem_singleton.1 he
      exact ⟨.inr (by simp), h9⟩
  · simp [muts, hne]

/-- blocks come back from a call: one of them with other contents -/
theorem St.back {w0 : Org} {W W' : World} {hs hs' lent : List Ch} {os : List Ow} {ps : List (World → Prop)} {ms : List Nat} (hS : St w0 hs os ps W) {k : Nat} {c c' : Array Value} {t : TypeId} (hu : Upd k c t c' hs hs') (hL : St ⟨W, ms⟩ lent [] [] W')
    (hms : ∀ m ∈ ms, m = k ∨ ∃ e, e ∈ lent ∧ e ∈ hs ∧ e.id = m) (hk : (⟨k, c', t⟩ : Ch) ∈ lent) : St w0 hs' os ps W' := by
  have hm : muts hs' os = muts hs os := by unfold muts; rw [hu.ids]
  have hkm : k ∈ hs.map (·.id) := List.mem_map_of_mem (f := (·.id)) hu.mem
  have hin : ∀ m ∈ ms, m ∈ hs.map (·.id) := fun m h => by
    rcases hms m h with rfl | ⟨e, _, he, rfl⟩
    · exact hkm
    · exact List.mem_map_of_mem (f := (·.id)) he
  have hn := List.nodup_append.1 hS.nodup
  refine ⟨⟨hL.old.os.trans hS.old.os, hL.old.tape.trans hS.old.tape, hL.old.output.trans hS.old.output, Nat.le_trans hS.old.size hL.old.size, fun b h1 h2 => ?_⟩, fun e he => ?_, fun o ho => ?_, by rw [hm]; exact hS.nodup, fun p hp W2 h2 => hS.pers p hp W2 ?_⟩
  · refine (hL.old.block b (Nat.lt_of_lt_of_le h1 hS.old.size) fun hb => ?_).trans (hS.old.block b h1 h2)
    rcases (hS.mut_lt (List.mem_append.2 (.inl (hin b hb)))).1 with h | h
    · omega
    · exact h2 h
  · rcases hu.of hn.1 e he with rfl | ⟨he, hne⟩
    · exact ⟨(hS.blk _ hu.mem).1, hL.at_ hk⟩
    · refine ⟨(hS.blk e he).1, ?_⟩
      by_cases hb : e.id ∈ ms
      · rcases hms _ hb with h | ⟨e', h1, h2, h3⟩
        · exact absurd h hne
        · have q1 := (hS.blk e he).2
          have q2 := (hS.blk e' h2).2
          have q3 := (hL.blk e' h1).2
          rw [h3] at q2 q3
          rw [q1] at q2
          rw [q3, q2]
      · exact (hL.old.block _ (Array.getElem?_eq_some_iff.1 (hS.blk e he).2).1 hb).trans (hS.blk e he).2
  · refine ownsRow_same (hS.own o ho) fun b hb => hL.old.block b (ownBlock_lt (hS.own o ho) hb).2 fun hbm => ?_
    exact hn.2.2 b (hin b hbm) b (List.mem_flatMap.2 ⟨o, ho, by simpa [Ow.blk] using hb⟩) rfl
  · rw [hm] at h2
    exact Same.trans ⟨hL.old.size, fun b hb hnb => hL.old.block b hb fun hbm => hnb (List.mem_append.2 (.inl (hin b hbm)))⟩ h2
theorem St.ne2 {w0 : Org} {W : World} {e e' : Ch} {hs : List Ch} {os : List Ow} {ps : List (World → Prop)} (h : St w0 (e :: e' :: hs) os ps W) : e.id ≠ e'.id := by
  have := h.nodup
  simp only [muts, List.map_cons, List.cons_append, List.nodup_cons, List.mem_cons, not_or] at this
  exact this.1.1

def MostPost (p q : Bod.Bd) (j k8 k9 : Nat) (w : World) (e : Ending) (w' : World) : Prop :=
  ∃ p', e = .returned (.bool (Bod.mostB p q j)) ∧ (Bod.mostB p q j = true → p' = Bod.copyR p q j) ∧ St ⟨w, [k8, k9]⟩ [⟨k8, cellsB p', 46⟩, ⟨k9, cellsB q, 46⟩] [] [] w'
theorem most_yes {p q : Bod.Bd} {j k8 k9 : Nat} {w w' : World} (h : Bod.mostB p q j = true) (hS : St ⟨w, [k8, k9]⟩ [⟨k8, cellsB (Bod.copyR p q j), 46⟩, ⟨k9, cellsB q, 46⟩] [] [] w') : MostPost p q j k8 k9 w (.returned (.bool true)) w' :=
  ⟨_, by rw [h], fun _ => rfl, hS⟩
theorem most_no {p q p' : Bod.Bd} {j k8 k9 : Nat} {w w' : World} (h : Bod.mostB p q j = false) (hS : St ⟨w, [k8, k9]⟩ [⟨k8, cellsB p', 46⟩, ⟨k9, cellsB q, 46⟩] [] [] w') : MostPost p q j k8 k9 w (.returned (.bool false)) w' :=
  ⟨p', by rw [h], (fun h' => by rw [h] at h'; cases h'), hS⟩

set_option maxRecDepth 100000 in
set_option maxHeartbeats 1000000 in
theorem most_any (p q : Bod.Bd) {j : Nat} (hj : j < 6) (k8 k9 : Nat) (w : World) (h8 : w.heap[k8]? = some (.cells (cellsB p) 46 (0, 0))) (h9 : w.heap[k9]? = some (.cells (cellsB q) 46 (0, 0))) (hne : k8 ≠ k9) :
    Calls Try.prog 29 #[.agg (ruleRow j), .pointer (some ⟨k8, 0, none⟩), .pointer (some ⟨k9, 0, none⟩)] w (MostPost p q j k8 k9 w) := by
  have h1r := ruleRow_one j
  have hl2 := rlimb_le j
  have hS := St.lend2 h8 h9 hne
  clear h8 h9
  go_enter Try.func29, Try.ntmps29
  go_wp2_with (first
      | ((first | (with_reducible refine wpList_plain (o := ⟨some 3, .box _ _, _, _, _, _⟩) rfl fun K hK => ?_) | ((with_reducible refine BigFrame.wpList_want (o := ⟨some 3, .box _ _, _, _, _, _⟩) ?_ fun K hK => ?_); · rfl)); (first | refine wp_box_row rfl (ev_eq rfl) hS ?_ | refine wp_box_one rfl (ev_eq rfl) rfl hS ?_); clear hS; intro k3 W hS hBw hk0; clear hBw hk0; refine hK _ _ ?_; clear hK K)
      | ((first | (with_reducible refine wpList_plain (o := ⟨_, .load _ _, _, _, _, _⟩) rfl fun K hK => ?_) | ((with_reducible refine BigFrame.wpList_want (o := ⟨_, .load _ _, _, _, _, _⟩) ?_ fun K hK => ?_); · rfl)); (first | refine wp_load_one rfl (ev_eq rfl) hS (by repeat (first | exact List.Mem.head _ | apply List.Mem.tail)) rfl (by first | rfl | assumption) ?_ | refine wp_load_row' rfl (ev_eq rfl) hS (by repeat (first | exact List.Mem.head _ | apply List.Mem.tail)) rfl (by first | assumption | rfl) ?_ | refine wp_load_sub rfl (ev_eq rfl) hS (by repeat (first | exact List.Mem.head _ | apply List.Mem.tail)) rfl rfl (by first | assumption | exact of_decide_eq_true rfl | (simp; omega)) (by assumption) ?_ | refine wp_load_at rfl (ev_eq rfl) rfl (by assumption) (by first | assumption | rfl) ?_ | refine wp_load_cell rfl (ev_eq rfl) rfl (by assumption) ?_); refine hK _ _ ?_; clear hK K)
      | ((first | (with_reducible refine wpList_plain (o := ⟨_, .store _ _ _, _, _, _, _⟩) rfl fun K hK => ?_) | ((with_reducible refine BigFrame.wpList_want (o := ⟨_, .store _ _ _, _, _, _, _⟩) ?_ fun K hK => ?_); · rfl)); (first | refine st_row0 rfl (ev_eq rfl) (ev_eq rfl) hS (by first | assumption | rfl) (by first | assumption | rfl) (by first | assumption | rfl) ?_ | refine st_row1 rfl (ev_eq rfl) (ev_eq rfl) hS (by first | assumption | rfl) (by first | assumption | rfl) (by first | assumption | rfl) ?_ | refine st_row2 rfl (ev_eq rfl) (ev_eq rfl) hS (by first | assumption | rfl) (by first | assumption | rfl) (by first | assumption | rfl) ?_ | refine st_row3 rfl (ev_eq rfl) (ev_eq rfl) hS (by first | assumption | rfl) (by first | assumption | rfl) (by first | assumption | rfl) ?_ | refine st_row4 rfl (ev_eq rfl) (ev_eq rfl) hS (by first | assumption | rfl) (by first | assumption | rfl) (by first | assumption | rfl) ?_ | refine st_row5 rfl (ev_eq rfl) (ev_eq rfl) hS (by first | assumption | rfl) (by first | assumption | rfl) (by first | assumption | rfl) ?_ | refine st_row6 rfl (ev_eq rfl) (ev_eq rfl) hS (by first | assumption | rfl) (by first | assumption | rfl) (by first | assumption | rfl) ?_ | refine st_row7 rfl (ev_eq rfl) (ev_eq rfl) hS (by first | assumption | rfl) (by first | assumption | rfl) (by first | assumption | rfl) ?_ | refine st_row8 rfl (ev_eq rfl) (ev_eq rfl) hS (by first | assumption | rfl) (by first | assumption | rfl) (by first | assumption | rfl) ?_ | refine st_one0 rfl (ev_eq rfl) (ev_eq rfl) hS (by first | assumption | rfl) rfl (by first | assumption | exact of_decide_eq_true rfl | simp) (by first | assumption | rfl) ?_ | refine st_one1 rfl (ev_eq rfl) (ev_eq rfl) hS (by first | assumption | rfl) rfl (by first | assumption | exact of_decide_eq_true rfl | simp) (by first | assumption | rfl) ?_ | refine st_one2 rfl (ev_eq rfl) (ev_eq rfl) hS (by first | assumption | rfl) rfl (by first | assumption | exact of_decide_eq_true rfl | simp) (by first | assumption | rfl) ?_ | refine st_one3 rfl (ev_eq rfl) (ev_eq rfl) hS (by first | assumption | rfl) rfl (by first | assumption | exact of_decide_eq_true rfl | simp) (by first | assumption | rfl) ?_ | refine st_one4 rfl (ev_eq rfl) (ev_eq rfl) hS (by first | assumption | rfl) rfl (by first | assumption | exact of_decide_eq_true rfl | simp) (by first | assumption | rfl) ?_ | refine st_one5 rfl (ev_eq rfl) (ev_eq rfl) hS (by first | assumption | rfl) rfl (by first | assumption | exact of_decide_eq_true rfl | simp) (by first | assumption | rfl) ?_ | refine st_one6 rfl (ev_eq rfl) (ev_eq rfl) hS (by first | assumption | rfl) rfl (by first | assumption | exact of_decide_eq_true rfl | simp) (by first | assumption | rfl) ?_ | refine st_one7 rfl (ev_eq rfl) (ev_eq rfl) hS (by first | assumption | rfl) rfl (by first | assumption | exact of_decide_eq_true rfl | simp) (by first | assumption | rfl) ?_ | refine st_one8 rfl (ev_eq rfl) (ev_eq rfl) hS (by first | assumption | rfl) rfl (by first | assumption | exact of_decide_eq_true rfl | simp) (by first | assumption | rfl) ?_ | refine st_sub0 rfl (ev_eq rfl) (ev_eq rfl) hS (by first | assumption | rfl) (by first | assumption | rfl) (by first | assumption | exact of_decide_eq_true rfl | simp) (by first | assumption | rfl) ?_ | refine st_sub1 rfl (ev_eq rfl) (ev_eq rfl) hS (by first | assumption | rfl) (by first | assumption | rfl) (by first | assumption | exact of_decide_eq_true rfl | simp) (by first | assumption | rfl) ?_ | refine st_sub2 rfl (ev_eq rfl) (ev_eq rfl) hS (by first | assumption | rfl) (by first | assumption | rfl) (by first | assumption | exact of_decide_eq_true rfl | simp) (by first | assumption | rfl) ?_ | refine st_sub3 rfl (ev_eq rfl) (ev_eq rfl) hS (by first | assumption | rfl) (by first | assumption | rfl) (by first | assumption | exact of_decide_eq_true rfl | simp) (by first | assumption | rfl) ?_ | refine st_sub4 rfl (ev_eq rfl) (ev_eq rfl) hS (by first | assumption | rfl) (by first | assumption | rfl) (by first | assumption | exact of_decide_eq_true rfl | simp) (by first | assumption | rfl) ?_ | refine st_sub5 rfl (ev_eq rfl) (ev_eq rfl) hS (by first | assumption | rfl) (by first | assumption | rfl) (by first | assumption | exact of_decide_eq_true rfl | simp) (by first | assumption | rfl) ?_ | refine st_sub6 rfl (ev_eq rfl) (ev_eq rfl) hS (by first | assumption | rfl) (by first | assumption | rfl) (by first | assumption | exact of_decide_eq_true rfl | simp) (by first | assumption | rfl) ?_ | refine st_sub7 rfl (ev_eq rfl) (ev_eq rfl) hS (by first | assumption | rfl) (by first | assumption | rfl) (by first | assumption | exact of_decide_eq_true rfl | simp) (by first | assumption | rfl) ?_ | refine st_sub8 rfl (ev_eq rfl) (ev_eq rfl) hS (by first | assumption | rfl) (by first | assumption | rfl) (by first | assumption | exact of_decide_eq_true rfl | simp) (by first | assumption | rfl) ?_); clear hS; intro W hS; refine hK _ _ ?_; clear hK K))
  go_loopw [11] (fun v W => ∃ l : Nat, l ≤ Bod.rlimb j + 1 ∧ v = .int .i64 l ∧ Hid ((List.range l).all (fun l => decide (p.fld j l ≤ q.fld j l)) = true) ∧ St ⟨w, [k8, k9]⟩ [⟨k3, ruleRow j, 52⟩, ⟨k8, cellsB (Bod.copyTo p q j l), 46⟩, ⟨k9, cellsB q, 46⟩] [] [] W) (fun v _ => Bod.rlimb j + 1 - (intOf v).toNat)
  case atStart => exact ⟨0, by omega, rfl, by simp [Hid], hS⟩
  case round =>
    clear hS
    obtain ⟨l, hl, rfl, hall, hS⟩ := hrel
    by_cases hlt : l < Bod.rlimb j + 1
    · have hf8 := cells_fld (Bod.copyTo p q j l) hj (show l ≤ Bod.rlimb j by omega)
      rw [Bod.copyTo_fld p q hj hj (by omega) l (by omega) (.inr (Nat.le_refl _))] at hf8
      have hf9 := cells_fld q hj (show l ≤ Bod.rlimb j by omega)
      have hset := cells_set (Bod.copyTo p q j l) hj (show l ≤ Bod.rlimb j by omega) (q.fld j l)
      rw [← Bod.copyTo_succ] at hset
      have hlt8 := off_lt (Bod.copyTo p q j l) hj (show l ≤ Bod.rlimb j by omega)
      go_wp2_with fail
      refine wp_region_obs (by kernel_rfl) (by kernel_rfl) (fun i v Y => match i with | 0 => v = .pointer (some ⟨k3, 0, none⟩) | 1 => v = .func (.func (fnOf j)) #[] #[] | 2 => v = .int .i64 l | 3 => v = .pointer (some ⟨k8, offOf j l, none⟩) | 4 => v = .pointer (some ⟨k3, 0, none⟩) | 5 => v = .func (.func (fnOf j)) #[] #[] | 6 => v = .int .i64 l | 7 => v = .pointer (some ⟨k9, offOf j l, none⟩) | 8 => v = .pointer (some ⟨k8, offOf j l, none⟩) | 9 => v = .pointer (some ⟨k9, offOf j l, none⟩) | _ => True)
        (fun Z => Below wr.heap.size wr Z) (fun Z Z' => Below Z.heap.size Z Z') ?_ (Below.refl _ _).drew ?_ ?_
      · intro i v Z Z' hb hv
        match i with
        | 0 | 1 | 2 | 3 | 4 | 5 | 6 | 7 | 8 | 9 | _ + 10 => exact hv
      · refine ⟨?_, ?_, ?_, ?_, ?_, ?_, ?_, ?_, ?_, ?_, trivial⟩
        all_goals refine opOb_plain rfl fun b' W' K hf hd hF hK => ?_
        all_goals have hS := hS.step hF
        · have e3 := (hf 3 rfl).trans (ev_eq rfl)
          exact wp_fieldAddr rfl e3 rfl (hK _ _ (fun _ => rfl) hF (Below.refl _ _))
        · have e14 : b'.eval (.tmp 14) = .pointer (some ⟨k3, 0, none⟩) := hd ⟨0, .data⟩ (by simp) rfl 14 rfl
          first | exact wp_load_one rfl e14 hS (by repeat (first | exact List.Mem.head _ | apply List.Mem.tail)) rfl (by first | rfl | assumption) (hK _ _ (fun _ => rfl) hF (Below.refl _ _)) | exact wp_load_row' rfl e14 hS (by repeat (first | exact List.Mem.head _ | apply List.Mem.tail)) rfl (by first | assumption | rfl) (hK _ _ (fun _ => rfl) hF (Below.refl _ _)) | exact wp_load_sub rfl e14 hS (by repeat (first | exact List.Mem.head _ | apply List.Mem.tail)) rfl rfl (by first | assumption | exact of_decide_eq_true rfl | (simp; omega)) (by assumption) (hK _ _ (fun _ => rfl) hF (Below.refl _ _)) | exact wp_load_cell rfl e14 rfl (by assumption) (hK _ _ (fun _ => rfl) hF (Below.refl _ _))
        · have e5 := (hf 5 rfl).trans (ev_eq rfl)
          exact wp_move rfl e5 (hK _ _ (fun _ => rfl) hF (Below.refl _ _))
        · have e15 : b'.eval (.tmp 15) = .func (.func (fnOf j)) #[] #[] := hd ⟨1, .data⟩ (by simp) rfl 15 rfl
          have e1 := (hf 1 rfl).trans (ev_eq rfl)
          have e16 : b'.eval (.tmp 16) = .int .i64 l := hd ⟨2, .data⟩ (by simp) rfl 16 rfl
          refine wp_callF (vs := #[.pointer (some ⟨k8, 0, none⟩), .int .i64 l]) rfl e15 (by simp [e1, e16]) (call_fnOf hj _ _) (R := fun v W2 => v = .pointer (some ⟨k8, offOf j l, none⟩) ∧ W' = W2) ((field_any hj l (by omega) k8 _).mono fun e W2 h => ⟨_, h.1, rfl, h.2⟩) ?_
          rintro v W2 ⟨rfl, rfl⟩
          exact hK _ _ (fun _ => rfl) hF (Below.refl _ _)
        · have e3 := (hf 3 rfl).trans (ev_eq rfl)
          exact wp_fieldAddr rfl e3 rfl (hK _ _ (fun _ => rfl) hF (Below.refl _ _))
        · have e18 : b'.eval (.tmp 18) = .pointer (some ⟨k3, 0, none⟩) := hd ⟨4, .data⟩ (by simp) rfl 18 rfl
          first | exact wp_load_one rfl e18 hS (by repeat (first | exact List.Mem.head _ | apply List.Mem.tail)) rfl (by first | rfl | assumption) (hK _ _ (fun _ => rfl) hF (Below.refl _ _)) | exact wp_load_row' rfl e18 hS (by repeat (first | exact List.Mem.head _ | apply List.Mem.tail)) rfl (by first | assumption | rfl) (hK _ _ (fun _ => rfl) hF (Below.refl _ _)) | exact wp_load_sub rfl e18 hS (by repeat (first | exact List.Mem.head _ | apply List.Mem.tail)) rfl rfl (by first | assumption | exact of_decide_eq_true rfl | (simp; omega)) (by assumption) (hK _ _ (fun _ => rfl) hF (Below.refl _ _)) | exact wp_load_cell rfl e18 rfl (by assumption) (hK _ _ (fun _ => rfl) hF (Below.refl _ _))
        · have e5 := (hf 5 rfl).trans (ev_eq rfl)
          exact wp_move rfl e5 (hK _ _ (fun _ => rfl) hF (Below.refl _ _))
        · have e19 : b'.eval (.tmp 19) = .func (.func (fnOf j)) #[] #[] := hd ⟨5, .data⟩ (by simp) rfl 19 rfl
          have e2 := (hf 2 rfl).trans (ev_eq rfl)
          have e20 : b'.eval (.tmp 20) = .int .i64 l := hd ⟨6, .data⟩ (by simp) rfl 20 rfl
          refine wp_callF (vs := #[.pointer (some ⟨k9, 0, none⟩), .int .i64 l]) rfl e19 (by simp [e2, e20]) (call_fnOf hj _ _) (R := fun v W2 => v = .pointer (some ⟨k9, offOf j l, none⟩) ∧ W' = W2) ((field_any hj l (by omega) k9 _).mono fun e W2 h => ⟨_, h.1, rfl, h.2⟩) ?_
          rintro v W2 ⟨rfl, rfl⟩
          exact hK _ _ (fun _ => rfl) hF (Below.refl _ _)
        · have e17 : b'.eval (.tmp 17) = .pointer (some ⟨k8, offOf j l, none⟩) := hd ⟨3, .data⟩ (by simp) rfl 17 rfl
          exact wp_assign rfl e17 (hK _ _ (fun _ => rfl) hF (Below.refl _ _))
        · have e21 : b'.eval (.tmp 21) = .pointer (some ⟨k9, offOf j l, none⟩) := hd ⟨7, .data⟩ (by simp) rfl 21 rfl
          exact wp_assign rfl e21 (hK _ _ (fun _ => rfl) hF (Below.refl _ _))
      · intro vs W hv hF
        replace hS := hS.step hF
        have v6 : vs 8 = .pointer (some ⟨k8, offOf j l, none⟩) := hv 8 6 rfl
        have v7 : vs 9 = .pointer (some ⟨k9, offOf j l, none⟩) := hv 9 7 rfl
        clear hF hv
        simp only [putAll, Nat.reduceAdd, List.setIfInBounds_toArray, List.set_cons_zero, List.set_cons_succ, v6, v7]
        clear v6 v7
        go_wp2_with fail
        refine wp_region_obs (by kernel_rfl) (by kernel_rfl) (fun i v Y => match i with | 0 => v = .pointer (some ⟨k8, offOf j l, none⟩) | 1 => v = .pointer (some ⟨k8, offOf j l, none⟩) | 2 => v = .int .i64 (p.fld j l) | 3 => v = .pointer (some ⟨k9, offOf j l, none⟩) | 4 => v = .pointer (some ⟨k9, offOf j l, none⟩) | 5 => v = .int .i64 (q.fld j l) | 6 => v = .bool (decide (p.fld j l > q.fld j l)) | _ => True)
          (fun Z => Below W.heap.size W Z) (fun Z Z' => Below Z.heap.size Z Z') ?_ (Below.refl _ _).drew ?_ ?_
        · intro i v Z Z' hb hv
          match i with
          | 0 | 1 | 2 | 3 | 4 | 5 | 6 | _ + 7 => exact hv
        · refine ⟨?_, ?_, ?_, ?_, ?_, ?_, ?_, trivial⟩
          all_goals refine opOb_plain rfl fun b' W' K hf hd hF hK => ?_
          all_goals have hS := hS.step hF
          · have e6 := (hf 6 rfl).trans (ev_eq rfl)
            exact wp_move rfl e6 (hK _ _ (fun _ => rfl) hF (Below.refl _ _))
          · have e22 : b'.eval (.tmp 22) = .pointer (some ⟨k8, offOf j l, none⟩) := hd ⟨0, .data⟩ (by simp) rfl 22 rfl
            exact wp_nil rfl e22 (hK _ _ (fun _ => rfl) hF (Below.refl _ _))
          · have e23 : b'.eval (.tmp 23) = .pointer (some ⟨k8, offOf j l, none⟩) := hd ⟨1, .data⟩ (by simp) rfl 23 rfl
            first | exact wp_load_one rfl e23 hS (by repeat (first | exact List.Mem.head _ | apply List.Mem.tail)) rfl (by first | rfl | assumption) (hK _ _ (fun _ => rfl) hF (Below.refl _ _)) | exact wp_load_row' rfl e23 hS (by repeat (first | exact List.Mem.head _ | apply List.Mem.tail)) rfl (by first | assumption | rfl) (hK _ _ (fun _ => rfl) hF (Below.refl _ _)) | exact wp_load_sub rfl e23 hS (by repeat (first | exact List.Mem.head _ | apply List.Mem.tail)) rfl rfl (by first | assumption | exact of_decide_eq_true rfl | (simp; omega)) (by assumption) (hK _ _ (fun _ => rfl) hF (Below.refl _ _)) | exact wp_load_cell rfl e23 rfl (by assumption) (hK _ _ (fun _ => rfl) hF (Below.refl _ _))
          · have e7 := (hf 7 rfl).trans (ev_eq rfl)
            exact wp_move rfl e7 (hK _ _ (fun _ => rfl) hF (Below.refl _ _))
          · have e25 : b'.eval (.tmp 25) = .pointer (some ⟨k9, offOf j l, none⟩) := hd ⟨3, .data⟩ (by simp) rfl 25 rfl
            exact wp_nil rfl e25 (hK _ _ (fun _ => rfl) hF (Below.refl _ _))
          · have e26 : b'.eval (.tmp 26) = .pointer (some ⟨k9, offOf j l, none⟩) := hd ⟨4, .data⟩ (by simp) rfl 26 rfl
            first | exact wp_load_one rfl e26 hS (by repeat (first | exact List.Mem.head _ | apply List.Mem.tail)) rfl (by first | rfl | assumption) (hK _ _ (fun _ => rfl) hF (Below.refl _ _)) | exact wp_load_row' rfl e26 hS (by repeat (first | exact List.Mem.head _ | apply List.Mem.tail)) rfl (by first | assumption | rfl) (hK _ _ (fun _ => rfl) hF (Below.refl _ _)) | exact wp_load_sub rfl e26 hS (by repeat (first | exact List.Mem.head _ | apply List.Mem.tail)) rfl rfl (by first | assumption | exact of_decide_eq_true rfl | (simp; omega)) (by assumption) (hK _ _ (fun _ => rfl) hF (Below.refl _ _)) | exact wp_load_cell rfl e26 rfl (by assumption) (hK _ _ (fun _ => rfl) hF (Below.refl _ _))
          · have e24 : b'.eval (.tmp 24) = .int .i64 (p.fld j l) := hd ⟨2, .data⟩ (by simp) rfl 24 rfl
            have e27 : b'.eval (.tmp 27) = .int .i64 (q.fld j l) := hd ⟨5, .data⟩ (by simp) rfl 27 rfl
            exact wp_binI rfl e24 e27 rfl (hK _ _ (fun _ => rfl) hF (Below.refl _ _))
        · intro vs W hv hF
          replace hS := hS.step hF
          have v28 : vs 6 = .bool (decide (p.fld j l > q.fld j l)) := hv 6 28 rfl
          clear hF hv
          simp only [putAll, Nat.reduceAdd, List.setIfInBounds_toArray, List.set_cons_zero, List.set_cons_succ, v28]
          clear v28
          by_cases hgt : p.fld j l > q.fld j l
          · go_wp2_with fail
            go_ret
            exact most_no (by unfold Bod.mostB; rw [List.all_eq_false]; exact ⟨l, List.mem_range.2 hlt, by simp; omega⟩) (hS.weak (.cons _ (.refl _)) (.refl _) fun _ h => h)
          · go_wp2_with (first
      | ((first | (with_reducible refine wpList_plain (o := ⟨some 3, .box _ _, _, _, _, _⟩) rfl fun K hK => ?_) | ((with_reducible refine BigFrame.wpList_want (o := ⟨some 3, .box _ _, _, _, _, _⟩) ?_ fun K hK => ?_); · rfl)); (first | refine wp_box_row rfl (ev_eq rfl) hS ?_ | refine wp_box_one rfl (ev_eq rfl) rfl hS ?_); clear hS; intro k3 W hS hBw hk0; clear hBw hk0; refine hK _ _ ?_; clear hK K)
      | ((first | (with_reducible refine wpList_plain (o := ⟨_, .load _ _, _, _, _, _⟩) rfl fun K hK => ?_) | ((with_reducible refine BigFrame.wpList_want (o := ⟨_, .load _ _, _, _, _, _⟩) ?_ fun K hK => ?_); · rfl)); (first | refine wp_load_one rfl (ev_eq rfl) hS (by repeat (first | exact List.Mem.head _ | apply List.Mem.tail)) rfl (by first | rfl | assumption) ?_ | refine wp_load_row' rfl (ev_eq rfl) hS (by repeat (first | exact List.Mem.head _ | apply List.Mem.tail)) rfl (by first | assumption | rfl) ?_ | refine wp_load_sub rfl (ev_eq rfl) hS (by repeat (first | exact List.Mem.head _ | apply List.Mem.tail)) rfl rfl (by first | assumption | exact of_decide_eq_true rfl | (simp; omega)) (by assumption) ?_ | refine wp_load_at rfl (ev_eq rfl) rfl (by assumption) (by first | assumption | rfl) ?_ | refine wp_load_cell rfl (ev_eq rfl) rfl (by assumption) ?_); refine hK _ _ ?_; clear hK K)
      | ((first | (with_reducible refine wpList_plain (o := ⟨_, .store _ _ _, _, _, _, _⟩) rfl fun K hK => ?_) | ((with_reducible refine BigFrame.wpList_want (o := ⟨_, .store _ _ _, _, _, _, _⟩) ?_ fun K hK => ?_); · rfl)); (first | refine st_row0 rfl (ev_eq rfl) (ev_eq rfl) hS (by first | assumption | rfl) (by first | assumption | rfl) (by first | assumption | rfl) ?_ | refine st_row1 rfl (ev_eq rfl) (ev_eq rfl) hS (by first | assumption | rfl) (by first | assumption | rfl) (by first | assumption | rfl) ?_ | refine st_row2 rfl (ev_eq rfl) (ev_eq rfl) hS (by first | assumption | rfl) (by first | assumption | rfl) (by first | assumption | rfl) ?_ | refine st_row3 rfl (ev_eq rfl) (ev_eq rfl) hS (by first | assumption | rfl) (by first | assumption | rfl) (by first | assumption | rfl) ?_ | refine st_row4 rfl (ev_eq rfl) (ev_eq rfl) hS (by first | assumption | rfl) (by first | assumption | rfl) (by first | assumption | rfl) ?_ | refine st_row5 rfl (ev_eq rfl) (ev_eq rfl) hS (by first | assumption | rfl) (by first | assumption | rfl) (by first | assumption | rfl) ?_ | refine st_row6 rfl (ev_eq rfl) (ev_eq rfl) hS (by first | assumption | rfl) (by first | assumption | rfl) (by first | assumption | rfl) ?_ | refine st_row7 rfl (ev_eq rfl) (ev_eq rfl) hS (by first | assumption | rfl) (by first | assumption | rfl) (by first | assumption | rfl) ?_ | refine st_row8 rfl (ev_eq rfl) (ev_eq rfl) hS (by first | assumption | rfl) (by first | assumption | rfl) (by first | assumption | rfl) ?_ | refine st_one0 rfl (ev_eq rfl) (ev_eq rfl) hS (by first | assumption | rfl) rfl (by first | assumption | exact of_decide_eq_true rfl | simp) (by first | assumption | rfl) ?_ | refine st_one1 rfl (ev_eq rfl) (ev_eq rfl) hS (by first | assumption | rfl) rfl (by first | assumption | exact of_decide_eq_true rfl | simp) (by first | assumption | rfl) ?_ | refine st_one2 rfl (ev_eq rfl) (ev_eq rfl) hS (by first | assumption | rfl) rfl (by first | assumption | exact of_decide_eq_true rfl | simp) (by first | assumption | rfl) ?_ | refine st_one3 rfl (ev_eq rfl) (ev_eq rfl) hS (by first | assumption | rfl) rfl (by first | assumption | exact of_decide_eq_true rfl | simp) (by first | assumption | rfl) ?_ | refine st_one4 rfl (ev_eq rfl) (ev_eq rfl) hS (by first | assumption | rfl) rfl (by first | assumption | exact of_decide_eq_true rfl | simp) (by first | assumption | rfl) ?_ | refine st_one5 rfl (ev_eq rfl) (ev_eq rfl) hS (by first | assumption | rfl) rfl (by first | assumption | exact of_decide_eq_true rfl | simp) (by first | assumption | rfl) ?_ | refine st_one6 rfl (ev_eq rfl) (ev_eq rfl) hS (by first | assumption | rfl) rfl (by first | assumption | exact of_decide_eq_true rfl | simp) (by first | assumption | rfl) ?_ | refine st_one7 rfl (ev_eq rfl) (ev_eq rfl) hS (by first | assumption | rfl) rfl (by first | assumption | exact of_decide_eq_true rfl | simp) (by first | assumption | rfl) ?_ | refine st_one8 rfl (ev_eq rfl) (ev_eq rfl) hS (by first | assumption | rfl) rfl (by first | assumption | exact of_decide_eq_true rfl | simp) (by first | assumption | rfl) ?_ | refine st_sub0 rfl (ev_eq rfl) (ev_eq rfl) hS (by first | assumption | rfl) (by first | assumption | rfl) (by first | assumption | exact of_decide_eq_true rfl | simp) (by first | assumption | rfl) ?_ | refine st_sub1 rfl (ev_eq rfl) (ev_eq rfl) hS (by first | assumption | rfl) (by first | assumption | rfl) (by first | assumption | exact of_decide_eq_true rfl | simp) (by first | assumption | rfl) ?_ | refine st_sub2 rfl (ev_eq rfl) (ev_eq rfl) hS (by first | assumption | rfl) (by first | assumption | rfl) (by first | assumption | exact of_decide_eq_true rfl | simp) (by first | assumption | rfl) ?_ | refine st_sub3 rfl (ev_eq rfl) (ev_eq rfl) hS (by first | assumption | rfl) (by first | assumption | rfl) (by first | assumption | exact of_decide_eq_true rfl | simp) (by first | assumption | rfl) ?_ | refine st_sub4 rfl (ev_eq rfl) (ev_eq rfl) hS (by first | assumption | rfl) (by first | assumption | rfl) (by first | assumption | exact of_decide_eq_true rfl | simp) (by first | assumption | rfl) ?_ | refine st_sub5 rfl (ev_eq rfl) (ev_eq rfl) hS (by first | assumption | rfl) (by first | assumption | rfl) (by first | assumption | exact of_decide_eq_true rfl | simp) (by first | assumption | rfl) ?_ | refine st_sub6 rfl (ev_eq rfl) (ev_eq rfl) hS (by first | assumption | rfl) (by first | assumption | rfl) (by first | assumption | exact of_decide_eq_true rfl | simp) (by first | assumption | rfl) ?_ | refine st_sub7 rfl (ev_eq rfl) (ev_eq rfl) hS (by first | assumption | rfl) (by first | assumption | rfl) (by first | assumption | exact of_decide_eq_true rfl | simp) (by first | assumption | rfl) ?_ | refine st_sub8 rfl (ev_eq rfl) (ev_eq rfl) hS (by first | assumption | rfl) (by first | assumption | rfl) (by first | assumption | exact of_decide_eq_true rfl | simp) (by first | assumption | rfl) ?_); clear hS; intro W hS; refine hK _ _ ?_; clear hK K))
            go_roundw
            case rel => exact ⟨l + 1, by omega, by go_num, range_all_succ (f := fun l => decide (p.fld j l ≤ q.fld j l)) hall (by simp; omega), hS⟩
            case measure => simp [intOf]; omega
    · obtain rfl : l = Bod.rlimb j + 1 := by omega
      go_wp2_with fail
      go_ret
      exact most_yes hall.out (hS.weak (.cons _ (.refl _)) (.refl _) fun _ h => h)
end Go.Proofs.Ytklppgkolcpbbaa
