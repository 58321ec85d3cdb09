/-
  Texts behind the statement, part 5.
-/
import Derived.Test.YtbbofkpolcjmgaaDoorU4
import Derived.Test.YtbbofkpolcjmgaaDoorU1
import Derived.Test.YtbbofkpolcjmgaaDoorRows
import Derived.WalkKit
import Derived.Lib.Hide
import Derived.WalkSpells
import Derived.WalkLawsBesides
import Derived.RangeFuncNested
import Derived.RangeFuncBound
import Derived.RangeFuncCalls
import Derived.RangeFuncLeaves
import Derived.RangeFuncBox
import Derived.OwnWalkIn
import Derived.TacticsInMore
import Derived.LoopNIn
import Derived.LoopIn
import Derived.Lib.RabinKarpLaws
import Derived.Shelf.Abstract
import Derived.Lib.SlBytesConst
import Derived.LaidMore
import Derived.Stop.Joined
import Derived.Stop.LaidErr
import Derived.Lib.LaidTab
import Derived.ChangeSlices
import Derived.MakeChecks
import Derived.DataElems
set_option linter.unusedSimpArgs false
set_option linter.unusedVariables false
namespace Go.Proofs.YtbbofkpolcjmgaaDoor
open Go Go.RowKit
def NW (w : World) (u : Nat → Nat → Value) (v : Value) (Y : World) : Prop := ∃ b0 b1, v = u b0 b1 ∧ b0 ≠ b1 ∧ w.heap.size ≤ b0 ∧ w.heap.size ≤ b1 ∧ Y.heap[b0]? = some (.cells #[.pointer (some ⟨b1, 0, none⟩)] 62 (0, 0)) ∧
  Y.heap[b1]? = some (.cells #[.nilFunc, .func (.func 48) #[] #[], .func (.func 51) #[] #[], .func (.func 52) #[] #[.pointer (some ⟨b0, 0, none⟩)]] 74 (0, 0))
theorem NW.step {w Y Y' : World} {u : Nat → Nat → Value} {v : Value} (h : NW w u v Y) (hb : Below Y.heap.size Y Y') : NW w u v Y' := by
  obtain ⟨b0, b1, h1, h2, h3, h4, h5, h6⟩ := h
  exact ⟨b0, b1, h1, h2, h3, h4, (hb.block b0 (Array.getElem?_eq_some_iff.1 h5).1).trans h5, (hb.block b1 (Array.getElem?_eq_some_iff.1 h6).1).trans h6⟩
def args_nw : List SX.V := []
def tree_nw : SX.Tree :=
(.ret (.p 0 0) [(some ⟨[(.k .nilFunc), (.f (.func 48) [] []), (.f (.func 51) [] []), (.f (.func 52) [] [(.p 1 0)])], 74, .cells⟩), (some ⟨[(.p 0 0)], 62, .cells⟩)] [])
set_option maxRecDepth 100000 in
theorem run_nw (K A : Value → Nat → List Value → Prop) : (SX.run (cx0 K A) ⟨fun f => true, [], 1, 100⟩ 100000 0 (SX.door 37 Tryd.f37 args_nw []) [.code (Tryd.f37.body.getD .skip), .top Tryd.f37]).strip = tree_nw := by kernel_rfl
theorem newWriter_any (w : World) : Calls Tryd.prog 37 #[] w fun e w' => ∃ v, e = .returned v ∧ NW w (fun _ b1 => .pointer (some ⟨b1, 0, none⟩)) v w' ∧ Below w.heap.size w w' := by
  refine SX.calls_of_run (C := cx0 (fun _ _ _ => False) (fun _ _ _ => False)) (G := ⟨fun f => true, [], 1, 100⟩) (args := args_nw) (sh := []) (ρ := []) 100000 tree_nw (cx0_ok _ _) Tryd.func37 rfl (run_nw _ _) (by kernel_rfl) (by kernel_rfl) (by kernel_rfl) (fun W _ => SX.Kf_none (fun _ _ _ h => h) W) ?_
  unfold tree_nw
  refine SX.VC_ret fun α W _ hR hS => ?_
  have m1 : (⟨(α 0).b, #[.nilFunc, .func (.func 48) #[] #[], .func (.func 51) #[] #[], .func (.func 52) #[] #[.pointer (some ⟨(α 1).b, 0, none⟩)]], .cells 74⟩ : Ch) ∈ SX.chs [] α 0 [(some ⟨[(.k .nilFunc), (.f (.func 48) [] []), (.f (.func 51) [] []), (.f (.func 52) [] [(.p 1 0)])], 74, .cells⟩), (some ⟨[(.p 0 0)], 62, .cells⟩)] := List.Mem.head _
  have m2 : (⟨(α 1).b, #[.pointer (some ⟨(α 0).b, 0, none⟩)], .cells 62⟩ : Ch) ∈ SX.chs [] α 0 [(some ⟨[(.k .nilFunc), (.f (.func 48) [] []), (.f (.func 51) [] []), (.f (.func 52) [] [(.p 1 0)])], 74, .cells⟩), (some ⟨[(.p 0 0)], 62, .cells⟩)] := List.Mem.tail _ (List.Mem.head _)
  refine ⟨_, rfl, ⟨(α 1).b, (α 0).b, rfl, fun he => ?_, (hS.ge_ m2).resolve_right nofun, (hS.ge_ m1).resolve_right nofun, hS.at_ m2, hS.at_ m1⟩, hS.below⟩
  have := hS.nodup
  have e : muts (SX.chs [] α 0 [(some ⟨[(.k .nilFunc), (.f (.func 48) [] []), (.f (.func 51) [] []), (.f (.func 52) [] [(.p 1 0)])], 74, .cells⟩), (some ⟨[(.p 0 0)], 62, .cells⟩)]) [] = [(α 0).b, (α 1).b] := rfl
  rw [e] at this
  simp [he] at this
theorem SX.SlRet.at_ {w W : World} {h : Value} {b : Nat} {t : TypeId} {cells tl : List Value} {sz : Nat} (hr : RowAt sz h b t cells tl W) (hb : w.heap.size ≤ b) : SX.SlRet w W [] h sz cells := by
  rcases hr with ⟨rfl, rfl⟩ | ⟨len, cap, rfl, h1, h2, h3, h4, h5⟩
  · exact .nil
  refine ⟨⟨_, _, _, rfl, h3⟩, ⟨?_, h3⟩, .inl fun ad k c e _ => ?_⟩
  · refine Rd.of_blk h5 h1 fun j u hu => ?_
    rw [Nat.zero_add]
    have : (cells ++ tl)[j]? = some u := by rw [List.getElem?_append_left (List.getElem?_eq_some_iff.1 hu).1]; exact hu
    simpa using this
  cases e
  exact hb
set_option maxRecDepth 100000 in
set_option maxHeartbeats 1000000 in
theorem encode_any (fl : List Fl) (A : Option Addr) (n c : Nat) (w : World) (hr : Rd w 4 A n (flL fl)) (hn : n ≤ 1048576) (hc : n ≤ c) (hfit : ∀ z ∈ fl, z.fits) :
    Calls Tryd.prog 15 #[.agg #[.int .i64 3, .int .i64 0, .string ⟨#[]⟩, .slice A n c]] w fun e w' => Below w.heap.size w w' ∧ ∃ hdr, e = .returned (.tuple #[hdr, .int .i64 0]) ∧ SX.SlRet w w' [] hdr 1 ((encL fl).flatMap c8) := by
  have hS := St.start w
  have h1 : ∀ u ∈ [Value.int .i64 3, .int .i64 0, .string ⟨#[]⟩, .slice A n c], u.oneCell' = true := by
    intro u hu
    simp only [List.mem_cons, List.not_mem_nil, or_false] at hu
    rcases hu with rfl | rfl | rfl | rfl <;> rfl
  go_enter Tryd.func15, Tryd.ntmps15
  go_wp2_with (first
      | ((first | (with_reducible refine wpList_plain (o := ⟨some 1, .box _ _, _, _, _, _⟩) rfl fun K hK => ?_) | ((with_reducible refine BigFrame.wpList_want (o := ⟨some 1, .box _ _, _, _, _, _⟩) ?_ fun K hK => ?_); · rfl)); (first | refine wp_box_row rfl (ev_eq rfl) hS ?_ | refine wp_box_one rfl (ev_eq rfl) rfl hS ?_); clear hS; intro k1 W hS hBw hk0; clear hBw hk0; refine hK _ _ ?_; clear hK K)
      | ((first | (with_reducible refine wpList_plain (o := ⟨_, .load _ _, _, _, _, _⟩) rfl fun K hK => ?_) | ((with_reducible refine BigFrame.wpList_want (o := ⟨_, .load _ _, _, _, _, _⟩) ?_ fun K hK => ?_); · rfl)); (first | refine wp_load_one rfl (ev_eq rfl) hS (by repeat (first | exact List.Mem.head _ | apply List.Mem.tail)) rfl (by first | rfl | assumption) ?_ | refine wp_load_row' rfl (ev_eq rfl) hS (by repeat (first | exact List.Mem.head _ | apply List.Mem.tail)) rfl (by first | assumption | rfl) ?_ | refine wp_load_sub rfl (ev_eq rfl) hS (by repeat (first | exact List.Mem.head _ | apply List.Mem.tail)) rfl rfl (by first | assumption | exact of_decide_eq_true rfl | (simp; omega)) (by assumption) ?_ | refine wp_load_at rfl (ev_eq rfl) rfl (by assumption) (by first | assumption | rfl) ?_ | refine wp_load_cell rfl (ev_eq rfl) rfl (by assumption) ?_); refine hK _ _ ?_; clear hK K))
  have hcon : (Calls Tryd.prog 36 #[.agg #[.int .i64 3, .int .i64 0, .string ⟨#[]⟩, .slice A n c]] W fun e w' => e = .returned (.int .i64 0) ∧ Below W.heap.size W w') := fcheck_any fl A n c W (hr.below hS.below) (by omega) hc
  refine hcon.mono ?_
  clear hcon
  rintro e w' ⟨rfl, hB⟩
  replace hS := hS.step hB
  clear hB
  go_wp2_with (first
      | ((first | (with_reducible refine wpList_plain (o := ⟨some 1, .box _ _, _, _, _, _⟩) rfl fun K hK => ?_) | ((with_reducible refine BigFrame.wpList_want (o := ⟨some 1, .box _ _, _, _, _, _⟩) ?_ fun K hK => ?_); · rfl)); (first | refine wp_box_row rfl (ev_eq rfl) hS ?_ | refine wp_box_one rfl (ev_eq rfl) rfl hS ?_); clear hS; intro k1 W hS hBw hk0; clear hBw hk0; refine hK _ _ ?_; clear hK K)
      | ((first | (with_reducible refine wpList_plain (o := ⟨_, .load _ _, _, _, _, _⟩) rfl fun K hK => ?_) | ((with_reducible refine BigFrame.wpList_want (o := ⟨_, .load _ _, _, _, _, _⟩) ?_ fun K hK => ?_); · rfl)); (first | refine wp_load_one rfl (ev_eq rfl) hS (by repeat (first | exact List.Mem.head _ | apply List.Mem.tail)) rfl (by first | rfl | assumption) ?_ | refine wp_load_row' rfl (ev_eq rfl) hS (by repeat (first | exact List.Mem.head _ | apply List.Mem.tail)) rfl (by first | assumption | rfl) ?_ | refine wp_load_sub rfl (ev_eq rfl) hS (by repeat (first | exact List.Mem.head _ | apply List.Mem.tail)) rfl rfl (by first | assumption | exact of_decide_eq_true rfl | (simp; omega)) (by assumption) ?_ | refine wp_load_at rfl (ev_eq rfl) rfl (by assumption) (by first | assumption | rfl) ?_ | refine wp_load_cell rfl (ev_eq rfl) rfl (by assumption) ?_); refine hK _ _ ?_; clear hK K))
  refine wp_region_tail 8 (by kernel_rfl) (by kernel_rfl) (by kernel_rfl) (fun i v Y => match i with | 0 => NW w (fun _ b1 => .pointer (some ⟨b1, 0, none⟩)) v Y | 1 => v = .pointer (some ⟨k1, 0, none⟩) | 2 => v = .int .i64 3 | 3 => NW w (fun _ b1 => .pointer (some ⟨b1, 0, none⟩)) v Y | 4 => NW w (fun _ b1 => .pointer (some ⟨b1, 3, none⟩)) v Y | 5 => NW w (fun _ b1 => .pointer (some ⟨b1, 3, none⟩)) v Y | 6 => NW w (fun b0 _ => .func (.func 52) #[] #[.pointer (some ⟨b0, 0, none⟩)]) v Y | 7 => v = .agg #[.int .i64 3, .int .i64 0, .string ⟨#[]⟩, .slice A n c] | _ => True)
    (fun Z => Below w'.heap.size w' Z) (fun Z Z' => Below Z.heap.size Z Z') ?_ (Below.refl _ _).drew ?_ ?_
  · intro i v Z Z' hb hv
    match i with
    | 0 =>
      exact hv.step hb
    | 3 =>
      exact hv.step hb
    | 4 =>
      exact hv.step hb
    | 5 =>
      exact hv.step hb
    | 6 =>
      exact hv.step hb
    | 1 | 2 | 7 | _ + 8 => exact hv
  · refine ⟨?_, ?_, ?_, ?_, ?_, ?_, ?_, ?_, trivial⟩
    all_goals refine opOb_plain rfl fun b' W' K hf hd hF hK => ?_
    all_goals have hS := hS.step hF
    · refine wp_callF (vs := #[]) rfl rfl (by simp) (Tryd.call37 _ _) (R := fun v W2 => NW W' (fun _ b1 => .pointer (some ⟨b1, 0, none⟩)) v W2 ∧ Below W'.heap.size W' W2) ((newWriter_any W').mono fun e W2 h => by obtain ⟨v, h1, h2, h3⟩ := h; exact ⟨v, h1, h2, h3⟩) ?_
      rintro v W2 ⟨hn2, hb2⟩
      exact hK _ _ (fun _ => by obtain ⟨b0, b1, g1, g2, g3, g4, g5⟩ := hn2; exact ⟨b0, b1, g1, g2, Nat.le_trans hS.below.size g3, Nat.le_trans hS.below.size g4, g5⟩) (hF.trans (hb2.mono hF.size)) hb2
    · have e1 := (hf 1 rfl).trans (ev_eq rfl)
      exact wp_fieldAddr rfl e1 rfl (hK _ _ (fun _ => rfl) hF (Below.refl _ _))
    · have e11 : b'.eval (.tmp 11) = .pointer (some ⟨k1, 0, none⟩) := hd ⟨1, .data⟩ (by simp) rfl 11 rfl
      first | exact wp_load_one rfl e11 hS (by repeat (first | exact List.Mem.head _ | apply List.Mem.tail)) rfl (by first | rfl | assumption) (hK _ _ (fun _ => rfl) hF (Below.refl _ _)) | exact wp_load_row' rfl e11 hS (by repeat (first | exact List.Mem.head _ | apply List.Mem.tail)) rfl (by first | assumption | rfl) (hK _ _ (fun _ => rfl) hF (Below.refl _ _)) | exact wp_load_sub rfl e11 hS (by repeat (first | exact List.Mem.head _ | apply List.Mem.tail)) rfl rfl (by first | assumption | exact of_decide_eq_true rfl | (simp; omega)) (by assumption) (hK _ _ (fun _ => rfl) hF (Below.refl _ _)) | exact wp_load_cell rfl e11 rfl (by assumption) (hK _ _ (fun _ => rfl) hF (Below.refl _ _))
    · have s10 := hd ⟨0, .data⟩ (by simp) rfl 10 rfl
      obtain ⟨b0, b1, g1, g2⟩ := s10
      exact wp_nil rfl g1 (hK _ _ (fun _ => ⟨b0, b1, rfl, g2⟩) hF (Below.refl _ _))
    · have s13 := hd ⟨3, .data⟩ (by simp) rfl 13 rfl
      have e12 : b'.eval (.tmp 12) = .int .i64 3 := hd ⟨2, .data⟩ (by simp) rfl 12 rfl
      obtain ⟨b0, b1, g1, g2⟩ := s13
      exact wp_indexAddr_arr rfl g1 e12 rfl (by omega) (by omega) rfl (by rfl) (hK _ _ (fun _ => ⟨b0, b1, rfl, g2⟩) hF (Below.refl _ _))
    · have s14 := hd ⟨4, .data⟩ (by simp) rfl 14 rfl
      obtain ⟨b0, b1, g1, g2⟩ := s14
      exact wp_fieldAddr rfl g1 rfl (hK _ _ (fun _ => ⟨b0, b1, rfl, g2⟩) hF (Below.refl _ _))
    · have s15 := hd ⟨5, .data⟩ (by simp) rfl 15 rfl
      obtain ⟨b0, b1, g1, g2⟩ := s15
      exact wp_load_cell rfl g1 rfl (by rw [cell_of_row _ _ _ _ _ (0, 0) g2.2.2.2.2]; rfl) (hK _ _ (fun _ => ⟨b0, b1, rfl, g2⟩) hF (Below.refl _ _))
    have e1 := (hf 1 rfl).trans (ev_eq rfl)
    first | exact wp_load_one rfl e1 hS (by repeat (first | exact List.Mem.head _ | apply List.Mem.tail)) rfl (by first | rfl | assumption) (hK _ _ (fun _ => rfl) hF (Below.refl _ _)) | exact wp_load_row' rfl e1 hS (by repeat (first | exact List.Mem.head _ | apply List.Mem.tail)) rfl (by first | assumption | rfl) (hK _ _ (fun _ => rfl) hF (Below.refl _ _)) | exact wp_load_sub rfl e1 hS (by repeat (first | exact List.Mem.head _ | apply List.Mem.tail)) rfl rfl (by first | assumption | exact of_decide_eq_true rfl | (simp; omega)) (by assumption) (hK _ _ (fun _ => rfl) hF (Below.refl _ _)) | exact wp_load_cell rfl e1 rfl (by assumption) (hK _ _ (fun _ => rfl) hF (Below.refl _ _))
  intro vs W3 hv hF
  have hSb := hS
  replace hS := hS.step hF
  obtain ⟨b0, b1, va, hne, hb0, hb1, hc0, hc1⟩ := hv 6 16 rfl
  have vb : vs 7 = .agg #[.int .i64 3, .int .i64 0, .string ⟨#[]⟩, .slice A n c] := hv 7 17 rfl
  clear hF hv
  simp only [putAll, Nat.reduceAdd, List.take_succ_cons, List.take_zero, List.drop_succ_cons, List.drop_zero, List.setIfInBounds_toArray, List.set_cons_zero, List.set_cons_succ, va, vb]
  clear va vb
  go_wp2_with (first
    | ((first | (with_reducible refine wpList_plain (o := ⟨some 1, .box _ _, _, _, _, _⟩) rfl fun K hK => ?_) | ((with_reducible refine BigFrame.wpList_want (o := ⟨some 1, .box _ _, _, _, _, _⟩) ?_ fun K hK => ?_); · rfl)); (first | refine wp_box_row rfl (ev_eq rfl) hS ?_ | refine wp_box_one rfl (ev_eq rfl) rfl hS ?_); clear hS; intro k1 W hS hBw hk0; clear hBw hk0; refine hK _ _ ?_; clear hK K)
    | ((first | (with_reducible refine wpList_plain (o := ⟨_, .load _ _, _, _, _, _⟩) rfl fun K hK => ?_) | ((with_reducible refine BigFrame.wpList_want (o := ⟨_, .load _ _, _, _, _, _⟩) ?_ fun K hK => ?_); · rfl)); (first | refine wp_load_one rfl (ev_eq rfl) hS (by repeat (first | exact List.Mem.head _ | apply List.Mem.tail)) rfl (by first | rfl | assumption) ?_ | refine wp_load_row' rfl (ev_eq rfl) hS (by repeat (first | exact List.Mem.head _ | apply List.Mem.tail)) rfl (by first | assumption | rfl) ?_ | refine wp_load_sub rfl (ev_eq rfl) hS (by repeat (first | exact List.Mem.head _ | apply List.Mem.tail)) rfl rfl (by first | assumption | exact of_decide_eq_true rfl | (simp; omega)) (by assumption) ?_ | refine wp_load_at rfl (ev_eq rfl) rfl (by assumption) (by first | assumption | rfl) ?_ | refine wp_load_cell rfl (ev_eq rfl) rfl (by assumption) ?_); refine hK _ _ ?_; clear hK K))
  have hcon := write_any fl A n c b0 b1 W3 (fun W' h => hr.same0 ⟨Nat.le_trans hS.below.size h.size, fun k hk _ => (h.block k (by have := hS.below.size; omega) (by simp; omega)).trans (hS.below.block k hk)⟩) hn hc hfit hne hc0 hc1
  refine hcon.mono ?_
  clear hcon
  rintro e w4 ⟨h', b', tl', rfl, o1, o2, o3, hsm, hrow, hb'⟩
  have hbw := hS.below
  have hbel : Below w.heap.size w w4 := ⟨o1.trans hbw.os, o2.trans hbw.tape, o3.trans hbw.output, Nat.le_trans hbw.size hsm.size, fun k hk => (hsm.block k (by have := hbw.size; omega) (by simp; omega)).trans (hbw.block k hk)⟩
  have hret := SX.SlRet.at_ (w := w) hrow (by have := hbw.size; rcases hb' with hb' | hb'; (simp at hb'; omega); omega)
  clear hS hSb hsm hrow hb' o1 o2 o3 hbw
  have hS := St.start w4
  go_wp2_with (first
    | ((first | (with_reducible refine wpList_plain (o := ⟨some 1, .box _ _, _, _, _, _⟩) rfl fun K hK => ?_) | ((with_reducible refine BigFrame.wpList_want (o := ⟨some 1, .box _ _, _, _, _, _⟩) ?_ fun K hK => ?_); · rfl)); (first | refine wp_box_row rfl (ev_eq rfl) hS ?_ | refine wp_box_one rfl (ev_eq rfl) rfl hS ?_); clear hS; intro k1 W hS hBw hk0; clear hBw hk0; refine hK _ _ ?_; clear hK K)
    | ((first | (with_reducible refine wpList_plain (o := ⟨_, .load _ _, _, _, _, _⟩) rfl fun K hK => ?_) | ((with_reducible refine BigFrame.wpList_want (o := ⟨_, .load _ _, _, _, _, _⟩) ?_ fun K hK => ?_); · rfl)); (first | refine wp_load_one rfl (ev_eq rfl) hS (by repeat (first | exact List.Mem.head _ | apply List.Mem.tail)) rfl (by first | rfl | assumption) ?_ | refine wp_load_row' rfl (ev_eq rfl) hS (by repeat (first | exact List.Mem.head _ | apply List.Mem.tail)) rfl (by first | assumption | rfl) ?_ | refine wp_load_sub rfl (ev_eq rfl) hS (by repeat (first | exact List.Mem.head _ | apply List.Mem.tail)) rfl rfl (by first | assumption | exact of_decide_eq_true rfl | (simp; omega)) (by assumption) ?_ | refine wp_load_at rfl (ev_eq rfl) rfl (by assumption) (by first | assumption | rfl) ?_ | refine wp_load_cell rfl (ev_eq rfl) rfl (by assumption) ?_); refine hK _ _ ?_; clear hK K))
  refine bodyPost_ret (results_2 rfl rfl rfl) rfl ⟨hbel, h', rfl, hret⟩
theorem SX.SlRet.ok0 {C : SX.Cx} {f : FuncId} {as' : List SX.Arg} {W W' : World} {e : Ending} {k : Int} {cells : List Value} {sz : Nat} (hs : C.sh f = .tp [.sl sz, .one]) (h : Below W.heap.size W W' ∧ ∃ hdr, e = .returned (.tuple #[hdr, .int .i64 k]) ∧ SX.SlRet W W' [] hdr sz cells) :
    Below W.heap.size W W' ∧ ∃ hdr, e = .returned ((C.sh f).fill hdr (.tuple #[.agg cells.toArray, .int .i64 k])) ∧ ∀ p z, (p, z) ∈ (C.sh f).sls [] → SX.HdrOk C f as' W W' hdr z (SX.cellsV (p.foldl SX.comp (.tuple #[.agg cells.toArray, .int .i64 k]))) := by
  obtain ⟨hb, hdr, he, h1, h2, h3⟩ := h
  refine ⟨hb, hdr, by rw [hs, he]; rfl, fun p z hp => ?_⟩
  rw [hs] at hp
  obtain ⟨rfl, rfl⟩ : p = [0] ∧ z = sz := by simpa [SX.Sh.sls, SX.Sh.slsL] using hp
  refine ⟨h1, h2, .inl (h3.resolve_right ?_)⟩
  rintro ⟨y, hy, _⟩
  cases hy
theorem SX.SlRet.ok1 {C : SX.Cx} {f : FuncId} {as' : List SX.Arg} {W W' : World} {e : Ending} {cells : List Value} {sz : Nat} (hs : C.sh f = .sl sz) (h : Below W.heap.size W W' ∧ ∃ hdr, e = .returned hdr ∧ SX.SlRet W W' [] hdr sz cells) :
    Below W.heap.size W W' ∧ ∃ hdr, e = .returned ((C.sh f).fill hdr (.agg cells.toArray)) ∧ ∀ p z, (p, z) ∈ (C.sh f).sls [] → SX.HdrOk C f as' W W' hdr z (SX.cellsV (p.foldl SX.comp (.agg cells.toArray))) := by
  obtain ⟨hb, hdr, he, h1, h2, h3⟩ := h
  refine ⟨hb, hdr, by rw [hs, he]; rfl, fun p z hp => ?_⟩
  rw [hs] at hp
  obtain ⟨rfl, rfl⟩ : p = [] ∧ z = sz := by simpa [SX.Sh.sls] using hp
  refine ⟨h1, h2, .inl (h3.resolve_right ?_)⟩
  rintro ⟨y, hy, _⟩
  cases hy
theorem SX.SlRet.ext0 {w W : World} {hp : List (Option SX.Blk)} {ps : List (World → Prop)} {ρ : List Value} {α : Nat → SX.AV} {sz : Nat} {C : SX.Cx} (hS : St ⟨w, [], SX.Af C, SX.Bf C⟩ (SX.chs ρ α 0 hp) [] (SX.exs ⟨w, [], SX.Af C, SX.Bf C⟩ ρ α 0 hp ++ ps) W) {n : Nat} {b : SX.Blk} (hb : hp[n]? = some (some b)) (hk : b.k = .ext sz) (hr : b.rowOk ρ α n) {cells : List Value} (hc : b.xs ρ α = cells) (hA : ∀ W2, SX.Af C W2) (hB : ∀ B, SX.Bf C B) : SX.SlRet w W [] ((α n).h) sz cells := by
  obtain ⟨h1, h2, h3⟩ := SX.SlRet.ext hS hb hk hr hc (roots := [⟨.slice none 0 0, 0, []⟩]) (x := ⟨.slice none 0 0, 0, []⟩) (by simp) (fun W2 _ => hA W2) (fun B _ => hB B)
  refine ⟨h1, h2, .inl ?_⟩
  rcases h3 with h3 | ⟨x, hx, _, h4⟩
  · exact h3
  obtain rfl : x = ⟨.slice none 0 0, 0, []⟩ := by simpa using hx
  exact h4 _ (fun ad n c e _ => by cases e)
inductive Anyv where
  | n (k : Int)
  | s (A : Option Addr) (n c : Nat) (tx : ByteArray)
def cellsAn : Anyv → List Value
  | .n k => [.iface 3 (.int .i64 k)]
  | .s A n c _ => [.iface 22 (.slice A n c)]
def flOf : Anyv → Fl
  | .n k => .n k
  | .s _ _ _ tx => .s tx
theorem cellsAn_len (z : Anyv) : (cellsAn z).length = 1 := by cases z <;> rfl
def anL (l : List Anyv) : List Value := l.flatMap cellsAn
theorem anL_len (l : List Anyv) : (anL l).length = l.length := by have := SX.flat_len (f := cellsAn) cellsAn_len l; rw [Nat.mul_one] at this; exact this
theorem sb_l (tx : ByteArray) : (tx.data.toList.map fun b => Value.int .u8 (b.toNat : Int)) = (sb tx).flatMap c8 := sb_cells tx
def RS1 (K : Value → Nat → List Value → Prop) (f : FuncId) (xs : List SX.Arg) (v : Value) : Prop := f = 15 ∧ ∃ (hdr : Value) (fl : List Fl), xs = [⟨.agg #[.int .i64 3, .int .i64 0, .string ⟨#[]⟩, hdr], 0, []⟩] ∧ K hdr 4 (flL fl) ∧ fl.length ≤ 1048576 ∧ (∀ z ∈ fl, z.fits) ∧ v = .tuple #[.agg ((encL fl).flatMap c8).toArray, .int .i64 0]
def shpS1 : FuncId → Option SX.Sh := fun f => if f = 15 then some (.tp [.sl 1, .one]) else none
noncomputable def cxS1 (K A : Value → Nat → List Value → Prop) : SX.Cx := { P := Tryd.prog, R := RS1, shp := shpS1, K := K, A := A, trm := true }
theorem encode_calls {K : Value → Nat → List Value → Prop} {xs : List SX.Arg} {v : Value} {W : World} {hdr : Value} {fl : List Fl} (hx : xs = [⟨.agg #[.int .i64 3, .int .i64 0, .string ⟨#[]⟩, hdr], 0, []⟩]) (hk : SX.Arg.rd W ⟨hdr, 4, flL fl⟩) (hl : fl.length ≤ 1048576) (hf : ∀ z ∈ fl, z.fits) :
    Calls Tryd.prog 15 (xs.map SX.Arg.v).toArray W fun e w' => Below W.heap.size W w' ∧ ∃ hdr, e = .returned (.tuple #[hdr, .int .i64 0]) ∧ SX.SlRet W w' [] hdr 1 ((encL fl).flatMap c8) := by
  subst hx
  obtain ⟨A, n, c, rfl, h2, h3, h4⟩ := fl_arg hk
  exact encode_any fl A n c W h2 (by omega) h3 hf
theorem okS1 (K A : Value → Nat → List Value → Prop) : (cxS1 K A).Ok := by
  refine SX.Cx.ok_of (fun _ => rfl) ?_
  intro K f xs v W hR hrd hKf
  obtain ⟨rfl, hdr, fl, hx, hk, hl, hf, rfl⟩ := hR
  exact Calls.mono (encode_calls (K := K) (v := undef) hx (hKf _ _ _ hk) hl hf) fun e w' h => SX.SlRet.ok0 rfl h
def args_slist : List SX.V := [.x 0 []]
def tree_slist : SX.Tree :=
(.df (.len false) [(.q 0)] .one
(.loop [(.i 0), (.cat [])] [.one, .any]
(.df (.bin .lss 3) [(.q 2), (.q 1)] .one
(.br 4 []
(.df .bnd [(.q 0), (.q 2)] .one
(.df (.elem 1 0) [(.q 0), (.q 2)] .one
(.df (.tya 3) [(.q 6)] (.tp [.one, .one])
(.br 7 [1]
(.df (.app 4 56 (.own 4 [(.i 1), (.x 7 [0]), (.k (.string ⟨#[]⟩)), (.k (.slice none 0 0))])) [(.cat [(.q 3)]), (.sl 4 0 1 1)] .any
(.df (.bin .add 3) [(.q 2), (.i 1)] .one
(.again 0 [(.q 9), (.cat [(.q 3), (.q 8)])])))
(.df (.tya 22) [(.q 6)] (.tp [.one, .one])
(.br 8 [1]
(.df .b2sx [(.x 8 [0])] .one
(.df (.app 4 56 (.own 4 [(.i 2), (.i 0), (.q 9), (.k (.slice none 0 0))])) [(.cat [(.q 3)]), (.sl 4 0 1 1)] .any
(.df (.bin .add 3) [(.q 2), (.i 1)] .one
(.again 0 [(.q 11), (.cat [(.q 3), (.q 10)])]))))
(.df (.bin .add 3) [(.q 2), (.i 1)] .one
(.again 0 [(.q 9), (.cat [(.q 3)])]))))))))
(.df (.callg 15 [.no] [(.row 4 [(.q 3)])]) [(.a [(.i 3), (.i 0), (.k (.string ⟨#[]⟩)), (.row 3)]), (.row 3)] (.tp [(.sl 1), .one])
(.ret (.row 4) [none, none, none, none, (some ⟨[(.x 5 [0])], 0, (.ext 1)⟩)] []))))))
set_option maxRecDepth 100000 in
theorem run_slist (K A : Value → Nat → List Value → Prop) : (SX.run (cxS1 K A) ⟨fun f => true, [⟨19, 3, [(.s 13, .one), (.c 0 3, .row 4 41)]⟩], 2, 100⟩ 100000 0 (SX.door 19 Tryd.f19 args_slist [.one]) [.code (Tryd.f19.body.getD .skip), .top Tryd.f19]).strip = tree_slist := by kernel_rfl
def KSl (A : Option Addr) (n c : Nat) (fs : List Anyv) (s : Value) (sz : Nat) (cells : List Value) : Prop := (s = .slice A n c ∧ sz = 1 ∧ cells = anL fs) ∨ ∃ B m d tx, Anyv.s B m d tx ∈ fs ∧ s = .slice B m d ∧ sz = 1 ∧ cells = (sb tx).flatMap c8
theorem enc_fit (l : List W8) (k : Int) : SX.Sh.fit (.tp [.sl 1, .one]) (.tuple #[.agg (l.flatMap c8).toArray, .int .i64 k]) = true := by
  have h2 : (l.flatMap c8).all (·.oneCell') = true := by
    rw [List.all_eq_true]
    intro u hu
    obtain ⟨a, _, h⟩ := List.mem_flatMap.1 hu
    exact c8o a u h
  have h1 : (l.flatMap c8).length % 1 = 0 := Nat.mod_one _
  simp only [SX.Sh.fit, SX.Sh.fitL, h1, h2]
  rfl
set_option maxRecDepth 100000 in
set_option maxHeartbeats 4000000 in
theorem slist_any (fs : List Anyv) (A : Option Addr) (n c : Nat) (w : World) (hr : Rd w 1 A n (anL fs)) (hn : n ≤ 1048576) (hc : n ≤ c) (htx : ∀ B m d tx, Anyv.s B m d tx ∈ fs → Rd w 1 B m ((sb tx).flatMap c8) ∧ m ≤ d) (hfit : ∀ z ∈ fs, (flOf z).fits) :
    Calls Tryd.prog 19 #[.slice A n c] w fun e w' => Below w.heap.size w w' ∧ ∃ hdr, e = .returned hdr ∧ SX.SlRet w w' [] hdr 1 ((encL (fs.map flOf)).flatMap c8) := by
  refine SX.calls_of_run (C := cxS1 (KSl A n c fs) (fun _ _ _ => False)) (G := ⟨fun f => true, [⟨19, 3, [(.s 13, .one), (.c 0 3, .row 4 41)]⟩], 2, 100⟩) (args := args_slist) (sh := [.one]) (ρ := [.slice A n c]) 100000 tree_slist (okS1 _ _) Tryd.func19 rfl (run_slist _ _) (by kernel_rfl) (by kernel_rfl) (by kernel_rfl) ?_ ?_
  · rintro W hW s sz cells (⟨rfl, rfl, rfl⟩ | ⟨B, m, d, tx, hm, rfl, rfl, rfl⟩)
    · exact ⟨hr.same0 hW, hc⟩
    exact ⟨(htx B m d tx hm).1.same0 hW, (htx B m d tx hm).2⟩
  have hA := SX.rd_some hr
  have hln : fs.length = n := by have := hr.1; rw [anL_len] at this; omega
  have k1 : KSl A n c fs (.slice A n c) 1 (anL fs) := .inl ⟨rfl, rfl, rfl⟩
  unfold tree_slist
  refine SX.D (.int .i64 (n : Int)) ?_
  refine SX.VC_loop (fun xs => ∃ (i : Nat), xs = [.int .i64 (i : Int), .agg (flL ((fs.take i).map flOf)).toArray] ∧ i ≤ n) (fun xs => match xs with | .int _ i :: _ => n - i.toNat | _ => 0) (fun α => ⟨0, Eq.trans (b := [.int .i64 0, .agg #[]]) (by kernel_rfl) (by simp [flL]), by omega⟩) ?_
  rintro xs - ⟨i, rfl, hin⟩
  have hml : ((fs.take i).map flOf).length ≤ n := by rw [List.length_map, List.length_take]; omega
  refine SX.D (.bool (decide ((i : Int) < (n : Int)))) ?_
  refine SX.B (decide ((i : Int) < (n : Int))) (fun h4 => ?_) (fun h4 => ?_)
  · have h4 : i < n := by have := of_decide_eq_true h4; omega
    obtain ⟨z, hz⟩ : ∃ z, fs[i]? = some z := ⟨_, List.getElem?_eq_getElem (by omega)⟩
    have hzm := List.mem_of_getElem? hz
    have htk : flL ((fs.take (i + 1)).map flOf) = flL ((fs.take i).map flOf) ++ cellsFl (flOf z) := by rw [List.take_add_one, hz]; simp [flL]
    refine SX.E (.bool true) (fun α => SX.extBnd (A := A) (n := n) (c := c) (j := i) hA (by kernel_rfl) (by kernel_rfl) h4) ?_
    cases z with
    | n k =>
      refine SX.E (.iface 3 (.int .i64 k)) (fun α => SX.extElem (o := 0) (v := .iface 3 (.int .i64 k)) (f := cellsAn) (l := fs) (A := A) (n := n) (c := c) (j := i) (z := .n k) cellsAn_len hA (by kernel_rfl) (by kernel_rfl) h4 k1 hz (by decide) rfl) ?_
      refine SX.E (.tuple #[.int .i64 k, .bool true]) (fun α => ⟨3, .int .i64 k, .int .i64 0, by kernel_rfl, by kernel_rfl, rfl⟩) ?_
      refine SX.B true (fun _ => ?_) (fun h => nomatch h)
      refine SX.E (Value.agg (([Fl.n k]).flatMap cellsFl).toArray) (fun α => SX.app_rel (f := cellsFl) (l1 := (fs.take i).map flOf) (l2 := [Fl.n k]) cellsFl_len cellsFl_one (by decide) (SX.cat1 (by kernel_rfl)) (SX.src_own (by kernel_rfl)) (by simp only [LL]; omega) (by simp only [LL]; omega)) ?_
      refine SX.E (.int .i64 ((i + 1 : Nat) : Int)) (fun α => SX.W1 i) ?_
      exact SX.VC_again fun α => ⟨⟨i + 1, Eq.trans (b := [.int .i64 ((i + 1 : Nat) : Int), .agg ([Value.agg (flL ((fs.take i).map flOf)).toArray, Value.agg (([Fl.n k]).flatMap cellsFl).toArray].flatMap SX.cellsV).toArray]) (by kernel_rfl) (by rw [htk]; simp [SX.cellsV, flOf]), by omega⟩, cast (by kernel_rfl) (show n - ((i + 1 : Nat) : Int).toNat < n - (i : Int).toNat by omega)⟩
    | s B m d tx =>
      refine SX.E (.iface 22 (.slice B m d)) (fun α => SX.extElem (o := 0) (v := .iface 22 (.slice B m d)) (f := cellsAn) (l := fs) (A := A) (n := n) (c := c) (j := i) (z := .s B m d tx) cellsAn_len hA (by kernel_rfl) (by kernel_rfl) h4 k1 hz (by decide) rfl) ?_
      refine SX.E (.tuple #[.int .i64 0, .bool false]) (fun α => ⟨22, .slice B m d, .int .i64 0, by kernel_rfl, by kernel_rfl, rfl⟩) ?_
      refine SX.B false (fun h => nomatch h) (fun _ => ?_)
      refine SX.E (.tuple #[.slice B m d, .bool true]) (fun α => ⟨22, .slice B m d, .slice none 0 0, by kernel_rfl, by kernel_rfl, rfl⟩) ?_
      refine SX.B true (fun _ => ?_) (fun h => nomatch h)
      refine SX.E (.string tx) (fun α => ⟨tx.data.toList, B, m, d, cast (by kernel_rfl) (show KSl A n c fs (.slice B m d) 1 (tx.data.toList.map fun b => Value.int .u8 (b.toNat : Int)) from by rw [sb_l]; exact .inr ⟨B, m, d, tx, hzm, rfl, rfl, rfl⟩), by kernel_rfl, by simp⟩) ?_
      refine SX.E (Value.agg (([Fl.s tx]).flatMap cellsFl).toArray) (fun α => SX.app_rel (f := cellsFl) (l1 := (fs.take i).map flOf) (l2 := [Fl.s tx]) cellsFl_len cellsFl_one (by decide) (SX.cat1 (by kernel_rfl)) (SX.src_own (by kernel_rfl)) (by simp only [LL]; omega) (by simp only [LL]; omega)) ?_
      refine SX.E (.int .i64 ((i + 1 : Nat) : Int)) (fun α => SX.W1 i) ?_
      exact SX.VC_again fun α => ⟨⟨i + 1, Eq.trans (b := [.int .i64 ((i + 1 : Nat) : Int), .agg ([Value.agg (flL ((fs.take i).map flOf)).toArray, Value.agg (([Fl.s tx]).flatMap cellsFl).toArray].flatMap SX.cellsV).toArray]) (by kernel_rfl) (by rw [htk]; simp [SX.cellsV, flOf]), by omega⟩, cast (by kernel_rfl) (show n - ((i + 1 : Nat) : Int).toNat < n - (i : Int).toNat by omega)⟩
  have h4 : i = n := by have := of_decide_eq_false h4; omega
  have htk : fs.take i = fs := List.take_of_length_le (by omega)
  rw [htk] at hml
  refine SX.VC_df (.tuple #[.agg ((encL (fs.map flOf)).flatMap c8).toArray, .int .i64 0]) (fun α => ⟨[⟨.agg #[.int .i64 3, .int .i64 0, .string ⟨#[]⟩, (α 3).h], 0, []⟩], [⟨(α 3).h, 4, flL (fs.map flOf)⟩], ⟨by kernel_rfl, by kernel_rfl, trivial⟩, ⟨Eq.trans (b := (⟨(α 3).h, 4, [Value.agg (flL ((fs.take i).map flOf)).toArray].flatMap SX.cellsV⟩ : SX.Arg)) (by rw [htk]; simp [SX.cellsV]) (by kernel_rfl), trivial⟩, ⟨rfl, (α 3).h, fs.map flOf, rfl, .inr (by simp), by omega, fun z hz => by obtain ⟨y, hy, rfl⟩ := List.mem_map.1 hz; exact hfit y hy, rfl⟩, SX.noAli rfl⟩) (enc_fit _ _) ?_
  exact SX.VC_ret fun α W _ hR hS => ⟨hS.below, (α 4).h, by kernel_rfl, SX.SlRet.ext0 hS (n := 4) (b := (⟨[(.x 5 [0])], 0, (.ext 1)⟩ : SX.Blk)) (by kernel_rfl) rfl (hR 4 _ (by kernel_rfl)) (Eq.trans (b := [Value.agg ((encL (fs.map flOf)).flatMap c8).toArray].flatMap SX.cellsV) (by kernel_rfl) (by simp [SX.cellsV])) (fun W2 s z xs hk => nomatch hk) (fun B s z xs hk => nomatch hk)⟩
def TagR (K : Value → Nat → List Value → Prop) (f : FuncId) (xs : List SX.Arg) (v : Value) : Prop := f = 38 ∧ LaidK K ∧ ∃ (s : ByteArray) (u : Value) (l : List W8), xs = [⟨.string s, 0, []⟩, ⟨u, 1, l.flatMap c8⟩] ∧ s.size < 2 ^ 60 ∧ l.length < 2 ^ 44 ∧ v = .agg ((tagE (sb s) l).flatMap c8).toArray
theorem tagR_calls {K : Value → Nat → List Value → Prop} {f : FuncId} {xs : List SX.Arg} {v : Value} {W : World} (h : TagR K f xs v) (hrd : ∀ x ∈ xs, x.rd W) (hK : ∀ s sz cells, K s sz cells → SX.Arg.rd W ⟨s, sz, cells⟩) : Calls Tryd.prog f (xs.map SX.Arg.v).toArray W fun e w' => e = .returned v ∧ Below W.heap.size W w' := by
  obtain ⟨rfl, hL, s, u, l, rfl, h60, h44, rfl⟩ := h
  obtain ⟨A, n, c, rfl, hr, hc, hn⟩ := byte_arg (hrd ⟨u, 1, l.flatMap c8⟩ (by simp))
  exact tagged_any s l h60 h44 A n c W hr hc (laid_of hL hK)
def hashN (d : List W8) : Nat := (((((((((d.getD 0 0).toNat % 128) * 256 + (d.getD 1 0).toNat) * 256 + (d.getD 2 0).toNat) * 256 + (d.getD 3 0).toNat) * 256 + (d.getD 4 0).toNat) * 256 + (d.getD 5 0).toNat) * 256 + (d.getD 6 0).toNat) * 256 + (d.getD 7 0).toNat) % 1073741789
theorem wrap_b64 (n : Nat) (h : n < 2 ^ 63) : IntKind.i64.wrap (n : Int) = (n : Int) := wrap_i64 (by omega) (by omega)
theorem or_nat (n d : Nat) (h : n * 256 + d < 2 ^ 63) (hd : d < 256) : SX.binV .or (.int .i64 ((n * 256 : Nat) : Int)) (.int .i64 (d : Int)) = some (.int .i64 ((n * 256 + d : Nat) : Int)) := by
  simp only [SX.binV, if_true]
  show some (Value.int .i64 (IntKind.i64.wrap ((BitVec.ofInt 64 ((n * 256 : Nat) : Int) ||| BitVec.ofInt 64 (d : Int) : BitVec 64).toNat : Int))) = _
  have e : ∀ m : Nat, (BitVec.ofInt 64 (m : Int)) = BitVec.ofNat 64 m := fun m => by apply BitVec.eq_of_toNat_eq; simp
  have m1 : n * 256 % 2 ^ 64 = n * 256 := by omega
  have m2 : d % 2 ^ 64 = d := by omega
  rw [e, e, BitVec.toNat_or, BitVec.toNat_ofNat, BitVec.toNat_ofNat, m1, m2]
  have e2 : n * 256 ||| d = n * 256 + d := by
    rw [show n * 256 = n <<< 8 by rw [Nat.shiftLeft_eq], Nat.shiftLeft_add_eq_or_of_lt (show d < 2 ^ 8 by omega)]
  rw [e2, wrap_b64 _ h]
theorem or_zero (d : Nat) (h : d < 2 ^ 63) : SX.binV .or (.int .i64 0) (.int .i64 (d : Int)) = some (.int .i64 (d : Int)) := by
  simp only [SX.binV, if_true]
  show some (Value.int .i64 (IntKind.i64.wrap ((BitVec.ofInt 64 0 ||| BitVec.ofInt 64 (d : Int) : BitVec 64).toNat : Int))) = _
  have e : (BitVec.ofInt 64 (d : Int)) = BitVec.ofNat 64 d := by apply BitVec.eq_of_toNat_eq; simp
  rw [e, show (BitVec.ofInt 64 0) = 0#64 from rfl, BitVec.zero_or, BitVec.toNat_ofNat, show d % 2 ^ 64 = d by omega, wrap_b64 _ h]
theorem shl8_nat (n : Nat) (h : n * 256 < 2 ^ 63) : SX.binV .shl (.int .i64 (n : Int)) (.int .u64 8) = some (.int .i64 ((n * 256 : Nat) : Int)) := by
  show some (Value.int .i64 (IntKind.i64.wrap ((n : Int) * 2 ^ 8))) = _
  rw [show ((n : Int) * 2 ^ 8) = ((n * 256 : Nat) : Int) by omega, wrap_b64 _ h]
theorem and127 (d : W8) : SX.binV .and (w8 d) (.int .u8 127) = some (w8 (BitVec.ofNat 8 (d.toNat % 128))) := by
  have h : (BitVec.ofInt 8 (d.toNat : Int)) = d := by apply BitVec.eq_of_toNat_eq; simp
  simp only [SX.binV, w8, if_true]
  show some (Value.int .u8 (IntKind.u8.wrap ((BitVec.ofInt 8 (d.toNat : Int) &&& BitVec.ofInt 8 127 : BitVec 8).toNat : Int))) = _
  rw [h, wrap_u8]
  have e : (d &&& BitVec.ofInt 8 127).toNat = d.toNat % 128 := by
    rw [BitVec.toNat_and, show (BitVec.ofInt 8 127).toNat = 2 ^ 7 - 1 from rfl, Nat.and_two_pow_sub_one_eq_mod]
  rw [e]
theorem conv_w8 (d : W8) : SX.convV .i64 (w8 d) = some (.int .i64 ((d.toNat : Nat) : Int)) := by
  simp only [SX.convV, w8]
  rw [wrap_b64 _ (by have := d.isLt; omega)]
theorem mul256 (n : Nat) (h : n * 256 < 2 ^ 63) : SX.binV .mul (.int .i64 (n : Int)) (.int .i64 256) = some (.int .i64 ((n * 256 : Nat) : Int)) := by
  simp only [SX.binV, binI, if_true]
  rw [show ((n : Int) * 256) = ((n * 256 : Nat) : Int) by omega, wrap_b64 _ h]
theorem remQ (a : Nat) : SX.binV .rem (.int .i64 (a : Int)) (.int .i64 1073741789) = some (.int .i64 ((a % 1073741789 : Nat) : Int)) := SX.rem_nat (b := 1073741789) (by omega)
theorem rem128 (a : Nat) : SX.binV .rem (.int .i64 (a : Int)) (.int .i64 128) = some (.int .i64 ((a % 128 : Nat) : Int)) := SX.rem_nat (b := 128) (by omega)
theorem ofNat128 (d : W8) : (BitVec.ofNat 8 (d.toNat % 128)).toNat = d.toNat % 128 := by
  rw [BitVec.toNat_ofNat]; omega
noncomputable def cxH (K A : Value → Nat → List Value → Prop) : SX.Cx := { P := Tryd.prog, R := TagR, shp := fun f => if f = 38 then some (.ag 32) else none, K := K, A := A, arr := true, trm := true }
theorem cxH_ok (K A : Value → Nat → List Value → Prop) : (cxH K A).Ok := SX.Cx.ok_of (fun _ => rfl) fun _ f xs v W h hrd hK => by
  have hf := h.1
  exact (tagR_calls h hrd hK).mono fun e w' h => SX.plainOk (by subst hf; rfl) h
def args_hash : List SX.V := [.x 0 [], .x 1 []]
def tree_hash : SX.Tree :=
(.df (.call 38 [.no, (.ext 1)]) [(.q 0), (.q 1)] (.ag 32)
(.df (.bin .and 5) [(.x 2 [0]), (.k (.int .u8 127))] .one
(.df (.conv .i64) [(.q 3)] .one
(.df (.bin .or 3) [(.i 0), (.q 4)] .one
(.df (.bin .shl 3) [(.q 5), (.k (.int .u64 8))] .one
(.df (.conv .i64) [(.x 2 [1])] .one
(.df (.bin .or 3) [(.q 6), (.q 7)] .one
(.df (.bin .shl 3) [(.q 8), (.k (.int .u64 8))] .one
(.df (.conv .i64) [(.x 2 [2])] .one
(.df (.bin .or 3) [(.q 9), (.q 10)] .one
(.df (.bin .shl 3) [(.q 11), (.k (.int .u64 8))] .one
(.df (.conv .i64) [(.x 2 [3])] .one
(.df (.bin .or 3) [(.q 12), (.q 13)] .one
(.df (.bin .shl 3) [(.q 14), (.k (.int .u64 8))] .one
(.df (.conv .i64) [(.x 2 [4])] .one
(.df (.bin .or 3) [(.q 15), (.q 16)] .one
(.df (.bin .shl 3) [(.q 17), (.k (.int .u64 8))] .one
(.df (.conv .i64) [(.x 2 [5])] .one
(.df (.bin .or 3) [(.q 18), (.q 19)] .one
(.df (.bin .shl 3) [(.q 20), (.k (.int .u64 8))] .one
(.df (.conv .i64) [(.x 2 [6])] .one
(.df (.bin .or 3) [(.q 21), (.q 22)] .one
(.df (.bin .shl 3) [(.q 23), (.k (.int .u64 8))] .one
(.df (.conv .i64) [(.x 2 [7])] .one
(.df (.bin .or 3) [(.q 24), (.q 25)] .one
(.df (.bin .rem 3) [(.q 26), (.i 1073741789)] .one
(.ret (.q 27) [] [])))))))))))))))))))))))))))
set_option maxRecDepth 100000 in
theorem run_hash (K A : Value → Nat → List Value → Prop) : (SX.run (cxH K A) ⟨fun _ => true, [], 0, 100⟩ 100000 0 (SX.door 16 Tryd.f16 args_hash [.one, .one]) [.code (Tryd.f16.body.getD .skip), .top Tryd.f16]).strip = tree_hash := by kernel_rfl
set_option maxRecDepth 100000 in
set_option maxHeartbeats 4000000 in
theorem hash_any (s : ByteArray) (l : List W8) (hs : s.size < 2 ^ 60) (hl : l.length < 2 ^ 44) (A : Option Addr) (n c : Nat) (w : World) (hr : Rd w 1 A n (l.flatMap c8)) (hc : n ≤ c) (hlaid : Laid w) : Calls Tryd.prog 16 #[.string s, .slice A n c] w fun e w' => e = .returned (.int .i64 (hashN (tagE (sb s) l) : Int)) ∧ Below w.heap.size w w' := by
  refine SX.calls_of_run (C := cxH (KS A n c l) (KS A n c l)) (G := ⟨fun _ => true, [], 0, 100⟩) (args := args_hash) (sh := [.one, .one]) (ρ := [.string s, .slice A n c]) 100000 tree_hash (cxH_ok _ _) Tryd.func16 rfl (cast (by kernel_rfl) (run_hash (KS A n c l) (KS A n c l))) (by kernel_rfl) (by kernel_rfl) (by kernel_rfl) ?_ ?_
  · rintro W hW v z xs (⟨rfl, rfl, rfl⟩ | ⟨rfl, rfl, rfl⟩ | ⟨rfl, rfl, rfl⟩)
    · exact ⟨hr.same0 hW, hc⟩
    · exact ⟨hlaid.1.same0 hW, Nat.le_refl _⟩
    exact ⟨hlaid.2.same0 hW, Nat.le_refl _⟩
  have hL : LaidK (KS A n c l) := ⟨.inr (.inl ⟨rfl, rfl, rfl⟩), .inr (.inr ⟨rfl, rfl, rfl⟩)⟩
  have hin : (KS A n c l) (.slice A n c) 1 (l.flatMap c8) := .inl ⟨rfl, rfl, rfl⟩
  unfold tree_hash
  obtain ⟨g, hg⟩ := listN (n := 32) (tagE (sb s) l) rfl
  refine SX.E (.agg (((List.range 32).map g).flatMap c8).toArray) (fun α => by rw [← hg]; exact ⟨[⟨.string s, 0, []⟩, ⟨.slice A n c, 1, l.flatMap c8⟩], ⟨by kernel_rfl, by kernel_rfl, by kernel_rfl, by kernel_rfl, cast (by kernel_rfl) hin, trivial⟩, ⟨rfl, hL, s, _, l, rfl, hs, hl, rfl⟩, SX.noAli rfl⟩) ?_
  have l0 := (g 0).isLt
  have l1 := (g 1).isLt
  have l2 := (g 2).isLt
  have l3 := (g 3).isLt
  have l4 := (g 4).isLt
  have l5 := (g 5).isLt
  have l6 := (g 6).isLt
  have l7 := (g 7).isLt
  obtain ⟨n0, hn0⟩ : ∃ z, z = (g 0).toNat % 128 := ⟨_, rfl⟩
  obtain ⟨n1, hn1⟩ : ∃ z, z = n0 * 256 + (g 1).toNat := ⟨_, rfl⟩
  obtain ⟨n2, hn2⟩ : ∃ z, z = n1 * 256 + (g 2).toNat := ⟨_, rfl⟩
  obtain ⟨n3, hn3⟩ : ∃ z, z = n2 * 256 + (g 3).toNat := ⟨_, rfl⟩
  obtain ⟨n4, hn4⟩ : ∃ z, z = n3 * 256 + (g 4).toNat := ⟨_, rfl⟩
  obtain ⟨n5, hn5⟩ : ∃ z, z = n4 * 256 + (g 5).toNat := ⟨_, rfl⟩
  obtain ⟨n6, hn6⟩ : ∃ z, z = n5 * 256 + (g 6).toNat := ⟨_, rfl⟩
  obtain ⟨n7, hn7⟩ : ∃ z, z = n6 * 256 + (g 7).toNat := ⟨_, rfl⟩
  refine SX.E (w8 (BitVec.ofNat 8 ((g 0).toNat % 128))) (fun α => cast (by kernel_rfl) (and127 (g 0))) ?_
  refine SX.E (.int .i64 (n0 : Int)) (fun α => cast (by kernel_rfl) (show SX.convV .i64 (w8 (BitVec.ofNat 8 ((g 0).toNat % 128))) = some (.int .i64 (n0 : Int)) from by rw [conv_w8, ofNat128, hn0])) ?_
  refine SX.E (.int .i64 (n0 : Int)) (fun α => cast (by kernel_rfl) (or_zero n0 (by omega))) ?_
  refine SX.E (.int .i64 ((n0 * 256 : Nat) : Int)) (fun α => cast (by kernel_rfl) (shl8_nat n0 (by omega))) ?_
  refine SX.E (.int .i64 ((g 1).toNat : Int)) (fun α => cast (by kernel_rfl) (conv_w8 (g 1))) ?_
  refine SX.E (.int .i64 (n1 : Int)) (fun α => cast (by kernel_rfl) (show SX.binV .or (.int .i64 ((n0 * 256 : Nat) : Int)) (.int .i64 ((g 1).toNat : Int)) = some (.int .i64 (n1 : Int)) from by rw [or_nat n0 (g 1).toNat (by omega) (by omega), hn1])) ?_
  refine SX.E (.int .i64 ((n1 * 256 : Nat) : Int)) (fun α => cast (by kernel_rfl) (shl8_nat n1 (by omega))) ?_
  refine SX.E (.int .i64 ((g 2).toNat : Int)) (fun α => cast (by kernel_rfl) (conv_w8 (g 2))) ?_
  refine SX.E (.int .i64 (n2 : Int)) (fun α => cast (by kernel_rfl) (show SX.binV .or (.int .i64 ((n1 * 256 : Nat) : Int)) (.int .i64 ((g 2).toNat : Int)) = some (.int .i64 (n2 : Int)) from by rw [or_nat n1 (g 2).toNat (by omega) (by omega), hn2])) ?_
  refine SX.E (.int .i64 ((n2 * 256 : Nat) : Int)) (fun α => cast (by kernel_rfl) (shl8_nat n2 (by omega))) ?_
  refine SX.E (.int .i64 ((g 3).toNat : Int)) (fun α => cast (by kernel_rfl) (conv_w8 (g 3))) ?_
  refine SX.E (.int .i64 (n3 : Int)) (fun α => cast (by kernel_rfl) (show SX.binV .or (.int .i64 ((n2 * 256 : Nat) : Int)) (.int .i64 ((g 3).toNat : Int)) = some (.int .i64 (n3 : Int)) from by rw [or_nat n2 (g 3).toNat (by omega) (by omega), hn3])) ?_
  refine SX.E (.int .i64 ((n3 * 256 : Nat) : Int)) (fun α => cast (by kernel_rfl) (shl8_nat n3 (by omega))) ?_
  refine SX.E (.int .i64 ((g 4).toNat : Int)) (fun α => cast (by kernel_rfl) (conv_w8 (g 4))) ?_
  refine SX.E (.int .i64 (n4 : Int)) (fun α => cast (by kernel_rfl) (show SX.binV .or (.int .i64 ((n3 * 256 : Nat) : Int)) (.int .i64 ((g 4).toNat : Int)) = some (.int .i64 (n4 : Int)) from by rw [or_nat n3 (g 4).toNat (by omega) (by omega), hn4])) ?_
  refine SX.E (.int .i64 ((n4 * 256 : Nat) : Int)) (fun α => cast (by kernel_rfl) (shl8_nat n4 (by omega))) ?_
  refine SX.E (.int .i64 ((g 5).toNat : Int)) (fun α => cast (by kernel_rfl) (conv_w8 (g 5))) ?_
  refine SX.E (.int .i64 (n5 : Int)) (fun α => cast (by kernel_rfl) (show SX.binV .or (.int .i64 ((n4 * 256 : Nat) : Int)) (.int .i64 ((g 5).toNat : Int)) = some (.int .i64 (n5 : Int)) from by rw [or_nat n4 (g 5).toNat (by omega) (by omega), hn5])) ?_
  refine SX.E (.int .i64 ((n5 * 256 : Nat) : Int)) (fun α => cast (by kernel_rfl) (shl8_nat n5 (by omega))) ?_
  refine SX.E (.int .i64 ((g 6).toNat : Int)) (fun α => cast (by kernel_rfl) (conv_w8 (g 6))) ?_
  refine SX.E (.int .i64 (n6 : Int)) (fun α => cast (by kernel_rfl) (show SX.binV .or (.int .i64 ((n5 * 256 : Nat) : Int)) (.int .i64 ((g 6).toNat : Int)) = some (.int .i64 (n6 : Int)) from by rw [or_nat n5 (g 6).toNat (by omega) (by omega), hn6])) ?_
  refine SX.E (.int .i64 ((n6 * 256 : Nat) : Int)) (fun α => cast (by kernel_rfl) (shl8_nat n6 (by omega))) ?_
  refine SX.E (.int .i64 ((g 7).toNat : Int)) (fun α => cast (by kernel_rfl) (conv_w8 (g 7))) ?_
  refine SX.E (.int .i64 (n7 : Int)) (fun α => cast (by kernel_rfl) (show SX.binV .or (.int .i64 ((n6 * 256 : Nat) : Int)) (.int .i64 ((g 7).toNat : Int)) = some (.int .i64 (n7 : Int)) from by rw [or_nat n6 (g 7).toNat (by omega) (by omega), hn7])) ?_
  refine SX.E (.int .i64 ((n7 % 1073741789 : Nat) : Int)) (fun α => cast (by kernel_rfl) (remQ n7)) ?_
  have hN : hashN (tagE (sb s) l) = n7 % 1073741789 := by rw [hg]; subst hn7 hn6 hn5 hn4 hn3 hn2 hn1 hn0; rfl
  exact SX.VC_ret fun α W _ _ hS => SX.ret_of (x := .int .i64 ((n7 % 1073741789 : Nat) : Int)) hS (by kernel_rfl) (by rw [hN])
def HashR (K : Value → Nat → List Value → Prop) (f : FuncId) (xs : List SX.Arg) (v : Value) : Prop := f = 16 ∧ LaidK K ∧ ∃ (s : ByteArray) (u : Value) (l : List W8), xs = [⟨.string s, 0, []⟩, ⟨u, 1, l.flatMap c8⟩] ∧ s.size < 2 ^ 60 ∧ l.length < 2 ^ 44 ∧ v = .int .i64 (hashN (tagE (sb s) l) : Int)
theorem hashR_calls {K : Value → Nat → List Value → Prop} {f : FuncId} {xs : List SX.Arg} {v : Value} {W : World} (h : HashR K f xs v) (hrd : ∀ x ∈ xs, x.rd W) (hK : ∀ s sz cells, K s sz cells → SX.Arg.rd W ⟨s, sz, cells⟩) : Calls Tryd.prog f (xs.map SX.Arg.v).toArray W fun e w' => e = .returned v ∧ Below W.heap.size W w' := by
  obtain ⟨rfl, hL, s, u, l, rfl, h60, h44, rfl⟩ := h
  obtain ⟨A, n, c, rfl, hr, hc, hn⟩ := byte_arg (hrd ⟨u, 1, l.flatMap c8⟩ (by simp))
  exact hash_any s l h60 h44 A n c W hr hc (laid_of hL hK)
end Go.Proofs.YtbbofkpolcjmgaaDoor
namespace Go.Proofs.YtbbofkpolcjmgaaDoor.Jac
def isum (f : Nat → Nat) : Nat → Nat
  | 0 => 0
  | h + 1 => isum f h + f (h + 1)
theorem isum_congr {f g : Nat → Nat} : ∀ h, (∀ k, 1 ≤ k → k ≤ h → f k = g k) → isum f h = isum g h
  | 0, _ => rfl
  | h + 1, H => by
    simp only [isum]
    rw [isum_congr h (fun k a b => H k a (by omega)), H (h + 1) (by omega) (by omega)]
theorem isum_add (f g : Nat → Nat) : ∀ h, isum (fun k => f k + g k) h = isum f h + isum g h
  | 0 => rfl
  | h + 1 => by simp only [isum, isum_add f g h]; omega
theorem isum_const (c : Nat) : ∀ h, isum (fun _ => c) h = c * h
  | 0 => rfl
  | h + 1 => by simp only [isum, isum_const c h]; rw [Nat.mul_succ]
theorem isum_swap (f : Nat → Nat → Nat) (g : Nat) : ∀ h, isum (fun k => isum (fun j => f k j) g) h = isum (fun j => isum (fun k => f k j) h) g
  | 0 => by simp only [isum]; rw [isum_const]; omega
  | h + 1 => by simp only [isum]; rw [isum_swap f g h, ← isum_add]
theorem isum_parity {f g : Nat → Nat} : ∀ h, (∀ k, 1 ≤ k → k ≤ h → f k % 2 = g k % 2) → isum f h % 2 = isum g h % 2
  | 0, _ => rfl
  | h + 1, H => by
    simp only [isum]
    have a := isum_parity h (fun k a b => H k a (by omega))
    have b := H (h + 1) (by omega) (by omega)
    omega
theorem isum_eq (f : Nat → Nat) : ∀ h, isum f h = ((List.range' 1 h).map f).sum
  | 0 => rfl
  | h + 1 => by rw [List.range'_concat]; simp [isum, isum_eq f h, Nat.add_comm]
theorem isum_le (q : Nat) : ∀ g, q ≤ g → isum (fun j => if j ≤ q then 1 else 0) g = q
  | 0, h => by simp only [isum]; omega
  | g + 1, h => by
    simp only [isum]
    by_cases e : q = g + 1
    · subst e
      rw [isum_congr (g := fun _ => 1) g (fun k _ b => if_pos (by omega)), isum_const, if_pos (Nat.le_refl _)]; omega
    rw [isum_le q g (by omega), if_neg (by omega), Nat.add_zero]
theorem perm_of_subset {l₁ : List Nat} : ∀ {l₂ : List Nat}, l₁.Nodup → (∀ x, x ∈ l₁ → x ∈ l₂) → l₂.length ≤ l₁.length → l₁.Perm l₂ := by
  induction l₁ with
  | nil => intro l₂ _ _ h; have : l₂ = [] := List.length_eq_zero_iff.1 (Nat.le_zero.1 h); subst this; exact List.Perm.refl _
  | cons a t ih =>
    intro l₂ hn hs hl
    rw [List.nodup_cons] at hn
    have ha := hs a (List.mem_cons_self ..)
    have hp := List.perm_cons_erase ha
    refine List.Perm.trans ?_ hp.symm
    refine List.Perm.cons a (ih hn.2 ?_ ?_)
    · intro x hx
      refine (List.mem_erase_of_ne ?_).2 (hs x (List.mem_cons_of_mem _ hx))
      intro e; subst e; exact hn.1 hx
    rw [List.length_erase_of_mem ha]; simp only [List.length_cons] at hl; omega
theorem perm_map {f : Nat → Nat} {h : Nat} (hin : ∀ k, 1 ≤ k → k ≤ h → 1 ≤ f k ∧ f k ≤ h)
    (hinj : ∀ k j, 1 ≤ k → k ≤ h → 1 ≤ j → j ≤ h → f k = f j → k = j) : ((List.range' 1 h).map f).Perm (List.range' 1 h) := by
  refine perm_of_subset ?_ ?_ (by simp)
  · rw [List.Nodup, List.pairwise_map]
    refine List.Pairwise.imp_of_mem ?_ (List.nodup_range' (s := 1) (n := h) 1)
    intro a b ha hb hne e
    simp only [List.mem_range'_1] at ha hb
    exact hne (hinj a b ha.1 (by omega) hb.1 (by omega) e)
  intro x hx
  obtain ⟨k, hk, rfl⟩ := List.mem_map.1 hx
  simp only [List.mem_range'_1] at hk ⊢
  have := hin k hk.1 (by omega)
  omega
theorem isum_perm {f : Nat → Nat} {h : Nat} (hin : ∀ k, 1 ≤ k → k ≤ h → 1 ≤ f k ∧ f k ≤ h)
    (hinj : ∀ k j, 1 ≤ k → k ≤ h → 1 ≤ j → j ≤ h → f k = f j → k = j) (g : Nat → Nat) : isum (fun k => g (f k)) h = isum g h := by
  rw [isum_eq, isum_eq]
  have := ((perm_map hin hinj).map g).sum_nat
  rw [List.map_map] at this
  exact this
def fl (h a k : Nat) : Nat := if a * k % (2 * h + 1) ≤ h then a * k % (2 * h + 1) else 2 * h + 1 - a * k % (2 * h + 1)
def big (h a k : Nat) : Nat := if a * k % (2 * h + 1) ≤ h then 0 else 1
def mu (h a : Nat) : Nat := isum (big h a) h
theorem dvd_small {h a k : Nat} (hc : Nat.Coprime a (2 * h + 1)) (hk : k < 2 * h + 1) (hd : (2 * h + 1) ∣ a * k) : k = 0 :=
  Nat.eq_zero_of_dvd_of_lt (Nat.Coprime.dvd_of_dvd_mul_left hc.symm hd) hk
theorem mod_pos {h a k : Nat} (hc : Nat.Coprime a (2 * h + 1)) (h1 : 1 ≤ k) (hk : k < 2 * h + 1) : 1 ≤ a * k % (2 * h + 1) := by
  rcases Nat.eq_zero_or_pos (a * k % (2 * h + 1)) with e | e
  · have := dvd_small hc hk (Nat.dvd_of_mod_eq_zero e); omega
  exact e
theorem fl_in {h a : Nat} (hc : Nat.Coprime a (2 * h + 1)) (k : Nat) (h1 : 1 ≤ k) (h2 : k ≤ h) : 1 ≤ fl h a k ∧ fl h a k ≤ h := by
  have a1 := mod_pos hc h1 (by omega : k < 2 * h + 1)
  have a2 := Nat.mod_lt (a * k) (by omega : 2 * h + 1 > 0)
  unfold fl; split <;> omega
theorem same_mod {h a k j : Nat} (hc : Nat.Coprime a (2 * h + 1)) (h2 : k ≤ h) (h4 : j ≤ h)
    (e : a * k % (2 * h + 1) = a * j % (2 * h + 1)) : k = j := by
  rcases Nat.le_total j k with hl | hl
  · have d : (2 * h + 1) ∣ a * (k - j) := by
      rw [Nat.mul_sub]; exact Nat.dvd_of_mod_eq_zero (Nat.sub_mod_eq_zero_of_mod_eq e)
    have := dvd_small hc (by omega) d; omega
  have d : (2 * h + 1) ∣ a * (j - k) := by
    rw [Nat.mul_sub]; exact Nat.dvd_of_mod_eq_zero (Nat.sub_mod_eq_zero_of_mod_eq e.symm)
  have := dvd_small hc (by omega) d; omega
theorem opp_mod {h a k j : Nat} (hc : Nat.Coprime a (2 * h + 1)) (h1 : 1 ≤ k) (h2 : k ≤ h) (h4 : j ≤ h)
    (e : a * k % (2 * h + 1) + a * j % (2 * h + 1) = 2 * h + 1) : False := by
  have d : (2 * h + 1) ∣ a * (k + j) := by
    refine Nat.dvd_of_mod_eq_zero ?_
    rw [Nat.mul_add, Nat.add_mod, e, Nat.mod_self]
  have := dvd_small hc (by omega) d; omega
theorem fl_inj {h a : Nat} (hc : Nat.Coprime a (2 * h + 1)) (k j : Nat) (h1 : 1 ≤ k) (h2 : k ≤ h) (_h3 : 1 ≤ j) (h4 : j ≤ h)
    (e : fl h a k = fl h a j) : k = j := by
  have a2 := Nat.mod_lt (a * k) (by omega : 2 * h + 1 > 0)
  have b2 := Nat.mod_lt (a * j) (by omega : 2 * h + 1 > 0)
  unfold fl at e
  split at e <;> split at e
  · exact same_mod hc h2 h4 e
  · exact (opp_mod hc h1 h2 h4 (by omega)).elim
  · exact (opp_mod hc h1 h2 h4 (by omega)).elim
  exact same_mod hc h2 h4 (by omega)
theorem fl_sum {h a : Nat} (hc : Nat.Coprime a (2 * h + 1)) (g : Nat → Nat) : isum (fun k => g (fl h a k)) h = isum g h :=
  isum_perm (fl_in hc) (fl_inj hc) g
theorem mu_floor {h a : Nat} (hc : Nat.Coprime a (2 * h + 1)) (ho : a % 2 = 1) :
    mu h a % 2 = isum (fun k => a * k / (2 * h + 1)) h % 2 := by
  have e : isum (fun k => k) h % 2 = isum (fun k => (a * k / (2 * h + 1) + fl h a k) + big h a k) h % 2 := by
    refine isum_parity h (fun k _ _ => ?_)
    have hd := Nat.div_add_mod (a * k) (2 * h + 1)
    have hm := Nat.mod_lt (a * k) (by omega : 2 * h + 1 > 0)
    have h1 : a * k % 2 = k % 2 := by rw [Nat.mul_mod, ho]; omega
    have h2 : (2 * h + 1) * (a * k / (2 * h + 1)) % 2 = a * k / (2 * h + 1) % 2 := by
      rw [Nat.mul_mod, show (2 * h + 1) % 2 = 1 by omega]; omega
    unfold fl big
    split <;> omega
  rw [isum_add, isum_add, fl_sum hc (fun k => k)] at e
  unfold mu
  omega
theorem lattice {h g : Nat} (hc : Nat.Coprime (2 * g + 1) (2 * h + 1)) :
    isum (fun k => (2 * g + 1) * k / (2 * h + 1)) h + isum (fun j => (2 * h + 1) * j / (2 * g + 1)) g = g * h := by
  have count : ∀ (p q : Nat) (k : Nat), k ≤ p → (2 * q + 1) * k / (2 * p + 1) = isum (fun j => if (2 * p + 1) * j ≤ (2 * q + 1) * k then 1 else 0) q := by
    intro p q k hk
    have hq : (2 * q + 1) * k / (2 * p + 1) ≤ q := by
      have : (2 * q + 1) * k < (q + 1) * (2 * p + 1) := by
        have : (2 * q + 1) * k ≤ (2 * q + 1) * p := Nat.mul_le_mul_left _ hk
        have e1 : (2 * q + 1) * p = 2 * (q * p) + p := by rw [Nat.add_mul, Nat.mul_assoc]; omega
        have e2 : (q + 1) * (2 * p + 1) = 2 * (q * p) + q + 2 * p + 1 := by
          rw [Nat.add_mul, Nat.mul_add, Nat.mul_left_comm]; omega
        omega
      have := (Nat.div_lt_iff_lt_mul (by omega : 0 < 2 * p + 1)).2 this
      omega
    rw [← isum_le _ q hq]
    refine isum_congr q (fun j _ _ => ?_)
    have : (j ≤ (2 * q + 1) * k / (2 * p + 1)) = ((2 * p + 1) * j ≤ (2 * q + 1) * k) := by
      rw [Nat.le_div_iff_mul_le (by omega), Nat.mul_comm j]
    simp only [this]
  have e1 : isum (fun k => (2 * g + 1) * k / (2 * h + 1)) h = isum (fun k => isum (fun j => if (2 * h + 1) * j ≤ (2 * g + 1) * k then 1 else 0) g) h :=
    isum_congr h (fun k _ hk => count h g k hk)
  have e2 : isum (fun j => (2 * h + 1) * j / (2 * g + 1)) g = isum (fun k => isum (fun j => if (2 * g + 1) * k ≤ (2 * h + 1) * j then 1 else 0) g) h := by
    rw [isum_swap]
    exact isum_congr g (fun j _ hj => count g h j hj)
  rw [e1, e2, ← isum_add]
  rw [isum_congr (g := fun _ => g) h, isum_const]
  intro k hk1 hk2
  rw [← isum_add, isum_congr (g := fun _ => 1) g, isum_const]
  · omega
  intro j hj1 hj2
  have hne : (2 * h + 1) * j ≠ (2 * g + 1) * k := by
    intro e
    have := dvd_small hc (by omega : k < 2 * h + 1) ⟨j, e.symm⟩
    omega
  rcases Nat.lt_or_gt_of_ne hne with hl | hl
  · rw [if_pos (Nat.le_of_lt hl), if_neg (by omega)]
  rw [if_neg (by omega), if_pos (Nat.le_of_lt hl)]
theorem reciprocity {h g : Nat} (hc : Nat.Coprime (2 * g + 1) (2 * h + 1)) : (mu h (2 * g + 1) + mu g (2 * h + 1)) % 2 = g * h % 2 := by
  have a := mu_floor hc (by omega)
  have b := mu_floor hc.symm (by omega)
  have c := lattice hc
  omega
theorem mu_mod (h a : Nat) : mu h (a % (2 * h + 1)) = mu h a := by
  unfold mu
  refine isum_congr h (fun k _ _ => ?_)
  unfold big
  rw [Nat.mod_mul_mod]
theorem mu_one (h : Nat) : mu h 1 = 0 := by
  unfold mu
  rw [isum_congr (g := fun _ => 0) h, isum_const]
  · omega
  intro k _ hk
  unfold big
  rw [Nat.one_mul, Nat.mod_eq_of_lt (by omega), if_pos hk]
theorem count_big (h q : Nat) : q ≤ h → isum (fun k => if k ≤ q then 0 else 1) h = h - q := by
  intro hq
  have e : isum (fun k => if k ≤ q then 0 else 1) h + isum (fun k => if k ≤ q then 1 else 0) h = h := by
    rw [← isum_add, isum_congr (g := fun _ => 1) h, isum_const]
    · omega
    intro k _ _; split <;> rfl
  rw [isum_le q h hq] at e
  omega
theorem mu_two (h : Nat) : mu h 2 = h - h / 2 := by
  unfold mu
  rw [← count_big h (h / 2) (by omega)]
  refine isum_congr h (fun k _ hk => ?_)
  unfold big
  rw [Nat.mod_eq_of_lt (by omega)]
  by_cases e : k ≤ h / 2
  · rw [if_pos (by omega), if_pos e]
  rw [if_neg (by omega), if_neg e]
theorem mu_mul {h a b : Nat} (ha : Nat.Coprime a (2 * h + 1)) (hb : Nat.Coprime b (2 * h + 1)) : mu h (a * b) % 2 = (mu h a + mu h b) % 2 := by
  have e : isum (big h (a * b)) h % 2 = isum (fun k => big h a (fl h b k) + big h b k) h % 2 := by
    refine isum_parity h (fun k h1 h2 => ?_)
    have hr1 := mod_pos hb h1 (by omega : k < 2 * h + 1)
    have hr2 := Nat.mod_lt (b * k) (by omega : 2 * h + 1 > 0)
    have ek : a * b * k % (2 * h + 1) = a * (b * k % (2 * h + 1)) % (2 * h + 1) := by
      rw [Nat.mul_assoc, Nat.mul_mod_mod]
    have hs1 := mod_pos ha hr1 hr2
    have hs2 := Nat.mod_lt (a * (b * k % (2 * h + 1))) (by omega : 2 * h + 1 > 0)
    unfold big fl
    rw [ek]
    by_cases c : b * k % (2 * h + 1) ≤ h
    · rw [if_pos c, if_pos c]; rfl
    rw [if_neg c, if_neg c]
    have en : a * (2 * h + 1 - b * k % (2 * h + 1)) % (2 * h + 1) = 2 * h + 1 - a * (b * k % (2 * h + 1)) % (2 * h + 1) := by
      have s : (a * (2 * h + 1 - b * k % (2 * h + 1)) % (2 * h + 1) + a * (b * k % (2 * h + 1)) % (2 * h + 1)) % (2 * h + 1) = 0 := by
        rw [← Nat.add_mod, ← Nat.mul_add, Nat.sub_add_cancel (by omega), Nat.mul_mod_left]
      have t := Nat.mod_lt (a * (2 * h + 1 - b * k % (2 * h + 1))) (by omega : 2 * h + 1 > 0)
      generalize a * (2 * h + 1 - b * k % (2 * h + 1)) % (2 * h + 1) = u at s t ⊢
      generalize a * (b * k % (2 * h + 1)) % (2 * h + 1) = v at s hs1 hs2 ⊢
      obtain ⟨q, hq⟩ := Nat.dvd_of_mod_eq_zero s
      have : q = 1 := by
        rcases q with _ | _ | q
        · omega
        · rfl
        rw [Nat.mul_add, Nat.mul_add] at hq; omega
      subst this
      omega
    rw [en]
    split <;> split <;> omega
  unfold mu
  rw [e, isum_add, fl_sum hb (big h a)]
theorem mul_mod_congr {n x x' y y' : Nat} (h1 : x % n = x' % n) (h2 : y % n = y' % n) : x * y % n = x' * y' % n := by
  rw [Nat.mul_mod, h1, h2, ← Nat.mul_mod]
def fac : Nat → Nat
  | 0 => 1
  | h + 1 => fac h * (h + 1)
def iprod (f : Nat → Nat) : Nat → Nat
  | 0 => 1
  | h + 1 => iprod f h * f (h + 1)
theorem iprod_eq (f : Nat → Nat) : ∀ h, iprod f h = ((List.range' 1 h).map f).prod
  | 0 => rfl
  | h + 1 => by rw [List.range'_concat]; simp [iprod, iprod_eq f h, Nat.add_comm]
theorem fac_eq : ∀ h, fac h = iprod (fun k => k) h
  | 0 => rfl
  | h + 1 => by simp only [fac, iprod, fac_eq h]
theorem iprod_fl {h a : Nat} (hc : Nat.Coprime a (2 * h + 1)) : iprod (fl h a) h = fac h := by
  rw [fac_eq, iprod_eq, iprod_eq]
  have := (perm_map (fl_in hc) (fl_inj hc)).prod_nat
  simpa using this
theorem iprod_scale (a : Nat) : ∀ h, iprod (fun k => a * k) h = a ^ h * fac h
  | 0 => rfl
  | h + 1 => by
    simp only [iprod, fac, iprod_scale a h]
    rw [Nat.pow_succ, Nat.mul_mul_mul_comm]
theorem gauss_prod {h a : Nat} : ∀ m, iprod (fun k => a * k) m % (2 * h + 1) = (2 * h) ^ isum (big h a) m * iprod (fl h a) m % (2 * h + 1)
  | 0 => rfl
  | m + 1 => by
    have e : a * (m + 1) % (2 * h + 1) = (2 * h) ^ big h a (m + 1) * fl h a (m + 1) % (2 * h + 1) := by
      unfold big fl
      have hm := Nat.mod_lt (a * (m + 1)) (by omega : 2 * h + 1 > 0)
      split
      · rw [Nat.pow_zero, Nat.one_mul, Nat.mod_mod]
      rw [Nat.pow_one]
      generalize a * (m + 1) % (2 * h + 1) = r at hm ⊢
      obtain ⟨s, hs⟩ : ∃ s, 2 * h + 1 = s + r := ⟨2 * h + 1 - r, by omega⟩
      have : 2 * h * (2 * h + 1 - r) = r + (2 * h + 1) * (2 * h - r) := by
        obtain ⟨t, ht⟩ : ∃ t, 2 * h = t + r := ⟨2 * h - r, by omega⟩
        rw [show 2 * h + 1 - r = t + 1 by omega, show 2 * h - r = t by omega, ht]
        rw [Nat.mul_add, Nat.add_mul (t + r) 1]; omega
      rw [this, Nat.add_mul_mod_self_left, Nat.mod_eq_of_lt hm]
    simp only [iprod, isum]
    rw [mul_mod_congr (gauss_prod (h := h) (a := a) m) e, Nat.pow_add]
    rw [Nat.mul_mul_mul_comm]
theorem coprime_fac {n : Nat} : ∀ h, (∀ k, 1 ≤ k → k ≤ h → Nat.Coprime k n) → Nat.Coprime (fac h) n
  | 0, _ => Nat.coprime_one_left _
  | h + 1, H => Nat.Coprime.mul_left (coprime_fac h (fun k a b => H k a (by omega))) (H (h + 1) (by omega) (by omega))
theorem cancel {n c x y : Nat} (hc : Nat.Coprime c n) (e : x * c % n = y * c % n) : x % n = y % n := by
  rcases Nat.le_total y x with hl | hl
  · have d : n ∣ (x - y) * c := by
      rw [Nat.sub_mul]; exact Nat.dvd_of_mod_eq_zero (Nat.sub_mod_eq_zero_of_mod_eq e)
    obtain ⟨q, hq⟩ := Nat.Coprime.dvd_of_dvd_mul_right hc.symm d
    rw [show x = y + n * q by omega, Nat.add_mul_mod_self_left]
  have d : n ∣ (y - x) * c := by
    rw [Nat.sub_mul]; exact Nat.dvd_of_mod_eq_zero (Nat.sub_mod_eq_zero_of_mod_eq e.symm)
  obtain ⟨q, hq⟩ := Nat.Coprime.dvd_of_dvd_mul_right hc.symm d
  rw [show y = x + n * q by omega, Nat.add_mul_mod_self_left]
theorem neg_pow (h : Nat) : ∀ m, (2 * h) ^ m % (2 * h + 1) = (if m % 2 = 0 then 1 else 2 * h) % (2 * h + 1)
  | 0 => rfl
  | m + 1 => by
    rw [Nat.pow_succ, mul_mod_congr (neg_pow h m) rfl]
    by_cases e : m % 2 = 0
    · rw [if_pos e, if_neg (by omega), Nat.one_mul]
    rw [if_neg e, if_pos (by omega)]
    rcases h with _ | h
    · rfl
    have : 2 * (h + 1) * (2 * (h + 1)) = 1 + (2 * (h + 1) + 1) * (2 * h + 1) := by
      rw [show 2 * (h + 1) = 2 * h + 1 + 1 by omega]
      generalize 2 * h + 1 = t
      rw [Nat.add_mul, Nat.mul_add, Nat.add_mul (t + 1) 1 t, Nat.add_mul t 1 t]; omega
    rw [this, Nat.add_mul_mod_self_left]
theorem gauss {h a : Nat} (hp : ∀ k, 1 ≤ k → k ≤ h → Nat.Coprime k (2 * h + 1)) (hc : Nat.Coprime a (2 * h + 1)) :
    a ^ h % (2 * h + 1) = (if mu h a % 2 = 0 then 1 else 2 * h) % (2 * h + 1) := by
  rw [← neg_pow]
  refine cancel (coprime_fac h hp) ?_
  rw [← iprod_scale, gauss_prod h, iprod_fl hc, mu]
def allR : Nat → Nat → Bool
  | 0, lo => 2147483579 % lo != 0
  | k + 1, lo => allR k lo && allR k (lo + 2 ^ k)
theorem allR_all : ∀ k lo, allR k lo = true → ∀ d, lo ≤ d → d < lo + 2 ^ k → 2147483579 % d ≠ 0
  | 0, lo, h, d, h1, h2 => by
    have : d = lo := by simp only [Nat.pow_zero] at h2; omega
    subst this
    simpa [allR] using h
  | k + 1, lo, h, d, h1, h2 => by
    simp only [allR, Bool.and_eq_true] at h
    rw [Nat.pow_succ] at h2
    by_cases c : d < lo + 2 ^ k
    · exact allR_all k lo h.1 d h1 c
    exact allR_all k (lo + 2 ^ k) h.2 d (by omega) (by omega)
theorem trial : allR 16 2 = true := by decide +kernel
theorem prime_coprime {k : Nat} (h1 : 1 ≤ k) (h2 : k < 2147483579) : Nat.Coprime k 2147483579 := by
  have hgd : Nat.gcd k 2147483579 ∣ 2147483579 := Nat.gcd_dvd_right _ _
  have hgk : Nat.gcd k 2147483579 ≤ k := Nat.le_of_dvd (by omega) (Nat.gcd_dvd_left _ _)
  have hg0 : 0 < Nat.gcd k 2147483579 := Nat.gcd_pos_of_pos_left _ (by omega)
  unfold Nat.Coprime
  generalize Nat.gcd k 2147483579 = g at hgd hgk hg0 ⊢
  rcases Nat.lt_or_ge 1 g with hg | hg
  · exfalso
    obtain ⟨c, hc⟩ := hgd
    have T := allR_all 16 2 trial
    have hc1 : 1 < c := by
      rcases c with _ | _ | c
      · omega
      · omega
      omega
    by_cases hs : g < 65538
    · exact T g (by omega) (by omega) (by rw [hc]; exact Nat.mul_mod_right ..)
    by_cases ht : c < 65538
    · exact T c (by omega) (by omega) (by rw [hc]; exact Nat.mul_mod_left ..)
    have : 65538 * 65538 ≤ g * c := Nat.mul_le_mul (by omega) (by omega)
    omega
  omega
end Go.Proofs.YtbbofkpolcjmgaaDoor.Jac
namespace Go.Proofs.YtbbofkpolcjmgaaDoor.Jac
def Inv (x a m : Nat) (q : Bool) : Prop :=
  1 ≤ a ∧ a ≤ x ∧ x < 2147483579 ∧ m ≤ 2147483579 ∧ ∃ h, m = 2 * h + 1 ∧ Nat.Coprime a m ∧ ((q = true ↔ mu h a % 2 = 0) ↔ mu 1073741789 x % 2 = 0)
theorem inv_start {x : Nat} (h1 : 1 ≤ x) (h2 : x < 2147483579) : Inv x x 2147483579 true :=
  ⟨h1, Nat.le_refl _, h2, Nat.le_refl _, 1073741789, rfl, prime_coprime h1 h2, by simp⟩
theorem coprime_half {a m : Nat} (he : a % 2 = 0) (hc : Nat.Coprime a m) : Nat.Coprime (a / 2) m :=
  Nat.Coprime.coprime_dvd_left (Nat.div_dvd_of_dvd (Nat.dvd_of_mod_eq_zero he)) hc
theorem coprime_two (h : Nat) : Nat.Coprime 2 (2 * h + 1) := by
  unfold Nat.Coprime
  rw [Nat.gcd_rec, show (2 * h + 1) % 2 = 1 by omega]
  rfl
theorem inv_even {x a m : Nat} {q : Bool} (hi : Inv x a m q) (he : a % 2 = 0) (r : Bool)
    (hr : r = if m % 8 = 3 ∨ m % 8 = 5 then !q else q) : Inv x (a / 2) m r := by
  obtain ⟨h1, h2, hx, h3, h, rfl, hc, hq⟩ := hi
  refine ⟨by omega, by omega, hx, h3, h, rfl, coprime_half he hc, ?_⟩
  have hm := mu_mul (coprime_two h) (coprime_half he hc)
  rw [show 2 * (a / 2) = a by omega, mu_two] at hm
  rw [← hq]
  subst hr
  by_cases c : (2 * h + 1) % 8 = 3 ∨ (2 * h + 1) % 8 = 5
  · rw [if_pos c]
    have : (h - h / 2) % 2 = 1 := by omega
    cases q <;> simp <;> omega
  rw [if_neg c]
  have : (h - h / 2) % 2 = 0 := by omega
  cases q <;> simp <;> omega
theorem inv_odd {x a m : Nat} {q : Bool} (hi : Inv x a m q) (he : a % 2 = 1) (h1' : a ≠ 1) (r : Bool)
    (hr : r = if a % 4 = 3 ∧ m % 4 = 3 then !q else q) : Inv x (m % a) a r := by
  obtain ⟨h1, h2, hx, h3, h, rfl, hc, hq⟩ := hi
  obtain ⟨g, rfl⟩ : ∃ g, a = 2 * g + 1 := ⟨a / 2, by omega⟩
  have hlt := Nat.mod_lt (2 * h + 1) (by omega : 2 * g + 1 > 0)
  have hc' : Nat.Coprime ((2 * h + 1) % (2 * g + 1)) (2 * g + 1) := by
    unfold Nat.Coprime at hc ⊢
    rw [Nat.gcd_rec] at hc
    exact hc
  refine ⟨?_, by omega, hx, by omega, g, rfl, hc', ?_⟩
  · rcases Nat.eq_zero_or_pos ((2 * h + 1) % (2 * g + 1)) with e | e
    · rw [e] at hc'
      have : 2 * g + 1 = 1 := by simpa [Nat.Coprime] using hc'
      omega
    exact e
  have hre := reciprocity hc
  have hgh : g * h % 2 = if (2 * g + 1) % 4 = 3 ∧ (2 * h + 1) % 4 = 3 then 1 else 0 := by
    rw [Nat.mul_mod]
    rcases Nat.mod_two_eq_zero_or_one g with a | a <;> rcases Nat.mod_two_eq_zero_or_one h with b | b <;> rw [a, b]
    · rw [if_neg (by omega)]
    · rw [if_neg (by omega)]
    · rw [if_neg (by omega)]
    rw [if_pos (by omega)]
  rw [mu_mod, ← hq]
  subst hr
  by_cases c : (2 * g + 1) % 4 = 3 ∧ (2 * h + 1) % 4 = 3
  · rw [if_pos c] at hgh ⊢
    cases q <;> simp <;> omega
  rw [if_neg c] at hgh ⊢
  cases q <;> simp <;> omega
def vld (x : Int) : Bool := decide (1 ≤ x) && decide (x < 2147483579) && decide (mu 1073741789 x.toNat % 2 = 0)
theorem inv_end {x m : Nat} {q : Bool} (hi : Inv x 1 m q) : q = vld x := by
  obtain ⟨h1, h2, hx, h3, h, rfl, hc, hq⟩ := hi
  rw [mu_one] at hq
  unfold vld
  rw [Int.toNat_natCast, decide_eq_true (by omega : (1 : Int) ≤ (x : Int)), decide_eq_true (by omega : (x : Int) < 2147483579)]
  simp only [Bool.true_and]
  cases q
  · rw [eq_comm, decide_eq_false_iff_not]; simpa using hq
  rw [eq_comm, decide_eq_true_iff]; simpa using hq
theorem vld_out {x : Int} (h : ¬ (1 ≤ x ∧ x < 2147483579)) : vld x = false := by
  unfold vld
  by_cases h1 : 1 ≤ x
  · rw [decide_eq_false (by omega : ¬ x < 2147483579)]; simp
  rw [decide_eq_false h1]; simp
def pm (a n : Nat) : Nat := a ^ n % 2147483579
def PInv (a n c x m : Nat) : Prop := c < 2147483579 ∧ x < 2147483579 ∧ c * x ^ m % 2147483579 = pm a n
theorem pm_lt (a n : Nat) : pm a n < 2147483579 := Nat.mod_lt _ (by omega)
theorem pinv_start {a n : Nat} (h : a < 2147483579) : PInv a n 1 a n := ⟨by omega, h, by rw [Nat.one_mul]; rfl⟩
theorem sq_pow (x k : Nat) : (x * x % 2147483579) ^ k % 2147483579 = x ^ (2 * k) % 2147483579 := by
  rw [← Nat.pow_mod, Nat.pow_mul, Nat.pow_two]
theorem pinv_odd {a n c x m : Nat} (h : PInv a n c x m) (ho : m % 2 = 1) : PInv a n (c * x % 2147483579) (x * x % 2147483579) (m / 2) := by
  refine ⟨Nat.mod_lt _ (by omega), Nat.mod_lt _ (by omega), ?_⟩
  rw [← h.2.2, mul_mod_congr (Nat.mod_mod _ _) (sq_pow x (m / 2))]
  have e : x ^ m = x * x ^ (2 * (m / 2)) := by
    rw [Nat.mul_comm, ← Nat.pow_succ]; congr 1; omega
  rw [e, Nat.mul_assoc]
theorem pinv_even {a n c x m : Nat} (h : PInv a n c x m) (ho : m % 2 = 0) : PInv a n c (x * x % 2147483579) (m / 2) := by
  refine ⟨h.1, Nat.mod_lt _ (by omega), ?_⟩
  rw [← h.2.2, mul_mod_congr rfl (sq_pow x (m / 2)), show 2 * (m / 2) = m by omega]
theorem pinv_end {a n c x : Nat} (h : PInv a n c x 0) : c = pm a n := by
  have := h.2.2
  rwa [Nat.pow_zero, Nat.mul_one, Nat.mod_eq_of_lt h.1] at this
theorem vld_pm {x : Nat} (h1 : 1 ≤ x) (h2 : x < 2147483579) : pm x 1073741789 = if mu 1073741789 x % 2 = 0 then 1 else 2147483578 := by
  obtain ⟨h, hh⟩ : ∃ h : Nat, h = 1073741789 := ⟨_, rfl⟩
  have e : 2 * h + 1 = 2147483579 := by omega
  have hg := gauss (h := h) (a := x) (fun k a b => by rw [e]; exact prime_coprime a (by omega)) (by rw [e]; exact prime_coprime h1 h2)
  rw [e] at hg
  rw [← hh]
  unfold pm
  rw [hg]
  split
  · rfl
  rw [Nat.mod_eq_of_lt (by omega)]; omega
theorem vld_iff {x : Nat} (h1 : 1 ≤ x) (h2 : x < 2147483579) : vld x = decide (pm x 1073741789 = 1) := by
  rw [vld_pm h1 h2]
  unfold vld
  rw [Int.toNat_natCast, decide_eq_true (by omega : (1 : Int) ≤ (x : Int)), decide_eq_true (by omega : (x : Int) < 2147483579)]
  simp only [Bool.true_and]
  by_cases h : mu 1073741789 x % 2 = 0
  · rw [if_pos h, decide_eq_true h]; rfl
  rw [if_neg h, decide_eq_false h]; rfl
def red (n : Int) : Int := n % 1073741789
theorem tmod_lo (n : Int) : -1073741789 < n.tmod 1073741789 := by
  rcases Int.le_total 0 n with h | h
  · have := Int.tmod_nonneg 1073741789 h; omega
  rw [show n = -(-n) by omega, Int.neg_tmod]
  have := Int.tmod_lt_of_pos (-n) (b := 1073741789) (by omega); omega
theorem red_eq (n : Int) : red n = if n.tmod 1073741789 < 0 then n.tmod 1073741789 + 1073741789 else n.tmod 1073741789 := by
  have h1 := Int.tmod_lt_of_pos n (b := 1073741789) (by omega)
  have h2 := tmod_lo n
  have h3 := Int.mul_tdiv_add_tmod n 1073741789
  unfold red
  generalize n.tmod 1073741789 = r at *
  generalize n.tdiv 1073741789 = q at *
  split <;> omega
theorem vld_bounds {x : Int} (h : vld x = true) : 1 ≤ x ∧ x < 2147483579 := by
  by_cases c : 1 ≤ x ∧ x < 2147483579
  · exact c
  rw [vld_out c] at h; cases h
theorem vld_iff' {x : Int} (h1 : 1 ≤ x) (h2 : x < 2147483579) : vld x = decide (((pm x.toNat (1073741789 : Int).toNat : Nat) : Int) = 1) := by
  have := vld_iff (x := x.toNat) (by omega) (by omega)
  rw [Int.toNat_of_nonneg (by omega)] at this
  rw [this, show (1073741789 : Int).toNat = 1073741789 from rfl]
  congr 1
  exact propext ⟨fun h => by omega, fun h => by omega⟩
def mulV (a b : Int) : Int := if vld a = true ∧ vld b = true then a * b % 2147483579 else 0
def mulE (a b : Int) : Int := if vld a = true ∧ vld b = true then 0 else 100
theorem mul_cases (a b : Int) : (vld a = false ∧ mulV a b = 0 ∧ mulE a b = 100) ∨ (vld a = true ∧ vld b = false ∧ mulV a b = 0 ∧ mulE a b = 100) ∨
    (vld a = true ∧ vld b = true ∧ (0 ≤ a ∧ a ≤ 2147483578) ∧ (0 ≤ b ∧ b ≤ 2147483578) ∧ (0 ≤ a * b ∧ a * b ≤ 4611685744765530084) ∧ mulV a b = a * b % 2147483579 ∧ mulE a b = 0) := by
  cases ha : vld a with
  | false => exact .inl ⟨rfl, by simp [mulV, ha], by simp [mulE, ha]⟩
  | true =>
    cases hb : vld b with
    | false => exact .inr (.inl ⟨rfl, rfl, by simp [mulV, ha, hb], by simp [mulE, ha, hb]⟩)
    | true =>
      have h1 := vld_bounds ha
      have h2 := vld_bounds hb
      refine .inr (.inr ⟨rfl, rfl, ⟨by omega, by omega⟩, ⟨by omega, by omega⟩, ⟨Int.mul_nonneg (by omega) (by omega), ?_⟩, by simp [mulV, ha, hb], by simp [mulE, ha, hb]⟩)
      have := Int.mul_le_mul (a := a) (b := b) (c := 2147483578) (d := 2147483578) (by omega) (by omega) (by omega) (by omega)
      omega
theorem red_bounds (n : Int) : 0 ≤ red n ∧ red n < 1073741789 := by unfold red; omega
theorem mulE_self (a : Int) : mulE a a = if vld a = true then 0 else 100 := by unfold mulE; simp
def powV (a n : Int) : Int := if vld a = true then ((pm a.toNat (red n).toNat : Nat) : Int) else 0
theorem pow_cases (a n : Int) : (vld a = false ∧ powV a n = 0 ∧ mulE a a = 100) ∨
    (vld a = true ∧ 0 ≤ a ∧ a ≤ 2147483578 ∧ powV a n = ((pm a.toNat (red n).toNat : Nat) : Int) ∧ mulE a a = 0) := by
  cases ha : vld a with
  | false => exact .inl ⟨rfl, by simp [powV, ha], by simp [mulE, ha]⟩
  | true =>
    have h1 := vld_bounds ha
    exact .inr ⟨rfl, by omega, by omega, by simp [powV, ha], by simp [mulE, ha]⟩
def elV (n : Int) : Int := if n < 1 ∨ 1073741789 < n then 0 else if vld n = true then n else 2147483579 - n
theorem red_least (n : Int) : red n = (n.tmod 1073741789 + 1073741789) % 1073741789 := by
  rw [red_eq]
  have h1 := Int.tmod_lt_of_pos n (b := 1073741789) (by omega)
  have h2 := tmod_lo n
  split <;> omega
end Go.Proofs.YtbbofkpolcjmgaaDoor.Jac
namespace Go.Proofs.YtbbofkpolcjmgaaDoor
open Go.RowKit
def VRel (x0 : Nat) (x n s : Value) : Prop := ∃ (a m : Nat) (q : Bool), Jac.Inv x0 a m q ∧ x = .int .i64 a ∧ n = .int .i64 m ∧ s = .bool q
def VRel2 (x0 m a1 : Nat) (x s : Value) : Prop := ∃ (a : Nat) (q : Bool), Jac.Inv x0 a m q ∧ a ≤ a1 ∧ x = .int .i64 a ∧ s = .bool q
theorem ret_bool {a b : Bool} (h : a = b) : Ending.returned (.bool a) = .returned (.bool b) := by rw [h]
theorem valid_out (x : Int) (w : World) (h : x < 1 ∨ 2147483579 ≤ x) :
    Calls Tryd.prog 13 #[.int .i64 x] w fun e w' => e = .returned (.bool (Jac.vld x)) ∧ w = w' := by
  have hv : Hid (Jac.vld x = false) := Lib.hid (Jac.vld_out (by omega))
  rcases h with h | h
  · go_enter Tryd.func13, Tryd.ntmps13
    go_wp2; go_step3
    go_wp2
    rw [Exit.noGoto_ret]
    go_ret
    exact ⟨ret_bool hv.out.symm, rfl⟩
  have h' : ¬ x < 1 := by omega
  go_enter Tryd.func13, Tryd.ntmps13
  go_wp2; go_step3
  go_wp2
  rw [Exit.noGoto_ret]
  go_ret
  exact ⟨ret_bool hv.out.symm, rfl⟩
set_option maxHeartbeats 400000 in
theorem valid_in (x : Nat) (w : World) (h : 1 ≤ x) (h0 : x < 2147483579) :
    Calls Tryd.prog 13 #[.int .i64 x] w fun e w' => e = .returned (.bool (Jac.vld x)) ∧ w = w' := by
  go_enter Tryd.func13, Tryd.ntmps13
  go_wp2; go_step3
  go_wp2; go_step3; go_wp2
  go_loop [0, 3, 4] (fun a b c => VRel x a b c) (fun a _ _ => (intOf a).toNat)
  case atStart => exact ⟨x, 2147483579, true, Jac.inv_start h h0, rfl, rfl, rfl⟩
  case round =>
    obtain ⟨a, m, q, hi, rfl, rfl, rfl⟩ := hrel
    have hi1 := hi.1
    have hi2 := hi.2.1
    have hi3 := hi.2.2.2.1
    have HI := Lib.hid hi
    clear hi
    by_cases hc : 1 < a
    · go_wp2
      go_loop [0, 4] (fun u v => VRel2 x m a u v) (fun u _ => (intOf u).toNat)
      case atStart => exact ⟨a, q, HI.out, Nat.le_refl _, rfl, rfl⟩
      case round =>
        obtain ⟨b, r, hj, hba, rfl, rfl⟩ := hrel
        have hj1 := hj.1
        have HJ := Lib.hid hj
        clear hj
        go_wp2
        all_goals simp only [beq_iff_eq, beq_eq_false_iff_ne, ne_eq] at *
        · exact ⟨⟨b / 2, _, Jac.inv_even HJ.out (by omega) _ (if_pos (by omega)).symm, by omega, rfl, rfl⟩, by simp [intOf]; omega⟩
        · exact ⟨⟨b / 2, _, Jac.inv_even HJ.out (by omega) _ (if_pos (by omega)).symm, by omega, rfl, rfl⟩, by simp [intOf]; omega⟩
        · exact ⟨⟨b / 2, _, Jac.inv_even HJ.out (by omega) _ (if_neg (by omega)).symm, by omega, rfl, rfl⟩, by simp [intOf]; omega⟩
        · obtain rfl : b = 1 := by omega
          have he := Jac.inv_end HJ.out
          go_ret
          exact ⟨ret_bool he, rfl⟩
        · exact ⟨⟨m % b, b, _, Jac.inv_odd HJ.out (by omega) (by omega) _ (if_pos (by omega)).symm, rfl, rfl, rfl⟩, by simp [intOf]; have := Nat.mod_lt m hj1; omega⟩
        · exact ⟨⟨m % b, b, _, Jac.inv_odd HJ.out (by omega) (by omega) _ (if_neg (by omega)).symm, rfl, rfl, rfl⟩, by simp [intOf]; have := Nat.mod_lt m hj1; omega⟩
        exact ⟨⟨m % b, b, _, Jac.inv_odd HJ.out (by omega) (by omega) _ (if_neg (by omega)).symm, rfl, rfl, rfl⟩, by simp [intOf]; have := Nat.mod_lt m hj1; omega⟩
    go_wp2
    obtain rfl : a = 1 := by omega
    have he := Jac.inv_end HI.out
    go_ret
    exact ⟨ret_bool he, rfl⟩
theorem valid_any (x : Int) (w : World) :
    Calls Tryd.prog 13 #[.int .i64 x] w fun e w' => e = .returned (.bool (Jac.vld x)) ∧ w = w' := by
  by_cases h : x < 1 ∨ 2147483579 ≤ x
  · exact valid_out x w h
  obtain ⟨n, rfl⟩ : ∃ n : Nat, x = n := ⟨x.toNat, by omega⟩
  exact valid_in n w (by omega) (by omega)
end Go.Proofs.YtbbofkpolcjmgaaDoor
namespace Go.Proofs.YtbbofkpolcjmgaaDoor
open Go.RowKit
theorem ret_int {k : IntKind} {a b : Int} (h : a = b) : Ending.returned (.int k a) = .returned (.int k b) := by rw [h]
def PwRel (a n : Nat) (x m c : Value) : Prop := ∃ x' m' c' : Nat, Jac.PInv a n c' x' m' ∧ m' ≤ n ∧ x = .int .i64 x' ∧ m = .int .i64 m' ∧ c = .int .i64 c'
set_option maxHeartbeats 400000 in
theorem power_any (a n : Nat) (w : World) (h : a < 2147483579) (hn : n ≤ 9223372036854775807) :
    Calls Tryd.prog 43 #[.int .i64 a, .int .i64 n] w fun e w' => e = .returned (.int .i64 (Jac.pm a n)) ∧ w = w' := by
  go_enter Tryd.func43, Tryd.ntmps43
  go_wp2
  go_loop [0, 1, 5] (fun u v z => PwRel a n u v z) (fun _ v _ => (intOf v).toNat)
  case atStart => exact ⟨a, n, 1, Jac.pinv_start h, Nat.le_refl _, rfl, rfl, rfl⟩
  case round =>
    obtain ⟨x, m, c, hi, hmn, rfl, rfl, rfl⟩ := hrel
    have hc := hi.1
    have hx := hi.2.1
    have HI := Lib.hid hi
    clear hi
    have b1 : c * x ≤ 2147483578 * 2147483578 := Nat.mul_le_mul (by omega) (by omega)
    have b2 : x * x ≤ 2147483578 * 2147483578 := Nat.mul_le_mul (by omega) (by omega)
    by_cases h0 : 0 < m
    · go_wp2
      all_goals simp only [beq_iff_eq, beq_eq_false_iff_ne, ne_eq] at *
      · exact ⟨⟨_, _, _, Jac.pinv_odd HI.out (by omega), by omega, rfl, rfl, rfl⟩, by simp [intOf]; omega⟩
      exact ⟨⟨_, _, _, Jac.pinv_even HI.out (by omega), by omega, rfl, rfl, rfl⟩, by simp [intOf]; omega⟩
    go_wp2
    obtain rfl : m = 0 := by omega
    go_ret
    exact ⟨ret_int (by rw [Jac.pinv_end HI.out]), rfl⟩
theorem power_int (a n : Int) (w : World) (h0 : 0 ≤ a) (h : a < 2147483579) (hn : 0 ≤ n) (hn' : n ≤ 9223372036854775807) :
    Calls Tryd.prog 43 #[.int .i64 a, .int .i64 n] w fun e w' => e = .returned (.int .i64 (Jac.pm a.toNat n.toNat)) ∧ w = w' := by
  have := power_any a.toNat n.toNat w (by omega) (by omega)
  rwa [Int.toNat_of_nonneg h0, Int.toNat_of_nonneg hn] at this
theorem rvalid_any (x : Int) (w : World) :
    Calls Tryd.prog 32 #[.int .i64 x] w fun e w' => e = .returned (.bool (Jac.vld x)) ∧ w = w' := by
  by_cases h : x < 1 ∨ 2147483579 ≤ x
  · have hv : Hid (Jac.vld x = false) := Lib.hid (Jac.vld_out (by omega))
    rcases h with h | h
    · go_enter Tryd.func32, Tryd.ntmps32
      go_wp2
      go_ret
      exact ⟨ret_bool hv.out.symm, rfl⟩
    go_enter Tryd.func32, Tryd.ntmps32
    go_wp2
    go_ret
    exact ⟨ret_bool hv.out.symm, rfl⟩
  have hv := Lib.hid (Jac.vld_iff' (x := x) (by omega) (by omega))
  go_enter Tryd.func32, Tryd.ntmps32
  go_wp2_with (go_at_call 43; refine (power_int _ _ _ (by omega) (by omega) (by omega) (by omega)).mono ?_; rintro e w' ⟨rfl, rfl⟩)
  go_ret
  exact ⟨ret_bool (by rw [hv.out]; rfl), rfl⟩
theorem ret_ii {a b c d : Int} (h : a = b) (h' : c = d) : Ending.returned (.tuple #[.int .i64 a, .int .i64 c]) = .returned (.tuple #[.int .i64 b, .int .i64 d]) := by rw [h, h']
theorem mul_any (a b : Int) (w : World) :
    Calls Tryd.prog 31 #[.int .i64 a, .int .i64 b] w fun e w' => e = .returned (.tuple #[.int .i64 (Jac.mulV a b), .int .i64 (Jac.mulE a b)]) ∧ w = w' := by
  rcases Jac.mul_cases a b with ⟨ha, hm⟩ | ⟨ha, hb, hm⟩ | ⟨ha, hb, ba, bb, bm, hm⟩
  all_goals
    have HM := Lib.hid hm
    clear hm
    try (have ba1 := ba.1; have ba2 := ba.2; have bb1 := bb.1; have bb2 := bb.2)
    go_enter Tryd.func31, Tryd.ntmps31
    go_wp2_with (go_at_call 13; refine (valid_any _ _).mono ?_; rintro e w' ⟨rfl, rfl⟩)
    go_ret2
    exact ⟨ret_ii HM.out.1.symm HM.out.2.symm, rfl⟩
end Go.Proofs.YtbbofkpolcjmgaaDoor
namespace Go.Proofs.YtbbofkpolcjmgaaDoor
open Go.RowKit
theorem least_one (x : Int) (b : Nat) (w : World) (hc : w.cell? ⟨b, 0, none⟩ = some (.int .i64 x)) :
    Calls Tryd.prog 35 #[.slice (some ⟨b, 0, none⟩) 1 1] w fun e w' => e = .returned (.int .i64 (Jac.red x)) ∧ w = w' := by
  have h1 := Int.tmod_lt_of_pos x (b := 1073741789) (by omega)
  have h2 := Jac.tmod_lo x
  have HR := Lib.hid (Jac.red_least x)
  have hr := Jac.red_bounds x
  have hr1 := hr.1
  have hr2 := hr.2
  clear hr
  go_enter Tryd.func35, Tryd.ntmps35
  go_wp2
  go_loop [3, 8] (fun m i => (m = .int .i64 1 ∧ i = .int .i64 0) ∨ (m = .int .i64 (Jac.red x) ∧ i = .int .i64 1)) (fun _ i => 1 - (intOf i).toNat)
  case atStart => exact .inl ⟨rfl, rfl⟩
  case round =>
    rcases hrel with ⟨rfl, rfl⟩ | ⟨rfl, rfl⟩
    · go_wp2
      go_round
      case rel => exact .inr ⟨by rw [HR.out], rfl⟩
      case measure => simp [intOf]
    go_wp2
    go_ret
    exact ⟨rfl, rfl⟩
variable {F : Fence} {n : Nat} {P : Program}
structure LP where
  fn : FuncId
  tmps : Array Value
  ps : Array Tmp
  assign : Code
  body : Code
  D : Nat
def LP.obj (L : LP) (st : LoopState) (pe : Option Code) : Obj :=
  .loop { state := st, pending := pe, fn := L.fn, tmps := L.tmps, params := L.ps, assign := L.assign, body := L.body, defers := L.D }
def lmark (D : Nat) (a : Act) : Act := { a with defers := { target := .collected D, args := #[] } :: a.defers }
def lafter (F : Fence) (n : Nat) (P : Program) (Q : Exit → Act → World → Prop) (a : Act) (W : World) : Option Code → Prop
  | none => Q .normal a W
  | some c => c.wpIn F n P Q a W
def LP.ends (L : LP) (F : Fence) (n : Nat) (P : Program) (Q : Exit → Act → World → Prop) (a : Act) (l : Nat) (e : Ending) (W : World) : Prop :=
  ∃ v st jump, e = .returned v ∧ st ≠ .busy ∧ W.heap[l]? = some (L.obj st jump) ∧ lafter F n P Q a (W.putObj l (L.obj .exhausted jump)) jump
theorem wpIn_rangeFunc_line {g : Operand} {ps : Array Tmp} {assign body : Code} {Q : Exit → Act → World → Prop} {a : Act} {w : World}
    (hro : F.round = none) (h1 : 1 ≤ n) {gf : Nat} {lb : Array Value} (hg : a.eval g = .func (.func gf) #[] lb) (hFg : F.fn gf) (eg : ∀ args w, (callFunc gf args).run P w = .ok (.enter gf args) w)
    (h : ∀ L : LP, F.fn L.fn → Hid (L.tmps = a.tmps) → Hid (L.ps = ps) → Hid (L.assign = assign) → Hid (L.body = body) →
      CallsIn F (n - 1) P gf (#[.func (.yield (w.heap.size + 1)) #[] #[]] ++ lb)
      ((w.alloc (.deferred (some []))).alloc (L.obj .ready none)) (L.ends F n P Q (lmark w.heap.size a) (w.heap.size + 1))) :
    (Code.rangeFunc g ps assign body).wpIn F n P Q a w := by
  refine wpIn_rangeFunc ?_
  intro fn hfn
  rw [hro]
  have hc := h ⟨fn, a.tmps, ps, assign, body, w.heap.size⟩ hfn rfl rfl rfl rfl
  obtain ⟨W1, hW1⟩ : ∃ W1, (w.alloc (.deferred (some []))).alloc (LP.obj ⟨fn, a.tmps, ps, assign, body, w.heap.size⟩ .ready none) = W1 := ⟨_, rfl⟩
  rw [hW1] at hc
  refine ⟨w.heap.size + 1, [{ target := .collected w.heap.size, args := #[] }], W1, { target := .fn (.func gf) lb, args := #[.func (.yield (w.heap.size + 1)) #[] #[]] }, W1, gf,
    #[.func (.yield (w.heap.size + 1)) #[] #[]] ++ lb, W1, ?_, ?_, ?_, ?_, fun _ => h1, ?_⟩
  · rw [← hW1]; exact run_enterLoop_outer _ _ _ _ _
  · simp only [resolve, hg]
    simp [go_sem]
  · intro f' hf'; simp [Target.leads] at hf'; subst hf'; exact hFg
  · simp [invoke, go_sem, eg]
  refine CallsIn.mono hc ?_
  intro e W hh
  obtain ⟨v, st, jump, he, hst, hl, hj⟩ := hh
  subst he
  refine ⟨jump, W.putObj (w.heap.size + 1) (LP.obj ⟨fn, a.tmps, ps, assign, body, w.heap.size⟩ .exhausted jump), ?_, ?_⟩
  · exact run_endLoop hl hst
  cases jump with
  | none => exact hj
  | some c => exact hj
def LP.round (L : LP) (l : Nat) (R : Ending → World → Prop) (e : Exit) (_a : Act) (W : World) : Prop :=
  W.heap[l]? = some (L.obj .busy none) ∧
    match e with
    | .normal => R (.returned (.bool true)) (W.putObj l (L.obj .ready none))
    | .ret => R (.returned (.bool false)) (W.putObj l (L.obj .done (some .ret)))
    | .exit id => R (.returned (.bool false)) (W.putObj l (L.obj .done (some (.exit id))))
    | .goto t => R (.returned (.bool false)) (W.putObj l (L.obj .done (some (.goto t))))
    | _ => False
theorem run_yield_lit {L : LP} {l : Nat} {args : Array Value} {W : World} {ps : Array Tmp} {tmps : Array Value} (hp : Hid (L.ps = ps)) (ht : Hid (L.tmps = tmps))
    (h : W.heap[l]? = some (L.obj .ready none)) (hs : args.size = ps.size) :
    (Instr.yield l args).run P W = .ok (.round l L.fn ((ps.zip args).foldl (fun tmps (t, a) => tmps.setIfInBounds t a) tmps) L.assign L.body) W := by
  have hp' : L.ps = ps := hp
  have ht' : L.tmps = tmps := ht
  subst hp'
  subst ht'
  exact run_yield h hs
theorem roundIn_line {L : LP} {l : Nat} {tmps : Array Value} {w : World} {R : Ending → World → Prop} (hF : F.fn L.fn)
    (h : L.assign.wpIn (F.inRound l) n P (Exit.then (fun a₁ w₁ => w₁.heap[l]? = some (L.obj .ready none) ∧
      L.body.wpIn (F.inRound l) n P (L.round l R) a₁ (w₁.putObj l (L.obj .busy none))) (fun _ _ _ => False)) { tmps := tmps, defers := [] } w) :
    RoundIn F n P l L.fn tmps L.assign L.body w R := by
  refine roundIn_of_wpIn hF (wpIn_mono h ?_)
  intro e a W hq
  cases e with
  | normal =>
    obtain ⟨hl, hb⟩ := hq
    refine ⟨_, run_beginRound hl rfl, wpIn_mono hb ?_⟩
    rintro e2 a2 W2 ⟨hl2, hr⟩
    cases e2 with
    | normal => exact ⟨_, _, run_endRound none hl2, hr⟩
    | ret => exact ⟨_, _, run_endRound (some .ret) hl2, hr⟩
    | exit id => exact ⟨_, _, run_endRound (some (.exit id)) hl2, hr⟩
    | goto t => exact ⟨_, _, run_endRound (some (.goto t)) hl2, hr⟩
    | panic c => exact hr.elim
    | outgrown => exact hr.elim
  | ret => exact hq.elim
  | exit id => exact hq.elim
  | goto t => exact hq.elim
  | panic c => exact hq.elim
  | outgrown => exact hq.elim
theorem heap_put {W : World} {l k : Nat} {o o' : Obj} (h : W.heap[k]? = some o) (hne : k ≠ l) : (W.putObj l o').heap[k]? = some o :=
  (World.putObj_heap_other hne).trans h
theorem heap_put_same {W : World} {l : Nat} {o o' : Obj} (h : W.heap[l]? = some o) : (W.putObj l o').heap[l]? = some o' :=
  World.putObj_heap_same (Array.getElem?_eq_some_iff.1 h).1
theorem heap_set {W : World} {b k : Nat} {o : Obj} {v : Value} (h : W.heap[k]? = some o) (hne : k ≠ b) : (W.setCell ⟨b, 0, none⟩ v).heap[k]? = some o :=
  (Below.heap_setCell _ _ _ _ hne).trans h
theorem below_put {B l : Nat} {a W : World} (h : Below B a W) (hl : B ≤ l) (o : Obj) : Below B a (W.putObj l o) :=
  h.trans ⟨rfl, rfl, rfl, by simp, fun k hk => World.putObj_heap_other (by omega)⟩
theorem _root_.Go.Boxed.put {W : World} {B l : Nat} {t : TypeId} {v : Value} {o : Obj} (h : Boxed W B t v) (hne : B ≠ l) : Boxed (W.putObj l o) B t v := heap_put h hne
def boxNat (W : World) (B : Nat) : Nat := match W.cell? ⟨B, 0, none⟩ with | some v => (intOf v).toNat | none => 0
theorem boxNat_of {W : World} {B : Nat} {t : TypeId} {k : IntKind} {q : Int} (h : Boxed W B t (.int k q)) : boxNat W B = q.toNat := by
  unfold boxNat; rw [h.cell]; rfl
theorem heap?_alloc (W : World) (o : Obj) (k : Nat) : (W.alloc o).heap[k]? = if k = W.heap.size then some o else W.heap[k]? := by
  show (W.heap.push o)[k]? = _
  rw [Array.getElem?_push]
theorem heap_at {W : World} {o : Obj} {k : Nat} (h : k = W.heap.size) : (W.alloc o).heap[k]? = some o := by rw [heap?_alloc, if_pos h]
theorem heap_ne {W : World} {o o' : Obj} {k : Nat} (h : k ≠ W.heap.size) (h' : W.heap[k]? = some o') : (W.alloc o).heap[k]? = some o' := by rw [heap?_alloc, if_neg h, h']
end Go.Proofs.YtbbofkpolcjmgaaDoor
namespace Go.Proofs.YtbbofkpolcjmgaaDoor
open Go Go.RowKit Go.Shelf
attribute [local go_sem] Oper.semAt_some
theorem squares_any (a n : Int) (w : World) :
    Calls Tryd.prog 34 #[.int .i64 a, .int .i64 n] w fun e w' =>
      e = .returned (.func (.func 46) #[] #[.pointer (some ⟨w.heap.size + 1, 0, none⟩), .pointer (some ⟨w.heap.size, 0, none⟩)]) ∧
      (w.alloc (.cells #[.int .i64 a] 3)).alloc (.cells #[.int .i64 n] 3) = w' := by
  go_enter Tryd.func34, Tryd.ntmps34
  go_wp2
  go_ret
  exact ⟨rfl, rfl⟩
def SqSt (w : World) (L : LP) (a n : Nat) (m : Nat) (W : World) : Prop :=
  ∃ x c, Jac.PInv a n c x m ∧ m ≤ n ∧ Boxed W w.heap.size 3 (.int .i64 c) ∧ Boxed W (w.heap.size + 2) 3 (.int .i64 x) ∧ Boxed W (w.heap.size + 3) 3 (.int .i64 m) ∧
    W.heap[w.heap.size + 5]? = some (L.obj .ready none) ∧ W.heap[w.heap.size + 4]? = some (.deferred (some [])) ∧ Below w.heap.size w W
set_option maxHeartbeats 1000000 in
theorem pow_in (a n : Int) (w : World) (hv : Jac.vld a = true) :
    CallsIn Fence.wide 5 Tryd.prog 12 #[.int .i64 a, .int .i64 n] w fun e w' => e = .returned (.tuple #[.int .i64 (Jac.powV a n), .int .i64 (Jac.mulE a a)]) ∧ Below w.heap.size w w' := by
  refine callsIn_of_wp_marks Tryd.func12 rfl trivial ?_ rfl
  simp only [Tryd.ntmps12, List.size_toArray, List.length_cons, List.length_nil, Nat.reduceAdd, Nat.reduceSub, Array.replicate_succ, Array.replicate_zero, List.push_toArray, List.append_toArray, List.nil_append, List.cons_append]
  gi_wp2_with (first | (refine ⟨trivial, ?_⟩; gi_at_call 13; refine CallsIn.mono (callsIn_wide.2 (valid_any _ _)) ?_; rintro e w' ⟨rfl, rfl⟩) | (refine ⟨trivial, ?_⟩; gi_at_call 35; refine CallsIn.mono (callsIn_wide.2 (least_one n _ _ (by simp))) ?_; rintro e w' ⟨rfl, rfl⟩) | (refine ⟨trivial, ?_⟩; gi_at_call 34; refine CallsIn.mono (callsIn_wide.2 (squares_any _ _ _)) ?_; rintro e w' ⟨rfl, rfl⟩))
  have hb := Jac.vld_bounds hv
  obtain ⟨x, rfl⟩ : ∃ x : Nat, a = x := ⟨a.toNat, by omega⟩
  have hr := Jac.red_bounds n
  obtain ⟨m, hm⟩ : ∃ m : Nat, Jac.red n = m := ⟨(Jac.red n).toNat, by omega⟩
  rw [hm]
  refine wpIn_rangeFunc_line rfl (by omega) (gf := 46) rfl trivial (enters_of Tryd.func46 (by kernel_rfl) rfl) ?_
  intro L hLf hLt hLp hLa hLb
  refine callsIn_of_wp Tryd.func46 rfl trivial ?_
  simp only [Tryd.ntmps46, List.size_toArray, List.length_cons, List.length_nil, Nat.reduceAdd, Nat.reduceSub, Array.replicate_succ, Array.replicate_zero, List.push_toArray, List.append_toArray, List.nil_append, List.cons_append]
  gi_wp2
  gi_loopw [5] (fun _ W => ∃ k, SqSt w L x m k W) (fun _ W => boxNat W (w.heap.size + 3))
  case atStart =>
    refine ⟨m, x, 1, Jac.pinv_start (by omega), Nat.le_refl _, ?_, ?_, ?_, ?_, ?_, ?_⟩
    · repeat (first | exact heap_at (by first | rfl | (simp only [World.size_alloc]; done) | (simp only [World.size_alloc]; omega)) | refine heap_ne (by first | (simp only [World.size_alloc]; omega) | omega) ?_)
    · repeat (first | exact heap_at (by first | rfl | (simp only [World.size_alloc]; done) | (simp only [World.size_alloc]; omega)) | refine heap_ne (by first | (simp only [World.size_alloc]; omega) | omega) ?_)
    · repeat (first | exact heap_at (by first | rfl | (simp only [World.size_alloc]; done) | (simp only [World.size_alloc]; omega)) | refine heap_ne (by first | (simp only [World.size_alloc]; omega) | omega) ?_)
    · repeat (first | exact heap_at (by first | rfl | (simp only [World.size_alloc]; done) | (simp only [World.size_alloc]; omega)) | refine heap_ne (by first | (simp only [World.size_alloc]; omega) | omega) ?_)
    · repeat (first | exact heap_at (by first | rfl | (simp only [World.size_alloc]; done) | (simp only [World.size_alloc]; omega)) | refine heap_ne (by first | (simp only [World.size_alloc]; omega) | omega) ?_)
    repeat (first | exact Below.refl _ _ | (refine Below.alloc ?_ (by first | exact Nat.le_refl _ | (simp only [World.size_alloc]; omega)) _) | (refine Below.setCell ?_ (by simp) _))
  case round =>
    obtain ⟨k, y, c, hi, hkn, hc, hy, hk, hl, hD, hbl⟩ := hrel
    have hm0 := Lib.hid (boxNat_of hk)
    have c1 := hc.cell
    have c2 := hy.cell
    have c3 := hk.cell
    have f1 := hc.frozen
    have f2 := hy.frozen
    have f3 := hk.frozen
    have p1 := hi.1
    have p2 := hi.2.1
    have b1 : c * y ≤ 2147483578 * 2147483578 := Nat.mul_le_mul (by omega) (by omega)
    have b2 : y * y ≤ 2147483578 * 2147483578 := Nat.mul_le_mul (by omega) (by omega)
    by_cases h0 : 0 < k
    · have hks : k < 9223372036854775808 := by omega
      have hb2 := Go.Proofs.and_one k hks
      rcases Nat.mod_two_eq_zero_or_one k with ho | ho
      · have hbit : (bits BinOp.and IntKind.i64 (↑k) 1 == 1) = false := by rw [hb2, ho]; rfl
        have hyd := run_yield_lit (P := Tryd.prog) (args := #[.int .i64 (y : Int), .bool false]) hLp hLt hl rfl
        have hi2 := Jac.pinv_even hi ho
        clear hb2 ho
        gi_wp2
        refine roundIn_line trivial ?_
        rw [hLa.out]
        gi_wp2
        refine ⟨hl, ?_⟩
        rw [hLb.out]
        have hc1 := hc.put (o := L.obj .busy none) (l := w.heap.size + 5) (by omega)
        have hy1 := hy.put (o := L.obj .busy none) (l := w.heap.size + 5) (by omega)
        have hk1 := hk.put (o := L.obj .busy none) (l := w.heap.size + 5) (by omega)
        have hl1 := heap_put_same (o' := L.obj .busy none) hl
        have hD1 := heap_put (l := w.heap.size + 5) (o' := L.obj .busy none) hD (by omega)
        have hbl1 := below_put hbl (l := w.heap.size + 5) (by omega) (L.obj .busy none)
        clear hyd c1 c2 c3 f1 f2 f3 hc hy hk hl hD hbl
        generalize wr.putObj (w.heap.size + 5) (L.obj .busy none) = W1 at *
        have c1 := hc1.cell
        have c2 := hy1.cell
        have c3 := hk1.cell
        have f1 := hc1.frozen
        have f2 := hy1.frozen
        have f3 := hk1.frozen
        gi_wp2
        have HL := hl1
        have HC := hc1
        have HY := hy1
        have HK := hk1
        have HD := hD1
        have HB := hbl1
        clear hl1 hc1 hy1 hk1 hD1 hbl1
        clear c1 c2 c3 f1 f2 f3
        refine ⟨HL, ?_⟩
        have hl2 := heap_put_same (o' := L.obj .ready none) HL
        have hc2 := HC.put (o := L.obj .ready none) (l := w.heap.size + 5) (by omega)
        have hy2 := HY.put (o := L.obj .ready none) (l := w.heap.size + 5) (by omega)
        have hk2 := HK.put (o := L.obj .ready none) (l := w.heap.size + 5) (by omega)
        have hD2 := heap_put (l := w.heap.size + 5) (o' := L.obj .ready none) HD (by omega)
        have hbl2 := below_put HB (l := w.heap.size + 5) (by omega) (L.obj .ready none)
        clear HL HC HY HK HD HB
        dsimp only
        generalize World.putObj _ (w.heap.size + 5) (L.obj .ready none) = W2 at *
        have c1 := hc2.cell
        have c2 := hy2.cell
        have c3 := hk2.cell
        have f1 := hc2.frozen
        have f2 := hy2.frozen
        have f3 := hk2.frozen
        gi_wp2
        refine ⟨⟨k / 2, _, _, hi2, by omega, (hc2.other (by omega) _).other (by omega) _, (hy2.set _).other (by omega) _, (hk2.other (by omega) _).set _,
          heap_set (heap_set hl2 (by omega)) (by omega), heap_set (heap_set hD2 (by omega)) (by omega), (hbl2.setCell (p := ⟨w.heap.size + 2, 0, none⟩) (by simp) _).setCell (p := ⟨w.heap.size + 3, 0, none⟩) (by simp) _⟩, ?_⟩
        rw [hm0.out, boxNat_of ((hk2.other (B' := w.heap.size + 2) (by omega) (.int .i64 ((y : Int) * y % 2147483579))).set (.int .i64 ((k : Int) / 2)))]
        omega
      have hbit : (bits BinOp.and IntKind.i64 (↑k) 1 == 1) = true := by rw [hb2, ho]; rfl
      have hyd := run_yield_lit (P := Tryd.prog) (args := #[.int .i64 (y : Int), .bool true]) hLp hLt hl rfl
      have hi2 := Jac.pinv_odd hi ho
      clear hb2 ho
      gi_wp2
      refine roundIn_line trivial ?_
      rw [hLa.out]
      gi_wp2
      refine ⟨hl, ?_⟩
      rw [hLb.out]
      have hc1 := hc.put (o := L.obj .busy none) (l := w.heap.size + 5) (by omega)
      have hy1 := hy.put (o := L.obj .busy none) (l := w.heap.size + 5) (by omega)
      have hk1 := hk.put (o := L.obj .busy none) (l := w.heap.size + 5) (by omega)
      have hl1 := heap_put_same (o' := L.obj .busy none) hl
      have hD1 := heap_put (l := w.heap.size + 5) (o' := L.obj .busy none) hD (by omega)
      have hbl1 := below_put hbl (l := w.heap.size + 5) (by omega) (L.obj .busy none)
      clear hyd c1 c2 c3 f1 f2 f3 hc hy hk hl hD hbl
      generalize wr.putObj (w.heap.size + 5) (L.obj .busy none) = W1 at *
      have c1 := hc1.cell
      have c2 := hy1.cell
      have c3 := hk1.cell
      have f1 := hc1.frozen
      have f2 := hy1.frozen
      have f3 := hk1.frozen
      gi_wp2
      have HL := heap_set (v := .int .i64 ((c : Int) * y % 2147483579)) (b := w.heap.size) hl1 (by omega)
      have HC := hc1.set (.int .i64 ((c : Int) * y % 2147483579))
      have HY := hy1.other (B' := w.heap.size) (by omega) (.int .i64 ((c : Int) * y % 2147483579))
      have HK := hk1.other (B' := w.heap.size) (by omega) (.int .i64 ((c : Int) * y % 2147483579))
      have HD := heap_set (v := .int .i64 ((c : Int) * y % 2147483579)) (b := w.heap.size) hD1 (by omega)
      have HB := hbl1.setCell (p := ⟨w.heap.size, 0, none⟩) (Nat.le_refl _) (.int .i64 ((c : Int) * y % 2147483579))
      clear hl1 hc1 hy1 hk1 hD1 hbl1
      clear c1 c2 c3 f1 f2 f3
      refine ⟨HL, ?_⟩
      have hl2 := heap_put_same (o' := L.obj .ready none) HL
      have hc2 := HC.put (o := L.obj .ready none) (l := w.heap.size + 5) (by omega)
      have hy2 := HY.put (o := L.obj .ready none) (l := w.heap.size + 5) (by omega)
      have hk2 := HK.put (o := L.obj .ready none) (l := w.heap.size + 5) (by omega)
      have hD2 := heap_put (l := w.heap.size + 5) (o' := L.obj .ready none) HD (by omega)
      have hbl2 := below_put HB (l := w.heap.size + 5) (by omega) (L.obj .ready none)
      clear HL HC HY HK HD HB
      dsimp only
      generalize World.putObj _ (w.heap.size + 5) (L.obj .ready none) = W2 at *
      have c1 := hc2.cell
      have c2 := hy2.cell
      have c3 := hk2.cell
      have f1 := hc2.frozen
      have f2 := hy2.frozen
      have f3 := hk2.frozen
      gi_wp2
      refine ⟨⟨k / 2, _, _, hi2, by omega, (hc2.other (by omega) _).other (by omega) _, (hy2.set _).other (by omega) _, (hk2.other (by omega) _).set _,
        heap_set (heap_set hl2 (by omega)) (by omega), heap_set (heap_set hD2 (by omega)) (by omega), (hbl2.setCell (p := ⟨w.heap.size + 2, 0, none⟩) (by simp) _).setCell (p := ⟨w.heap.size + 3, 0, none⟩) (by simp) _⟩, ?_⟩
      rw [hm0.out, boxNat_of ((hk2.other (B' := w.heap.size + 2) (by omega) (.int .i64 ((y : Int) * y % 2147483579))).set (.int .i64 ((k : Int) / 2)))]
      omega
    have hk0 : k = 0 := by omega
    gi_wp2
    go_end0
    refine ⟨_, .ready, none, rfl, by simp, hl, ?_⟩
    unfold lafter lmark
    dsimp only
    have hc2 := hc.put (o := L.obj .exhausted none) (l := w.heap.size + 5) (by omega)
    have hD2 := heap_put (l := w.heap.size + 5) (o' := L.obj .exhausted none) hD (by omega)
    have hbl2 := below_put hbl (l := w.heap.size + 5) (by omega) (L.obj .exhausted none)
    clear hc hl hD hbl hy hk c1 c2 c3 f1 f2 f3
    have e5 : w.heap.size + 1 + 1 + 1 + 1 + 1 = w.heap.size + 5 := rfl
    rw [e5]
    generalize World.putObj _ (w.heap.size + 5) (L.obj .exhausted none) = W2 at *
    have c1 := hc2.cell
    have f1 := hc2.frozen
    gi_wp2
    subst hk0
    have e1 := Jac.pinv_end hi
    have hc3 := hc2.set (.int .i64 (c : Int))
    have hD3 := heap_set (v := .int .i64 (c : Int)) (b := w.heap.size) hD2 (by omega)
    have hb3 := hbl2.setCell (p := ⟨w.heap.size, 0, none⟩) (Nat.le_refl _) (.int .i64 (c : Int))
    generalize World.setCell W2 _ _ = W3 at *
    have hc4 := (hc3.put (o := .deferred none) (l := w.heap.size + 4) (by omega)).cell
    refine ⟨by simp, .inl ⟨_, _, rfl, run_takeDeferred hD3, ?_⟩⟩
    refine ⟨.tuple #[.int .i64 c, .int .i64 0], ?_, ret_ii ?_ ?_, below_put hb3 (by omega) _⟩
    · simp [results, Tryd.f12, go_sem, hc4]
    · rcases Jac.pow_cases x n with ⟨h1, _⟩ | ⟨_, _, _, h2, _⟩
      · rw [hv] at h1; cases h1
      rw [h2, hm, Int.toNat_natCast, Int.toNat_natCast, e1]
    rw [Jac.mulE_self, if_pos hv]
theorem pow_any (a n : Int) (w : World) :
    Calls Tryd.prog 12 #[.int .i64 a, .int .i64 n] w fun e w' => e = .returned (.tuple #[.int .i64 (Jac.powV a n), .int .i64 (Jac.mulE a a)]) ∧ Below w.heap.size w w' := by
  rcases Jac.pow_cases a n with ⟨hv, hm⟩ | ⟨hv, _⟩
  · have HM := Lib.hid hm
    clear hm
    go_enter Tryd.func12, Tryd.ntmps12
    go_wp2_with (go_at_call 13; refine (valid_any _ _).mono ?_; rintro e w' ⟨rfl, rfl⟩)
    refine bodyPost_ret (v := .tuple #[.int .i64 0, .int .i64 100]) (by simp [results, Tryd.results12, go_sem]) rfl ⟨ret_ii HM.out.1.symm HM.out.2.symm, ?_⟩
    repeat (first | exact Below.refl _ _ | (refine Below.alloc ?_ (by first | exact Nat.le_refl _ | (simp only [World.size_alloc]; omega)) _) | (refine Below.setCell ?_ (by simp) _))
  exact callsIn_wide.1 (pow_in a n w hv)
end Go.Proofs.YtbbofkpolcjmgaaDoor
namespace Go.Proofs.YtbbofkpolcjmgaaDoor.Jac
theorem vld_nat (x : Nat) (h1 : 1 ≤ x) (h2 : x < 2147483579) : vld (x : Int) = decide (mu 1073741789 x % 2 = 0) := by
  unfold vld
  rw [Int.toNat_natCast, decide_eq_true (by omega : (1 : Int) ≤ (x : Int)), decide_eq_true (by omega : (x : Int) < 2147483579)]
  simp only [Bool.true_and]
theorem mod_pos' {a b : Nat} (ha : 1 ≤ a) (ha' : a < 2147483579) (hb : 1 ≤ b) (hb' : b < 2147483579) : 1 ≤ a * b % 2147483579 :=
  mod_pos (h := 1073741789) (prime_coprime ha ha') hb hb'
theorem vld_mul {a b : Nat} (ha : 1 ≤ a) (ha' : a < 2147483579) (hb : 1 ≤ b) (hb' : b < 2147483579) :
    vld ((a * b % 2147483579 : Nat) : Int) = (vld (a : Int) == vld (b : Int)) := by
  have h1 := mod_pos' ha ha' hb hb'
  have h2 := Nat.mod_lt (a * b) (by omega : 2147483579 > 0)
  rw [vld_nat _ h1 h2, vld_nat a ha ha', vld_nat b hb hb']
  have e := mu_mod 1073741789 (a * b)
  have m := mu_mul (h := 1073741789) (prime_coprime ha ha') (prime_coprime hb hb')
  rw [show 2 * 1073741789 + 1 = 2147483579 from rfl] at e
  rw [e]
  generalize mu 1073741789 (a * b) = u at *
  generalize mu 1073741789 a = p at *
  generalize mu 1073741789 b = q at *
  rcases Nat.mod_two_eq_zero_or_one p with hp | hp <;> rcases Nat.mod_two_eq_zero_or_one q with hq | hq
  · rw [decide_eq_true hp, decide_eq_true hq, decide_eq_true (by omega)]; rfl
  · rw [decide_eq_true hp, decide_eq_false (by omega), decide_eq_false (by omega)]; rfl
  · rw [decide_eq_false (by omega), decide_eq_true hq, decide_eq_false (by omega)]; rfl
  rw [decide_eq_false (by omega : ¬ p % 2 = 0), decide_eq_false (by omega : ¬ q % 2 = 0), decide_eq_true (by omega)]; rfl
theorem vld_two : vld 2 = false := by
  have := vld_nat 2 (by omega) (by omega)
  rw [mu_two] at this
  exact this
theorem vld_four : vld 4 = true := by
  have := vld_mul (a := 2) (b := 2) (by omega) (by omega) (by omega) (by omega)
  simpa using this
theorem pm_zero (a : Nat) : pm a 0 = 1 := rfl
theorem pm_one {a : Nat} (h : a < 2147483579) : pm a 1 = a := by unfold pm; rw [Nat.pow_one, Nat.mod_eq_of_lt h]
theorem pm_add (a m n : Nat) : pm a (m + n) = pm a m * pm a n % 2147483579 := by
  unfold pm; rw [Nat.pow_add, Nat.mul_mod]
theorem pm_pm (a m n : Nat) : pm (pm a m) n = pm a (m * n) := by
  unfold pm; rw [← Nat.pow_mod, ← Nat.pow_mul]
theorem pm_one_base (n : Nat) : pm 1 n = 1 := by unfold pm; rw [Nat.one_pow]
theorem pm_order {a : Nat} (h : vld (a : Int) = true) : pm a 1073741789 = 1 := by
  have hb := vld_bounds h
  rw [vld_iff (by omega) (by omega)] at h
  exact of_decide_eq_true h
theorem pm_red {a : Nat} (h : vld (a : Int) = true) (n : Nat) : pm a (n % 1073741789) = pm a n := by
  have e := Nat.div_add_mod n 1073741789
  have ho := pm_order h
  generalize hq : (1073741789 : Nat) = q at *
  have : pm a n = pm a (q * (n / q) + n % q) := by rw [e]
  rw [this, pm_add, ← pm_pm, ho, pm_one_base, Nat.one_mul, Nat.mod_eq_of_lt (pm_lt _ _)]
theorem vld_pm_elem {a : Nat} (h : vld (a : Int) = true) (n : Nat) : vld ((pm a n : Nat) : Int) = true := by
  have hb := vld_bounds h
  have ho := pm_order h
  have hp : 1 ≤ pm a n := by
    induction n with
    | zero => rw [pm_zero]; omega
    | succ k ih => rw [pm_add, pm_one (by omega)]; exact mod_pos' ih (pm_lt _ _) (by omega) (by omega)
  have e : pm (pm a n) 1073741789 = 1 := by
    generalize hq : (1073741789 : Nat) = q at *
    rw [pm_pm, Nat.mul_comm, ← pm_pm, ho, pm_one_base]
  rw [vld_iff hp (pm_lt _ _)]
  exact decide_eq_true e
theorem mulV_ok {a b : Int} (ha : vld a = true) (hb : vld b = true) : mulV a b = a * b % 2147483579 := by simp [mulV, ha, hb]
theorem mulV_nat {a b : Nat} (ha : vld (a : Int) = true) (hb : vld (b : Int) = true) : mulV a b = ((a * b % 2147483579 : Nat) : Int) := by
  rw [mulV_ok ha hb]; omega
theorem powV_ok {a n : Int} (ha : vld a = true) : powV a n = ((pm a.toNat (red n).toNat : Nat) : Int) := by unfold powV; rw [if_pos ha]
theorem powV_nat {a : Nat} {n : Int} (ha : vld (a : Int) = true) : powV a n = ((pm a (red n).toNat : Nat) : Int) := by rw [powV_ok ha, Int.toNat_natCast]
theorem vld_powV {a n : Int} (ha : vld a = true) : vld (powV a n) = true := by
  have h1 := vld_bounds ha
  obtain ⟨x, rfl⟩ : ∃ k : Nat, a = k := ⟨a.toNat, by omega⟩
  rw [powV_nat ha]
  exact vld_pm_elem ha _
theorem red_toNat_add (m n : Int) : ((red m).toNat + (red n).toNat) % 1073741789 = (red (m + n)).toNat := by
  have h1 := red_bounds m
  have h2 := red_bounds n
  have h3 := red_bounds (m + n)
  unfold red at *
  omega
theorem red_mul (m n : Int) : ((red m).toNat * (red n).toNat) % 1073741789 = (red (m * n)).toNat := by
  have h1 := red_bounds m
  have h2 := red_bounds n
  have h3 := red_bounds (m * n)
  have : (((red m).toNat * (red n).toNat % 1073741789 : Nat) : Int) = red (m * n) := by
    rw [Int.natCast_emod, Int.natCast_mul, Int.toNat_of_nonneg h1.1, Int.toNat_of_nonneg h2.1]
    unfold red
    rw [show ((1073741789 : Nat) : Int) = 1073741789 from rfl, ← Int.mul_emod]
  omega
theorem powV_add {a m n : Int} (ha : vld a = true) : mulV (powV a m) (powV a n) = powV a (m + n) := by
  have h1 := vld_bounds ha
  obtain ⟨x, rfl⟩ : ∃ k : Nat, a = k := ⟨a.toNat, by omega⟩
  have e1 := vld_powV (n := m) ha
  have e2 := vld_powV (n := n) ha
  rw [powV_nat ha] at e1 e2 ⊢
  rw [powV_nat ha, powV_nat ha, mulV_nat e1 e2, ← pm_add, ← pm_red ha, red_toNat_add]
theorem powV_powV {a m n : Int} (ha : vld a = true) : powV (powV a m) n = powV a (m * n) := by
  have h1 := vld_bounds ha
  obtain ⟨x, rfl⟩ : ∃ k : Nat, a = k := ⟨a.toNat, by omega⟩
  have e1 := vld_powV (n := m) ha
  rw [powV_nat ha] at e1 ⊢
  rw [powV_nat e1, powV_nat ha, pm_pm, ← pm_red ha, red_mul]
def pf : Nat → Nat → Nat → Nat → Nat
  | 0, c, _, _ => c
  | f + 1, c, x, m => if m = 0 then c else pf f (if m % 2 = 1 then c * x % 2147483579 else c) (x * x % 2147483579) (m / 2)
theorem pf_eq {a n : Nat} : ∀ (f c x m : Nat), PInv a n c x m → m < 2 ^ f → pf f c x m = pm a n
  | 0, c, x, m, h, hm => by
    have : m = 0 := by rw [Nat.pow_zero] at hm; omega
    subst this
    exact pinv_end h
  | f + 1, c, x, m, h, hm => by
    unfold pf
    rw [Nat.pow_succ] at hm
    by_cases h0 : m = 0
    · subst h0; rw [if_pos rfl]; exact pinv_end h
    rw [if_neg h0]
    by_cases h1 : m % 2 = 1
    · rw [if_pos h1]; exact pf_eq f _ _ _ (pinv_odd h h1) (by omega)
    rw [if_neg h1]; exact pf_eq f _ _ _ (pinv_even h (by omega)) (by omega)
theorem pm_pf {a n : Nat} (h : a < 2147483579) (hn : n < 1073741824) : pm a n = pf 30 1 a n :=
  (pf_eq 30 1 a n (pinv_start h) hn).symm
theorem pow_four : powV 4 (-1) = 536870895 := by
  rw [powV_ok vld_four, pm_pf (by decide) (by decide)]
  decide +kernel
end Go.Proofs.YtbbofkpolcjmgaaDoor.Jac
namespace Go.Proofs.YtbbofkpolcjmgaaDoor
open Go Go.RowKit
theorem an_arg {W : World} {u : Value} {fs : List Anyv} (h : SX.Arg.rd W ⟨u, 1, anL fs⟩) : ∃ A n c, u = .slice A n c ∧ Rd W 1 A n (anL fs) ∧ n ≤ c ∧ fs.length = n := by
  unfold SX.Arg.rd at h
  split at h
  · rename_i A n c hu
    have hu : u = .slice A n c := hu
    refine ⟨A, n, c, hu, h.1, h.2, ?_⟩
    have := h.1.1; simp only [anL_len] at this; omega
  cases h
def nonceT : ByteArray := ⟨#[110, 111, 110, 99, 101]⟩
def signT : ByteArray := ⟨#[115, 105, 103, 110]⟩
def hashV (tag : ByteArray) (fl : List Fl) : Int := (hashN (tagE (sb tag) (encL fl)) : Int)
theorem hashV_bd (tag : ByteArray) (fl : List Fl) : 0 ≤ hashV tag fl ∧ hashV tag fl < 1073741789 := by
  unfold hashV hashN
  omega
theorem encL_lt {l : List Fl} (h : ∀ z ∈ l, z.fits) (hl : l.length ≤ 1048576) : (encL l).length < 2 ^ 44 := by
  have h1 := encL_len h
  have h2 := numB_len 9 l.length (by omega)
  simp only [encL, List.length_cons, List.length_append]
  omega
theorem rem_q {x : Int} (h : 0 ≤ x) : SX.binV .rem (.int .i64 x) (.int .i64 1073741789) = some (.int .i64 (x % 1073741789)) := by
  simp only [SX.binV, if_true]
  rw [if_neg (by decide), Int.tmod_eq_emod_of_nonneg h]
def tree_plus : SX.Tree :=
(.df (.bin .add 48) [(.q 0), (.q 1)] .one
(.df (.bin .rem 48) [(.q 2), (.i 1073741789)] .one
(.ret (.q 3) [] [])))
def args_plus : List SX.V := [.x 0 [], .x 1 []]
set_option maxRecDepth 100000 in
theorem run_plus (K A : Value → Nat → List Value → Prop) : (SX.run (cx0 K A) ⟨fun f => true, [], 0, 100⟩ 100000 0 (SX.door 21 Tryd.f21 args_plus [.one, .one]) [.code (Tryd.f21.body.getD .skip), .top Tryd.f21]).strip = tree_plus := by kernel_rfl
set_option maxRecDepth 100000 in
set_option maxHeartbeats 4000000 in
theorem plus_any (a n : Int) (w : World) (h1 : 0 ≤ a) (h2 : a < 1073741789) (h3 : 0 ≤ n) (h4 : n < 1073741789) : Calls Tryd.prog 21 #[.int .i64 a, .int .i64 n] w fun e w' => e = .returned (.int .i64 ((a + n) % 1073741789)) ∧ Below w.heap.size w w' := by
  refine SX.calls_of_run (C := cx0 (fun _ _ _ => False) (fun _ _ _ => False)) (G := ⟨fun f => true, [], 0, 100⟩) (args := args_plus) (sh := [.one, .one]) (ρ := [.int .i64 a, .int .i64 n]) 100000 tree_plus (cx0_ok _ _) Tryd.func21 rfl (run_plus _ _) (by kernel_rfl) (by kernel_rfl) (by kernel_rfl) ?_ ?_
  · exact fun W _ => SX.Kf_none (fun _ _ _ h => h) W
  unfold tree_plus
  refine SX.E (.int .i64 (a + n)) (fun α => SX.W (a + n)) ?_
  refine SX.E (.int .i64 ((a + n) % 1073741789)) (fun α => Eq.trans (b := SX.binV .rem (.int .i64 (a + n)) (.int .i64 1073741789)) (by kernel_rfl) (rem_q (by omega))) ?_
  exact SX.F (.int .i64 ((a + n) % 1073741789)) (rfl)
theorem mul_q {a n : Int} (h1 : 0 ≤ a) (h2 : a < 1073741789) (h3 : 0 ≤ n) (h4 : n < 1073741789) : 0 ≤ a * n ∧ a * n ≤ 1152921439882018521 := by
  refine ⟨Int.mul_nonneg h1 h3, Int.le_trans (Int.mul_le_mul (show a ≤ 1073741789 by omega) (show n ≤ 1073741789 by omega) h3 (by decide)) (by decide)⟩
def tree_times : SX.Tree :=
(.df (.bin .mul 48) [(.q 0), (.q 1)] .one
(.df (.bin .rem 48) [(.q 2), (.i 1073741789)] .one
(.ret (.q 3) [] [])))
def args_times : List SX.V := [.x 0 [], .x 1 []]
set_option maxRecDepth 100000 in
theorem run_times (K A : Value → Nat → List Value → Prop) : (SX.run (cx0 K A) ⟨fun f => true, [], 0, 100⟩ 100000 0 (SX.door 22 Tryd.f22 args_times [.one, .one]) [.code (Tryd.f22.body.getD .skip), .top Tryd.f22]).strip = tree_times := by kernel_rfl
set_option maxRecDepth 100000 in
set_option maxHeartbeats 4000000 in
theorem times_any (a n : Int) (w : World) (h1 : 0 ≤ a) (h2 : a < 1073741789) (h3 : 0 ≤ n) (h4 : n < 1073741789) : Calls Tryd.prog 22 #[.int .i64 a, .int .i64 n] w fun e w' => e = .returned (.int .i64 (a * n % 1073741789)) ∧ Below w.heap.size w w' := by
  refine SX.calls_of_run (C := cx0 (fun _ _ _ => False) (fun _ _ _ => False)) (G := ⟨fun f => true, [], 0, 100⟩) (args := args_times) (sh := [.one, .one]) (ρ := [.int .i64 a, .int .i64 n]) 100000 tree_times (cx0_ok _ _) Tryd.func22 rfl (run_times _ _) (by kernel_rfl) (by kernel_rfl) (by kernel_rfl) ?_ ?_
  · exact fun W _ => SX.Kf_none (fun _ _ _ h => h) W
  unfold tree_times
  refine SX.E (.int .i64 (a * n)) (fun α => Eq.trans (b := some (.int .i64 (IntKind.i64.wrap (a * n)))) (by kernel_rfl) (by rw [wrap_i64 (by have := mul_q h1 h2 h3 h4; omega) (by have := mul_q h1 h2 h3 h4; omega)])) ?_
  refine SX.E (.int .i64 ((a * n) % 1073741789)) (fun α => Eq.trans (b := SX.binV .rem (.int .i64 (a * n)) (.int .i64 1073741789)) (by kernel_rfl) (rem_q (mul_q h1 h2 h3 h4).1)) ?_
  exact SX.F (.int .i64 ((a * n) % 1073741789)) (rfl)
def RS0 (f : FuncId) (xs : List SX.Arg) (v : Value) : Prop :=
  (f = 12 ∧ ∃ a n : Int, xs = [⟨.int .i64 a, 0, []⟩, ⟨.int .i64 n, 0, []⟩] ∧ v = .tuple #[.int .i64 (Jac.powV a n), .int .i64 (Jac.mulE a a)])
def shpS0 : FuncId → Option SX.Sh := fun f => if f = 12 then some (.tp [.one, .one]) else none
noncomputable def cxS0 (K A : Value → Nat → List Value → Prop) : SX.Cx := { P := Tryd.prog, R := fun _ => RS0, shp := shpS0, K := K, A := A }
theorem okS0 (K A : Value → Nat → List Value → Prop) : (cxS0 K A).Ok := by
  refine SX.Cx.ok_of (fun _ => rfl) ?_
  intro K f xs v W hR hrd hKf
  rcases hR with ⟨rfl, a, n, rfl, rfl⟩
  exact (pow_any a n W).mono fun e w' h => SX.plainOk rfl h
def tree_power : SX.Tree :=
(.df (.call 12 [.no, .no]) [(.q 0), (.q 1)] (.tp [.one, .one])
(.ret (.x 2 [0]) [] []))
def args_power : List SX.V := [.x 0 [], .x 1 []]
set_option maxRecDepth 100000 in
theorem run_power (K A : Value → Nat → List Value → Prop) : (SX.run (cxS0 K A) ⟨fun f => true, [], 0, 100⟩ 100000 0 (SX.door 20 Tryd.f20 args_power [.one, .one]) [.code (Tryd.f20.body.getD .skip), .top Tryd.f20]).strip = tree_power := by kernel_rfl
set_option maxRecDepth 100000 in
set_option maxHeartbeats 4000000 in
theorem power_anyS (a n : Int) (w : World)  : Calls Tryd.prog 20 #[.int .i64 a, .int .i64 n] w fun e w' => e = .returned (.int .i64 (Jac.powV a n)) ∧ Below w.heap.size w w' := by
  refine SX.calls_of_run (C := cxS0 (fun _ _ _ => False) (fun _ _ _ => False)) (G := ⟨fun f => true, [], 0, 100⟩) (args := args_power) (sh := [.one, .one]) (ρ := [.int .i64 a, .int .i64 n]) 100000 tree_power (okS0 _ _) Tryd.func20 rfl (run_power _ _) (by kernel_rfl) (by kernel_rfl) (by kernel_rfl) ?_ ?_
  · exact fun W _ => SX.Kf_none (fun _ _ _ h => h) W
  unfold tree_power
  refine SX.E (.tuple #[.int .i64 ((Jac.powV a n)), .int .i64 ((Jac.mulE a a))]) (fun α => ⟨[⟨.int .i64 a, 0, []⟩, ⟨.int .i64 n, 0, []⟩], ⟨by kernel_rfl, by kernel_rfl, by kernel_rfl, by kernel_rfl, trivial⟩, ⟨rfl, _, _, rfl, rfl⟩, SX.noAli rfl⟩) ?_
  exact SX.F (.int .i64 ((Jac.powV a n))) (rfl)
def RS2 (K : Value → Nat → List Value → Prop) (f : FuncId) (xs : List SX.Arg) (v : Value) : Prop :=
  (f = 19 ∧ ∃ (u : Value) (fs : List Anyv), xs = [⟨u, 1, anL fs⟩] ∧ fs.length ≤ 1048576 ∧ (∀ B m d tx, Anyv.s B m d tx ∈ fs → K (.slice B m d) 1 ((sb tx).flatMap c8)) ∧ (∀ z ∈ fs, (flOf z).fits) ∧ v = .agg ((encL (fs.map flOf)).flatMap c8).toArray) ∨
  (f = 16 ∧ HashR K f xs v) ∨
  (f = 20 ∧ ∃ a n : Int, xs = [⟨.int .i64 a, 0, []⟩, ⟨.int .i64 n, 0, []⟩] ∧ v = .int .i64 (Jac.powV a n)) ∨
  (f = 13 ∧ ∃ x : Int, xs = [⟨.int .i64 x, 0, []⟩] ∧ v = .bool (Jac.vld x)) ∨
  (f = 31 ∧ ∃ a n : Int, xs = [⟨.int .i64 a, 0, []⟩, ⟨.int .i64 n, 0, []⟩] ∧ v = .tuple #[.int .i64 (Jac.mulV a n), .int .i64 (Jac.mulE a n)]) ∨
  (f = 21 ∧ ∃ a n : Int, xs = [⟨.int .i64 a, 0, []⟩, ⟨.int .i64 n, 0, []⟩] ∧ 0 ≤ a ∧ a < 1073741789 ∧ 0 ≤ n ∧ n < 1073741789 ∧ v = .int .i64 ((a + n) % 1073741789)) ∨
  (f = 22 ∧ ∃ a n : Int, xs = [⟨.int .i64 a, 0, []⟩, ⟨.int .i64 n, 0, []⟩] ∧ 0 ≤ a ∧ a < 1073741789 ∧ 0 ≤ n ∧ n < 1073741789 ∧ v = .int .i64 (a * n % 1073741789))
def shpS2 : FuncId → Option SX.Sh := fun f => if f = 19 then some (.sl 1) else if f = 16 then some .one else if f = 20 then some .one else if f = 13 then some .one else if f = 31 then some (.tp [.one, .one]) else if f = 21 then some .one else if f = 22 then some .one else none
noncomputable def cxS2 (K A : Value → Nat → List Value → Prop) : SX.Cx := { P := Tryd.prog, R := RS2, shp := shpS2, K := K, A := A, trm := true }
theorem okS2 (K A : Value → Nat → List Value → Prop) : (cxS2 K A).Ok := by
  refine SX.Cx.ok_of (fun _ => rfl) ?_
  intro K f xs v W hR hrd hKf
  rcases hR with ⟨rfl, u, fs, rfl, hl, htx, hfit, rfl⟩ | ⟨rfl, hR⟩ | ⟨rfl, a, n, rfl, rfl⟩ | ⟨rfl, x, rfl, rfl⟩ | ⟨rfl, a, n, rfl, rfl⟩ | ⟨rfl, a, n, rfl, h1, h2, h3, h4, rfl⟩ | ⟨rfl, a, n, rfl, h1, h2, h3, h4, rfl⟩
  · refine Calls.mono ?_ fun e w' h => SX.SlRet.ok1 rfl h
    obtain ⟨A, n, c, rfl, h2, h3, h4⟩ := an_arg (hrd ⟨u, 1, anL fs⟩ (by simp))
    exact slist_any fs A n c W h2 (by omega) h3 (fun B m d tx hm => hKf _ _ _ (htx B m d tx hm)) hfit
  · exact (hashR_calls hR hrd hKf).mono fun e w' h => SX.plainOk rfl h
  · exact (power_anyS a n W).mono fun e w' h => SX.plainOk rfl h
  · exact (valid_any x W).mono fun e w' h => SX.plainOk rfl ⟨h.1, h.2 ▸ Below.refl _ _⟩
  · exact (mul_any a n W).mono fun e w' h => SX.plainOk rfl ⟨h.1, h.2 ▸ Below.refl _ _⟩
  · exact (plus_any a n W h1 h2 h3 h4).mono fun e w' h => SX.plainOk rfl h
  exact (times_any a n W h1 h2 h3 h4).mono fun e w' h => SX.plainOk rfl h
def nonceV (secret : Int) (tx : ByteArray) : Int := max (hashV nonceT [.n secret, .s tx]) 1
def pointH (r key : Int) (tx : ByteArray) : Int := hashV signT [.n r, .n key, .s tx]
def signV (secret : Int) (tx : ByteArray) : Int × Int × Int :=
  if secret < 1 ∨ 1073741789 ≤ secret then (0, 0, 110)
  else (pointH (Jac.powV 4 (nonceV secret tx)) (Jac.powV 4 secret) tx, (nonceV secret tx + pointH (Jac.powV 4 (nonceV secret tx)) (Jac.powV 4 secret) tx * secret % 1073741789) % 1073741789, 0)
def verV (key : Int) (tx : ByteArray) (E S : Int) : Bool :=
  if E < 0 ∨ S < 0 ∨ 1073741789 ≤ E ∨ 1073741789 ≤ S ∨ Jac.vld key = false then false
  else decide (E = pointH (Jac.mulV (Jac.powV 4 S) (Jac.powV key (-E))) key tx)
theorem nonceV_bd (secret : Int) (tx : ByteArray) : 1 ≤ nonceV secret tx ∧ nonceV secret tx < 1073741789 := by
  have := hashV_bd nonceT [.n secret, .s tx]
  unfold nonceV
  omega
theorem pointH_bd (r key : Int) (tx : ByteArray) : 0 ≤ pointH r key tx ∧ pointH r key tx < 1073741789 := hashV_bd _ _
theorem powV_bd (a n : Int) : 0 ≤ Jac.powV a n ∧ Jac.powV a n < 2147483579 := by
  unfold Jac.powV
  split
  · have := Jac.pm_lt a.toNat (Jac.red n).toNat; omega
  omega
theorem mulV_bd (a b : Int) : 0 ≤ Jac.mulV a b ∧ Jac.mulV a b < 2147483579 := by
  unfold Jac.mulV
  split <;> omega
theorem max_int (x y : Int) : SX.maxV (.int .i64 x) (.int .i64 y) = some (.int .i64 (max x y)) := by
  simp only [SX.maxV, if_true]
  congr 2
  show maxI _ _ = _
  unfold maxI
  split <;> omega
theorem min_int (x y : Int) : SX.minV (.int .i64 x) (.int .i64 y) = some (.int .i64 (min x y)) := by
  simp only [SX.minV, if_true]
  congr 2
  show minI _ _ = _
  unfold minI
  split <;> omega
theorem encs_fit (l : List W8) : SX.Sh.fit (.sl 1) (.agg (l.flatMap c8).toArray) = true := by
  have h2 : (l.flatMap c8).all (·.oneCell') = true := by
    rw [List.all_eq_true]
    intro u hu
    obtain ⟨a, _, h⟩ := List.mem_flatMap.1 hu
    exact c8o a u h
  have h1 : (l.flatMap c8).length % 1 = 0 := Nat.mod_one _
  simp only [SX.Sh.fit, h1, h2]
  rfl
def tree_sign : SX.Tree :=
(.df (.bin .lss 3) [(.q 0), (.i 1)] .one
(.br 2 []
(.ret (.t [(.a [(.i 0), (.i 0)]), (.i 110)]) [] [])
(.df (.bin .geq 3) [(.q 0), (.i 1073741789)] .one
(.br 3 []
(.ret (.t [(.a [(.i 0), (.i 0)]), (.i 110)]) [] [])
(.df (.call 19 [(.own 1 [(.ifc 3 (.q 0)), (.ifc 22 (.q 1))])]) [(.sl 1 0 2 2)] (.sl 1)
(.df (.call 16 [.no, (.row 1 [(.q 4)])]) [(.k (.string ⟨#[110, 111, 110, 99, 101]⟩)), (.row 2)] .one
(.df .max [(.q 5), (.i 1)] .one
(.df (.call 20 [.no, .no]) [(.i 4), (.q 6)] .one
(.df (.call 20 [.no, .no]) [(.i 4), (.q 0)] .one
(.df (.call 19 [(.own 1 [(.ifc 3 (.q 7)), (.ifc 3 (.q 8)), (.ifc 22 (.q 1))])]) [(.sl 3 0 3 3)] (.sl 1)
(.df (.call 16 [.no, (.row 1 [(.q 9)])]) [(.k (.string ⟨#[115, 105, 103, 110]⟩)), (.row 4)] .one
(.df (.call 22 [.no, .no]) [(.q 10), (.q 0)] .one
(.df (.bin .add 48) [(.q 6), (.q 11)] .one
(.df (.bin .rem 48) [(.q 12), (.i 1073741789)] .one
(.ret (.t [(.a [(.q 10), (.q 13)]), (.i 0)]) [] [])))))))))))))))
def args_sign : List SX.V := [.x 0 [], .x 1 []]
set_option maxRecDepth 100000 in
theorem run_sign (K A : Value → Nat → List Value → Prop) : (SX.run (cxS2 K A) ⟨fun f => true, [], 0, 100⟩ 100000 0 (SX.door 8 Tryd.f8 args_sign [.one, .one]) [.code (Tryd.f8.body.getD .skip), .top Tryd.f8]).strip = tree_sign := by kernel_rfl
set_option maxRecDepth 100000 in
set_option maxHeartbeats 4000000 in
theorem sign_any (secret : Int) (tx : ByteArray) (A : Option Addr) (n c : Nat) (w : World) (hr : Rd w 1 A n ((sb tx).flatMap c8)) (hc : n ≤ c) (htx : tx.size ≤ 1048576) (hlaid : Laid w) : Calls Tryd.prog 8 #[.int .i64 secret, .slice A n c] w fun e w' => e = .returned (.tuple #[.agg #[.int .i64 (signV secret tx).1, .int .i64 (signV secret tx).2.1], .int .i64 (signV secret tx).2.2]) ∧ Below w.heap.size w w' := by
  refine SX.calls_of_run (C := cxS2 (KS A n c (sb tx)) (fun _ _ _ => False)) (G := ⟨fun f => true, [], 0, 100⟩) (args := args_sign) (sh := [.one, .one]) (ρ := [.int .i64 secret, .slice A n c]) 100000 tree_sign (okS2 _ _) Tryd.func8 rfl (run_sign _ _) (by kernel_rfl) (by kernel_rfl) (by kernel_rfl) ?_ ?_
  · rintro W hW s sz cells (⟨rfl, rfl, rfl⟩ | ⟨rfl, rfl, rfl⟩ | ⟨rfl, rfl, rfl⟩)
    · exact ⟨hr.same0 hW, hc⟩
    · exact ⟨hlaid.1.same0 hW, Nat.le_refl _⟩
    exact ⟨hlaid.2.same0 hW, Nat.le_refl _⟩
  unfold tree_sign
  refine SX.D (.bool (decide (secret < 1))) ?_
  refine SX.B (decide (secret < 1)) (fun h2 => ?_) (fun h2 => ?_)
  · try simp only [NRM] at h2
    exact SX.F (.tuple #[.agg #[.int .i64 0, .int .i64 0], .int .i64 110]) (by unfold signV; rw [if_pos (by omega)])
  try simp only [NRM] at h2
  refine SX.D (.bool (decide (secret ≥ 1073741789))) ?_
  refine SX.B (decide (secret ≥ 1073741789)) (fun h3 => ?_) (fun h3 => ?_)
  · try simp only [NRM] at h3
    exact SX.F (.tuple #[.agg #[.int .i64 0, .int .i64 0], .int .i64 110]) (by unfold signV; rw [if_pos (by omega)])
  try simp only [NRM] at h3
  refine SX.VC_df (Value.agg ((encL [.n secret, .s tx]).flatMap c8).toArray) (fun α => ⟨[⟨.slice (some ⟨(α 1).b, 0, none⟩) 2 2, 1, anL [.n secret, .s A n c tx]⟩], ⟨by kernel_rfl, trivial⟩, .inl ⟨rfl, _, [.n secret, .s A n c tx], rfl, by simp, fun B m d t h => by simp only [List.mem_cons, List.not_mem_nil, or_false, reduceCtorEq, false_or, Anyv.s.injEq] at h; obtain ⟨rfl, rfl, rfl, rfl⟩ := h; exact .inl ⟨rfl, rfl, rfl⟩, by intro z hz; simp only [List.mem_cons, List.not_mem_nil, or_false] at hz; rcases hz with rfl | rfl <;> simp only [flOf, Fl.fits] <;> omega, rfl⟩, SX.noAli rfl⟩) ((encs_fit _)) ?_
  refine SX.E (.int .i64 ((hashV nonceT [.n secret, .s tx]))) (fun α => ⟨[⟨.string nonceT, 0, []⟩, ⟨(α 2).h, 1, (encL [.n secret, .s tx]).flatMap c8⟩], ⟨by kernel_rfl, by kernel_rfl, Eq.trans (b := (⟨(α 2).h, 1, [Value.agg ((encL [.n secret, .s tx]).flatMap c8).toArray].flatMap SX.cellsV⟩ : SX.Arg)) (by simp [SX.cellsV]) (by kernel_rfl), trivial⟩, .inr (.inl ⟨rfl, rfl, ⟨.inr (.inl ⟨rfl, rfl, rfl⟩), .inr (.inr ⟨rfl, rfl, rfl⟩)⟩, nonceT, _, encL [.n secret, .s tx], rfl, by decide, encL_lt (by intro z hz; simp only [List.mem_cons, List.not_mem_nil, or_false] at hz; rcases hz with rfl | rfl <;> simp only [Fl.fits] <;> omega) (by simp), rfl⟩), SX.noAli rfl⟩) ?_
  refine SX.E (.int .i64 ((nonceV secret tx))) (fun α => Eq.trans (b := SX.maxV (.int .i64 (hashV nonceT [.n secret, .s tx])) (.int .i64 1)) (by kernel_rfl) (max_int _ _)) ?_
  have hkb := nonceV_bd secret tx
  have hp1 := powV_bd 4 (nonceV secret tx)
  have hp2 := powV_bd 4 secret
  refine SX.E (.int .i64 ((Jac.powV 4 ((nonceV secret tx))))) (fun α => ⟨[⟨.int .i64 4, 0, []⟩, ⟨.int .i64 ((nonceV secret tx)), 0, []⟩], ⟨by kernel_rfl, by kernel_rfl, by kernel_rfl, by kernel_rfl, trivial⟩, .inr (.inr (.inl ⟨rfl, _, _, rfl, rfl⟩)), SX.noAli rfl⟩) ?_
  refine SX.E (.int .i64 ((Jac.powV 4 secret))) (fun α => ⟨[⟨.int .i64 4, 0, []⟩, ⟨.int .i64 secret, 0, []⟩], ⟨by kernel_rfl, by kernel_rfl, by kernel_rfl, by kernel_rfl, trivial⟩, .inr (.inr (.inl ⟨rfl, _, _, rfl, rfl⟩)), SX.noAli rfl⟩) ?_
  refine SX.VC_df (Value.agg ((encL [.n ((Jac.powV 4 ((nonceV secret tx)))), .n ((Jac.powV 4 secret)), .s tx]).flatMap c8).toArray) (fun α => ⟨[⟨.slice (some ⟨(α 3).b, 0, none⟩) 3 3, 1, anL [.n ((Jac.powV 4 ((nonceV secret tx)))), .n ((Jac.powV 4 secret)), .s A n c tx]⟩], ⟨by kernel_rfl, trivial⟩, .inl ⟨rfl, _, [.n ((Jac.powV 4 ((nonceV secret tx)))), .n ((Jac.powV 4 secret)), .s A n c tx], rfl, by simp, fun B m d t h => by simp only [List.mem_cons, List.not_mem_nil, or_false, reduceCtorEq, false_or, Anyv.s.injEq] at h; obtain ⟨rfl, rfl, rfl, rfl⟩ := h; exact .inl ⟨rfl, rfl, rfl⟩, by intro z hz; simp only [List.mem_cons, List.not_mem_nil, or_false] at hz; rcases hz with rfl | rfl | rfl <;> simp only [flOf, Fl.fits] <;> omega, rfl⟩, SX.noAli rfl⟩) ((encs_fit _)) ?_
  refine SX.E (.int .i64 ((hashV signT [.n ((Jac.powV 4 ((nonceV secret tx)))), .n ((Jac.powV 4 secret)), .s tx]))) (fun α => ⟨[⟨.string signT, 0, []⟩, ⟨(α 4).h, 1, (encL [.n ((Jac.powV 4 ((nonceV secret tx)))), .n ((Jac.powV 4 secret)), .s tx]).flatMap c8⟩], ⟨by kernel_rfl, by kernel_rfl, Eq.trans (b := (⟨(α 4).h, 1, [Value.agg ((encL [.n ((Jac.powV 4 ((nonceV secret tx)))), .n ((Jac.powV 4 secret)), .s tx]).flatMap c8).toArray].flatMap SX.cellsV⟩ : SX.Arg)) (by simp [SX.cellsV]) (by kernel_rfl), trivial⟩, .inr (.inl ⟨rfl, rfl, ⟨.inr (.inl ⟨rfl, rfl, rfl⟩), .inr (.inr ⟨rfl, rfl, rfl⟩)⟩, signT, _, encL [.n ((Jac.powV 4 ((nonceV secret tx)))), .n ((Jac.powV 4 secret)), .s tx], rfl, by decide, encL_lt (by intro z hz; simp only [List.mem_cons, List.not_mem_nil, or_false] at hz; rcases hz with rfl | rfl | rfl <;> simp only [Fl.fits] <;> omega) (by simp), rfl⟩), SX.noAli rfl⟩) ?_
  have heb := pointH_bd (Jac.powV 4 (nonceV secret tx)) (Jac.powV 4 secret) tx
  have hes := hashV_bd signT [.n (Jac.powV 4 (nonceV secret tx)), .n (Jac.powV 4 secret), .s tx]
  refine SX.E (.int .i64 ((((hashV signT [.n ((Jac.powV 4 ((nonceV secret tx)))), .n ((Jac.powV 4 secret)), .s tx])) * secret % 1073741789))) (fun α => ⟨[⟨.int .i64 ((hashV signT [.n ((Jac.powV 4 ((nonceV secret tx)))), .n ((Jac.powV 4 secret)), .s tx])), 0, []⟩, ⟨.int .i64 secret, 0, []⟩], ⟨by kernel_rfl, by kernel_rfl, by kernel_rfl, by kernel_rfl, trivial⟩, .inr (.inr (.inr (.inr (.inr (.inr (⟨rfl, _, _, rfl, by omega, by omega, by omega, by omega, rfl⟩)))))), SX.noAli rfl⟩) ?_
  have hub := Int.emod_nonneg ((hashV signT [.n (Jac.powV 4 (nonceV secret tx)), .n (Jac.powV 4 secret), .s tx]) * secret) (show (1073741789 : Int) ≠ 0 by decide)
  have hub2 := Int.emod_lt_of_pos ((hashV signT [.n (Jac.powV 4 (nonceV secret tx)), .n (Jac.powV 4 secret), .s tx]) * secret) (show (0 : Int) < 1073741789 by decide)
  refine SX.E (.int .i64 (((nonceV secret tx)) + ((((hashV signT [.n ((Jac.powV 4 ((nonceV secret tx)))), .n ((Jac.powV 4 secret)), .s tx])) * secret % 1073741789)))) (fun α => Eq.trans (b := some (.int .i64 (IntKind.i64.wrap (((nonceV secret tx)) + ((((hashV signT [.n ((Jac.powV 4 ((nonceV secret tx)))), .n ((Jac.powV 4 secret)), .s tx])) * secret % 1073741789)))))) (by kernel_rfl) (by rw [wrap_i64 (by omega) (by omega)])) ?_
  refine SX.E (.int .i64 ((((nonceV secret tx)) + ((((hashV signT [.n ((Jac.powV 4 ((nonceV secret tx)))), .n ((Jac.powV 4 secret)), .s tx])) * secret % 1073741789))) % 1073741789)) (fun α => Eq.trans (b := SX.binV .rem (.int .i64 (((nonceV secret tx)) + ((((hashV signT [.n ((Jac.powV 4 ((nonceV secret tx)))), .n ((Jac.powV 4 secret)), .s tx])) * secret % 1073741789)))) (.int .i64 1073741789)) (by kernel_rfl) (rem_q (by omega))) ?_
  exact SX.F (.tuple #[.agg #[.int .i64 ((hashV signT [.n ((Jac.powV 4 ((nonceV secret tx)))), .n ((Jac.powV 4 secret)), .s tx])), .int .i64 ((((nonceV secret tx)) + ((((hashV signT [.n ((Jac.powV 4 ((nonceV secret tx)))), .n ((Jac.powV 4 secret)), .s tx])) * secret % 1073741789))) % 1073741789)], .int .i64 0]) (by unfold signV; rw [if_neg (by omega)]; rfl)
def tree_verify : SX.Tree :=
(.df .min [(.q 2), (.q 3)] .one
(.df (.bin .lss 3) [(.q 4), (.i 0)] .one
(.br 5 []
(.ret (.k (.bool false)) [] [])
(.df .max [(.q 2), (.q 3)] .one
(.df (.bin .geq 3) [(.q 6), (.i 1073741789)] .one
(.br 7 []
(.ret (.k (.bool false)) [] [])
(.df (.call 13 [.no]) [(.q 0)] .one
(.df .not [(.q 8)] .one
(.br 9 []
(.ret (.k (.bool false)) [] [])
(.df (.call 20 [.no, .no]) [(.i 4), (.q 3)] .one
(.df .neg [(.q 2)] .one
(.df (.call 20 [.no, .no]) [(.q 0), (.q 11)] .one
(.df (.call 31 [.no, .no]) [(.q 10), (.q 12)] (.tp [.one, .one])
(.df (.call 19 [(.own 1 [(.ifc 3 (.x 13 [0])), (.ifc 3 (.q 0)), (.ifc 22 (.q 1))])]) [(.sl 9 0 3 3)] (.sl 1)
(.df (.call 16 [.no, (.row 1 [(.q 14)])]) [(.k (.string ⟨#[115, 105, 103, 110]⟩)), (.row 10)] .one
(.df (.bin .eql 3) [(.q 2), (.q 15)] .one
(.ret (.q 16) [] [])))))))))))))))))
def args_verify : List SX.V := [.x 0 [], .x 1 [], .a [.x 2 [], .x 3 []]]
set_option maxRecDepth 100000 in
theorem run_verify (K A : Value → Nat → List Value → Prop) : (SX.run (cxS2 K A) ⟨fun f => true, [], 0, 100⟩ 100000 0 (SX.door 10 Tryd.f10 args_verify (List.replicate 4 .one)) [.code (Tryd.f10.body.getD .skip), .top Tryd.f10]).strip = tree_verify := by kernel_rfl
set_option maxRecDepth 100000 in
set_option maxHeartbeats 4000000 in
theorem verify_any (key : Int) (tx : ByteArray) (A : Option Addr) (n c : Nat) (E S : Int) (w : World) (hr : Rd w 1 A n ((sb tx).flatMap c8)) (hc : n ≤ c) (htx : tx.size ≤ 1048576) (hlaid : Laid w) : Calls Tryd.prog 10 #[.int .i64 key, .slice A n c, .agg #[.int .i64 E, .int .i64 S]] w fun e w' => e = .returned (.bool (verV key tx E S)) ∧ Below w.heap.size w w' := by
  refine SX.calls_of_run (C := cxS2 (KS A n c (sb tx)) (fun _ _ _ => False)) (G := ⟨fun f => true, [], 0, 100⟩) (args := args_verify) (sh := (List.replicate 4 .one)) (ρ := [.int .i64 key, .slice A n c, .int .i64 E, .int .i64 S]) 100000 tree_verify (okS2 _ _) Tryd.func10 rfl (run_verify _ _) (by kernel_rfl) (by kernel_rfl) (by kernel_rfl) ?_ ?_
  · rintro W hW s sz cells (⟨rfl, rfl, rfl⟩ | ⟨rfl, rfl, rfl⟩ | ⟨rfl, rfl, rfl⟩)
    · exact ⟨hr.same0 hW, hc⟩
    · exact ⟨hlaid.1.same0 hW, Nat.le_refl _⟩
    exact ⟨hlaid.2.same0 hW, Nat.le_refl _⟩
  unfold tree_verify
  refine SX.E (.int .i64 ((min E S))) (fun α => Eq.trans (b := SX.minV (.int .i64 E) (.int .i64 S)) (by kernel_rfl) (min_int _ _)) ?_
  refine SX.D (.bool (decide ((min E S) < 0))) ?_
  refine SX.B (decide ((min E S) < 0)) (fun h5 => ?_) (fun h5 => ?_)
  · try simp only [NRM] at h5
    exact SX.F (.bool false) (by unfold verV; rw [if_pos (by first | omega | (right; right; right; right; simpa using h9))])
  try simp only [NRM] at h5
  refine SX.E (.int .i64 ((max E S))) (fun α => Eq.trans (b := SX.maxV (.int .i64 E) (.int .i64 S)) (by kernel_rfl) (max_int _ _)) ?_
  refine SX.D (.bool (decide ((max E S) ≥ 1073741789))) ?_
  refine SX.B (decide ((max E S) ≥ 1073741789)) (fun h7 => ?_) (fun h7 => ?_)
  · try simp only [NRM] at h7
    exact SX.F (.bool false) (by unfold verV; rw [if_pos (by first | omega | (right; right; right; right; simpa using h9))])
  try simp only [NRM] at h7
  refine SX.E (.bool (Jac.vld key)) (fun α => ⟨[⟨.int .i64 key, 0, []⟩], ⟨by kernel_rfl, by kernel_rfl, trivial⟩, .inr (.inr (.inr (.inl ⟨rfl, _, rfl, rfl⟩))), SX.noAli rfl⟩) ?_
  refine SX.D (.bool (!(Jac.vld key))) ?_
  refine SX.B (!(Jac.vld key)) (fun h9 => ?_) (fun h9 => ?_)
  · try simp only [NRM] at h9
    exact SX.F (.bool false) (by unfold verV; rw [if_pos (by first | omega | (right; right; right; right; simpa using h9))])
  try simp only [NRM] at h9
  refine SX.E (.int .i64 ((Jac.powV 4 S))) (fun α => ⟨[⟨.int .i64 4, 0, []⟩, ⟨.int .i64 S, 0, []⟩], ⟨by kernel_rfl, by kernel_rfl, by kernel_rfl, by kernel_rfl, trivial⟩, .inr (.inr (.inl ⟨rfl, _, _, rfl, rfl⟩)), SX.noAli rfl⟩) ?_
  refine SX.E (.int .i64 (-E)) (fun α => SX.W (-E)) ?_
  refine SX.E (.int .i64 ((Jac.powV key (-E)))) (fun α => ⟨[⟨.int .i64 key, 0, []⟩, ⟨.int .i64 (-E), 0, []⟩], ⟨by kernel_rfl, by kernel_rfl, by kernel_rfl, by kernel_rfl, trivial⟩, .inr (.inr (.inl ⟨rfl, _, _, rfl, rfl⟩)), SX.noAli rfl⟩) ?_
  refine SX.E (.tuple #[.int .i64 ((Jac.mulV ((Jac.powV 4 S)) ((Jac.powV key (-E))))), .int .i64 ((Jac.mulE ((Jac.powV 4 S)) ((Jac.powV key (-E)))))]) (fun α => ⟨[⟨.int .i64 ((Jac.powV 4 S)), 0, []⟩, ⟨.int .i64 ((Jac.powV key (-E))), 0, []⟩], ⟨by kernel_rfl, by kernel_rfl, by kernel_rfl, by kernel_rfl, trivial⟩, .inr (.inr (.inr (.inr (.inl ⟨rfl, _, _, rfl, rfl⟩)))), SX.noAli rfl⟩) ?_
  have hmb := mulV_bd (Jac.powV 4 S) (Jac.powV key (-E))
  have hvk := Jac.vld_bounds (show Jac.vld key = true by simpa using h9)
  refine SX.VC_df (Value.agg ((encL [.n ((Jac.mulV ((Jac.powV 4 S)) ((Jac.powV key (-E))))), .n key, .s tx]).flatMap c8).toArray) (fun α => ⟨[⟨.slice (some ⟨(α 9).b, 0, none⟩) 3 3, 1, anL [.n ((Jac.mulV ((Jac.powV 4 S)) ((Jac.powV key (-E))))), .n key, .s A n c tx]⟩], ⟨by kernel_rfl, trivial⟩, .inl ⟨rfl, _, [.n ((Jac.mulV ((Jac.powV 4 S)) ((Jac.powV key (-E))))), .n key, .s A n c tx], rfl, by simp, fun B m d t h => by simp only [List.mem_cons, List.not_mem_nil, or_false, reduceCtorEq, false_or, Anyv.s.injEq] at h; obtain ⟨rfl, rfl, rfl, rfl⟩ := h; exact .inl ⟨rfl, rfl, rfl⟩, by intro z hz; simp only [List.mem_cons, List.not_mem_nil, or_false] at hz; rcases hz with rfl | rfl | rfl <;> simp only [flOf, Fl.fits] <;> omega, rfl⟩, SX.noAli rfl⟩) ((encs_fit _)) ?_
  refine SX.E (.int .i64 ((hashV signT [.n ((Jac.mulV ((Jac.powV 4 S)) ((Jac.powV key (-E))))), .n key, .s tx]))) (fun α => ⟨[⟨.string signT, 0, []⟩, ⟨(α 10).h, 1, (encL [.n ((Jac.mulV ((Jac.powV 4 S)) ((Jac.powV key (-E))))), .n key, .s tx]).flatMap c8⟩], ⟨by kernel_rfl, by kernel_rfl, Eq.trans (b := (⟨(α 10).h, 1, [Value.agg ((encL [.n ((Jac.mulV ((Jac.powV 4 S)) ((Jac.powV key (-E))))), .n key, .s tx]).flatMap c8).toArray].flatMap SX.cellsV⟩ : SX.Arg)) (by simp [SX.cellsV]) (by kernel_rfl), trivial⟩, .inr (.inl ⟨rfl, rfl, ⟨.inr (.inl ⟨rfl, rfl, rfl⟩), .inr (.inr ⟨rfl, rfl, rfl⟩)⟩, signT, _, encL [.n ((Jac.mulV ((Jac.powV 4 S)) ((Jac.powV key (-E))))), .n key, .s tx], rfl, by decide, encL_lt (by intro z hz; simp only [List.mem_cons, List.not_mem_nil, or_false] at hz; rcases hz with rfl | rfl | rfl <;> simp only [Fl.fits] <;> omega) (by simp), rfl⟩), SX.noAli rfl⟩) ?_
  refine SX.D (.bool ((E : Int) == (hashV signT [.n ((Jac.mulV ((Jac.powV 4 S)) ((Jac.powV key (-E))))), .n key, .s tx]))) ?_
  exact SX.F (.bool ((E : Int) == (hashV signT [.n ((Jac.mulV ((Jac.powV 4 S)) ((Jac.powV key (-E))))), .n key, .s tx]))) (by unfold verV; rw [if_neg (by rintro (q | q | q | q | q) <;> first | omega | (simp [q] at h9))]; rfl)
end Go.Proofs.YtbbofkpolcjmgaaDoor
namespace Go.Proofs.YtbbofkpolcjmgaaDoor
set_option maxRecDepth 20000
open Go Go.RowKit
namespace SX
def tail2 : Code → Code
  | .seq _ (.seq _ c) => c
  | c => c
theorem tail_of_run {C : Cx} {G : Cfg} {R : Ending → World → Prop} {f : FuncId} {fn : Func} {body : Code} {args : List V} {sh : List Sh} {ρ : List Value} {w : World} {tmps : Array Value} (n : Nat) (t : Tree) (hC : C.Ok) (ht : (run C G n 0 (door f fn args sh) [.code body, .top fn]).strip = t)
    (hd : doorOk fn args sh = true) (hfit : Sh.fitL sh ρ = true) (htm : (denL ρ (fun _ => default) args).toArray ++ Array.replicate (fn.ntmps - (denL ρ (fun _ => default) args).toArray.size) undef = tmps) (hK : ∀ W', Same [] w W' → Kf C W') (hv : VC C ⟨w, [], Af C, Bf C⟩ [Kf C] [] R [] ρ t) : wpR none C.P body (endR C.P fn R) { tmps := tmps, defers := [] } w := by
  subst ht
  subst htm
  replace hv := VC_strip _ _ _ hv
  simp only [doorOk, Bool.and_eq_true, decide_eq_true_eq] at hd
  obtain ⟨hl, hg⟩ := fitL_get hfit
  have hI : Inv ⟨w, [], Af C, Bf C⟩ [Kf C] [] ρ (door f fn args sh) { tmps := (denL ρ (fun _ => default) args).toArray ++ Array.replicate (fn.ntmps - (denL ρ (fun _ => default) args).toArray.size) undef, defers := [] } w := by
    refine ⟨fun _ => default, ⟨nofun, rfl⟩, ⟨hl, hg, fun e he => nomatch he⟩, ⟨fun v hv' => ?_, fun f hf => (nomatch hf), (fun b hb => nomatch hb), (fun b hb => nomatch hb)⟩, ⟨by simp [door, denL_len], fun d v hd' => ?_⟩, trivial, ?_, ?_, ?_⟩
    · rcases List.mem_append.1 hv' with h | h
      · obtain ⟨u, hu, e⟩ := List.mem_map.1 h
        obtain rfl : u = v := by simpa using e
        rw [← hl]
        exact wfL_mem hd.2 u hu
      · have := List.eq_of_mem_replicate h
        cases this
        rfl
    · rw [Array.getElem?_append]
      simp only [List.size_toArray, denL_len]
      simp only [door] at hd'
      by_cases hlt : d < args.length
      · rw [List.getElem?_append_left (by simpa using hlt), List.getElem?_map, List.getElem?_eq_getElem hlt] at hd'
        simp only [Option.map_some, Option.some.injEq] at hd'
        rw [if_pos hlt]
        simpa using denL_at (ρ := ρ) (α := fun _ => default) (by rw [List.getElem?_eq_getElem hlt, hd'])
      rw [List.getElem?_append_right (by simpa using hlt), List.getElem?_replicate] at hd'
      rw [if_neg hlt, Array.getElem?_replicate]
      simp only [List.length_map] at hd'
      split at hd'
      · rename_i h9
        rw [if_pos h9]
        cases hd'
        rfl
      cases hd'
    · exact ((⟨⟨rfl, rfl, rfl, Nat.le_refl _, fun _ _ _ => rfl⟩, (fun _ h => nomatch h), (fun _ h => nomatch h), (by simp [muts]), (fun _ h => nomatch h)⟩ : St ⟨w, [], Af C, Bf C⟩ [] [] [] w)).keep0 hK
    · exact fun n b h => nomatch h
    exact fun n b h => nomatch h
  have := run_ok hC n ⟨w, [], Af C, Bf C⟩ [] R G 0 (door f fn args sh) [.code body, .top fn] [] [] [] ρ _ w (fun _ => rfl) ⟨List.mem_cons_self .., fun _ h => h, fun _ h => h⟩ hv rfl rfl hI
  exact this
end SX
end Go.Proofs.YtbbofkpolcjmgaaDoor
namespace Go.Proofs.YtbbofkpolcjmgaaDoor
set_option maxRecDepth 20000
open Go Go.RowKit
theorem powV_congr {a m n : Int} (h : m % 1073741789 = n % 1073741789) : Jac.powV a m = Jac.powV a n := by unfold Jac.powV Jac.red; rw [h]
theorem key5 : Jac.powV 4 5 = 1024 := by
  rw [Jac.powV_ok Jac.vld_four]
  unfold Jac.pm
  rfl
theorem keyQ : Jac.powV 4 1073741788 = 536870895 := by
  rw [← Jac.pow_four]
  exact powV_congr (by decide)
theorem sign_point (k x E : Int) : Jac.mulV (Jac.powV 4 ((k + E * x % 1073741789) % 1073741789)) (Jac.powV (Jac.powV 4 x) (-E)) = Jac.powV 4 k := by
  rw [Jac.powV_powV Jac.vld_four, Jac.powV_add Jac.vld_four]
  refine powV_congr ?_
  rw [Int.mul_neg, Int.mul_comm x E]
  generalize E * x = e
  omega
theorem signV_no {secret : Int} {tx : ByteArray} (h : secret < 1 ∨ 1073741789 ≤ secret) : signV secret tx = (0, 0, 110) := by unfold signV; rw [if_pos h]
theorem signV_ok {secret : Int} {tx : ByteArray} (h1 : 1 ≤ secret) (h2 : secret < 1073741789) : signV secret tx = (pointH (Jac.powV 4 (nonceV secret tx)) (Jac.powV 4 secret) tx, (nonceV secret tx + pointH (Jac.powV 4 (nonceV secret tx)) (Jac.powV 4 secret) tx * secret % 1073741789) % 1073741789, 0) := by unfold signV; rw [if_neg (by omega)]
theorem signV_err {secret : Int} {tx : ByteArray} (h1 : 1 ≤ secret) (h2 : secret < 1073741789) : (signV secret tx).2.2 = 0 := by rw [signV_ok h1 h2]
theorem signV_bd (secret : Int) (tx : ByteArray) : (0 ≤ (signV secret tx).1 ∧ (signV secret tx).1 < 1073741789) ∧ 0 ≤ (signV secret tx).2.1 ∧ (signV secret tx).2.1 < 1073741789 := by
  by_cases h : secret < 1 ∨ 1073741789 ≤ secret
  · rw [signV_no h]; decide
  rw [signV_ok (by omega) (by omega)]
  exact ⟨pointH_bd _ _ _, Int.emod_nonneg _ (by decide), Int.emod_lt_of_pos _ (by decide)⟩
theorem ver_sign {secret : Int} {tx : ByteArray} (h1 : 1 ≤ secret) (h2 : secret < 1073741789) : verV (Jac.powV 4 secret) tx (signV secret tx).1 (signV secret tx).2.1 = true := by
  obtain ⟨⟨b1, b2⟩, b3, b4⟩ := signV_bd secret tx
  have hv := Jac.vld_powV (n := secret) Jac.vld_four
  unfold verV
  rw [if_neg (by rintro (q | q | q | q | q) <;> first | omega | (rw [hv] at q; cases q))]
  rw [decide_eq_true_eq, signV_ok h1 h2]
  show pointH _ _ tx = pointH (Jac.mulV (Jac.powV 4 ((nonceV secret tx + _ * secret % 1073741789) % 1073741789)) (Jac.powV (Jac.powV 4 secret) (-_))) _ tx
  rw [sign_point]
theorem ver_big {key E S : Int} {tx : ByteArray} (h : 1073741789 ≤ S) : verV key tx E S = false := by
  unfold verV
  rw [if_pos (.inr (.inr (.inr (.inl h))))]
theorem ver_key {key E S : Int} {tx : ByteArray} (h : Jac.vld key = false) : verV key tx E S = false := by
  unfold verV
  rw [if_pos (.inr (.inr (.inr (.inr h))))]
theorem vld_zero : Jac.vld 0 = false := by unfold Jac.vld; rw [show decide ((1 : Int) ≤ 0) = false from by decide, Bool.false_and, Bool.false_and]
def letT : ByteArray := ⟨#[108, 101, 116, 116, 101, 114]⟩
def noT : ByteArray := ⟨#[]⟩
theorem sane_facts : (signV 5 letT).2.2 = 0 ∧ (signV 0 letT).2.2 = 110 ∧ (signV 1073741789 letT).2.2 = 110 ∧ (signV 1073741788 noT).2.2 = 0 ∧ verV 1024 letT (signV 5 letT).1 (signV 5 letT).2.1 = true ∧ verV 2 letT (signV 5 letT).1 (signV 5 letT).2.1 = false ∧
    verV 1024 letT (signV 5 letT).1 ((signV 5 letT).2.1 + 1073741789) = false ∧ verV 536870895 noT (signV 1073741788 noT).1 (signV 1073741788 noT).2.1 = true ∧ verV 0 noT (signV 1073741788 noT).1 (signV 1073741788 noT).2.1 = false := by
  refine ⟨signV_err (by decide) (by decide), by rw [signV_no (by decide)], by rw [signV_no (by decide)], signV_err (by decide) (by decide), ?_, ver_key Jac.vld_two, ver_big (by have := (signV_bd 5 letT).2.1; omega), ?_, ver_key vld_zero⟩
  · rw [← key5]; exact ver_sign (by decide) (by decide)
  rw [← keyQ]; exact ver_sign (by decide) (by decide)
def letC : List Value := [.int .u8 108, .int .u8 101, .int .u8 116, .int .u8 116, .int .u8 101, .int .u8 114]
def litW (w : World) : World := w.alloc (.cells letC.toArray 5 (6, 7))
theorem lit_heap (w : World) : (litW w).heap = w.heap.push (.cells letC.toArray 5 (6, 7)) := rfl
theorem lit_below (w : World) : Below w.heap.size w (litW w) := St.below_alloc _ _
theorem lit_same (w : World) : Same [] w (litW w) := ⟨(lit_below w).size, fun b hb _ => (lit_below w).block b hb⟩
theorem lit_cells : (sb letT).flatMap c8 = letC := by kernel_rfl
theorem lit_rd (w : World) : Rd (litW w) 1 (some ⟨w.heap.size, 0, none⟩) 6 ((sb letT).flatMap c8) := by
  rw [lit_cells]
  refine ⟨rfl, fun _ => ⟨_, rfl, by rw [lit_heap, Array.size_push]; exact Nat.lt_succ_self _, fun j u hu => ?_⟩⟩
  have e : (⟨w.heap.size, 0, none⟩ : Addr).add j = ⟨w.heap.size, j, none⟩ := by unfold Addr.add; split <;> simp_all
  rw [e]
  have hb : (litW w).heap[w.heap.size]? = some (.cells letC.toArray 5 (6, 7)) := by rw [lit_heap]; simp
  unfold World.cell?
  simp only [hb]
  rw [← hu, List.getElem?_toArray]
  rfl
def RV1 (K : Value → Nat → List Value → Prop) (f : FuncId) (xs : List SX.Arg) (v : Value) : Prop :=
  (f = 8 ∧ LaidK K ∧ ∃ (s : Int) (u : Value) (tx : ByteArray), xs = [⟨.int .i64 s, 0, []⟩, ⟨u, 1, (sb tx).flatMap c8⟩] ∧ tx.size ≤ 1048576 ∧ v = .tuple #[.agg #[.int .i64 (signV s tx).1, .int .i64 (signV s tx).2.1], .int .i64 (signV s tx).2.2]) ∨
  (f = 10 ∧ LaidK K ∧ ∃ (key : Int) (u : Value) (tx : ByteArray) (E S : Int), xs = [⟨.int .i64 key, 0, []⟩, ⟨u, 1, (sb tx).flatMap c8⟩, ⟨.agg #[.int .i64 E, .int .i64 S], 0, []⟩] ∧ tx.size ≤ 1048576 ∧ v = .bool (verV key tx E S)) ∨
  (f = 12 ∧ ∃ a n : Int, xs = [⟨.int .i64 a, 0, []⟩, ⟨.int .i64 n, 0, []⟩] ∧ v = .tuple #[.int .i64 (Jac.powV a n), .int .i64 (Jac.mulE a a)]) ∨
  (f = 31 ∧ ∃ a n : Int, xs = [⟨.int .i64 a, 0, []⟩, ⟨.int .i64 n, 0, []⟩] ∧ v = .tuple #[.int .i64 (Jac.mulV a n), .int .i64 (Jac.mulE a n)])
def shpV1 : FuncId → Option SX.Sh := fun f => if f = 8 then some (.tp [.ag 2, .one]) else if f = 10 then some .one else if f = 12 then some (.tp [.one, .one]) else if f = 31 then some (.tp [.one, .one]) else none
noncomputable def cxV1 (K A : Value → Nat → List Value → Prop) : SX.Cx := { P := Tryd.prog, R := RV1, shp := shpV1, K := K, A := A, trm := true }
theorem okV1 (K A : Value → Nat → List Value → Prop) : (cxV1 K A).Ok := by
  refine SX.Cx.ok_of (fun _ => rfl) ?_
  intro K f xs v W hR hrd hKf
  rcases hR with ⟨rfl, hL, s, u, tx, rfl, htx, rfl⟩ | ⟨rfl, hL, key, u, tx, E, S, rfl, htx, rfl⟩ | ⟨rfl, a, n, rfl, rfl⟩ | ⟨rfl, a, n, rfl, rfl⟩
  · obtain ⟨A, n, c, rfl, hr, hc, -⟩ := byte_arg (hrd ⟨u, 1, (sb tx).flatMap c8⟩ (by simp))
    exact (sign_any s tx A n c W hr hc htx (laid_of hL hKf)).mono fun e w' h => SX.plainOk rfl h
  · obtain ⟨A, n, c, rfl, hr, hc, -⟩ := byte_arg (hrd ⟨u, 1, (sb tx).flatMap c8⟩ (by simp))
    exact (verify_any key tx A n c E S W hr hc htx (laid_of hL hKf)).mono fun e w' h => SX.plainOk rfl h
  · exact (pow_any a n W).mono fun e w' h => SX.plainOk rfl h
  exact (mul_any a n W).mono fun e w' h => SX.plainOk rfl ⟨h.1, h.2 ▸ Below.refl _ _⟩
def sgI (p : Int × Int) : List Value := [.int .i64 p.1, .int .i64 p.2]
theorem sgI_inj : ∀ a b, sgI a = sgI b → a = b := by
  rintro ⟨a, b⟩ ⟨c, d⟩ h
  simp only [sgI, List.cons.injEq, Value.int.injEq, true_and, and_true] at h
  rw [h.1, h.2]
theorem lit_build {o : Oper} {a : Act} {w : World} {K : Act → World → Prop} {Q : Exit → Act → World → Prop} (ho : o.op = .buildSlice 22 6 #[(0, .const (.int .u8 108)), (1, .const (.int .u8 101)), (2, .const (.int .u8 116)), (3, .const (.int .u8 116)), (4, .const (.int .u8 101)), (5, .const (.int .u8 114))]) (h : K (a.put o.dst (.slice (some ⟨w.heap.size, 0, none⟩) 6 6)) (w.alloc (.cells letC.toArray 5))) : o.wp Tryd.prog a w K Q := by
  have hr : (execOp a.eval o).run Tryd.prog w = .ok (.value (.slice (some ⟨w.heap.size, 0, none⟩) 6 6)) (w.alloc (.cells letC.toArray 5)) := by
    unfold execOp
    rw [ho]
    kernel_rfl
  unfold Oper.wp
  rw [hr]
  exact h
theorem lit_conv {o : Oper} {a : Act} {w : World} {K : Act → World → Prop} {Q : Exit → Act → World → Prop} {x : Operand} (ho : o.op = .convert 22 22 x) (hx : a.eval x = .slice (some ⟨w.heap.size, 0, none⟩) 6 6) (h : K (a.put o.dst (.slice (some ⟨w.heap.size, 0, none⟩) 6 6)) (litW w)) : o.wp Tryd.prog a (w.alloc (.cells letC.toArray 5)) K Q := by
  have hc := Lib.run_convert_bytes_const (P := Tryd.prog) w 22 5 letC.toArray 6 6 Tryd.underlying22 Tryd.underlying5
  have hr : (execOp a.eval o).run Tryd.prog (w.alloc (.cells letC.toArray 5)) = .ok (.value (.slice (some ⟨w.heap.size, 0, none⟩) 6 6)) (litW w) := by
    unfold execOp
    simp only [ho, hx]
    simp [hc]
    rfl
  unfold Oper.wp
  rw [hr]
  exact h
def tree_sane : SX.Tree :=
(.df (.call 8 [.no, (.ext 1)]) [(.i 5), (.q 0)] (.tp [(.ag 2), .one])
(.df (.call 8 [.no, (.ext 1)]) [(.i 5), (.q 0)] (.tp [(.ag 2), .one])
(.df (.call 8 [.no, (.ext 1)]) [(.i 0), (.q 0)] (.tp [(.ag 2), .one])
(.df (.call 8 [.no, (.ext 1)]) [(.i 1073741789), (.q 0)] (.tp [(.ag 2), .one])
(.df (.call 8 [.no, (.own 1 [])]) [(.i 1073741788), (.k (.slice none 0 0))] (.tp [(.ag 2), .one])
(.df (.bin .neq 26) [(.x 1 [1]), (.i 0)] .one
(.br 6 []
(.ret (.k (.bool false)) [] [])
(.df (.bin .neq 26) [(.x 2 [1]), (.i 0)] .one
(.br 7 []
(.ret (.k (.bool false)) [] [])
(.df (.bin .neq 26) [(.x 3 [1]), (.i 110)] .one
(.br 8 []
(.ret (.k (.bool false)) [] [])
(.df (.bin .neq 26) [(.x 4 [1]), (.i 110)] .one
(.br 9 []
(.ret (.k (.bool false)) [] [])
(.df (.bin .neq 26) [(.x 5 [1]), (.i 0)] .one
(.br 10 []
(.ret (.k (.bool false)) [] [])
(.df (.eqr true 2 [(.i .i64), (.i .i64)]) [(.x 1 [0, 0]), (.x 1 [0, 1]), (.x 2 [0, 0]), (.x 2 [0, 1])] .one
(.br 11 []
(.ret (.k (.bool false)) [] [])
(.df (.bin .add 3) [(.x 1 [0, 1]), (.i 1073741789)] .one
(.df (.call 10 [.no, (.ext 1), .no]) [(.i 1024), (.q 0), (.a [(.x 1 [0, 0]), (.x 1 [0, 1])])] .one
(.br 13 []
(.df (.call 10 [.no, (.ext 1), .no]) [(.i 2), (.q 0), (.a [(.x 1 [0, 0]), (.x 1 [0, 1])])] .one
(.df .not [(.q 14)] .one
(.br 15 []
(.df (.call 10 [.no, (.ext 1), .no]) [(.i 1024), (.q 0), (.a [(.x 1 [0, 0]), (.q 12)])] .one
(.df .not [(.q 16)] .one
(.br 17 []
(.df (.call 10 [.no, (.own 1 []), .no]) [(.i 536870895), (.k (.slice none 0 0)), (.a [(.x 5 [0, 0]), (.x 5 [0, 1])])] .one
(.br 18 []
(.df (.call 10 [.no, (.own 1 []), .no]) [(.i 0), (.k (.slice none 0 0)), (.a [(.x 5 [0, 0]), (.x 5 [0, 1])])] .one
(.df .not [(.q 19)] .one
(.ret (.q 20) [] [])))
(.ret (.k (.bool false)) [] [])))
(.ret (.k (.bool false)) [] []))))
(.ret (.k (.bool false)) [] []))))
(.ret (.k (.bool false)) [] [])))))))))))))))))))))
def args_sane : List SX.V := [.k (.bool false), .x 0 [], .k undef, .k undef, .k undef, .k undef, .k undef, .k undef, .k undef, .k undef, .k undef, .k undef, .k undef, .x 0 [], .x 0 []]
set_option maxRecDepth 100000 in
theorem run_sane (K A : Value → Nat → List Value → Prop) : (SX.run (cxV1 K A) ⟨fun f => true, [], 0, 100⟩ 100000 0 (SX.door 7 Tryd.f7 args_sane [.one]) [.code (SX.tail2 (Tryd.f7.body.getD .skip)), .top Tryd.f7]).strip = tree_sane := by kernel_rfl
set_option maxRecDepth 100000 in
set_option maxHeartbeats 4000000 in
theorem sane_tail (b : Nat) (w : World) (hr : Rd w 1 (some ⟨b, 0, none⟩) 6 ((sb letT).flatMap c8)) (hlaid : Laid w) : wpR none Tryd.prog (SX.tail2 (Tryd.f7.body.getD .skip)) (endR Tryd.prog Tryd.f7 fun e w' => e = .returned (.bool true) ∧ Below w.heap.size w w') { tmps := [.bool false, .slice (some ⟨b, 0, none⟩) 6 6, undef, undef, undef, undef, undef, undef, undef, undef, undef, undef, undef, .slice (some ⟨b, 0, none⟩) 6 6, .slice (some ⟨b, 0, none⟩) 6 6].toArray ++ Array.replicate 76 undef, defers := [] } w := by
  refine SX.tail_of_run (C := cxV1 (KS (some ⟨b, 0, none⟩) 6 6 (sb letT)) (fun _ _ _ => False)) (G := ⟨fun f => true, [], 0, 100⟩) (args := args_sane) (sh := [.one]) (ρ := [.slice (some ⟨b, 0, none⟩) 6 6]) 100000 tree_sane (okV1 _ _) (run_sane _ _) (by kernel_rfl) (by kernel_rfl) (by kernel_rfl) ?_ ?_
  · rintro W hW s sz cells (⟨rfl, rfl, rfl⟩ | ⟨rfl, rfl, rfl⟩ | ⟨rfl, rfl, rfl⟩)
    · exact ⟨hr.same0 hW, Nat.le_refl _⟩
    · exact ⟨hlaid.1.same0 hW, Nat.le_refl _⟩
    exact ⟨hlaid.2.same0 hW, Nat.le_refl _⟩
  obtain ⟨q1, q2, q3, q4, q5, q6, q7, q8, q9⟩ := sane_facts
  obtain ⟨⟨b1, b2⟩, b3, b4⟩ := signV_bd 5 letT
  unfold tree_sane
  refine SX.E (.tuple #[.agg #[.int .i64 ((signV 5 letT).1), .int .i64 ((signV 5 letT).2.1)], .int .i64 ((signV 5 letT).2.2)]) (fun α => ⟨[⟨.int .i64 5, 0, []⟩, ⟨(.slice (some ⟨b, 0, none⟩) 6 6), 1, (sb letT).flatMap c8⟩], ⟨by kernel_rfl, by kernel_rfl, by kernel_rfl, by kernel_rfl, .inl ⟨rfl, rfl, rfl⟩, trivial⟩, .inl ⟨rfl, ⟨.inr (.inl ⟨rfl, rfl, rfl⟩), .inr (.inr ⟨rfl, rfl, rfl⟩)⟩, _, _, letT, rfl, by decide, rfl⟩, SX.noAli rfl⟩) ?_
  refine SX.E (.tuple #[.agg #[.int .i64 ((signV 5 letT).1), .int .i64 ((signV 5 letT).2.1)], .int .i64 ((signV 5 letT).2.2)]) (fun α => ⟨[⟨.int .i64 5, 0, []⟩, ⟨(.slice (some ⟨b, 0, none⟩) 6 6), 1, (sb letT).flatMap c8⟩], ⟨by kernel_rfl, by kernel_rfl, by kernel_rfl, by kernel_rfl, .inl ⟨rfl, rfl, rfl⟩, trivial⟩, .inl ⟨rfl, ⟨.inr (.inl ⟨rfl, rfl, rfl⟩), .inr (.inr ⟨rfl, rfl, rfl⟩)⟩, _, _, letT, rfl, by decide, rfl⟩, SX.noAli rfl⟩) ?_
  refine SX.E (.tuple #[.agg #[.int .i64 ((signV 0 letT).1), .int .i64 ((signV 0 letT).2.1)], .int .i64 ((signV 0 letT).2.2)]) (fun α => ⟨[⟨.int .i64 0, 0, []⟩, ⟨(.slice (some ⟨b, 0, none⟩) 6 6), 1, (sb letT).flatMap c8⟩], ⟨by kernel_rfl, by kernel_rfl, by kernel_rfl, by kernel_rfl, .inl ⟨rfl, rfl, rfl⟩, trivial⟩, .inl ⟨rfl, ⟨.inr (.inl ⟨rfl, rfl, rfl⟩), .inr (.inr ⟨rfl, rfl, rfl⟩)⟩, _, _, letT, rfl, by decide, rfl⟩, SX.noAli rfl⟩) ?_
  refine SX.E (.tuple #[.agg #[.int .i64 ((signV 1073741789 letT).1), .int .i64 ((signV 1073741789 letT).2.1)], .int .i64 ((signV 1073741789 letT).2.2)]) (fun α => ⟨[⟨.int .i64 1073741789, 0, []⟩, ⟨(.slice (some ⟨b, 0, none⟩) 6 6), 1, (sb letT).flatMap c8⟩], ⟨by kernel_rfl, by kernel_rfl, by kernel_rfl, by kernel_rfl, .inl ⟨rfl, rfl, rfl⟩, trivial⟩, .inl ⟨rfl, ⟨.inr (.inl ⟨rfl, rfl, rfl⟩), .inr (.inr ⟨rfl, rfl, rfl⟩)⟩, _, _, letT, rfl, by decide, rfl⟩, SX.noAli rfl⟩) ?_
  refine SX.E (.tuple #[.agg #[.int .i64 ((signV 1073741788 noT).1), .int .i64 ((signV 1073741788 noT).2.1)], .int .i64 ((signV 1073741788 noT).2.2)]) (fun α => ⟨[⟨.int .i64 1073741788, 0, []⟩, ⟨.slice none 0 0, 1, (sb noT).flatMap c8⟩], ⟨by kernel_rfl, by kernel_rfl, by kernel_rfl, trivial⟩, .inl ⟨rfl, ⟨.inr (.inl ⟨rfl, rfl, rfl⟩), .inr (.inr ⟨rfl, rfl, rfl⟩)⟩, _, _, noT, rfl, by decide, rfl⟩, SX.noAli rfl⟩) ?_
  refine SX.D (.bool (((signV 5 letT).2.2 : Int) != 0)) ?_
  refine SX.B (((signV 5 letT).2.2 : Int) != 0) (fun h6 => ?_) (fun h6 => ?_)
  · try simp only [NRM] at h6
    exact SX.F (.bool false) (by first | rfl | (rw [q9]; rfl) | (exfalso; simp_all; done))
  try simp only [NRM] at h6
  refine SX.D (.bool (((signV 5 letT).2.2 : Int) != 0)) ?_
  refine SX.B (((signV 5 letT).2.2 : Int) != 0) (fun h7 => ?_) (fun h7 => ?_)
  · try simp only [NRM] at h7
    exact SX.F (.bool false) (by first | rfl | (rw [q9]; rfl) | (exfalso; simp_all; done))
  try simp only [NRM] at h7
  refine SX.D (.bool (((signV 0 letT).2.2 : Int) != 110)) ?_
  refine SX.B (((signV 0 letT).2.2 : Int) != 110) (fun h8 => ?_) (fun h8 => ?_)
  · try simp only [NRM] at h8
    exact SX.F (.bool false) (by first | rfl | (rw [q9]; rfl) | (exfalso; simp_all; done))
  try simp only [NRM] at h8
  refine SX.D (.bool (((signV 1073741789 letT).2.2 : Int) != 110)) ?_
  refine SX.B (((signV 1073741789 letT).2.2 : Int) != 110) (fun h9 => ?_) (fun h9 => ?_)
  · try simp only [NRM] at h9
    exact SX.F (.bool false) (by first | rfl | (rw [q9]; rfl) | (exfalso; simp_all; done))
  try simp only [NRM] at h9
  refine SX.D (.bool (((signV 1073741788 noT).2.2 : Int) != 0)) ?_
  refine SX.B (((signV 1073741788 noT).2.2 : Int) != 0) (fun h10 => ?_) (fun h10 => ?_)
  · try simp only [NRM] at h10
    exact SX.F (.bool false) (by first | rfl | (rw [q9]; rfl) | (exfalso; simp_all; done))
  try simp only [NRM] at h10
  refine SX.E (.bool (true ^^ decide (((signV 5 letT).1, (signV 5 letT).2.1) = ((signV 5 letT).1, (signV 5 letT).2.1)))) (fun α => SX.eqr_rel (f := sgI) sgI_inj (y := ((signV 5 letT).1, (signV 5 letT).2.1)) (z := ((signV 5 letT).1, (signV 5 letT).2.1)) (by kernel_rfl) (by kernel_rfl) (by kernel_rfl)) ?_
  refine SX.B (true ^^ decide (((signV 5 letT).1, (signV 5 letT).2.1) = ((signV 5 letT).1, (signV 5 letT).2.1))) (fun h11 => ?_) (fun h11 => ?_)
  · try simp only [NRM] at h11
    exact SX.F (.bool false) (by first | rfl | (rw [q9]; rfl) | (exfalso; simp_all; done))
  try simp only [NRM] at h11
  refine SX.E (.int .i64 (((signV 5 letT).2.1) + 1073741789)) (fun α => SX.W (((signV 5 letT).2.1) + 1073741789)) ?_
  refine SX.E (.bool (verV 1024 letT ((signV 5 letT).1) ((signV 5 letT).2.1))) (fun α => ⟨[⟨.int .i64 1024, 0, []⟩, ⟨(.slice (some ⟨b, 0, none⟩) 6 6), 1, (sb letT).flatMap c8⟩, ⟨.agg #[.int .i64 ((signV 5 letT).1), .int .i64 ((signV 5 letT).2.1)], 0, []⟩], ⟨by kernel_rfl, by kernel_rfl, by kernel_rfl, by kernel_rfl, .inl ⟨rfl, rfl, rfl⟩, by kernel_rfl, by kernel_rfl, trivial⟩, .inr (.inl ⟨rfl, ⟨.inr (.inl ⟨rfl, rfl, rfl⟩), .inr (.inr ⟨rfl, rfl, rfl⟩)⟩, _, _, letT, _, _, rfl, by decide, rfl⟩), SX.noAli rfl⟩) ?_
  refine SX.B (verV 1024 letT ((signV 5 letT).1) ((signV 5 letT).2.1)) (fun h13 => ?_) (fun h13 => ?_)
  · try simp only [NRM] at h13
    refine SX.E (.bool (verV 2 letT ((signV 5 letT).1) ((signV 5 letT).2.1))) (fun α => ⟨[⟨.int .i64 2, 0, []⟩, ⟨(.slice (some ⟨b, 0, none⟩) 6 6), 1, (sb letT).flatMap c8⟩, ⟨.agg #[.int .i64 ((signV 5 letT).1), .int .i64 ((signV 5 letT).2.1)], 0, []⟩], ⟨by kernel_rfl, by kernel_rfl, by kernel_rfl, by kernel_rfl, .inl ⟨rfl, rfl, rfl⟩, by kernel_rfl, by kernel_rfl, trivial⟩, .inr (.inl ⟨rfl, ⟨.inr (.inl ⟨rfl, rfl, rfl⟩), .inr (.inr ⟨rfl, rfl, rfl⟩)⟩, _, _, letT, _, _, rfl, by decide, rfl⟩), SX.noAli rfl⟩) ?_
    refine SX.D (.bool (!(verV 2 letT ((signV 5 letT).1) ((signV 5 letT).2.1)))) ?_
    refine SX.B (!(verV 2 letT ((signV 5 letT).1) ((signV 5 letT).2.1))) (fun h15 => ?_) (fun h15 => ?_)
    · try simp only [NRM] at h15
      refine SX.E (.bool (verV 1024 letT ((signV 5 letT).1) (((signV 5 letT).2.1) + 1073741789))) (fun α => ⟨[⟨.int .i64 1024, 0, []⟩, ⟨(.slice (some ⟨b, 0, none⟩) 6 6), 1, (sb letT).flatMap c8⟩, ⟨.agg #[.int .i64 ((signV 5 letT).1), .int .i64 (((signV 5 letT).2.1) + 1073741789)], 0, []⟩], ⟨by kernel_rfl, by kernel_rfl, by kernel_rfl, by kernel_rfl, .inl ⟨rfl, rfl, rfl⟩, by kernel_rfl, by kernel_rfl, trivial⟩, .inr (.inl ⟨rfl, ⟨.inr (.inl ⟨rfl, rfl, rfl⟩), .inr (.inr ⟨rfl, rfl, rfl⟩)⟩, _, _, letT, _, _, rfl, by decide, rfl⟩), SX.noAli rfl⟩) ?_
      refine SX.D (.bool (!(verV 1024 letT ((signV 5 letT).1) (((signV 5 letT).2.1) + 1073741789)))) ?_
      refine SX.B (!(verV 1024 letT ((signV 5 letT).1) (((signV 5 letT).2.1) + 1073741789))) (fun h17 => ?_) (fun h17 => ?_)
      · try simp only [NRM] at h17
        refine SX.E (.bool (verV 536870895 noT ((signV 1073741788 noT).1) ((signV 1073741788 noT).2.1))) (fun α => ⟨[⟨.int .i64 536870895, 0, []⟩, ⟨.slice none 0 0, 1, (sb noT).flatMap c8⟩, ⟨.agg #[.int .i64 ((signV 1073741788 noT).1), .int .i64 ((signV 1073741788 noT).2.1)], 0, []⟩], ⟨by kernel_rfl, by kernel_rfl, by kernel_rfl, by kernel_rfl, by kernel_rfl, trivial⟩, .inr (.inl ⟨rfl, ⟨.inr (.inl ⟨rfl, rfl, rfl⟩), .inr (.inr ⟨rfl, rfl, rfl⟩)⟩, _, _, noT, _, _, rfl, by decide, rfl⟩), SX.noAli rfl⟩) ?_
        refine SX.B (verV 536870895 noT ((signV 1073741788 noT).1) ((signV 1073741788 noT).2.1)) (fun h18 => ?_) (fun h18 => ?_)
        · try simp only [NRM] at h18
          refine SX.E (.bool (verV 0 noT ((signV 1073741788 noT).1) ((signV 1073741788 noT).2.1))) (fun α => ⟨[⟨.int .i64 0, 0, []⟩, ⟨.slice none 0 0, 1, (sb noT).flatMap c8⟩, ⟨.agg #[.int .i64 ((signV 1073741788 noT).1), .int .i64 ((signV 1073741788 noT).2.1)], 0, []⟩], ⟨by kernel_rfl, by kernel_rfl, by kernel_rfl, by kernel_rfl, by kernel_rfl, trivial⟩, .inr (.inl ⟨rfl, ⟨.inr (.inl ⟨rfl, rfl, rfl⟩), .inr (.inr ⟨rfl, rfl, rfl⟩)⟩, _, _, noT, _, _, rfl, by decide, rfl⟩), SX.noAli rfl⟩) ?_
          refine SX.D (.bool (!(verV 0 noT ((signV 1073741788 noT).1) ((signV 1073741788 noT).2.1)))) ?_
          exact SX.F (.bool (!(verV 0 noT ((signV 1073741788 noT).1) ((signV 1073741788 noT).2.1)))) (by first | rfl | (rw [q9]; rfl) | (exfalso; simp_all; done))
        try simp only [NRM] at h18
        exact SX.F (.bool false) (by first | rfl | (rw [q9]; rfl) | (exfalso; simp_all; done))
      try simp only [NRM] at h17
      exact SX.F (.bool false) (by first | rfl | (rw [q9]; rfl) | (exfalso; simp_all; done))
    try simp only [NRM] at h15
    exact SX.F (.bool false) (by first | rfl | (rw [q9]; rfl) | (exfalso; simp_all; done))
  try simp only [NRM] at h13
  exact SX.F (.bool false) (by first | rfl | (rw [q9]; rfl) | (exfalso; simp_all; done))
set_option maxRecDepth 1000000 in
theorem sane_head (w : World) (Q : Exit → Act → World → Prop) (h : wpR none Tryd.prog (SX.tail2 (Tryd.f7.body.getD .skip)) Q { tmps := [.bool false, .slice (some ⟨w.heap.size, 0, none⟩) 6 6, undef, undef, undef, undef, undef, undef, undef, undef, undef, undef, undef, .slice (some ⟨w.heap.size, 0, none⟩) 6 6, .slice (some ⟨w.heap.size, 0, none⟩) 6 6].toArray ++ Array.replicate 76 undef, defers := [] } (litW w)) : wpR none Tryd.prog (Tryd.f7.body.getD .skip) Q { tmps := Array.replicate 91 undef, defers := [] } w := by
  unfold Tryd.f7
  refine wpR_seq (wpR_region (wpLR_cons (by kernel_rfl) (operIn_of_wp nofun (SX.wp_val (u := .bool false) rfl (wpLR_nil ?_)))))
  refine wpR_seq (wpR_region (wpLR_cons (by kernel_rfl) (operIn_of_wp (fun c h => nomatch h) (lit_build (by kernel_rfl) ?_))))
  refine wpLR_cons (by kernel_rfl) (operIn_of_wp nofun (lit_conv (x := .tmp 13) (by kernel_rfl) (by kernel_rfl) ?_))
  refine wpLR_cons (by kernel_rfl) (operIn_of_wp nofun (SX.wp_val (u := .slice (some ⟨w.heap.size, 0, none⟩) 6 6) (by kernel_rfl) (wpLR_nil ?_)))
  exact cast (by kernel_rfl) h
theorem sane_any (w : World) (hlaid : Laid w) : Calls Tryd.prog 7 #[] w fun e w' => e = .returned (.bool true) ∧ Below w.heap.size w w' := by
  refine (calls_of_endR (R := fun e w' => e = .returned (.bool true) ∧ Below (litW w).heap.size (litW w) w') (c := Tryd.f7.body.getD .skip) Tryd.func7 (by kernel_rfl) (cast (by kernel_rfl) (sane_head w (endR Tryd.prog Tryd.f7 fun e w' => e = .returned (.bool true) ∧ Below (litW w).heap.size (litW w) w') (sane_tail _ _ (lit_rd w) ⟨hlaid.1.same0 (lit_same w), hlaid.2.same0 (lit_same w)⟩)))).mono fun e w' h => ⟨h.1, (lit_below w).trans (h.2.mono (lit_below w).size)⟩
end Go.Proofs.YtbbofkpolcjmgaaDoor
namespace Go.Proofs.YtbbofkpolcjmgaaDoor
set_option maxRecDepth 20000
open Go Go.RowKit Go.ChangeShapes Go.WideShapes Go.ChangeAt
theorem open_bytes {H : Type} {enc : TypeId × Value → H} {W : World} {r : Reach} {b0 base : Nat} {sp : Nat → Bool} {held : Bool} {v : Value} {d : DataW H} {ps : List MemPlace} (hval : Value.okWide Tryd.prog W r b0 22 v) (hd : DataW.Trod enc Tryd.prog W base sp held 22 v d ps) : ∃ (A : Option Addr) (n c : Nat) (l : List W8), v = .slice A n c ∧ Rd W 1 A n (l.flatMap c8) ∧ n ≤ c ∧ c ≤ maxLen := by
  obtain ⟨A, n, c, rfl⟩ := okWide_slice Tryd.underlying22 hval
  obtain ⟨fuel, hf⟩ := hd
  rcases open_ints Tryd.underlying22 Tryd.underlying5 (by kernel_rfl) hf with ⟨hcs, hx⟩ | ⟨a, len', cap', zs, hcs, _, hl, hm, hz, hx, hcell, hwz⟩
  · simp [Value.cells] at hcs
    obtain ⟨rfl, rfl, rfl⟩ := hcs
    exact ⟨none, 0, 0, [], rfl, ⟨rfl, fun h => absurd h (by omega)⟩, Nat.le_refl _, Nat.zero_le _⟩
  simp [Value.cells] at hcs
  obtain ⟨rfl, rfl, rfl⟩ := hcs
  have hzl : n ≤ zs.length := by rw [hz]; split <;> omega
  refine ⟨some a, n, c, (zs.take n).map fun z => BitVec.ofNat 8 z.toNat, rfl, ⟨?_, fun h0 => ⟨a, rfl, ?_, ?_⟩⟩, hl, hm⟩
  · rw [SX.flat_len c8_len]; simp; omega
  · have h1 := hcell 0 (by omega)
    have e : a.add 0 = a := by unfold Addr.add; simp
    rw [e] at h1
    unfold World.cell? at h1
    cases hb : W.heap[a.block]? with
    | none => rw [hb] at h1; simp at h1
    | some o => exact (Array.getElem?_eq_some_iff.1 hb).1
  intro j u hu
  rw [flat_c8, List.getElem?_map, List.getElem?_map] at hu
  cases hj : (zs.take n)[j]? with
  | none => rw [hj] at hu; simp at hu
  | some z =>
    rw [hj] at hu
    simp only [Option.map_some, Option.some.injEq] at hu
    subst hu
    have hjl := (List.getElem?_eq_some_iff.1 hj).1
    simp only [List.length_take] at hjl
    have hzj : zs[j]? = some z := by rw [List.getElem?_take] at hj; split at hj; · exact hj
                                     cases hj
    have h1 := hcell j (by omega)
    have hb := bounds_u8 (hwz z (List.mem_of_getElem? hzj))
    rw [h1, List.getD_eq_getElem?_getD, hzj]
    simp only [Option.getD_some, w8, BitVec.toNat_ofNat]
    congr 2
    omega
def laidL : List (String × DataW Unit) := [("kinesphere/digest.start", Rows.laid_kinesphere_digest_start), ("kinesphere/digest.numbers", Rows.laid_kinesphere_digest_numbers)]
theorem gStart : Tryd.prog.globalNamed "kinesphere/digest.start" = some 0 := by kernel_rfl
theorem gNums : Tryd.prog.globalNamed "kinesphere/digest.numbers" = some 1 := by kernel_rfl
theorem laid_world {W : World} (h : laidMetH Tryd.prog laidL W) : Laid W := by
  rw [MakeChecks.laidMetH_plain _ _ _ (by kernel_rfl)] at h
  have h0 : laidMet Tryd.prog (("kinesphere/digest.start", Lib.tabData .u32 (startS.cells.map fun v => match v with | .int _ i => i | _ => 0)) :: [("kinesphere/digest.numbers", Rows.laid_kinesphere_digest_numbers)]) W := cast (by kernel_rfl) h
  have h1 : laidMet Tryd.prog (("kinesphere/digest.numbers", Lib.tabData .u32 (numbersK.map fun x => (x.toNat : Int))) :: []) W := cast (by kernel_rfl) (laidMet.tail h0)
  have T0 := Lib.tabIs_of_head gStart (t := 85) (e := 84) (n := 8) (by kernel_rfl) Tryd.underlying85 Tryd.underlying84 (by kernel_rfl) (by kernel_rfl) h0
  have T1 := Lib.tabIs_of_head gNums (t := 94) (e := 84) (n := 64) (by kernel_rfl) Tryd.underlying94 Tryd.underlying84 (by kernel_rfl) (by kernel_rfl) h1
  have lt : ∀ {b : Nat} {v : Value}, W.cell? ⟨b, 0, none⟩ = some v → b < W.heap.size := fun {b v} h1 => by
    unfold World.cell? at h1
    cases hb : W.heap[b]? with
    | none => simp only [hb] at h1; simp at h1
    | some o => exact (Array.getElem?_eq_some_iff.1 hb).1
  have ad : ∀ b j : Nat, (⟨b, 0, none⟩ : Addr).add j = ⟨b, j, none⟩ := fun b j => by unfold Addr.add; split <;> simp_all
  refine ⟨⟨rfl, fun _ => ⟨_, rfl, lt (T0.cell gStart 0 (by decide)), fun j u hu => ?_⟩⟩, ⟨by rw [SX.flat_len c32_len]; rfl, fun _ => ⟨_, rfl, lt (T1.cell gNums 0 (by decide)), fun j u hu => ?_⟩⟩⟩
  · have hj : j < 8 := (List.getElem?_eq_some_iff.1 hu).1
    rw [ad, T0.cell gStart j (by rw [List.length_map]; exact hj), ← hu]
    have : ∀ j, j < 8 → some (Value.int .u32 ((startS.cells.map fun v => match v with | .int _ i => i | _ => 0).getD j 0)) = startS.cells[j]? := by
      intro j hj
      match j, hj with
      | 0, _ => rfl
      | 1, _ => rfl
      | 2, _ => rfl
      | 3, _ => rfl
      | 4, _ => rfl
      | 5, _ => rfl
      | 6, _ => rfl
      | 7, _ => rfl
    exact this j hj
  have hj : j < 64 := by have := (List.getElem?_eq_some_iff.1 hu).1; rw [SX.flat_len c32_len] at this; exact this
  rw [ad, T1.cell gNums j (by rw [List.length_map]; exact hj), ← hu, flat_c32, List.getElem?_map, List.getD_eq_getElem?_getD, List.getElem?_map, List.getElem?_eq_getElem (show j < numbersK.length from hj)]
  rfl
theorem door_met (os : Os) (args : Array Value) : laidMetH Tryd.prog laidL ((World.doorLaid Tryd.prog 400 os).forCall (fun _ _ => 0) ⟨#[], args, []⟩).memory :=
  laidMetH_of_parts3 (fuel := 8) (laidMet_of_run' 8 (by kernel_rfl) (by kernel_rfl)) (by kernel_rfl) (by kernel_rfl)
section
variable {H : Type} {enc : TypeId × Value → H} {w : World} {base : Nat} {sp : Nat → Bool} {held : Bool} {r : Reach} {b0 : Nat} {v : Value} {d : DataW H} {ps : List MemPlace}
theorem take_at {cs : List Value} {off : Nat} {v : Value} (h : (cs.drop off).take 1 = [v]) : cs[off]? = some v := by
  have : ((cs.drop off).take 1)[0]? = some v := by rw [h]; rfl
  simpa [List.getElem?_take, List.getElem?_drop] using this
theorem open_sig (hval : Value.okWide Tryd.prog w r b0 24 v) (hd : DataW.Trod enc Tryd.prog w base sp held 24 v d ps) : ∃ m k : Int, v = .agg #[.int .i64 m, .int .i64 k] := by
  obtain ⟨cs, rfl, hsz⟩ := okWide_struct Tryd.underlying24 hval
  obtain ⟨fuel, hf⟩ := hd
  obtain ⟨xs, n, _, _, hlen, hl, hx⟩ := DataW.trod_struct Tryd.underlying24 hf
  have hC : Tryd.prog.cellsOf 24 = 2 := by kernel_rfl
  rw [hC] at hlen
  have hl' : xs.length = 2 := hl
  have g0 := (hx 0 _ rfl).trans (List.getElem?_eq_getElem (by omega))
  obtain ⟨v0, e0, _⟩ := DataW.trod_int Tryd.underlying3 g0
  have g1 := (hx 1 _ rfl).trans (List.getElem?_eq_getElem (by omega))
  obtain ⟨v1, e1, _⟩ := DataW.trod_int Tryd.underlying3 g1
  refine ⟨v0, v1, ?_⟩
  have f0 := take_at e0
  have f1 := take_at e1
  have hc : (Value.agg cs).cells.toList = [.int .i64 v0, .int .i64 v1] := by
    apply List.ext_getElem?
    intro i
    by_cases hi : i < 2
    · have hc : i = 0 ∨ i = 1 := by omega
      rcases hc with rfl | rfl
      · exact f0
      exact f1
    rw [List.getElem?_eq_none (by omega), List.getElem?_eq_none (by show 2 ≤ i; omega)]
  have : cs = ([.int .i64 v0, .int .i64 v1] : List Value).toArray := by rw [← hc]; rfl
  rw [this]
end
theorem sb_of (l : List W8) : ∃ tx : ByteArray, sb tx = l := by
  refine ⟨⟨(l.map UInt8.ofBitVec).toArray⟩, ?_⟩
  unfold sb
  simp only [List.map_map]
  exact (List.map_congr_left fun x _ => rfl).trans (List.map_id l)
theorem SX.src_rw1 {C : SX.Cx} {ρ : List Value} {α : Nat → SX.AV} {y : SX.V} {l : List Value} {j sz : Nat} (h : ρ.getD j undef = .agg l.toArray) : SX.srcRel C ρ α sz (.row sz [.x j []]) y l := ⟨⟨y.den ρ α, sz, l⟩, ⟨by rw [← SX.cat1 (α := α) h]; simp [SX.V.den, SX.cellsV], trivial⟩, rfl, rfl⟩
set_option maxRecDepth 100000 in
theorem or128 (u : Nat) : BitVec.ofNat 8 (u % 128 + 128) = BitVec.ofNat 8 u ||| 128#8 := by
  apply BitVec.eq_of_toNat_eq
  rw [BitVec.toNat_or, BitVec.toNat_ofNat, BitVec.toNat_ofNat]
  show (u % 128 + 128) % 256 = u % 256 ||| 128
  have h : ∀ m < 256, m ||| 128 = m % 128 + 128 := by decide
  rw [h (u % 256) (by omega)]
  omega
theorem u_rem128 (u : Nat) : SX.binV .rem (.int .u64 (u : Int)) (.int .u64 (128 : Int)) = some (.int .u64 ((u % 128 : Nat) : Int)) := by
  have e : ((u % 128 : Nat) : Int) = (u : Int).tmod 128 := by
    rw [Int.tmod_eq_emod_of_nonneg (by omega)]; rfl
  simp only [SX.binV]
  rw [if_pos trivial, if_neg (by decide), e]
theorem u_add128 (u : Nat) (h : u < 128) : SX.binV .add (.int .u64 (u : Int)) (.int .u64 (128 : Int)) = some (.int .u64 ((u + 128 : Nat) : Int)) := by
  simp only [SX.binV, binI, if_true]
  rw [wrap_u]
  congr 2
  omega
theorem u_quo128 (u : Nat) (h : u < 18446744073709551616) : SX.binV .quo (.int .u64 (u : Int)) (.int .u64 (128 : Int)) = some (.int .u64 ((u / 128 : Nat) : Int)) := by
  have h2 : (u : Int).tdiv 128 = ((u / 128 : Nat) : Int) := by
    rw [Int.tdiv_eq_ediv_of_nonneg (by omega)]; rfl
  simp only [SX.binV, if_true, h2]
  rw [if_neg (by decide), wrap_u]
  congr 2
  omega
theorem enc8_fit (l : List W8) : SX.Sh.fit (.sl 1) (.agg (l.flatMap c8).toArray) = true := by
  have h2 : (l.flatMap c8).all (·.oneCell') = true := by
    rw [List.all_eq_true]
    intro u hu
    obtain ⟨a, _, h⟩ := List.mem_flatMap.1 hu
    exact c8o a u h
  have h1 : (l.flatMap c8).length % 1 = 0 := Nat.mod_one _
  simp only [SX.Sh.fit, h1, h2]
  rfl
def RnmR (U : Nat) (f : FuncId) (xs : List SX.Arg) (v : Value) : Prop := f = 57 ∧ ∃ u : Nat, u < U ∧ u < 18446744073709551616 ∧ xs = [⟨.int .u64 (u : Int), 0, []⟩] ∧ v = .agg ((numB u).flatMap c8).toArray
noncomputable def cxRn (U : Nat) (K A : Value → Nat → List Value → Prop) : SX.Cx := { P := Tryd.prog, R := fun _ => RnmR U, shp := fun f => if f = 57 then some (.sl 1) else none, K := K, A := A, bsr := true }
def tree_rnum : SX.Tree :=
(.df (.bin .lss 76) [(.q 0), (.k (.int .u64 128))] .one
(.br 1 []
(.df (.conv .u8) [(.q 0)] .one
(.ret (.row 0) [(some ⟨[(.a [(.q 2)])], 5, (.row 1)⟩)] []))
(.df (.bin .rem 76) [(.q 0), (.k (.int .u64 128))] .one
(.df (.bin .add 76) [(.q 2), (.k (.int .u64 128))] .one
(.df (.conv .u8) [(.q 3)] .one
(.df (.bin .quo 76) [(.q 0), (.k (.int .u64 128))] .one
(.df (.call 57 [.no]) [(.q 5)] (.sl 1)
(.df (.app 1 1 (.row 1 [(.q 6)])) [(.cat [(.a [(.q 4)])]), (.row 1)] .any
(.ret (.row 2) [none, none, (some ⟨[(.a [(.q 4)]), (.q 7)], 5, (.row 1)⟩)] [])))))))))
def args_rnum : List SX.V := [.x 0 []]
set_option maxRecDepth 100000 in
theorem run_rnum (U : Nat) (K A : Value → Nat → List Value → Prop) : (SX.run (cxRn U K A) ⟨fun f => f != 57, [], 2, 100⟩ 100000 0 (SX.door 57 Tryd.f57 args_rnum [.one]) [.code (Tryd.f57.body.getD .skip), .top Tryd.f57]).strip = tree_rnum := by kernel_rfl
set_option maxRecDepth 100000 in
set_option maxHeartbeats 4000000 in
theorem rnum_step (U u : Nat) (hok : ∀ K A, (cxRn U K A).Ok) (hu : u < 18446744073709551616) (hU : 128 ≤ u → u / 128 < U) (w : World) : Calls Tryd.prog 57 #[.int .u64 (u : Int)] w fun e w' => Below w.heap.size w w' ∧ ∃ hdr, e = .returned hdr ∧ SX.SlRet w w' [] hdr 1 ((numB u).flatMap c8) := by
  refine SX.calls_of_run (C := cxRn U (fun _ _ _ => False) (fun _ _ _ => False)) (G := ⟨fun f => f != 57, [], 2, 100⟩) (args := args_rnum) (sh := [.one]) (ρ := [.int .u64 (u : Int)]) 100000 tree_rnum (hok _ _) Tryd.func57 rfl (run_rnum _ _ _) (by kernel_rfl) (by kernel_rfl) (by kernel_rfl) ?_ ?_
  · exact fun W _ => SX.Kf_none (fun _ _ _ h => h) W
  unfold tree_rnum
  refine SX.D (.bool (decide ((u : Int) < 128))) ?_
  refine SX.B (decide ((u : Int) < 128)) (fun h1 => ?_) (fun h1 => ?_)
  · have h1 : u < 128 := by have := of_decide_eq_true h1; omega
    refine SX.E (w8 (BitVec.ofNat 8 u)) (fun α => cast (by kernel_rfl) (w_to8 u .u64)) ?_
    exact SX.VC_ret fun α W _ hrow hS => ⟨hS.below, _, by kernel_rfl, SX.SlRet.row hS (n := 0) (b := (⟨[(.a [(.x 2 [])])], 5, (.row 1)⟩ : SX.Blk)) (by kernel_rfl) rfl (hrow 0 _ (by kernel_rfl)) (Eq.trans (b := [Value.agg #[w8 (BitVec.ofNat 8 u)]].flatMap SX.cellsV) (by kernel_rfl) (by rw [numB_lt h1]; rfl))⟩
  have h1 : ¬ u < 128 := by have := of_decide_eq_false h1; omega
  have hlen := numB_len 8 (u / 128) (by omega)
  refine SX.E (.int .u64 ((u % 128 : Nat) : Int)) (fun α => cast (by kernel_rfl) (u_rem128 u)) ?_
  refine SX.E (.int .u64 ((u % 128 + 128 : Nat) : Int)) (fun α => cast (by kernel_rfl) (u_add128 (u % 128) (by omega))) ?_
  refine SX.E (w8 (BitVec.ofNat 8 u ||| 128#8)) (fun α => by rw [← or128]; exact cast (by kernel_rfl) (w_to8 (u % 128 + 128) .u64)) ?_
  refine SX.E (.int .u64 ((u / 128 : Nat) : Int)) (fun α => cast (by kernel_rfl) (u_quo128 u hu)) ?_
  refine SX.VC_df (.agg ((numB (u / 128)).flatMap c8).toArray) (fun α => ⟨[⟨.int .u64 ((u / 128 : Nat) : Int), 0, []⟩], ⟨by kernel_rfl, by kernel_rfl, trivial⟩, ⟨rfl, u / 128, hU (by omega), by omega, rfl, rfl⟩, SX.noAli rfl⟩) (enc8_fit _) ?_
  refine SX.VC_df (.agg ((numB (u / 128)).flatMap c8).toArray) (fun α => SX.app_rel (f := c8) (l1 := [BitVec.ofNat 8 u ||| 128#8]) (l2 := numB (u / 128)) (fun _ => rfl) c8o (by decide) (by kernel_rfl) (SX.src_rw1 (by kernel_rfl)) (by simp only [LL]; omega) (by simp only [LL]; omega)) rfl ?_
  exact SX.VC_ret fun α W _ hrow hS => ⟨hS.below, _, by kernel_rfl, SX.SlRet.row hS (n := 2) (b := (⟨[(.a [(.x 4 [])]), (.x 7 [])], 5, (.row 1)⟩ : SX.Blk)) (by kernel_rfl) rfl (hrow 2 _ (by kernel_rfl)) (Eq.trans (b := [Value.agg #[w8 (BitVec.ofNat 8 u ||| 128#8)], Value.agg ((numB (u / 128)).flatMap c8).toArray].flatMap SX.cellsV) (by kernel_rfl) (by rw [numB_ge h1]; simp [SX.cellsV, c8]))⟩
theorem rnum_any : ∀ (U u : Nat), u < U → u < 18446744073709551616 → ∀ w : World, Calls Tryd.prog 57 #[.int .u64 (u : Int)] w fun e w' => Below w.heap.size w w' ∧ ∃ hdr, e = .returned hdr ∧ SX.SlRet w w' [] hdr 1 ((numB u).flatMap c8)
  | 0, u, h, _, _ => absurd h (by omega)
  | U + 1, u, h, hu, w => rnum_step U u (fun K A => SX.Cx.ok_of (fun _ => rfl) fun _ f xs v W hR hrd hKf => by
      obtain ⟨rfl, y, hy, hyu, rfl, rfl⟩ := hR
      exact (rnum_any U y hy hyu W).mono fun e w' h => SX.SlRet.ok1 rfl h) hu (by omega) w
theorem rnumeral_any (u : Nat) (hu : u < 18446744073709551616) (w : World) : Calls Tryd.prog 57 #[.int .u64 (u : Int)] w fun e w' => Below w.heap.size w w' ∧ ∃ hdr, e = .returned hdr ∧ SX.SlRet w w' [] hdr 1 ((numB u).flatMap c8) := rnum_any (u + 1) u (by omega) hu w
def tree_runs : SX.Tree :=
(.df (.bin .geq 3) [(.q 0), (.i 0)] .one
(.br 1 []
(.df (.conv .u64) [(.q 0)] .one
(.df (.bin .mul 76) [(.k (.int .u64 2)), (.q 2)] .one
(.ret (.q 3) [] [])))
(.df (.bin .add 3) [(.q 0), (.i 1)] .one
(.df .neg [(.q 2)] .one
(.df (.conv .u64) [(.q 3)] .one
(.df (.bin .mul 76) [(.k (.int .u64 2)), (.q 4)] .one
(.df (.bin .add 76) [(.q 5), (.k (.int .u64 1))] .one
(.ret (.q 6) [] []))))))))
def args_runs : List SX.V := [.x 0 []]
set_option maxRecDepth 100000 in
theorem run_runs (K A : Value → Nat → List Value → Prop) : (SX.run (cx0 K A) ⟨fun f => true, [], 0, 100⟩ 100000 0 (SX.door 58 Tryd.f58 args_runs [.one]) [.code (Tryd.f58.body.getD .skip), .top Tryd.f58]).strip = tree_runs := by kernel_rfl
set_option maxRecDepth 100000 in
set_option maxHeartbeats 4000000 in
theorem runs_any (k : Int) (w : World) (h1 : -9223372036854775808 ≤ k) (h2 : k ≤ 9223372036854775807) : Calls Tryd.prog 58 #[.int .i64 k] w fun e w' => e = .returned (.int .u64 (unsN k : Int)) ∧ Below w.heap.size w w' := by
  refine SX.calls_of_run (C := cx0 (fun _ _ _ => False) (fun _ _ _ => False)) (G := ⟨fun f => true, [], 0, 100⟩) (args := args_runs) (sh := [.one]) (ρ := [.int .i64 k]) 100000 tree_runs (cx0_ok _ _) Tryd.func58 rfl (run_runs _ _) (by kernel_rfl) (by kernel_rfl) (by kernel_rfl) ?_ ?_
  · exact fun W _ => SX.Kf_none (fun _ _ _ h => h) W
  unfold tree_runs
  have hul := unsN_lt h1 h2
  refine SX.D (.bool (decide (k ≥ 0))) ?_
  refine SX.B (decide (k ≥ 0)) (fun h3 => ?_) (fun h3 => ?_)
  · have h3 : 0 ≤ k := of_decide_eq_true h3
    obtain ⟨m, rfl⟩ : ∃ m : Nat, k = (m : Int) := ⟨k.toNat, by omega⟩
    refine SX.E (.int .u64 (m : Int)) (fun α => Eq.trans (b := some (.int .u64 (IntKind.u64.wrap (m : Int)))) (by kernel_rfl) (by rw [wrap_u]; congr 2; omega)) ?_
    refine SX.E (.int .u64 ((2 * m : Nat) : Int)) (fun α => Eq.trans (b := some (.int .u64 (IntKind.u64.wrap (2 * (m : Int))))) (by kernel_rfl) (by rw [wrap_u]; congr 2; omega)) ?_
    exact SX.F (.int .u64 ((2 * m : Nat) : Int)) (by rw [show unsN (m : Int) = 2 * m by unfold unsN; rw [if_pos h3]; omega])
  have h3 : k < 0 := by have := of_decide_eq_false h3; omega
  obtain ⟨m, hm⟩ : ∃ m : Nat, k = -((m : Int) + 1) := ⟨(-k - 1).toNat, by omega⟩
  refine SX.E (.int .i64 (k + 1)) (fun α => SX.W (k + 1)) ?_
  refine SX.E (.int .i64 (-(k + 1))) (fun α => SX.W (-(k + 1))) ?_
  refine SX.E (.int .u64 (m : Int)) (fun α => Eq.trans (b := some (.int .u64 (IntKind.u64.wrap (-(k + 1))))) (by kernel_rfl) (by rw [wrap_u]; congr 2; omega)) ?_
  refine SX.E (.int .u64 ((2 * m : Nat) : Int)) (fun α => Eq.trans (b := some (.int .u64 (IntKind.u64.wrap (2 * (m : Int))))) (by kernel_rfl) (by rw [wrap_u]; congr 2; omega)) ?_
  refine SX.E (.int .u64 ((2 * m + 1 : Nat) : Int)) (fun α => Eq.trans (b := some (.int .u64 (IntKind.u64.wrap (((2 * m : Nat) : Int) + 1)))) (by kernel_rfl) (by rw [wrap_u]; congr 2; omega)) ?_
  exact SX.F (.int .u64 ((2 * m + 1 : Nat) : Int)) (by rw [show unsN k = 2 * m + 1 by unfold unsN; rw [if_neg (by omega)]; omega])
def tree_rfo1 : SX.Tree :=
(.ret (.k (.bool true)) [] [])
def args_rfo1 : List SX.V := [.a [.k (.int .i64 1), .x 0 [], .k (.string ⟨#[]⟩), .k (.slice none 0 0)]]
set_option maxRecDepth 100000 in
theorem run_rfo1 (K A : Value → Nat → List Value → Prop) : (SX.run (cx0 K A) ⟨fun f => true, [], 0, 100⟩ 100000 0 (SX.door 55 Tryd.f55 args_rfo1 [.one]) [.code (Tryd.f55.body.getD .skip), .top Tryd.f55]).strip = tree_rfo1 := by kernel_rfl
set_option maxRecDepth 100000 in
set_option maxHeartbeats 4000000 in
theorem rfo1_any (k : Int) (w : World) : Calls Tryd.prog 55 #[.agg #[.int .i64 1, .int .i64 k, .string ⟨#[]⟩, .slice none 0 0]] w fun e w' => e = .returned (.bool true) ∧ Below w.heap.size w w' := by
  refine SX.calls_of_run (C := cx0 (fun _ _ _ => False) (fun _ _ _ => False)) (G := ⟨fun f => true, [], 0, 100⟩) (args := args_rfo1) (sh := [.one]) (ρ := [.int .i64 k]) 100000 tree_rfo1 (cx0_ok _ _) Tryd.func55 rfl (run_rfo1 _ _) (by kernel_rfl) (by kernel_rfl) (by kernel_rfl) ?_ ?_
  · exact fun W _ => SX.Kf_none (fun _ _ _ h => h) W
  unfold tree_rfo1
  exact SX.VC_ret fun α W _ _ hS => SX.ret_of hS (x := .bool true) (by kernel_rfl) rfl
def tree_rfo2 : SX.Tree :=
(.ret (.k (.bool true)) [] [])
def args_rfo2 : List SX.V := [.a [.k (.int .i64 2), .k (.int .i64 0), .x 0 [], .k (.slice none 0 0)]]
set_option maxRecDepth 100000 in
theorem run_rfo2 (K A : Value → Nat → List Value → Prop) : (SX.run (cx0 K A) ⟨fun f => true, [], 0, 100⟩ 100000 0 (SX.door 55 Tryd.f55 args_rfo2 [.one]) [.code (Tryd.f55.body.getD .skip), .top Tryd.f55]).strip = tree_rfo2 := by kernel_rfl
set_option maxRecDepth 100000 in
set_option maxHeartbeats 4000000 in
theorem rfo2_any (b : ByteArray) (w : World) : Calls Tryd.prog 55 #[.agg #[.int .i64 2, .int .i64 0, .string b, .slice none 0 0]] w fun e w' => e = .returned (.bool true) ∧ Below w.heap.size w w' := by
  refine SX.calls_of_run (C := cx0 (fun _ _ _ => False) (fun _ _ _ => False)) (G := ⟨fun f => true, [], 0, 100⟩) (args := args_rfo2) (sh := [.one]) (ρ := [.string b]) 100000 tree_rfo2 (cx0_ok _ _) Tryd.func55 rfl (run_rfo2 _ _) (by kernel_rfl) (by kernel_rfl) (by kernel_rfl) ?_ ?_
  · exact fun W _ => SX.Kf_none (fun _ _ _ h => h) W
  unfold tree_rfo2
  exact SX.VC_ret fun α W _ _ hS => SX.ret_of hS (x := .bool true) (by kernel_rfl) rfl
def tree_rde1 : SX.Tree :=
(.ret (.i 0) [] [])
def args_rde1 : List SX.V := [.a [.k (.int .i64 1), .x 0 [], .k (.string ⟨#[]⟩), .k (.slice none 0 0)]]
set_option maxRecDepth 100000 in
theorem run_rde1 (K A : Value → Nat → List Value → Prop) : (SX.run (cx0 K A) ⟨fun f => true, [], 0, 100⟩ 100000 0 (SX.door 56 Tryd.f56 args_rde1 [.one]) [.code (Tryd.f56.body.getD .skip), .top Tryd.f56]).strip = tree_rde1 := by kernel_rfl
set_option maxRecDepth 100000 in
set_option maxHeartbeats 4000000 in
theorem rde1_any (k : Int) (w : World) : Calls Tryd.prog 56 #[.agg #[.int .i64 1, .int .i64 k, .string ⟨#[]⟩, .slice none 0 0]] w fun e w' => e = .returned (.int .i64 0) ∧ Below w.heap.size w w' := by
  refine SX.calls_of_run (C := cx0 (fun _ _ _ => False) (fun _ _ _ => False)) (G := ⟨fun f => true, [], 0, 100⟩) (args := args_rde1) (sh := [.one]) (ρ := [.int .i64 k]) 100000 tree_rde1 (cx0_ok _ _) Tryd.func56 rfl (run_rde1 _ _) (by kernel_rfl) (by kernel_rfl) (by kernel_rfl) ?_ ?_
  · exact fun W _ => SX.Kf_none (fun _ _ _ h => h) W
  unfold tree_rde1
  exact SX.VC_ret fun α W _ _ hS => SX.ret_of hS (x := .int .i64 0) (by kernel_rfl) rfl
def tree_rde2 : SX.Tree :=
(.ret (.i 0) [] [])
def args_rde2 : List SX.V := [.a [.k (.int .i64 2), .k (.int .i64 0), .x 0 [], .k (.slice none 0 0)]]
set_option maxRecDepth 100000 in
theorem run_rde2 (K A : Value → Nat → List Value → Prop) : (SX.run (cx0 K A) ⟨fun f => true, [], 0, 100⟩ 100000 0 (SX.door 56 Tryd.f56 args_rde2 [.one]) [.code (Tryd.f56.body.getD .skip), .top Tryd.f56]).strip = tree_rde2 := by kernel_rfl
set_option maxRecDepth 100000 in
set_option maxHeartbeats 4000000 in
theorem rde2_any (b : ByteArray) (w : World) : Calls Tryd.prog 56 #[.agg #[.int .i64 2, .int .i64 0, .string b, .slice none 0 0]] w fun e w' => e = .returned (.int .i64 0) ∧ Below w.heap.size w w' := by
  refine SX.calls_of_run (C := cx0 (fun _ _ _ => False) (fun _ _ _ => False)) (G := ⟨fun f => true, [], 0, 100⟩) (args := args_rde2) (sh := [.one]) (ρ := [.string b]) 100000 tree_rde2 (cx0_ok _ _) Tryd.func56 rfl (run_rde2 _ _) (by kernel_rfl) (by kernel_rfl) (by kernel_rfl) ?_ ?_
  · exact fun W _ => SX.Kf_none (fun _ _ _ h => h) W
  unfold tree_rde2
  exact SX.VC_ret fun α W _ _ hS => SX.ret_of hS (x := .int .i64 0) (by kernel_rfl) rfl
def RY1 (f : FuncId) (xs : List SX.Arg) (v : Value) : Prop :=
  (f = 55 ∧ ∃ z : Fl, xs = [⟨valFl z, 0, []⟩] ∧ v = .bool true) ∨
  (f = 56 ∧ ∃ z : Fl, xs = [⟨valFl z, 0, []⟩] ∧ v = .int .i64 0)
def shpY1 : FuncId → Option SX.Sh := fun f => if f = 55 then some .one else if f = 56 then some .one else none
noncomputable def cxY1 (K A : Value → Nat → List Value → Prop) : SX.Cx := { P := Tryd.prog, R := fun _ => RY1, shp := shpY1, K := K, A := A }
theorem okY1 (K A : Value → Nat → List Value → Prop) : (cxY1 K A).Ok := by
  refine SX.Cx.ok_of (fun _ => rfl) ?_
  intro K f xs v W hR hrd hKf
  rcases hR with ⟨rfl, z, rfl, rfl⟩ | ⟨rfl, z, rfl, rfl⟩
  · cases z with
    | n k => exact (rfo1_any k W).mono fun e w' h => SX.plainOk rfl h
    | s b => exact (rfo2_any b W).mono fun e w' h => SX.plainOk rfl h
  cases z with
  | n k => exact (rde1_any k W).mono fun e w' h => SX.plainOk rfl h
  | s b => exact (rde2_any b W).mono fun e w' h => SX.plainOk rfl h
def tree_rfo3 : SX.Tree :=
(.loop [(.i 0)] [.one]
(.df (.len false) [(.q 0)] .one
(.df (.bin .lss 3) [(.q 1), (.q 2)] .one
(.br 3 []
(.df .bnd [(.q 0), (.q 1)] .one
(.df (.elems 4 0 4) [(.q 0), (.q 1)] (.ag 4)
(.df (.call 55 [.no]) [(.a (SX.Y 5 0 4))] .one
(.df .not [(.q 6)] .one
(.br 7 []
(.ret (.k (.bool false)) [] [])
(.df (.bin .add 3) [(.q 1), (.i 1)] .one
(.again 0 [(.q 8)])))))))
(.ret (.k (.bool true)) [] [])))))
def args_rfo3 : List SX.V := [.a [.k (.int .i64 3), .k (.int .i64 0), .k (.string ⟨#[]⟩), .x 0 []]]
set_option maxRecDepth 100000 in
theorem run_rfo3 (K A : Value → Nat → List Value → Prop) : (SX.run (cxY1 K A) ⟨fun f => f != 55, [⟨55, 8, [(.s 3, .one)]⟩], 0, 100⟩ 100000 0 (SX.door 55 Tryd.f55 args_rfo3 [.one]) [.code (Tryd.f55.body.getD .skip), .top Tryd.f55]).strip = tree_rfo3 := by kernel_rfl
set_option maxRecDepth 100000 in
set_option maxHeartbeats 4000000 in
theorem rfo3_any (fl : List Fl) (A : Option Addr) (n c : Nat) (w : World) (hr : Rd w 4 A n (flL fl)) (hn : n ≤ 1048576) (hc : n ≤ c) : Calls Tryd.prog 55 #[.agg #[.int .i64 3, .int .i64 0, .string ⟨#[]⟩, .slice A n c]] w fun e w' => e = .returned (.bool true) ∧ Below w.heap.size w w' := by
  refine SX.calls_of_run (C := cxY1 (fun s sz cells => s = .slice A n c ∧ sz = 4 ∧ cells = flL fl) (fun _ _ _ => False)) (G := ⟨fun f => f != 55, [⟨55, 8, [(.s 3, .one)]⟩], 0, 100⟩) (args := args_rfo3) (sh := [.one]) (ρ := [.slice A n c]) 100000 tree_rfo3 (okY1 _ _) Tryd.func55 rfl (run_rfo3 _ _) (by kernel_rfl) (by kernel_rfl) (by kernel_rfl) ?_ ?_
  · rintro W hW s sz cells ⟨rfl, rfl, rfl⟩; exact ⟨hr.same0 hW, hc⟩
  have hA := SX.rd_some hr
  have hln : fl.length = n := by have := hr.1; rw [flL_len] at this; omega
  unfold tree_rfo3
  refine SX.VC_loop (fun xs => ∃ (i : Nat), xs = [.int .i64 (i : Int)] ∧ i ≤ n) (fun xs => match xs with | .int _ i :: _ => n - i.toNat | _ => 0) (fun α => ⟨0, by kernel_rfl, by omega⟩) ?_
  rintro xs - ⟨i, rfl, hin⟩
  refine SX.D (.int .i64 (n : Int)) ?_
  refine SX.D (.bool (decide ((i : Int) < (n : Int)))) ?_
  refine SX.B (decide ((i : Int) < (n : Int))) (fun h4 => ?_) (fun h4 => ?_)
  · have h4 : i < n := by have := of_decide_eq_true h4; omega
    obtain ⟨z, hz⟩ : ∃ z, fl[i]? = some z := ⟨_, List.getElem?_eq_getElem (by omega)⟩
    refine SX.E (.bool true) (fun α => SX.extBnd (A := A) (n := n) (c := c) (j := i) hA (by kernel_rfl) (by kernel_rfl) h4) ?_
    refine SX.VC_df (valFl z) (fun α => SX.extElems (f := cellsFl) (l := fl) (A := A) (n := n) (c := c) (j := i) (z := z) cellsFl_len hA (by kernel_rfl) (by kernel_rfl) h4 ⟨rfl, rfl, rfl⟩ hz) (by cases z <;> rfl) ?_
    refine SX.E (.bool true) (fun α => ⟨[⟨valFl z, 0, []⟩], ⟨(by cases z <;> kernel_rfl), by kernel_rfl, trivial⟩, .inl ⟨rfl, z, rfl, rfl⟩, SX.noAli rfl⟩) ?_
    refine SX.D (.bool false) ?_
    refine SX.B false (fun h => nomatch h) (fun _ => ?_)
    refine SX.E (.int .i64 ((i + 1 : Nat) : Int)) (fun α => SX.W1 i) ?_
    exact SX.VC_again fun α => ⟨⟨i + 1, by kernel_rfl, by omega⟩, cast (by kernel_rfl) (show n - ((i + 1 : Nat) : Int).toNat < n - (i : Int).toNat by omega)⟩
  exact SX.VC_ret fun α W _ _ hS => SX.ret_of hS (x := .bool true) (by kernel_rfl) rfl
def tree_rde3 : SX.Tree :=
(.loop [(.i 0), (.i 0)] [.one, .one]
(.df (.len false) [(.q 0)] .one
(.df (.bin .lss 3) [(.q 1), (.q 3)] .one
(.br 4 []
(.df .bnd [(.q 0), (.q 1)] .one
(.df (.elems 4 0 4) [(.q 0), (.q 1)] (.ag 4)
(.df (.call 56 [.no]) [(.a (SX.Y 6 0 4))] .one
(.df .max [(.q 2), (.q 7)] .one
(.df (.bin .add 3) [(.q 1), (.i 1)] .one
(.again 0 [(.q 9), (.q 8)]))))))
(.df (.bin .add 3) [(.q 2), (.i 1)] .one
(.ret (.q 5) [] []))))))
def args_rde3 : List SX.V := [.a [.k (.int .i64 3), .k (.int .i64 0), .k (.string ⟨#[]⟩), .x 0 []]]
set_option maxRecDepth 100000 in
theorem run_rde3 (K A : Value → Nat → List Value → Prop) : (SX.run (cxY1 K A) ⟨fun f => f != 56, [⟨56, 5, [(.s 4, .one), (.s 3, .one)]⟩], 0, 100⟩ 100000 0 (SX.door 56 Tryd.f56 args_rde3 [.one]) [.code (Tryd.f56.body.getD .skip), .top Tryd.f56]).strip = tree_rde3 := by kernel_rfl
set_option maxRecDepth 100000 in
set_option maxHeartbeats 4000000 in
theorem rde3_any (fl : List Fl) (A : Option Addr) (n c : Nat) (w : World) (hr : Rd w 4 A n (flL fl)) (hn : n ≤ 1048576) (hc : n ≤ c) : Calls Tryd.prog 56 #[.agg #[.int .i64 3, .int .i64 0, .string ⟨#[]⟩, .slice A n c]] w fun e w' => e = .returned (.int .i64 1) ∧ Below w.heap.size w w' := by
  refine SX.calls_of_run (C := cxY1 (fun s sz cells => s = .slice A n c ∧ sz = 4 ∧ cells = flL fl) (fun _ _ _ => False)) (G := ⟨fun f => f != 56, [⟨56, 5, [(.s 4, .one), (.s 3, .one)]⟩], 0, 100⟩) (args := args_rde3) (sh := [.one]) (ρ := [.slice A n c]) 100000 tree_rde3 (okY1 _ _) Tryd.func56 rfl (run_rde3 _ _) (by kernel_rfl) (by kernel_rfl) (by kernel_rfl) ?_ ?_
  · rintro W hW s sz cells ⟨rfl, rfl, rfl⟩; exact ⟨hr.same0 hW, hc⟩
  have hA := SX.rd_some hr
  have hln : fl.length = n := by have := hr.1; rw [flL_len] at this; omega
  unfold tree_rde3
  refine SX.VC_loop (fun xs => ∃ (i : Nat), xs = [.int .i64 (i : Int), .int .i64 0] ∧ i ≤ n) (fun xs => match xs with | .int _ i :: _ => n - i.toNat | _ => 0) (fun α => ⟨0, by kernel_rfl, by omega⟩) ?_
  rintro xs - ⟨i, rfl, hin⟩
  refine SX.D (.int .i64 (n : Int)) ?_
  refine SX.D (.bool (decide ((i : Int) < (n : Int)))) ?_
  refine SX.B (decide ((i : Int) < (n : Int))) (fun h4 => ?_) (fun h4 => ?_)
  · have h4 : i < n := by have := of_decide_eq_true h4; omega
    obtain ⟨z, hz⟩ : ∃ z, fl[i]? = some z := ⟨_, List.getElem?_eq_getElem (by omega)⟩
    refine SX.E (.bool true) (fun α => SX.extBnd (A := A) (n := n) (c := c) (j := i) hA (by kernel_rfl) (by kernel_rfl) h4) ?_
    refine SX.VC_df (valFl z) (fun α => SX.extElems (f := cellsFl) (l := fl) (A := A) (n := n) (c := c) (j := i) (z := z) cellsFl_len hA (by kernel_rfl) (by kernel_rfl) h4 ⟨rfl, rfl, rfl⟩ hz) (by cases z <;> rfl) ?_
    refine SX.E (.int .i64 0) (fun α => ⟨[⟨valFl z, 0, []⟩], ⟨(by cases z <;> kernel_rfl), by kernel_rfl, trivial⟩, .inr (⟨rfl, z, rfl, rfl⟩), SX.noAli rfl⟩) ?_
    refine SX.D (.int .i64 0) ?_
    refine SX.E (.int .i64 ((i + 1 : Nat) : Int)) (fun α => SX.W1 i) ?_
    exact SX.VC_again fun α => ⟨⟨i + 1, by kernel_rfl, by omega⟩, cast (by kernel_rfl) (show n - ((i + 1 : Nat) : Int).toNat < n - (i : Int).toNat by omega)⟩
  refine SX.D (.int .i64 1) ?_
  exact SX.VC_ret fun α W _ _ hS => SX.ret_of hS (x := .int .i64 1) (by kernel_rfl) rfl
def RY2 (K : Value → Nat → List Value → Prop) (f : FuncId) (xs : List SX.Arg) (v : Value) : Prop :=
  (f = 55 ∧ ∃ (u : Value) (fl : List Fl), xs = [⟨.agg #[.int .i64 3, .int .i64 0, .string ⟨#[]⟩, u], 0, []⟩] ∧ K u 4 (flL fl) ∧ fl.length ≤ 1048576 ∧ v = .bool true) ∨
  (f = 56 ∧ ∃ (u : Value) (fl : List Fl), xs = [⟨.agg #[.int .i64 3, .int .i64 0, .string ⟨#[]⟩, u], 0, []⟩] ∧ K u 4 (flL fl) ∧ fl.length ≤ 1048576 ∧ v = .int .i64 1)
def shpY2 : FuncId → Option SX.Sh := fun f => if f = 55 then some .one else if f = 56 then some .one else none
noncomputable def cxY2 (K A : Value → Nat → List Value → Prop) : SX.Cx := { P := Tryd.prog, R := RY2, shp := shpY2, K := K, A := A }
theorem okY2 (K A : Value → Nat → List Value → Prop) : (cxY2 K A).Ok := by
  refine SX.Cx.ok_of (fun _ => rfl) ?_
  intro K f xs v W hR hrd hKf
  rcases hR with ⟨rfl, u, fl, rfl, hku, hl, rfl⟩ | ⟨rfl, u, fl, rfl, hku, hl, rfl⟩
  · obtain ⟨A, n, c, rfl, h2, h3, h4⟩ := fl_arg (hKf u 4 (flL fl) hku)
    exact (rfo3_any fl A n c W h2 (by omega) h3).mono fun e w' h => SX.plainOk rfl h
  obtain ⟨A, n, c, rfl, h2, h3, h4⟩ := fl_arg (hKf u 4 (flL fl) hku)
  exact (rde3_any fl A n c W h2 (by omega) h3).mono fun e w' h => SX.plainOk rfl h
def tree_rche : SX.Tree :=
(.df (.call 55 [.no]) [(.a [(.i 3), (.i 0), (.k (.string ⟨#[]⟩)), (.q 0)])] .one
(.df .not [(.q 1)] .one
(.br 2 []
(.ret (.i 1) [] [])
(.df (.call 56 [.no]) [(.a [(.i 3), (.i 0), (.k (.string ⟨#[]⟩)), (.q 0)])] .one
(.df (.bin .gtr 3) [(.q 3), (.i 16)] .one
(.br 4 []
(.ret (.i 2) [] [])
(.ret (.i 0) [] [])))))))
def args_rche : List SX.V := [.a [.k (.int .i64 3), .k (.int .i64 0), .k (.string ⟨#[]⟩), .x 0 []]]
set_option maxRecDepth 100000 in
theorem run_rche (K A : Value → Nat → List Value → Prop) : (SX.run (cxY2 K A) ⟨fun f => true, [], 0, 100⟩ 100000 0 (SX.door 40 Tryd.f40 args_rche [.one]) [.code (Tryd.f40.body.getD .skip), .top Tryd.f40]).strip = tree_rche := by kernel_rfl
set_option maxRecDepth 100000 in
set_option maxHeartbeats 4000000 in
theorem rcheck_any (fl : List Fl) (A : Option Addr) (n c : Nat) (w : World) (hr : Rd w 4 A n (flL fl)) (hn : n ≤ 1048576) (hc : n ≤ c) : Calls Tryd.prog 40 #[.agg #[.int .i64 3, .int .i64 0, .string ⟨#[]⟩, .slice A n c]] w fun e w' => e = .returned (.int .i64 0) ∧ Below w.heap.size w w' := by
  refine SX.calls_of_run (C := cxY2 (fun s sz cells => s = .slice A n c ∧ sz = 4 ∧ cells = flL fl) (fun _ _ _ => False)) (G := ⟨fun f => true, [], 0, 100⟩) (args := args_rche) (sh := [.one]) (ρ := [.slice A n c]) 100000 tree_rche (okY2 _ _) Tryd.func40 rfl (run_rche _ _) (by kernel_rfl) (by kernel_rfl) (by kernel_rfl) ?_ ?_
  · rintro W hW s sz cells ⟨rfl, rfl, rfl⟩; exact ⟨hr.same0 hW, hc⟩
  have hA := SX.rd_some hr
  have hln : fl.length = n := by have := hr.1; rw [flL_len] at this; omega
  unfold tree_rche
  refine SX.E (.bool true) (fun α => ⟨[⟨.agg #[.int .i64 3, .int .i64 0, .string ⟨#[]⟩, .slice A n c], 0, []⟩], ⟨by kernel_rfl, by kernel_rfl, trivial⟩, .inl ⟨rfl, .slice A n c, fl, rfl, ⟨rfl, rfl, rfl⟩, by omega, rfl⟩, SX.noAli rfl⟩) ?_
  refine SX.D (.bool false) ?_
  refine SX.B false (fun h => nomatch h) (fun _ => ?_)
  refine SX.E (.int .i64 1) (fun α => ⟨[⟨.agg #[.int .i64 3, .int .i64 0, .string ⟨#[]⟩, .slice A n c], 0, []⟩], ⟨by kernel_rfl, by kernel_rfl, trivial⟩, .inr (⟨rfl, .slice A n c, fl, rfl, ⟨rfl, rfl, rfl⟩, by omega, rfl⟩), SX.noAli rfl⟩) ?_
  refine SX.D (.bool false) ?_
  refine SX.B false (fun h => nomatch h) (fun _ => ?_)
  exact SX.VC_ret fun α W _ _ hS => SX.ret_of hS (x := .int .i64 0) (by kernel_rfl) rfl
def RY3 (f : FuncId) (xs : List SX.Arg) (v : Value) : Prop :=
  (f = 57 ∧ ∃ u : Nat, u < 18446744073709551616 ∧ xs = [⟨.int .u64 (u : Int), 0, []⟩] ∧ v = .agg ((numB u).flatMap c8).toArray) ∨
  (f = 58 ∧ ∃ k : Int, xs = [⟨.int .i64 k, 0, []⟩] ∧ (-9223372036854775808 ≤ k ∧ k ≤ 9223372036854775807) ∧ v = .int .u64 (unsN k : Int))
def shpY3 : FuncId → Option SX.Sh := fun f => if f = 57 then some (.sl 1) else if f = 58 then some .one else none
noncomputable def cxY3 (K A : Value → Nat → List Value → Prop) : SX.Cx := { P := Tryd.prog, R := fun _ => RY3, shp := shpY3, K := K, A := A, bsr := true }
theorem okY3 (K A : Value → Nat → List Value → Prop) : (cxY3 K A).Ok := by
  refine SX.Cx.ok_of (fun _ => rfl) ?_
  intro K f xs v W hR hrd hKf
  rcases hR with ⟨rfl, u, hu, rfl, rfl⟩ | ⟨rfl, k, rfl, ⟨h1, h2⟩, rfl⟩
  · exact (rnumeral_any u hu W).mono fun e w' h => SX.SlRet.ok1 rfl h
  exact (runs_any k W h1 h2).mono fun e w' h => SX.plainOk rfl h
def tree_ren1 : SX.Tree :=
(.df (.call 58 [.no]) [(.x 0 [])] .one 
(.df (.call 57 [.no]) [(.x 1 [])] (.sl 1) 
(.df (.app 1 1 (.row 1 [(.x 2 [])])) [(.cat [(.a [(.k (.int .u8 1))])]), (.row 2)] .any 
(.ret (.row 3) [none, none, none, (some ⟨[(.a [(.k (.int .u8 1))]), (.x 3 [])], 5, (.row 1)⟩)] []))))
def args_ren1 : List SX.V := [.a [.k (.int .i64 1), .x 0 [], .k (.string ⟨#[]⟩), .k (.slice none 0 0)]]
set_option maxRecDepth 100000 in
theorem run_ren1 (K A : Value → Nat → List Value → Prop) : (SX.run (cxY3 K A) ⟨fun f => true, [], 2, 100⟩ 100000 0 (SX.door 41 Tryd.f41 args_ren1 [.one]) [.code (Tryd.f41.body.getD .skip), .top Tryd.f41]).strip = tree_ren1 := by kernel_rfl
set_option maxRecDepth 100000 in
set_option maxHeartbeats 4000000 in
theorem ren1_any (k : Int) (w : World) (h1 : -9223372036854775808 ≤ k) (h2 : k ≤ 9223372036854775807) : Calls Tryd.prog 41 #[.agg #[.int .i64 1, .int .i64 k, .string ⟨#[]⟩, .slice none 0 0]] w fun e w' => Below w.heap.size w w' ∧ ∃ hdr, e = .returned hdr ∧ SX.SlRet w w' [] hdr 1 ((encF (.n k)).flatMap c8) := by
  refine SX.calls_of_run (C := cxY3 (fun _ _ _ => False) (fun _ _ _ => False)) (G := ⟨fun f => true, [], 2, 100⟩) (args := args_ren1) (sh := [.one]) (ρ := [.int .i64 k]) 100000 tree_ren1 (okY3 _ _) Tryd.func41 rfl (run_ren1 _ _) (by kernel_rfl) (by kernel_rfl) (by kernel_rfl) ?_ ?_
  · exact fun W _ => SX.Kf_none (fun _ _ _ h => h) W
  unfold tree_ren1
  have hul := unsN_lt h1 h2
  have hlen := numB_len 9 (unsN k) (by omega)
  refine SX.E (.int .u64 (unsN k : Int)) (fun α => ⟨[⟨.int .i64 k, 0, []⟩], ⟨by kernel_rfl, by kernel_rfl, trivial⟩, .inr (⟨rfl, k, rfl, ⟨h1, h2⟩, rfl⟩), SX.noAli rfl⟩) ?_
  refine SX.VC_df (.agg ((numB (unsN k)).flatMap c8).toArray) (fun α => ⟨[⟨.int .u64 ((unsN k) : Int), 0, []⟩], ⟨by kernel_rfl, by kernel_rfl, trivial⟩, .inl ⟨rfl, (unsN k), hul, rfl, rfl⟩, SX.noAli rfl⟩) (enc8_fit _) ?_
  refine SX.VC_df (.agg ((numB (unsN k)).flatMap c8).toArray) (fun α => SX.app_rel (f := c8) (l1 := [1#8]) (l2 := numB (unsN k)) (fun _ => rfl) c8o (by decide) (by kernel_rfl) (SX.src_rw1 (by kernel_rfl)) (by simp only [LL]; omega) (by simp only [LL]; omega)) rfl ?_
  exact SX.VC_ret fun α W _ hrow hS => ⟨hS.below, _, by kernel_rfl, SX.SlRet.row hS (n := 3) (b := (⟨[(.a [(.k (.int .u8 1))]), (.x 3 [])], 5, (.row 1)⟩ : SX.Blk)) (by kernel_rfl) rfl (hrow 3 _ (by kernel_rfl)) (Eq.trans (b := [Value.agg #[w8 1#8], Value.agg ((numB (unsN k)).flatMap c8).toArray].flatMap SX.cellsV) (by kernel_rfl) (by simp [SX.cellsV, c8, encF]))⟩
def tree_ren2 : SX.Tree :=
(.df (.len true) [(.x 0 [])] .one 
(.df (.conv .u64) [(.x 1 [])] .one 
(.df (.call 57 [.no]) [(.x 2 [])] (.sl 1) 
(.df (.app 1 1 (.row 1 [(.x 3 [])])) [(.cat [(.a [(.k (.int .u8 2))])]), (.row 6)] .any 
(.df (.aps 1) [(.cat [(.a [(.k (.int .u8 2))]), (.x 4 [])]), (.x 0 [])] .any 
(.ret (.row 10) [none, none, none, none, none, none, none, none, none, none, (some ⟨[(.a [(.k (.int .u8 2))]), (.x 4 []), (.x 5 [])], 5, (.row 1)⟩), none] []))))))
def args_ren2 : List SX.V := [.a [.k (.int .i64 2), .k (.int .i64 0), .x 0 [], .k (.slice none 0 0)]]
set_option maxRecDepth 100000 in
theorem run_ren2 (K A : Value → Nat → List Value → Prop) : (SX.run (cxY3 K A) ⟨fun f => true, [], 2, 100⟩ 100000 0 (SX.door 41 Tryd.f41 args_ren2 [.one]) [.code (Tryd.f41.body.getD .skip), .top Tryd.f41]).strip = tree_ren2 := by kernel_rfl
set_option maxRecDepth 100000 in
set_option maxHeartbeats 4000000 in
theorem ren2_any (b : ByteArray) (w : World) (hb : b.size ≤ 1048576) : Calls Tryd.prog 41 #[.agg #[.int .i64 2, .int .i64 0, .string b, .slice none 0 0]] w fun e w' => Below w.heap.size w w' ∧ ∃ hdr, e = .returned hdr ∧ SX.SlRet w w' [] hdr 1 ((encF (.s b)).flatMap c8) := by
  refine SX.calls_of_run (C := cxY3 (fun _ _ _ => False) (fun _ _ _ => False)) (G := ⟨fun f => true, [], 2, 100⟩) (args := args_ren2) (sh := [.one]) (ρ := [.string b]) 100000 tree_ren2 (okY3 _ _) Tryd.func41 rfl (run_ren2 _ _) (by kernel_rfl) (by kernel_rfl) (by kernel_rfl) ?_ ?_
  · exact fun W _ => SX.Kf_none (fun _ _ _ h => h) W
  unfold tree_ren2
  have hlen := numB_len 9 b.size (by omega)
  have hcl : ∀ l : List W8, (l.flatMap c8).length = l.length := fun l => by induction l with
    | nil => rfl
    | cons a l ih => simp only [List.flatMap_cons, List.length_append, c8_len, List.length_cons, ih]; omega
  refine SX.D (.int .i64 (b.size : Int)) ?_
  refine SX.E (.int .u64 (b.size : Int)) (fun α => Eq.trans (b := some (.int .u64 (IntKind.u64.wrap (b.size : Int)))) (by kernel_rfl) (by rw [wrap_u]; congr 2; omega)) ?_
  refine SX.VC_df (.agg ((numB b.size).flatMap c8).toArray) (fun α => ⟨[⟨.int .u64 (b.size : Int), 0, []⟩], ⟨by kernel_rfl, by kernel_rfl, trivial⟩, .inl ⟨rfl, b.size, by omega, rfl, rfl⟩, SX.noAli rfl⟩) (enc8_fit _) ?_
  refine SX.VC_df (.agg ((numB b.size).flatMap c8).toArray) (fun α => SX.app_rel (f := c8) (l1 := [2#8]) (l2 := numB b.size) (fun _ => rfl) c8o (by decide) (by kernel_rfl) (SX.src_rw1 (by kernel_rfl)) (by simp only [LL]; omega) (by simp only [LL]; omega)) rfl ?_
  have hcc : [Value.agg #[w8 2#8], Value.agg ((numB b.size).flatMap c8).toArray].flatMap SX.cellsV = ([2#8] ++ numB b.size).flatMap c8 := by simp [SX.cellsV, c8]
  refine SX.VC_df (Value.agg ((sb b).flatMap c8).toArray) (fun α => ⟨b, by kernel_rfl, ?_, ?_, by rw [sb_cells]⟩) rfl ?_
  · rw [show SX.cellsV _ = (([2#8] ++ numB b.size).flatMap c8) from Eq.trans (b := [Value.agg #[w8 2#8], Value.agg ((numB b.size).flatMap c8).toArray].flatMap SX.cellsV) (by kernel_rfl) hcc, hcl]; simp only [LL]; omega
  · rw [show SX.cellsV _ = (([2#8] ++ numB b.size).flatMap c8) from Eq.trans (b := [Value.agg #[w8 2#8], Value.agg ((numB b.size).flatMap c8).toArray].flatMap SX.cellsV) (by kernel_rfl) hcc, hcl]; simp only [LL]; omega
  exact SX.VC_ret fun α W _ hrow hS => ⟨hS.below, _, by kernel_rfl, SX.SlRet.row hS (n := 10) (b := (⟨[(.a [(.k (.int .u8 2))]), (.x 4 []), (.x 5 [])], 5, (.row 1)⟩ : SX.Blk)) (by kernel_rfl) rfl (hrow 10 _ (by kernel_rfl)) (Eq.trans (b := [Value.agg #[w8 2#8], Value.agg ((numB b.size).flatMap c8).toArray, Value.agg ((sb b).flatMap c8).toArray].flatMap SX.cellsV) (by kernel_rfl) (by simp [SX.cellsV, c8, encF]))⟩
def RY4 (f : FuncId) (xs : List SX.Arg) (v : Value) : Prop :=
  (f = 57 ∧ ∃ u : Nat, u < 18446744073709551616 ∧ xs = [⟨.int .u64 (u : Int), 0, []⟩] ∧ v = .agg ((numB u).flatMap c8).toArray) ∨
  (f = 41 ∧ ∃ z : Fl, z.fits ∧ xs = [⟨valFl z, 0, []⟩] ∧ v = .agg ((encF z).flatMap c8).toArray)
def shpY4 : FuncId → Option SX.Sh := fun f => if f = 57 then some (.sl 1) else if f = 41 then some (.sl 1) else none
noncomputable def cxY4 (K A : Value → Nat → List Value → Prop) : SX.Cx := { P := Tryd.prog, R := fun _ => RY4, shp := shpY4, K := K, A := A, bsr := true }
theorem okY4 (K A : Value → Nat → List Value → Prop) : (cxY4 K A).Ok := by
  refine SX.Cx.ok_of (fun _ => rfl) ?_
  intro K f xs v W hR hrd hKf
  rcases hR with ⟨rfl, u, hu, rfl, rfl⟩ | ⟨rfl, z, hz, rfl, rfl⟩
  · exact (rnumeral_any u hu W).mono fun e w' h => SX.SlRet.ok1 rfl h
  cases z with
  | n k => exact (ren1_any k W hz.1 hz.2).mono fun e w' h => SX.SlRet.ok1 rfl h
  | s b => exact (ren2_any b W hz).mono fun e w' h => SX.SlRet.ok1 rfl h
def tree_ren3 : SX.Tree :=
(.df (.len false) [(.x 0 [])] .one 
(.df (.conv .u64) [(.x 1 [])] .one 
(.df (.call 57 [.no]) [(.x 2 [])] (.sl 1) 
(.df (.app 1 1 (.row 1 [(.x 3 [])])) [(.cat [(.a [(.k (.int .u8 3))])]), (.row 2)] .any 
(.loop [(.k (.int .i64 0)), (.cat [(.a [(.k (.int .u8 3))]), (.x 4 [])])] [.one, .any] 
(.df (.len false) [(.x 0 [])] .one 
(.df (.bin .lss 3) [(.x 5 []), (.x 7 [])] .one 
(.br 8 [] 
(.df .bnd [(.x 0 []), (.x 5 [])] .one 
(.df (.elems 4 0 4) [(.x 0 []), (.x 5 [])] (.ag 4) 
(.df (.call 41 [.no]) [(.a [(.x 10 [0]), (.x 10 [1]), (.x 10 [2]), (.x 10 [3])])] (.sl 1) 
(.df (.app 1 1 (.row 1 [(.x 11 [])])) [(.cat [(.x 6 [])]), (.row 6)] .any 
(.df (.bin .add 3) [(.x 5 []), (.k (.int .i64 1))] .one 
(.again 0 [(.x 13 []), (.cat [(.x 6 []), (.x 12 [])])])))))) 
(.ret (.row 5) [none, none, none, none, none, (some ⟨[(.x 6 [])], 5, (.row 1)⟩)] [])))))))))
def args_ren3 : List SX.V := [.a [.k (.int .i64 3), .k (.int .i64 0), .k (.string ⟨#[]⟩), .x 0 []]]
set_option maxRecDepth 100000 in
theorem run_ren3 (K A : Value → Nat → List Value → Prop) : (SX.run (cxY4 K A) ⟨fun f => f != 41, [⟨41, 8, [(.s 4, .one), (.s 3, .row 1 5)]⟩], 2, 100⟩ 100000 0 (SX.door 41 Tryd.f41 args_ren3 [.one]) [.code (Tryd.f41.body.getD .skip), .top Tryd.f41]).strip = tree_ren3 := by kernel_rfl
set_option maxRecDepth 100000 in
set_option maxHeartbeats 4000000 in
theorem ren3_any (fl : List Fl) (A : Option Addr) (n c : Nat) (w : World) (hr : Rd w 4 A n (flL fl)) (hn : n ≤ 1048576) (hc : n ≤ c) (hfit : ∀ z ∈ fl, z.fits) : Calls Tryd.prog 41 #[.agg #[.int .i64 3, .int .i64 0, .string ⟨#[]⟩, .slice A n c]] w fun e w' => Below w.heap.size w w' ∧ ∃ hdr, e = .returned hdr ∧ SX.SlRet w w' [] hdr 1 ((encL fl).flatMap c8) := by
  refine SX.calls_of_run (C := cxY4 (fun s sz cells => s = .slice A n c ∧ sz = 4 ∧ cells = flL fl) (fun _ _ _ => False)) (G := ⟨fun f => f != 41, [⟨41, 8, [(.s 4, .one), (.s 3, .row 1 5)]⟩], 2, 100⟩) (args := args_ren3) (sh := [.one]) (ρ := [.slice A n c]) 100000 tree_ren3 (okY4 _ _) Tryd.func41 rfl (run_ren3 _ _) (by kernel_rfl) (by kernel_rfl) (by kernel_rfl) ?_ ?_
  · rintro W hW s sz cells ⟨rfl, rfl, rfl⟩; exact ⟨hr.same0 hW, hc⟩
  have hA := SX.rd_some hr
  have hln : fl.length = n := by have := hr.1; rw [flL_len] at this; omega
  have hN := numB_len 9 n (by omega)
  unfold tree_ren3
  refine SX.D (.int .i64 (n : Int)) ?_
  refine SX.E (.int .u64 (n : Int)) (fun α => Eq.trans (b := some (.int .u64 (IntKind.u64.wrap (n : Int)))) (by kernel_rfl) (by rw [wrap_u]; congr 2; omega)) ?_
  refine SX.VC_df (.agg ((numB n).flatMap c8).toArray) (fun α => ⟨[⟨.int .u64 (n : Int), 0, []⟩], ⟨by kernel_rfl, by kernel_rfl, trivial⟩, .inl ⟨rfl, n, by omega, rfl, rfl⟩, SX.noAli rfl⟩) (enc8_fit _) ?_
  refine SX.VC_df (.agg ((numB n).flatMap c8).toArray) (fun α => SX.app_rel (f := c8) (l1 := [3#8]) (l2 := numB n) (fun _ => rfl) c8o (by decide) (by kernel_rfl) (SX.src_rw1 (by kernel_rfl)) (by simp only [LL]; omega) (by simp only [LL]; omega)) rfl ?_
  refine SX.VC_loop (fun xs => ∃ (i : Nat), xs = [.int .i64 (i : Int), .agg (([3#8] ++ numB n ++ (fl.take i).flatMap encF).flatMap c8).toArray] ∧ i ≤ n) (fun xs => match xs with | .int _ i :: _ => n - i.toNat | _ => 0) (fun α => ⟨0, Eq.trans (b := [.int .i64 0, .agg ([Value.agg #[w8 3#8], Value.agg ((numB n).flatMap c8).toArray].flatMap SX.cellsV).toArray]) (by kernel_rfl) (by simp [SX.cellsV, c8]), by omega⟩) ?_
  rintro xs - ⟨i, rfl, hin⟩
  have hEl := encL_len (l := fl.take i) (fun z hz => hfit z (List.mem_of_mem_take hz))
  have hEi : (fl.take i).length ≤ n := by rw [List.length_take]; omega
  obtain ⟨acc, hacc⟩ : ∃ acc, [3#8] ++ numB n ++ (fl.take i).flatMap encF = acc := ⟨_, rfl⟩
  have hal : acc.length ≤ 1099600000000 := by
    rw [← hacc]; simp only [LL]; omega
  rw [hacc]
  refine SX.D (.int .i64 (n : Int)) ?_
  refine SX.D (.bool (decide ((i : Int) < (n : Int)))) ?_
  refine SX.B (decide ((i : Int) < (n : Int))) (fun h4 => ?_) (fun h4 => ?_)
  · have h4 : i < n := by have := of_decide_eq_true h4; omega
    obtain ⟨z, hz⟩ : ∃ z, fl[i]? = some z := ⟨_, List.getElem?_eq_getElem (by omega)⟩
    have hzf := hfit z (List.mem_of_getElem? hz)
    have hzl := encF_len hzf
    have htk : [3#8] ++ numB n ++ (fl.take (i + 1)).flatMap encF = acc ++ encF z := by rw [List.take_add_one, hz, ← hacc]; simp
    refine SX.E (.bool true) (fun α => SX.extBnd (A := A) (n := n) (c := c) (j := i) hA (by kernel_rfl) (by kernel_rfl) h4) ?_
    refine SX.VC_df (valFl z) (fun α => SX.extElems (f := cellsFl) (l := fl) (A := A) (n := n) (c := c) (j := i) (z := z) cellsFl_len hA (by kernel_rfl) (by kernel_rfl) h4 ⟨rfl, rfl, rfl⟩ hz) (by cases z <;> rfl) ?_
    refine SX.VC_df (.agg ((encF z).flatMap c8).toArray) (fun α => ⟨[⟨valFl z, 0, []⟩], ⟨(by cases z <;> kernel_rfl), by kernel_rfl, trivial⟩, .inr (⟨rfl, z, hzf, rfl, rfl⟩), SX.noAli rfl⟩) (enc8_fit _) ?_
    refine SX.VC_df (.agg ((encF z).flatMap c8).toArray) (fun α => SX.app_rel (f := c8) (l1 := acc) (l2 := encF z) (fun _ => rfl) c8o (by decide) (SX.cat1 (by kernel_rfl)) (SX.src_rw1 (by kernel_rfl)) (by omega) (by omega)) rfl ?_
    refine SX.E (.int .i64 ((i + 1 : Nat) : Int)) (fun α => SX.W1 i) ?_
    exact SX.VC_again fun α => ⟨⟨i + 1, Eq.trans (b := [.int .i64 ((i + 1 : Nat) : Int), .agg ([Value.agg (acc.flatMap c8).toArray, Value.agg ((encF z).flatMap c8).toArray].flatMap SX.cellsV).toArray]) (by kernel_rfl) (by rw [htk]; simp [SX.cellsV]), by omega⟩, cast (by kernel_rfl) (show n - ((i + 1 : Nat) : Int).toNat < n - (i : Int).toNat by omega)⟩
  have h4 : i = n := by have := of_decide_eq_false h4; omega
  have he : acc = encL fl := by rw [← hacc, List.take_of_length_le (by omega)]; unfold encL; rw [hln]; simp
  rw [← he]
  exact SX.VC_ret fun α W _ hrow hS => ⟨hS.below, _, by kernel_rfl, SX.SlRet.row hS (n := 5) (b := (⟨[(.x 6 [])], 5, (.row 1)⟩ : SX.Blk)) (by kernel_rfl) rfl (hrow 5 _ (by kernel_rfl)) (Eq.trans (b := [Value.agg (acc.flatMap c8).toArray].flatMap SX.cellsV) (by kernel_rfl) (by simp [SX.cellsV]))⟩
def RY5 (K : Value → Nat → List Value → Prop) (f : FuncId) (xs : List SX.Arg) (v : Value) : Prop :=
  (f = 40 ∧ ∃ (u : Value) (fl : List Fl), xs = [⟨.agg #[.int .i64 3, .int .i64 0, .string ⟨#[]⟩, u], 0, []⟩] ∧ K u 4 (flL fl) ∧ fl.length ≤ 1048576 ∧ (∀ z ∈ fl, z.fits) ∧ v = .int .i64 0) ∨
  (f = 41 ∧ ∃ (u : Value) (fl : List Fl), xs = [⟨.agg #[.int .i64 3, .int .i64 0, .string ⟨#[]⟩, u], 0, []⟩] ∧ K u 4 (flL fl) ∧ fl.length ≤ 1048576 ∧ (∀ z ∈ fl, z.fits) ∧ v = .agg ((encL fl).flatMap c8).toArray)
def shpY5 : FuncId → Option SX.Sh := fun f => if f = 40 then some .one else if f = 41 then some (.sl 1) else none
noncomputable def cxY5 (K A : Value → Nat → List Value → Prop) : SX.Cx := { P := Tryd.prog, R := RY5, shp := shpY5, K := K, A := A }
theorem okY5 (K A : Value → Nat → List Value → Prop) : (cxY5 K A).Ok := by
  refine SX.Cx.ok_of (fun _ => rfl) ?_
  intro K f xs v W hR hrd hKf
  rcases hR with ⟨rfl, u, fl, rfl, hku, hl, hfit, rfl⟩ | ⟨rfl, u, fl, rfl, hku, hl, hfit, rfl⟩
  · obtain ⟨A, n, c, rfl, h2, h3, h4⟩ := fl_arg (hKf u 4 (flL fl) hku)
    exact (rcheck_any fl A n c W h2 (by omega) h3).mono fun e w' h => SX.plainOk rfl h
  obtain ⟨A, n, c, rfl, h2, h3, h4⟩ := fl_arg (hKf u 4 (flL fl) hku)
  exact (ren3_any fl A n c W h2 (by omega) h3 hfit).mono fun e w' h => SX.SlRet.ok1 rfl h
def tree_renc : SX.Tree :=
(.df (.call 40 [.no]) [(.a [(.k (.int .i64 3)), (.k (.int .i64 0)), (.k (.string ⟨#[]⟩)), (.x 0 [])])] .one 
(.df (.bin .neq 26) [(.x 1 []), (.k (.int .i64 0))] .one 
(.br 2 [] 
(.ret (.t [(.k (.slice none 0 0)), (.x 1 [])]) [none] []) 
(.df (.call 41 [.no]) [(.a [(.k (.int .i64 3)), (.k (.int .i64 0)), (.k (.string ⟨#[]⟩)), (.x 0 [])])] (.sl 1) 
(.ret (.t [(.row 1), (.k (.int .i64 0))]) [none, (some ⟨[(.x 3 [])], 0, (.ext 1)⟩)] [])))))
def args_renc : List SX.V := [.a [.k (.int .i64 3), .k (.int .i64 0), .k (.string ⟨#[]⟩), .x 0 []]]
set_option maxRecDepth 100000 in
theorem run_renc (K A : Value → Nat → List Value → Prop) : (SX.run (cxY5 K A) ⟨fun f => true, [], 2, 100⟩ 100000 0 (SX.door 23 Tryd.f23 args_renc [.one]) [.code (Tryd.f23.body.getD .skip), .top Tryd.f23]).strip = tree_renc := by kernel_rfl
set_option maxRecDepth 100000 in
set_option maxHeartbeats 4000000 in
theorem rencode_any (fl : List Fl) (A : Option Addr) (n c : Nat) (w : World) (hr : Rd w 4 A n (flL fl)) (hn : n ≤ 1048576) (hc : n ≤ c) (hfit : ∀ z ∈ fl, z.fits) : Calls Tryd.prog 23 #[.agg #[.int .i64 3, .int .i64 0, .string ⟨#[]⟩, .slice A n c]] w fun e w' => Below w.heap.size w w' ∧ ∃ hdr, e = .returned (.tuple #[hdr, .int .i64 0]) ∧ SX.SlRet w w' [] hdr 1 ((encL fl).flatMap c8) := by
  refine SX.calls_of_run (C := cxY5 (fun s sz cells => s = .slice A n c ∧ sz = 4 ∧ cells = flL fl) (fun _ _ _ => False)) (G := ⟨fun f => true, [], 2, 100⟩) (args := args_renc) (sh := [.one]) (ρ := [.slice A n c]) 100000 tree_renc (okY5 _ _) Tryd.func23 rfl (run_renc _ _) (by kernel_rfl) (by kernel_rfl) (by kernel_rfl) ?_ ?_
  · rintro W hW s sz cells ⟨rfl, rfl, rfl⟩; exact ⟨hr.same0 hW, hc⟩
  have hA := SX.rd_some hr
  have hln : fl.length = n := by have := hr.1; rw [flL_len] at this; omega
  unfold tree_renc
  refine SX.E (.int .i64 0) (fun α => ⟨[⟨.agg #[.int .i64 3, .int .i64 0, .string ⟨#[]⟩, .slice A n c], 0, []⟩], ⟨by kernel_rfl, by kernel_rfl, trivial⟩, .inl ⟨rfl, .slice A n c, fl, rfl, ⟨rfl, rfl, rfl⟩, by omega, hfit, rfl⟩, SX.noAli rfl⟩) ?_
  refine SX.D (.bool false) ?_
  refine SX.B false (fun h => nomatch h) (fun _ => ?_)
  refine SX.VC_df (.agg ((encL fl).flatMap c8).toArray) (fun α => ⟨[⟨.agg #[.int .i64 3, .int .i64 0, .string ⟨#[]⟩, .slice A n c], 0, []⟩], ⟨by kernel_rfl, by kernel_rfl, trivial⟩, .inr (⟨rfl, .slice A n c, fl, rfl, ⟨rfl, rfl, rfl⟩, by omega, hfit, rfl⟩), SX.noAli rfl⟩) (enc8_fit _) ?_
  exact SX.VC_ret fun α W _ hR hS => ⟨hS.below, (α 1).h, by kernel_rfl, SX.SlRet.ext0 hS (n := 1) (b := (⟨[(.x 3 [])], 0, (.ext 1)⟩ : SX.Blk)) (by kernel_rfl) rfl (hR 1 _ (by kernel_rfl)) (Eq.trans (b := [Value.agg ((encL fl).flatMap c8).toArray].flatMap SX.cellsV) (by kernel_rfl) (by simp [SX.cellsV])) (fun W2 s z xs hk => nomatch hk) (fun B s z xs hk => nomatch hk)⟩
theorem ch_eq (e f g : W32) : g ^^^ (e &&& (f ^^^ g)) = (e &&& f) ^^^ (~~~e &&& g) := by
  apply BitVec.eq_of_getLsbD_eq
  intro i hi
  simp only [BitVec.getLsbD_xor, BitVec.getLsbD_and, BitVec.getLsbD_not]
  cases e.getLsbD i <;> cases f.getLsbD i <;> cases g.getLsbD i <;> simp [hi]
theorem maj_eq (a b c : W32) : (a &&& b) ||| (c &&& (a ||| b)) = (a &&& b) ^^^ (a &&& c) ^^^ (b &&& c) := by
  apply BitVec.eq_of_getLsbD_eq
  intro i hi
  simp only [BitVec.getLsbD_xor, BitVec.getLsbD_and, BitVec.getLsbD_or]
  cases a.getLsbD i <;> cases b.getLsbD i <;> cases c.getLsbD i <;> rfl
def rword (a b c d : W8) : W32 := a.setWidth 32 <<< 24 ||| b.setWidth 32 <<< 16 ||| c.setWidth 32 <<< 8 ||| d.setWidth 32
theorem rword_eq (a b c d : W8) : rword a b c d = wordOf a b c d := by
  unfold wordOf rword
  have h0 : (0 : W32) <<< (8 + 8 + 8) = 0 := rfl
  simp only [BitVec.shiftLeft_or_distrib, ← BitVec.shiftLeft_add, h0]
  rw [show ∀ x : W32, (0 : W32) ||| x = x from fun x => BitVec.zero_or]
def rorE (x : W32) (n : Nat) : W32 := x >>> n ||| x <<< (32 - n)
theorem rorE_rot (x : W32) {n : Nat} {k : Int} (hk : turnOf k = 32 - n) (hn : n < 32) : rorE x n = rotL x (turnOf k) := by
  unfold rorE rotL
  rw [hk, show 32 - (32 - n) = n by omega, BitVec.or_comm]
def rsig (x : W32) (a b c : Nat) : W32 := rorE x a ^^^ rorE x b ^^^ rorE x c
theorem rsig_e (x : W32) : rsig x 6 11 25 = sig x 6 11 25 := by
  unfold rsig sig
  rw [rorE_rot x (n := 6) (k := -6) rfl (by omega), rorE_rot x (n := 11) (k := -11) rfl (by omega), rorE_rot x (n := 25) (k := -25) rfl (by omega)]
theorem rsig_a (x : W32) : rsig x 2 13 22 = sig x 2 13 22 := by
  unfold rsig sig
  rw [rorE_rot x (n := 2) (k := -2) rfl (by omega), rorE_rot x (n := 13) (k := -13) rfl (by omega), rorE_rot x (n := 22) (k := -22) rfl (by omega)]
def rnextW (u : List W32) (t : Nat) : W32 := u.getD (t - 16) 0 + (rorE (u.getD (t - 15) 0) 7 ^^^ rorE (u.getD (t - 15) 0) 18 ^^^ u.getD (t - 15) 0 >>> 3) + u.getD (t - 7) 0 + (rorE (u.getD (t - 2) 0) 17 ^^^ rorE (u.getD (t - 2) 0) 19 ^^^ u.getD (t - 2) 0 >>> 10)
theorem rnextW_eq (u : List W32) (t : Nat) : rnextW u t = nextW u t := by
  unfold rnextW nextW
  rw [rorE_rot _ (n := 7) (k := -7) rfl (by omega), rorE_rot _ (n := 18) (k := -18) rfl (by omega), rorE_rot _ (n := 17) (k := -17) rfl (by omega), rorE_rot _ (n := 19) (k := -19) rfl (by omega)]
def S8.rp (s : S8) (k w : W32) : W32 := s.h + rsig s.e 6 11 25 + ((s.e &&& s.f) ^^^ (~~~s.e &&& s.g)) + k + w
def S8.rq (s : S8) : W32 := rsig s.a 2 13 22 + ((s.a &&& s.b) ^^^ (s.a &&& s.c) ^^^ (s.b &&& s.c))
theorem rrnd_eq (s : S8) (k w : W32) : s.rnd k w = ⟨s.rp k w + s.rq, s.a, s.b, s.c, s.d + s.rp k w, s.e, s.f, s.g⟩ := by
  have hp : s.p k w = s.rp k w := by unfold S8.p S8.rp; rw [rsig_e, ch_eq]
  have hq : s.q = s.rq := by unfold S8.q S8.rq; rw [rsig_a, maj_eq]
  unfold S8.rnd
  rw [hp, hq]
def padN (n : Nat) : Nat := (119 - n % 64) % 64
def padR (l : List W8) : List W8 := l ++ [128] ++ List.replicate (padN l.length) 0 ++ be64 (8 * l.length)
theorem absAll_append (s : S8) (l t : List W8) : absAll s (l ++ t) = absAll (absAll s l).1 ((absAll s l).2 ++ t) := by
  induction hn : l.length using Nat.strongRecOn generalizing s l with
  | _ n ih =>
    by_cases h : 64 ≤ l.length
    · rw [absAll_ge h, absAll_ge (by rw [List.length_append]; omega), List.take_append_of_le_length h, List.drop_append_of_le_length h]
      exact ih _ (by rw [List.length_drop]; omega) _ _ rfl
    rw [absAll_lt h]
theorem absAll_rest (s : S8) (l : List W8) : (absAll s l).2.length = l.length % 64 := by
  induction hn : l.length using Nat.strongRecOn generalizing s l with
  | _ n ih =>
    by_cases h : 64 ≤ l.length
    · rw [absAll_ge h, ih _ (by rw [List.length_drop]; omega) _ _ rfl, List.length_drop, hn]; omega
    rw [absAll_lt h]; show l.length = _; omega
theorem absAll_one {s : S8} {l : List W8} (h : l.length = 64) : (absAll s l).1 = absorbE s l := by
  rw [absAll_ge (by omega), List.take_of_length_le (by omega), absAll_lt (by rw [List.length_drop]; omega)]
theorem absAll_two {s : S8} {l t : List W8} (h : l.length = 64) (ht : t.length = 64) : (absAll s (l ++ t)).1 = absorbE (absorbE s l) t := by
  rw [absAll_ge (by rw [List.length_append]; omega), List.take_left' h, List.drop_left' h, absAll_one ht]
theorem marked_eq (r : List W8) (h : r.length < 64) : marked r = r ++ [128] ++ List.replicate (63 - r.length) 0 := by
  unfold marked
  rw [List.set_append_right _ _ (Nat.le_refl _), Nat.sub_self, show 64 - r.length = (63 - r.length) + 1 by omega, List.replicate_succ, List.set_cons_zero, List.append_assoc, List.singleton_append]
theorem endS_eq (s : S8) (r : List W8) (n : Nat) (h : r.length = n % 64) : endS s r n = (absAll s (r ++ [128] ++ List.replicate (padN n) 0 ++ be64 (8 * n))).1 := by
  have hr : r.length < 64 := by omega
  have hb : (be64 (8 * n)).length = 8 := rfl
  unfold endS padN
  by_cases h55 : 55 < r.length
  · rw [if_pos h55]
    have e : (119 - n % 64) % 64 = (63 - r.length) + 56 := by omega
    rw [e, ← List.replicate_append_replicate, ← List.append_assoc, List.append_assoc, ← marked_eq r hr, absAll_two]
    · rw [marked_eq r hr]; simp; omega
    simp [hb]
  rw [if_neg h55]
  have e : (119 - n % 64) % 64 = 55 - r.length := by omega
  have e2 : (marked r).take 56 = r ++ [128] ++ List.replicate (55 - r.length) 0 := by
    rw [marked_eq r hr, show 63 - r.length = (55 - r.length) + 8 by omega, ← List.replicate_append_replicate, ← List.append_assoc]
    exact List.take_left' (by simp; omega)
  rw [e, ← e2, absAll_one]
  rw [List.length_append, hb, e2]; simp; omega
theorem sumE_eq (l : List W8) : sumE l = outS (absAll startS (padR l)).1 := by
  unfold sumE padR
  rw [endS_eq _ _ _ (absAll_rest _ _)]
  simp only [List.append_assoc]
  rw [absAll_append startS l]
theorem padR_len (l : List W8) : (padR l).length % 64 = 0 := by
  unfold padR padN
  simp only [List.length_append, List.length_replicate, List.length_cons, List.length_nil, show (be64 (8 * l.length)).length = 8 from rfl]
  omega
def args_rror : List SX.V := [.x 0 [], .x 1 []]
def tree_rror : SX.Tree :=
(.df (.bin .shr 84) [(.q 0), (.q 1)] .one
(.df (.bin .sub 3) [(.i 32), (.q 1)] .one
(.df (.bin .shl 84) [(.q 0), (.q 3)] .one
(.df (.bin .or 84) [(.q 2), (.q 4)] .one
(.ret (.q 5) [] [])))))
set_option maxRecDepth 100000 in
theorem run_rror (K A : Value → Nat → List Value → Prop) : (SX.run (cx0 K A) ⟨fun _ => false, [], 0, 100⟩ 100000 0 (SX.door 69 Tryd.f69 args_rror [.one, .one]) [.code (Tryd.f69.body.getD .skip), .top Tryd.f69]).strip = tree_rror := by kernel_rfl
set_option maxRecDepth 100000 in
theorem rror_any (x : W32) (n : Nat) (h0 : 0 < n) (hn : n < 32) (w : World) : Calls Tryd.prog 69 #[w32 x, .int .i64 (n : Int)] w fun e w' => e = .returned (w32 (rorE x n)) ∧ Below w.heap.size w w' := by
  refine SX.calls_of_run (C := cx0 (fun _ _ _ => False) (fun _ _ _ => False)) (G := ⟨fun _ => false, [], 0, 100⟩) (args := args_rror) (sh := [.one, .one]) (ρ := [w32 x, .int .i64 (n : Int)]) 100000 tree_rror (cx0_ok _ _) Tryd.func69 rfl (cast (by kernel_rfl) (run_rror (fun _ _ _ => False) (fun _ _ _ => False))) (by kernel_rfl) (by kernel_rfl) (by kernel_rfl) (fun _ _ _ _ _ h => h.elim) ?_
  unfold tree_rror
  refine SX.E (w32 (x >>> n)) (fun α => cast (by kernel_rfl) (w_shr x .i64 n hn)) ?_
  refine SX.E (.int .i64 ((32 - n : Nat) : Int)) (fun α => cast (by kernel_rfl) (i_sub' (a := 32) (b := n) (d := 32 - n) (by omega) (by omega))) ?_
  refine SX.E (w32 (x <<< (32 - n))) (fun α => cast (by kernel_rfl) (w_shl x .i64 (32 - n) (by omega))) ?_
  refine SX.E (w32 (rorE x n)) (fun α => cast (by kernel_rfl) (w_or (x >>> n) (x <<< (32 - n)))) ?_
  exact SX.VC_ret fun α W _ _ hS => SX.ret_of hS (x := w32 (rorE x n)) (by kernel_rfl) rfl
def args_rword : List SX.V := [.x 0 []]
def tree_rword : SX.Tree :=
(.df .bnd [(.q 0), (.i 0)] .one
(.df (.elem 1 0) [(.q 0), (.i 0)] .one
(.df (.conv .u32) [(.q 2)] .one
(.df (.bin .shl 84) [(.q 3), (.k (.int .u64 24))] .one
(.df .bnd [(.q 0), (.i 1)] .one
(.df (.elem 1 0) [(.q 0), (.i 1)] .one
(.df (.conv .u32) [(.q 6)] .one
(.df (.bin .shl 84) [(.q 7), (.k (.int .u64 16))] .one
(.df (.bin .or 84) [(.q 4), (.q 8)] .one
(.df .bnd [(.q 0), (.i 2)] .one
(.df (.elem 1 0) [(.q 0), (.i 2)] .one
(.df (.conv .u32) [(.q 11)] .one
(.df (.bin .shl 84) [(.q 12), (.k (.int .u64 8))] .one
(.df (.bin .or 84) [(.q 9), (.q 13)] .one
(.df .bnd [(.q 0), (.i 3)] .one
(.df (.elem 1 0) [(.q 0), (.i 3)] .one
(.df (.conv .u32) [(.q 16)] .one
(.df (.bin .or 84) [(.q 14), (.q 17)] .one
(.ret (.q 18) [] [])))))))))))))))))))
set_option maxRecDepth 100000 in
theorem run_rword (K A : Value → Nat → List Value → Prop) : (SX.run (cx0 K A) ⟨fun _ => false, [], 0, 100⟩ 100000 0 (SX.door 68 Tryd.f68 args_rword [.any]) [.code (Tryd.f68.body.getD .skip), .top Tryd.f68]).strip = tree_rword := by kernel_rfl
set_option maxRecDepth 100000 in
theorem rword_any (b0 b1 b2 b3 : W8) (A : Option Addr) (n c : Nat) (w : World) (hr : Rd w 1 A n ([b0, b1, b2, b3].flatMap c8)) (hc : n ≤ c) : Calls Tryd.prog 68 #[.slice A n c] w fun e w' => e = .returned (w32 (rword b0 b1 b2 b3)) ∧ Below w.heap.size w w' := by
  obtain rfl : 4 = n := by have := hr.1; rw [SX.flat_len c8_len] at this; simpa using this
  have hA := SX.rd_some hr
  refine SX.calls_of_run (C := cx0 (fun v z xs => v = .slice A 4 c ∧ z = 1 ∧ xs = [b0, b1, b2, b3].flatMap c8) (fun _ _ _ => False)) (G := ⟨fun _ => false, [], 0, 100⟩) (args := args_rword) (sh := [.any]) (ρ := [.slice A 4 c]) 100000 tree_rword (cx0_ok _ _) Tryd.func68 rfl (cast (by kernel_rfl) (run_rword (fun v z xs => v = .slice A 4 c ∧ z = 1 ∧ xs = [b0, b1, b2, b3].flatMap c8) (fun _ _ _ => False))) (by kernel_rfl) (by kernel_rfl) (by kernel_rfl) (fun W hW v z xs ⟨h1, h2, h3⟩ => by subst h1; subst h2; subst h3; exact ⟨hr.same0 hW, hc⟩) ?_
  unfold tree_rword
  refine SX.E (.bool true) (fun α => SX.extBnd (A := A) (n := 4) (c := c) (j := 0) hA (by kernel_rfl) (by kernel_rfl) (by omega)) ?_
  refine SX.E (w8 b0) (fun α => SX.extElem (f := c8) (l := [b0, b1, b2, b3]) (A := A) (n := 4) (c := c) (j := 0) (z := b0) c8_len hA (by kernel_rfl) (by kernel_rfl) (by omega) ⟨rfl, rfl, rfl⟩ rfl (by omega) rfl) ?_
  refine SX.E (w32 (b0.setWidth 32)) (fun α => cast (by kernel_rfl) (w_conv8 b0)) ?_
  refine SX.E (w32 ((b0.setWidth 32 : W32) <<< 24)) (fun α => cast (by kernel_rfl) (w_shl (b0.setWidth 32 : W32) .u64 24 (by omega))) ?_
  refine SX.E (.bool true) (fun α => SX.extBnd (A := A) (n := 4) (c := c) (j := 1) hA (by kernel_rfl) (by kernel_rfl) (by omega)) ?_
  refine SX.E (w8 b1) (fun α => SX.extElem (f := c8) (l := [b0, b1, b2, b3]) (A := A) (n := 4) (c := c) (j := 1) (z := b1) c8_len hA (by kernel_rfl) (by kernel_rfl) (by omega) ⟨rfl, rfl, rfl⟩ rfl (by omega) rfl) ?_
  refine SX.E (w32 (b1.setWidth 32)) (fun α => cast (by kernel_rfl) (w_conv8 b1)) ?_
  refine SX.E (w32 ((b1.setWidth 32 : W32) <<< 16)) (fun α => cast (by kernel_rfl) (w_shl (b1.setWidth 32 : W32) .u64 16 (by omega))) ?_
  refine SX.E (w32 (((b0.setWidth 32 : W32) <<< 24) ||| ((b1.setWidth 32 : W32) <<< 16))) (fun α => cast (by kernel_rfl) (w_or ((b0.setWidth 32 : W32) <<< 24) ((b1.setWidth 32 : W32) <<< 16))) ?_
  refine SX.E (.bool true) (fun α => SX.extBnd (A := A) (n := 4) (c := c) (j := 2) hA (by kernel_rfl) (by kernel_rfl) (by omega)) ?_
  refine SX.E (w8 b2) (fun α => SX.extElem (f := c8) (l := [b0, b1, b2, b3]) (A := A) (n := 4) (c := c) (j := 2) (z := b2) c8_len hA (by kernel_rfl) (by kernel_rfl) (by omega) ⟨rfl, rfl, rfl⟩ rfl (by omega) rfl) ?_
  refine SX.E (w32 (b2.setWidth 32)) (fun α => cast (by kernel_rfl) (w_conv8 b2)) ?_
  refine SX.E (w32 ((b2.setWidth 32 : W32) <<< 8)) (fun α => cast (by kernel_rfl) (w_shl (b2.setWidth 32 : W32) .u64 8 (by omega))) ?_
  refine SX.E (w32 ((((b0.setWidth 32 : W32) <<< 24) ||| ((b1.setWidth 32 : W32) <<< 16)) ||| ((b2.setWidth 32 : W32) <<< 8))) (fun α => cast (by kernel_rfl) (w_or (((b0.setWidth 32 : W32) <<< 24) ||| ((b1.setWidth 32 : W32) <<< 16)) ((b2.setWidth 32 : W32) <<< 8))) ?_
  refine SX.E (.bool true) (fun α => SX.extBnd (A := A) (n := 4) (c := c) (j := 3) hA (by kernel_rfl) (by kernel_rfl) (by omega)) ?_
  refine SX.E (w8 b3) (fun α => SX.extElem (f := c8) (l := [b0, b1, b2, b3]) (A := A) (n := 4) (c := c) (j := 3) (z := b3) c8_len hA (by kernel_rfl) (by kernel_rfl) (by omega) ⟨rfl, rfl, rfl⟩ rfl (by omega) rfl) ?_
  refine SX.E (w32 (b3.setWidth 32)) (fun α => cast (by kernel_rfl) (w_conv8 b3)) ?_
  refine SX.E (w32 (((((b0.setWidth 32 : W32) <<< 24) ||| ((b1.setWidth 32 : W32) <<< 16)) ||| ((b2.setWidth 32 : W32) <<< 8)) ||| (b3.setWidth 32 : W32))) (fun α => cast (by kernel_rfl) (w_or ((((b0.setWidth 32 : W32) <<< 24) ||| ((b1.setWidth 32 : W32) <<< 16)) ||| ((b2.setWidth 32 : W32) <<< 8)) (b3.setWidth 32 : W32))) ?_
  exact SX.VC_ret fun α W _ _ hS => SX.ret_of hS (x := w32 (rword b0 b1 b2 b3)) (by kernel_rfl) rfl
def args_rnums : List SX.V := []
def tree_rnums : SX.Tree :=
(.ret (.a [(.k (.int .u32 1116352408)), (.k (.int .u32 1899447441)), (.k (.int .u32 3049323471)), (.k (.int .u32 3921009573)), (.k (.int .u32 961987163)), (.k (.int .u32 1508970993)), (.k (.int .u32 2453635748)), (.k (.int .u32 2870763221)), (.k (.int .u32 3624381080)), (.k (.int .u32 310598401)), (.k (.int .u32 607225278)), (.k (.int .u32 1426881987)), (.k (.int .u32 1925078388)), (.k (.int .u32 2162078206)), (.k (.int .u32 2614888103)), (.k (.int .u32 3248222580)), (.k (.int .u32 3835390401)), (.k (.int .u32 4022224774)), (.k (.int .u32 264347078)), (.k (.int .u32 604807628)), (.k (.int .u32 770255983)), (.k (.int .u32 1249150122)), (.k (.int .u32 1555081692)), (.k (.int .u32 1996064986)), (.k (.int .u32 2554220882)), (.k (.int .u32 2821834349)), (.k (.int .u32 2952996808)), (.k (.int .u32 3210313671)), (.k (.int .u32 3336571891)), (.k (.int .u32 3584528711)), (.k (.int .u32 113926993)), (.k (.int .u32 338241895)), (.k (.int .u32 666307205)), (.k (.int .u32 773529912)), (.k (.int .u32 1294757372)), (.k (.int .u32 1396182291)), (.k (.int .u32 1695183700)), (.k (.int .u32 1986661051)), (.k (.int .u32 2177026350)), (.k (.int .u32 2456956037)), (.k (.int .u32 2730485921)), (.k (.int .u32 2820302411)), (.k (.int .u32 3259730800)), (.k (.int .u32 3345764771)), (.k (.int .u32 3516065817)), (.k (.int .u32 3600352804)), (.k (.int .u32 4094571909)), (.k (.int .u32 275423344)), (.k (.int .u32 430227734)), (.k (.int .u32 506948616)), (.k (.int .u32 659060556)), (.k (.int .u32 883997877)), (.k (.int .u32 958139571)), (.k (.int .u32 1322822218)), (.k (.int .u32 1537002063)), (.k (.int .u32 1747873779)), (.k (.int .u32 1955562222)), (.k (.int .u32 2024104815)), (.k (.int .u32 2227730452)), (.k (.int .u32 2361852424)), (.k (.int .u32 2428436474)), (.k (.int .u32 2756734187)), (.k (.int .u32 3204031479)), (.k (.int .u32 3329325298))]) [] [])
set_option maxRecDepth 100000 in
theorem run_rnums (K A : Value → Nat → List Value → Prop) : (SX.run (cx0 K A) ⟨fun _ => false, [], 0, 100⟩ 100000 0 (SX.door 70 Tryd.f70 args_rnums []) [.code (Tryd.f70.body.getD .skip), .top Tryd.f70]).strip = tree_rnums := by kernel_rfl
set_option maxRecDepth 100000 in
theorem rnums_any (w : World) : Calls Tryd.prog 70 #[] w fun e w' => e = .returned (.agg (numbersK.flatMap c32).toArray) ∧ Below w.heap.size w w' := by
  refine SX.calls_of_run (C := cx0 (fun _ _ _ => False) (fun _ _ _ => False)) (G := ⟨fun _ => false, [], 0, 100⟩) (args := args_rnums) (sh := []) (ρ := []) 100000 tree_rnums (cx0_ok _ _) Tryd.func70 rfl (cast (by kernel_rfl) (run_rnums (fun _ _ _ => False) (fun _ _ _ => False))) (by kernel_rfl) (by kernel_rfl) (by kernel_rfl) (fun _ _ _ _ _ h => h.elim) ?_
  unfold tree_rnums
  exact SX.VC_ret fun α W _ _ hS => SX.ret_of hS (x := .agg (numbersK.flatMap c32).toArray) (by kernel_rfl) rfl
def RorR (f : FuncId) (xs : List SX.Arg) (v : Value) : Prop := f = 69 ∧ ∃ (x : W32) (n : Nat), 0 < n ∧ n < 32 ∧ xs = [⟨w32 x, 0, []⟩, ⟨.int .i64 (n : Int), 0, []⟩] ∧ v = w32 (rorE x n)
def RwordR (f : FuncId) (xs : List SX.Arg) (v : Value) : Prop := f = 68 ∧ ∃ (u : Value) (l : List W8), l.length = 4 ∧ xs = [⟨u, 1, l.flatMap c8⟩] ∧ v = w32 (rword (l.getD 0 0) (l.getD 1 0) (l.getD 2 0) (l.getD 3 0))
def RnumsR (f : FuncId) (xs : List SX.Arg) (v : Value) : Prop := f = 70 ∧ xs = [] ∧ v = .agg (numbersK.flatMap c32).toArray
noncomputable def cxB (K A : Value → Nat → List Value → Prop) : SX.Cx := { P := Tryd.prog, R := fun _ f xs v => RorR f xs v ∨ RwordR f xs v ∨ RnumsR f xs v, shp := fun f => if f ∈ [69, 68] then some .one else if f = 70 then some (.ag 64) else none, K := K, A := A, arr := true, trm := true }
theorem cxB_ok (K A : Value → Nat → List Value → Prop) : (cxB K A).Ok := SX.Cx.ok_of (fun _ => rfl) fun _ f xs v W h hrd hK => by
  rcases h with ⟨rfl, x, n, h0, hn, rfl, rfl⟩ | ⟨rfl, u, l, hl, rfl, rfl⟩ | ⟨rfl, rfl, rfl⟩
  · exact (rror_any x n h0 hn W).mono fun e w' h => SX.plainOk rfl h
  · obtain ⟨A, n, c, rfl, hr, hc, hn⟩ := byte_arg (hrd ⟨u, 1, l.flatMap c8⟩ (List.mem_singleton_self _))
    have e : l = [l.getD 0 0, l.getD 1 0, l.getD 2 0, l.getD 3 0] := by rw [← take4 l (by omega), List.take_of_length_le (by omega)]
    rw [e] at hr
    exact (rword_any _ _ _ _ A n c W hr hc).mono fun e w' h => SX.plainOk rfl h
  exact (rnums_any W).mono fun e w' h => SX.plainOk rfl h
theorem slc_lh {C : SX.Cx} {ρ : List Value} {α : Nat → SX.AV} {s i i' : SX.V} {A : Option Addr} {n c lo hi sz : Nat} (hs : s.den ρ α = .slice A n c) (h1 : i.den ρ α = .int .i64 (lo : Int)) (h2 : i'.den ρ α = .int .i64 (hi : Int)) (hl : lo ≤ hi) (hh : hi ≤ c) : SX.Opq.rel C ρ α (.slc false sz true true false) [s, i, i'] (SX.subS A sz lo hi c) := by
  show SX.slcV _ _ _ _ _ _ = _
  simp only [SX.denL, hs, h1, h2, SX.slcV, SX.optsV, Option.bind_some, SX.boundsV, SX.bndV]
  rw [if_pos (by omega)]
  simp only [Option.bind_some, Int.toNat_natCast]
  rw [if_pos (by omega)]
  simp [SX.subS]
theorem w_cpl (x : W32) : SX.cplV (w32 x) = some (w32 (~~~x)) := by
  have h : (BitVec.ofInt 32 (x.toNat : Int)) = x := by apply BitVec.eq_of_toNat_eq; simp
  show some (Value.int .u32 (IntKind.u32.wrap ((BitVec.ofInt 32 (4294967295 : Int) ^^^ BitVec.ofInt 32 (x.toNat : Int) : BitVec 32).toNat : Int))) = _
  rw [h, wrap_u32]
  have e : (BitVec.ofInt 32 (4294967295 : Int)) ^^^ x = ~~~x := by
    rw [show (BitVec.ofInt 32 (4294967295 : Int)) = BitVec.allOnes 32 from rfl, BitVec.allOnes_xor]
  rw [e, BitVec.ofNat_toNat, BitVec.setWidth_eq]
  rfl
theorem wordAt_r (l : List W8) (t : Nat) (h : 4 * t + 4 ≤ l.length) : rword (((l.drop (4 * t)).take 4).getD 0 0) (((l.drop (4 * t)).take 4).getD 1 0) (((l.drop (4 * t)).take 4).getD 2 0) (((l.drop (4 * t)).take 4).getD 3 0) = wordAt l t := by
  rw [rword_eq]
  unfold wordAt
  simp only [List.getD_eq_getElem?_getD, List.getElem?_take, List.getElem?_drop]
  rfl
def args_rblock : List SX.V := [.a ((List.range 8).map fun j => .x j []), .x 8 []]
def tree_rblock : SX.Tree :=
(.df (.slc false 1 true true false) [(.q 8), (.i 0), (.i 4)] .one
(.df (.call 68 [(.ext 1)]) [(.q 9)] .one
(.df (.slc false 1 true true false) [(.q 8), (.i 4), (.i 8)] .one
(.df (.call 68 [(.ext 1)]) [(.q 11)] .one
(.df (.slc false 1 true true false) [(.q 8), (.i 8), (.i 12)] .one
(.df (.call 68 [(.ext 1)]) [(.q 13)] .one
(.df (.slc false 1 true true false) [(.q 8), (.i 12), (.i 16)] .one
(.df (.call 68 [(.ext 1)]) [(.q 15)] .one
(.df (.slc false 1 true true false) [(.q 8), (.i 16), (.i 20)] .one
(.df (.call 68 [(.ext 1)]) [(.q 17)] .one
(.df (.slc false 1 true true false) [(.q 8), (.i 20), (.i 24)] .one
(.df (.call 68 [(.ext 1)]) [(.q 19)] .one
(.df (.slc false 1 true true false) [(.q 8), (.i 24), (.i 28)] .one
(.df (.call 68 [(.ext 1)]) [(.q 21)] .one
(.df (.slc false 1 true true false) [(.q 8), (.i 28), (.i 32)] .one
(.df (.call 68 [(.ext 1)]) [(.q 23)] .one
(.df (.slc false 1 true true false) [(.q 8), (.i 32), (.i 36)] .one
(.df (.call 68 [(.ext 1)]) [(.q 25)] .one
(.df (.slc false 1 true true false) [(.q 8), (.i 36), (.i 40)] .one
(.df (.call 68 [(.ext 1)]) [(.q 27)] .one
(.df (.slc false 1 true true false) [(.q 8), (.i 40), (.i 44)] .one
(.df (.call 68 [(.ext 1)]) [(.q 29)] .one
(.df (.slc false 1 true true false) [(.q 8), (.i 44), (.i 48)] .one
(.df (.call 68 [(.ext 1)]) [(.q 31)] .one
(.df (.slc false 1 true true false) [(.q 8), (.i 48), (.i 52)] .one
(.df (.call 68 [(.ext 1)]) [(.q 33)] .one
(.df (.slc false 1 true true false) [(.q 8), (.i 52), (.i 56)] .one
(.df (.call 68 [(.ext 1)]) [(.q 35)] .one
(.df (.slc false 1 true true false) [(.q 8), (.i 56), (.i 60)] .one
(.df (.call 68 [(.ext 1)]) [(.q 37)] .one
(.df (.slc false 1 true true false) [(.q 8), (.i 60), (.i 64)] .one
(.df (.call 68 [(.ext 1)]) [(.q 39)] .one
(.loop [(.i 16), (.q 10), (.q 12), (.q 14), (.q 16), (.q 18), (.q 20), (.q 22), (.q 24), (.q 26), (.q 28), (.q 30), (.q 32), (.q 34), (.q 36), (.q 38), (.q 40), (.k (.int .u32 0)), (.k (.int .u32 0)), (.k (.int .u32 0)), (.k (.int .u32 0)), (.k (.int .u32 0)), (.k (.int .u32 0)), (.k (.int .u32 0)), (.k (.int .u32 0)), (.k (.int .u32 0)), (.k (.int .u32 0)), (.k (.int .u32 0)), (.k (.int .u32 0)), (.k (.int .u32 0)), (.k (.int .u32 0)), (.k (.int .u32 0)), (.k (.int .u32 0)), (.k (.int .u32 0)), (.k (.int .u32 0)), (.k (.int .u32 0)), (.k (.int .u32 0)), (.k (.int .u32 0)), (.k (.int .u32 0)), (.k (.int .u32 0)), (.k (.int .u32 0)), (.k (.int .u32 0)), (.k (.int .u32 0)), (.k (.int .u32 0)), (.k (.int .u32 0)), (.k (.int .u32 0)), (.k (.int .u32 0)), (.k (.int .u32 0)), (.k (.int .u32 0)), (.k (.int .u32 0)), (.k (.int .u32 0)), (.k (.int .u32 0)), (.k (.int .u32 0)), (.k (.int .u32 0)), (.k (.int .u32 0)), (.k (.int .u32 0)), (.k (.int .u32 0)), (.k (.int .u32 0)), (.k (.int .u32 0)), (.k (.int .u32 0)), (.k (.int .u32 0)), (.k (.int .u32 0)), (.k (.int .u32 0)), (.k (.int .u32 0)), (.k (.int .u32 0))] [.one, .one, .one, .one, .one, .one, .one, .one, .one, .one, .one, .one, .one, .one, .one, .one, .one, .one, .one, .one, .one, .one, .one, .one, .one, .one, .one, .one, .one, .one, .one, .one, .one, .one, .one, .one, .one, .one, .one, .one, .one, .one, .one, .one, .one, .one, .one, .one, .one, .one, .one, .one, .one, .one, .one, .one, .one, .one, .one, .one, .one, .one, .one, .one, .one]
(.df (.bin .lss 3) [(.q 41), (.i 64)] .one
(.br 106 []
(.df (.bin .sub 3) [(.q 41), (.i 15)] .one
(.df .bnd [(.sl 2 0 64 64), (.q 107)] .one
(.df (.relem 1 0) [(.cat [(.a (SX.Z 42 64))]), (.q 107)] .one
(.df (.bin .sub 3) [(.q 41), (.i 2)] .one
(.df .bnd [(.sl 2 0 64 64), (.q 110)] .one
(.df (.relem 1 0) [(.cat [(.a (SX.Z 42 64))]), (.q 110)] .one
(.df (.bin .sub 3) [(.q 41), (.i 16)] .one
(.df .bnd [(.sl 2 0 64 64), (.q 113)] .one
(.df (.relem 1 0) [(.cat [(.a (SX.Z 42 64))]), (.q 113)] .one
(.df (.call 69 [.no, .no]) [(.q 109), (.i 7)] .one
(.df (.call 69 [.no, .no]) [(.q 109), (.i 18)] .one
(.df (.bin .xor 84) [(.q 116), (.q 117)] .one
(.df (.bin .shr 84) [(.q 109), (.k (.int .u64 3))] .one
(.df (.bin .xor 84) [(.q 118), (.q 119)] .one
(.df (.bin .add 84) [(.q 115), (.q 120)] .one
(.df (.bin .sub 3) [(.q 41), (.i 7)] .one
(.df .bnd [(.sl 2 0 64 64), (.q 122)] .one
(.df (.relem 1 0) [(.cat [(.a (SX.Z 42 64))]), (.q 122)] .one
(.df (.bin .add 84) [(.q 121), (.q 124)] .one
(.df (.call 69 [.no, .no]) [(.q 112), (.i 17)] .one
(.df (.call 69 [.no, .no]) [(.q 112), (.i 19)] .one
(.df (.bin .xor 84) [(.q 126), (.q 127)] .one
(.df (.bin .shr 84) [(.q 112), (.k (.int .u64 10))] .one
(.df (.bin .xor 84) [(.q 128), (.q 129)] .one
(.df (.bin .add 84) [(.q 125), (.q 130)] .one
(.df .bnd [(.sl 2 0 64 64), (.q 41)] .one
(.df (.rset 1 0) [(.cat [(.a (SX.Z 42 64))]), (.q 41), (.q 131)] (.ag 64)
(.df (.bin .add 3) [(.q 41), (.i 1)] .one
(.again 0 ([(.q 134)] ++ SX.Y 133 0 64))))))))))))))))))))))))))))))
(.df (.call 70 []) [] (.ag 64)
(.loop ([(.i 0)] ++ SX.Z 0 8) [.one, .one, .one, .one, .one, .one, .one, .one, .one]
(.df (.bin .lss 3) [(.q 108), (.i 64)] .one
(.br 117 []
(.df (.call 69 [.no, .no]) [(.q 113), (.i 6)] .one
(.df (.call 69 [.no, .no]) [(.q 113), (.i 11)] .one
(.df (.bin .xor 84) [(.q 118), (.q 119)] .one
(.df (.call 69 [.no, .no]) [(.q 113), (.i 25)] .one
(.df (.bin .xor 84) [(.q 120), (.q 121)] .one
(.df (.bin .add 84) [(.q 116), (.q 122)] .one
(.df (.bin .and 84) [(.q 113), (.q 114)] .one
(.df .cpl [(.q 113)] .one
(.df (.bin .and 84) [(.q 125), (.q 115)] .one
(.df (.bin .xor 84) [(.q 124), (.q 126)] .one
(.df (.bin .add 84) [(.q 123), (.q 127)] .one
(.df .bnd [(.sl 68 0 64 64), (.q 108)] .one
(.df (.relem 1 0) [(.cat [(.a (SX.Y 107 0 64))]), (.q 108)] .one
(.df (.bin .add 84) [(.q 128), (.q 130)] .one
(.df .bnd [(.sl 2 0 64 64), (.q 108)] .one
(.df (.relem 1 0) [(.cat [(.a (SX.Z 42 64))]), (.q 108)] .one
(.df (.bin .add 84) [(.q 131), (.q 133)] .one
(.df (.call 69 [.no, .no]) [(.q 109), (.i 2)] .one
(.df (.call 69 [.no, .no]) [(.q 109), (.i 13)] .one
(.df (.bin .xor 84) [(.q 135), (.q 136)] .one
(.df (.call 69 [.no, .no]) [(.q 109), (.i 22)] .one
(.df (.bin .xor 84) [(.q 137), (.q 138)] .one
(.df (.bin .and 84) [(.q 109), (.q 110)] .one
(.df (.bin .and 84) [(.q 109), (.q 111)] .one
(.df (.bin .xor 84) [(.q 140), (.q 141)] .one
(.df (.bin .and 84) [(.q 110), (.q 111)] .one
(.df (.bin .xor 84) [(.q 142), (.q 143)] .one
(.df (.bin .add 84) [(.q 139), (.q 144)] .one
(.df (.bin .add 84) [(.q 112), (.q 134)] .one
(.df (.bin .add 84) [(.q 134), (.q 145)] .one
(.df (.bin .add 3) [(.q 108), (.i 1)] .one
(.again 1 ([(.q 148), (.q 147)] ++ SX.Z 109 3 ++ [(.q 146)] ++ SX.Z 113 3)))))))))))))))))))))))))))))))))
(.df (.bin .add 84) [(.q 0), (.q 109)] .one
(.df (.bin .add 84) [(.q 1), (.q 110)] .one
(.df (.bin .add 84) [(.q 2), (.q 111)] .one
(.df (.bin .add 84) [(.q 3), (.q 112)] .one
(.df (.bin .add 84) [(.q 4), (.q 113)] .one
(.df (.bin .add 84) [(.q 5), (.q 114)] .one
(.df (.bin .add 84) [(.q 6), (.q 115)] .one
(.df (.bin .add 84) [(.q 7), (.q 116)] .one
(.ret (.a (SX.Z 118 8)) [] []))))))))))))))))))))))))))))))))))))))))))))))))
set_option maxRecDepth 100000 in
theorem run_rblock (K A : Value → Nat → List Value → Prop) : (SX.run (cxB K A) ⟨fun _ => false, [⟨64, 7, ([(.s 7, .one)] ++ (List.range 64).map fun j => (.c 12 j, .one))⟩, ⟨64, 7, ([(.s 7, .one)] ++ (List.range 64).map fun j => (.c 11 j, .one))⟩, ⟨64, 7, ([(.s 7, .one)] ++ (List.range 64).map fun j => (.c 10 j, .one))⟩, ⟨64, 7, ([(.s 7, .one)] ++ (List.range 64).map fun j => (.c 9 j, .one))⟩, ⟨64, 7, ([(.s 7, .one)] ++ (List.range 64).map fun j => (.c 8 j, .one))⟩, ⟨64, 7, ([(.s 7, .one)] ++ (List.range 64).map fun j => (.c 7 j, .one))⟩, ⟨64, 7, ([(.s 7, .one)] ++ (List.range 64).map fun j => (.c 6 j, .one))⟩, ⟨64, 7, ([(.s 7, .one)] ++ (List.range 64).map fun j => (.c 5 j, .one))⟩, ⟨64, 7, ([(.s 7, .one)] ++ (List.range 64).map fun j => (.c 4 j, .one))⟩, ⟨64, 7, ([(.s 7, .one)] ++ (List.range 64).map fun j => (.c 3 j, .one))⟩, ⟨64, 7, ([(.s 7, .one)] ++ (List.range 64).map fun j => (.c 2 j, .one))⟩, ⟨64, 7, ([(.s 7, .one)] ++ (List.range 64).map fun j => (.c 1 j, .one))⟩, ⟨64, 15, [(.s 19, .one), (.s 11, .one), (.s 12, .one), (.s 13, .one), (.s 14, .one), (.s 15, .one), (.s 16, .one), (.s 17, .one), (.s 18, .one)]⟩], 0, 100⟩ 100000 0 (SX.door 64 Tryd.f64 args_rblock (List.replicate 8 .one ++ [.any])) [.code (Tryd.f64.body.getD .skip), .top Tryd.f64]).strip = tree_rblock := by kernel_rfl
end Go.Proofs.YtbbofkpolcjmgaaDoor
