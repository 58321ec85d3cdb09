/-
  Walk: the law that to be weaker is a partial order.
-/
import Derived.Test.YtklppgkolcpbbaaBodyL1
import Derived.Test.YtklppgkolcpbbaaBodyP
namespace Go.Proofs.Ytklppgkolcpbbaa
set_option linter.unusedSimpArgs false
set_option linter.unusedVariables false
open Go Go.RowKit
set_option maxRecDepth 100000 in
set_option maxHeartbeats 4000000 in
theorem bodyPartial_walk (a b c : Bod.Bd) (ha : a.name.size ≤ maxLen) (hb : b.name.size ≤ maxLen) (hc : c.name.size ≤ maxLen) (w : World) :
    Calls Try.prog 8 #[valB a, valB b, valB c] w fun e w' => e = .returned (.bool true) ∧ Below w.heap.size w w' := by
  have h1a := cellsB_one a
  have h1b := cellsB_one b
  have h1c := cellsB_one c
  have hk24 := Lib.hid kinds24
  have f1 := Lib.hid (bodyK_fits a)
  have f2 := Lib.hid (bodyK_fits b)
  have hS := St.start w
  go_enter Try.func8, Try.ntmps8
  go_wp2_with (first
      | ((first | (with_reducible refine wpList_plain (o := ⟨some 3, .box _ _, _, _, _, _⟩) rfl fun K hK => ?_) | ((with_reducible refine BigFrame.wpList_want (o := ⟨some 3, .box _ _, _, _, _, _⟩) ?_ fun K hK => ?_); · rfl)); (first | refine wp_box_row rfl (ev_eq rfl) hS ?_ | refine wp_box_one rfl (ev_eq rfl) rfl hS ?_); clear hS; intro k3 W hS hBw hk0; clear hBw hk0; refine hK _ _ ?_; clear hK K)
      | ((first | (with_reducible refine wpList_plain (o := ⟨some 4, .box _ _, _, _, _, _⟩) rfl fun K hK => ?_) | ((with_reducible refine BigFrame.wpList_want (o := ⟨some 4, .box _ _, _, _, _, _⟩) ?_ fun K hK => ?_); · rfl)); (first | refine wp_box_row rfl (ev_eq rfl) hS ?_ | refine wp_box_one rfl (ev_eq rfl) rfl hS ?_); clear hS; intro k4 W hS hBw hk0; clear hBw hk0; refine hK _ _ ?_; clear hK K)
      | ((first | (with_reducible refine wpList_plain (o := ⟨some 5, .box _ _, _, _, _, _⟩) rfl fun K hK => ?_) | ((with_reducible refine BigFrame.wpList_want (o := ⟨some 5, .box _ _, _, _, _, _⟩) ?_ fun K hK => ?_); · rfl)); (first | refine wp_box_row rfl (ev_eq rfl) hS ?_ | refine wp_box_one rfl (ev_eq rfl) rfl hS ?_); clear hS; intro k5 W hS hBw hk0; clear hBw hk0; refine hK _ _ ?_; clear hK K)
      | ((first | (with_reducible refine wpList_plain (o := ⟨_, .binOp .eql _ _ _ _, _, _, _, _⟩) rfl fun K hK => ?_) | ((with_reducible refine BigFrame.wpList_want (o := ⟨_, .binOp .eql _ _ _ _, _, _, _, _⟩) ?_ fun K hK => ?_); · rfl)); (first | refine wp_eqlS rfl (ev_eq rfl) (ev_eq rfl) (by assumption) ?_ | refine wp_eqlH rfl (ev_eq rfl) (ev_eq rfl) (by first | assumption | exact eqIs_refl _) (by assumption) rfl (by kernel_rfl) (by assumption) (by assumption) ?_); refine hK _ _ ?_; clear hK K)
      | ((first | (with_reducible refine wpList_plain (o := ⟨_, .binOp .neq _ _ _ _, _, _, _, _⟩) rfl fun K hK => ?_) | ((with_reducible refine BigFrame.wpList_want (o := ⟨_, .binOp .neq _ _ _ _, _, _, _, _⟩) ?_ fun K hK => ?_); · rfl)); (first | refine wp_neqS rfl (ev_eq rfl) (ev_eq rfl) (by assumption) ?_ | refine wp_neqH rfl (ev_eq rfl) (ev_eq rfl) (by first | assumption | exact eqIs_refl _) (by assumption) rfl (by kernel_rfl) (by assumption) (by assumption) ?_); refine hK _ _ ?_; clear hK K)
      | ((first | (with_reducible refine wpList_plain (o := ⟨_, .load _ _, _, _, _, _⟩) rfl fun K hK => ?_) | ((with_reducible refine BigFrame.wpList_want (o := ⟨_, .load _ _, _, _, _, _⟩) ?_ fun K hK => ?_); · rfl)); (first | refine wp_load_one rfl (ev_eq rfl) hS (by repeat (first | exact List.Mem.head _ | apply List.Mem.tail)) rfl (by first | rfl | assumption) ?_ | refine wp_load_row' rfl (ev_eq rfl) hS (by repeat (first | exact List.Mem.head _ | apply List.Mem.tail)) rfl (by first | assumption | rfl) ?_ | refine wp_load_sub rfl (ev_eq rfl) hS (by repeat (first | exact List.Mem.head _ | apply List.Mem.tail)) rfl rfl (by first | assumption | exact of_decide_eq_true rfl | (simp; omega)) (by assumption) ?_ | refine wp_load_at rfl (ev_eq rfl) rfl (by assumption) (by first | assumption | rfl) ?_ | refine wp_load_cell rfl (ev_eq rfl) rfl (by assumption) ?_); refine hK _ _ ?_; clear hK K))
  refine (sane_any _).mono ?_
  rintro e w' ⟨rfl, hB⟩
  replace hS := hS.step hB
  clear hB
  go_wp2_with (first
      | ((first | (with_reducible refine wpList_plain (o := ⟨some 3, .box _ _, _, _, _, _⟩) rfl fun K hK => ?_) | ((with_reducible refine BigFrame.wpList_want (o := ⟨some 3, .box _ _, _, _, _, _⟩) ?_ fun K hK => ?_); · rfl)); (first | refine wp_box_row rfl (ev_eq rfl) hS ?_ | refine wp_box_one rfl (ev_eq rfl) rfl hS ?_); clear hS; intro k3 W hS hBw hk0; clear hBw hk0; refine hK _ _ ?_; clear hK K)
      | ((first | (with_reducible refine wpList_plain (o := ⟨some 4, .box _ _, _, _, _, _⟩) rfl fun K hK => ?_) | ((with_reducible refine BigFrame.wpList_want (o := ⟨some 4, .box _ _, _, _, _, _⟩) ?_ fun K hK => ?_); · rfl)); (first | refine wp_box_row rfl (ev_eq rfl) hS ?_ | refine wp_box_one rfl (ev_eq rfl) rfl hS ?_); clear hS; intro k4 W hS hBw hk0; clear hBw hk0; refine hK _ _ ?_; clear hK K)
      | ((first | (with_reducible refine wpList_plain (o := ⟨some 5, .box _ _, _, _, _, _⟩) rfl fun K hK => ?_) | ((with_reducible refine BigFrame.wpList_want (o := ⟨some 5, .box _ _, _, _, _, _⟩) ?_ fun K hK => ?_); · rfl)); (first | refine wp_box_row rfl (ev_eq rfl) hS ?_ | refine wp_box_one rfl (ev_eq rfl) rfl hS ?_); clear hS; intro k5 W hS hBw hk0; clear hBw hk0; refine hK _ _ ?_; clear hK K)
      | ((first | (with_reducible refine wpList_plain (o := ⟨_, .binOp .eql _ _ _ _, _, _, _, _⟩) rfl fun K hK => ?_) | ((with_reducible refine BigFrame.wpList_want (o := ⟨_, .binOp .eql _ _ _ _, _, _, _, _⟩) ?_ fun K hK => ?_); · rfl)); (first | refine wp_eqlS rfl (ev_eq rfl) (ev_eq rfl) (by assumption) ?_ | refine wp_eqlH rfl (ev_eq rfl) (ev_eq rfl) (by first | assumption | exact eqIs_refl _) (by assumption) rfl (by kernel_rfl) (by assumption) (by assumption) ?_); refine hK _ _ ?_; clear hK K)
      | ((first | (with_reducible refine wpList_plain (o := ⟨_, .binOp .neq _ _ _ _, _, _, _, _⟩) rfl fun K hK => ?_) | ((with_reducible refine BigFrame.wpList_want (o := ⟨_, .binOp .neq _ _ _ _, _, _, _, _⟩) ?_ fun K hK => ?_); · rfl)); (first | refine wp_neqS rfl (ev_eq rfl) (ev_eq rfl) (by assumption) ?_ | refine wp_neqH rfl (ev_eq rfl) (ev_eq rfl) (by first | assumption | exact eqIs_refl _) (by assumption) rfl (by kernel_rfl) (by assumption) (by assumption) ?_); refine hK _ _ ?_; clear hK K)
      | ((first | (with_reducible refine wpList_plain (o := ⟨_, .load _ _, _, _, _, _⟩) rfl fun K hK => ?_) | ((with_reducible refine BigFrame.wpList_want (o := ⟨_, .load _ _, _, _, _, _⟩) ?_ fun K hK => ?_); · rfl)); (first | refine wp_load_one rfl (ev_eq rfl) hS (by repeat (first | exact List.Mem.head _ | apply List.Mem.tail)) rfl (by first | rfl | assumption) ?_ | refine wp_load_row' rfl (ev_eq rfl) hS (by repeat (first | exact List.Mem.head _ | apply List.Mem.tail)) rfl (by first | assumption | rfl) ?_ | refine wp_load_sub rfl (ev_eq rfl) hS (by repeat (first | exact List.Mem.head _ | apply List.Mem.tail)) rfl rfl (by first | assumption | exact of_decide_eq_true rfl | (simp; omega)) (by assumption) ?_ | refine wp_load_at rfl (ev_eq rfl) rfl (by assumption) (by first | assumption | rfl) ?_ | refine wp_load_cell rfl (ev_eq rfl) rfl (by assumption) ?_); refine hK _ _ ?_; clear hK K))
  refine (check_any a _ ha).mono ?_
  rintro e w' ⟨rfl, hB⟩
  replace hS := hS.step hB
  clear hB
  rcases Bod.Bd.chk_iff a with ⟨q, hok⟩ | ⟨q, hok⟩
  case inr =>
    rw [q]
    clear q hok
    go_wp2_with fail
    exact bodyPost_ret (results_1 rfl rfl) rfl ⟨rfl, hS.below⟩
  rw [q]
  clear q
  have oa := Lib.hid hok
  clear hok
  go_wp2_with (first
      | ((first | (with_reducible refine wpList_plain (o := ⟨some 3, .box _ _, _, _, _, _⟩) rfl fun K hK => ?_) | ((with_reducible refine BigFrame.wpList_want (o := ⟨some 3, .box _ _, _, _, _, _⟩) ?_ fun K hK => ?_); · rfl)); (first | refine wp_box_row rfl (ev_eq rfl) hS ?_ | refine wp_box_one rfl (ev_eq rfl) rfl hS ?_); clear hS; intro k3 W hS hBw hk0; clear hBw hk0; refine hK _ _ ?_; clear hK K)
      | ((first | (with_reducible refine wpList_plain (o := ⟨some 4, .box _ _, _, _, _, _⟩) rfl fun K hK => ?_) | ((with_reducible refine BigFrame.wpList_want (o := ⟨some 4, .box _ _, _, _, _, _⟩) ?_ fun K hK => ?_); · rfl)); (first | refine wp_box_row rfl (ev_eq rfl) hS ?_ | refine wp_box_one rfl (ev_eq rfl) rfl hS ?_); clear hS; intro k4 W hS hBw hk0; clear hBw hk0; refine hK _ _ ?_; clear hK K)
      | ((first | (with_reducible refine wpList_plain (o := ⟨some 5, .box _ _, _, _, _, _⟩) rfl fun K hK => ?_) | ((with_reducible refine BigFrame.wpList_want (o := ⟨some 5, .box _ _, _, _, _, _⟩) ?_ fun K hK => ?_); · rfl)); (first | refine wp_box_row rfl (ev_eq rfl) hS ?_ | refine wp_box_one rfl (ev_eq rfl) rfl hS ?_); clear hS; intro k5 W hS hBw hk0; clear hBw hk0; refine hK _ _ ?_; clear hK K)
      | ((first | (with_reducible refine wpList_plain (o := ⟨_, .binOp .eql _ _ _ _, _, _, _, _⟩) rfl fun K hK => ?_) | ((with_reducible refine BigFrame.wpList_want (o := ⟨_, .binOp .eql _ _ _ _, _, _, _, _⟩) ?_ fun K hK => ?_); · rfl)); (first | refine wp_eqlS rfl (ev_eq rfl) (ev_eq rfl) (by assumption) ?_ | refine wp_eqlH rfl (ev_eq rfl) (ev_eq rfl) (by first | assumption | exact eqIs_refl _) (by assumption) rfl (by kernel_rfl) (by assumption) (by assumption) ?_); refine hK _ _ ?_; clear hK K)
      | ((first | (with_reducible refine wpList_plain (o := ⟨_, .binOp .neq _ _ _ _, _, _, _, _⟩) rfl fun K hK => ?_) | ((with_reducible refine BigFrame.wpList_want (o := ⟨_, .binOp .neq _ _ _ _, _, _, _, _⟩) ?_ fun K hK => ?_); · rfl)); (first | refine wp_neqS rfl (ev_eq rfl) (ev_eq rfl) (by assumption) ?_ | refine wp_neqH rfl (ev_eq rfl) (ev_eq rfl) (by first | assumption | exact eqIs_refl _) (by assumption) rfl (by kernel_rfl) (by assumption) (by assumption) ?_); refine hK _ _ ?_; clear hK K)
      | ((first | (with_reducible refine wpList_plain (o := ⟨_, .load _ _, _, _, _, _⟩) rfl fun K hK => ?_) | ((with_reducible refine BigFrame.wpList_want (o := ⟨_, .load _ _, _, _, _, _⟩) ?_ fun K hK => ?_); · rfl)); (first | refine wp_load_one rfl (ev_eq rfl) hS (by repeat (first | exact List.Mem.head _ | apply List.Mem.tail)) rfl (by first | rfl | assumption) ?_ | refine wp_load_row' rfl (ev_eq rfl) hS (by repeat (first | exact List.Mem.head _ | apply List.Mem.tail)) rfl (by first | assumption | rfl) ?_ | refine wp_load_sub rfl (ev_eq rfl) hS (by repeat (first | exact List.Mem.head _ | apply List.Mem.tail)) rfl rfl (by first | assumption | exact of_decide_eq_true rfl | (simp; omega)) (by assumption) ?_ | refine wp_load_at rfl (ev_eq rfl) rfl (by assumption) (by first | assumption | rfl) ?_ | refine wp_load_cell rfl (ev_eq rfl) rfl (by assumption) ?_); refine hK _ _ ?_; clear hK K))
  refine (check_any b _ hb).mono ?_
  rintro e w' ⟨rfl, hB⟩
  replace hS := hS.step hB
  clear hB
  rcases Bod.Bd.chk_iff b with ⟨q, hok⟩ | ⟨q, hok⟩
  case inr =>
    rw [q]
    clear q hok
    go_wp2_with fail
    exact bodyPost_ret (results_1 rfl rfl) rfl ⟨rfl, hS.below⟩
  rw [q]
  clear q
  have ob := Lib.hid hok
  clear hok
  go_wp2_with (first
      | ((first | (with_reducible refine wpList_plain (o := ⟨some 3, .box _ _, _, _, _, _⟩) rfl fun K hK => ?_) | ((with_reducible refine BigFrame.wpList_want (o := ⟨some 3, .box _ _, _, _, _, _⟩) ?_ fun K hK => ?_); · rfl)); (first | refine wp_box_row rfl (ev_eq rfl) hS ?_ | refine wp_box_one rfl (ev_eq rfl) rfl hS ?_); clear hS; intro k3 W hS hBw hk0; clear hBw hk0; refine hK _ _ ?_; clear hK K)
      | ((first | (with_reducible refine wpList_plain (o := ⟨some 4, .box _ _, _, _, _, _⟩) rfl fun K hK => ?_) | ((with_reducible refine BigFrame.wpList_want (o := ⟨some 4, .box _ _, _, _, _, _⟩) ?_ fun K hK => ?_); · rfl)); (first | refine wp_box_row rfl (ev_eq rfl) hS ?_ | refine wp_box_one rfl (ev_eq rfl) rfl hS ?_); clear hS; intro k4 W hS hBw hk0; clear hBw hk0; refine hK _ _ ?_; clear hK K)
      | ((first | (with_reducible refine wpList_plain (o := ⟨some 5, .box _ _, _, _, _, _⟩) rfl fun K hK => ?_) | ((with_reducible refine BigFrame.wpList_want (o := ⟨some 5, .box _ _, _, _, _, _⟩) ?_ fun K hK => ?_); · rfl)); (first | refine wp_box_row rfl (ev_eq rfl) hS ?_ | refine wp_box_one rfl (ev_eq rfl) rfl hS ?_); clear hS; intro k5 W hS hBw hk0; clear hBw hk0; refine hK _ _ ?_; clear hK K)
      | ((first | (with_reducible refine wpList_plain (o := ⟨_, .binOp .eql _ _ _ _, _, _, _, _⟩) rfl fun K hK => ?_) | ((with_reducible refine BigFrame.wpList_want (o := ⟨_, .binOp .eql _ _ _ _, _, _, _, _⟩) ?_ fun K hK => ?_); · rfl)); (first | refine wp_eqlS rfl (ev_eq rfl) (ev_eq rfl) (by assumption) ?_ | refine wp_eqlH rfl (ev_eq rfl) (ev_eq rfl) (by first | assumption | exact eqIs_refl _) (by assumption) rfl (by kernel_rfl) (by assumption) (by assumption) ?_); refine hK _ _ ?_; clear hK K)
      | ((first | (with_reducible refine wpList_plain (o := ⟨_, .binOp .neq _ _ _ _, _, _, _, _⟩) rfl fun K hK => ?_) | ((with_reducible refine BigFrame.wpList_want (o := ⟨_, .binOp .neq _ _ _ _, _, _, _, _⟩) ?_ fun K hK => ?_); · rfl)); (first | refine wp_neqS rfl (ev_eq rfl) (ev_eq rfl) (by assumption) ?_ | refine wp_neqH rfl (ev_eq rfl) (ev_eq rfl) (by first | assumption | exact eqIs_refl _) (by assumption) rfl (by kernel_rfl) (by assumption) (by assumption) ?_); refine hK _ _ ?_; clear hK K)
      | ((first | (with_reducible refine wpList_plain (o := ⟨_, .load _ _, _, _, _, _⟩) rfl fun K hK => ?_) | ((with_reducible refine BigFrame.wpList_want (o := ⟨_, .load _ _, _, _, _, _⟩) ?_ fun K hK => ?_); · rfl)); (first | refine wp_load_one rfl (ev_eq rfl) hS (by repeat (first | exact List.Mem.head _ | apply List.Mem.tail)) rfl (by first | rfl | assumption) ?_ | refine wp_load_row' rfl (ev_eq rfl) hS (by repeat (first | exact List.Mem.head _ | apply List.Mem.tail)) rfl (by first | assumption | rfl) ?_ | refine wp_load_sub rfl (ev_eq rfl) hS (by repeat (first | exact List.Mem.head _ | apply List.Mem.tail)) rfl rfl (by first | assumption | exact of_decide_eq_true rfl | (simp; omega)) (by assumption) ?_ | refine wp_load_at rfl (ev_eq rfl) rfl (by assumption) (by first | assumption | rfl) ?_ | refine wp_load_cell rfl (ev_eq rfl) rfl (by assumption) ?_); refine hK _ _ ?_; clear hK K))
  refine (check_any c _ hc).mono ?_
  rintro e w' ⟨rfl, hB⟩
  replace hS := hS.step hB
  clear hB
  rcases Bod.Bd.chk_iff c with ⟨q, hok⟩ | ⟨q, hok⟩
  case inr =>
    rw [q]
    clear q hok
    go_wp2_with fail
    exact bodyPost_ret (results_1 rfl rfl) rfl ⟨rfl, hS.below⟩
  rw [q]
  clear q
  have oc := Lib.hid hok
  clear hok
  go_wp2_with (first
      | ((first | (with_reducible refine wpList_plain (o := ⟨some 3, .box _ _, _, _, _, _⟩) rfl fun K hK => ?_) | ((with_reducible refine BigFrame.wpList_want (o := ⟨some 3, .box _ _, _, _, _, _⟩) ?_ fun K hK => ?_); · rfl)); (first | refine wp_box_row rfl (ev_eq rfl) hS ?_ | refine wp_box_one rfl (ev_eq rfl) rfl hS ?_); clear hS; intro k3 W hS hBw hk0; clear hBw hk0; refine hK _ _ ?_; clear hK K)
      | ((first | (with_reducible refine wpList_plain (o := ⟨some 4, .box _ _, _, _, _, _⟩) rfl fun K hK => ?_) | ((with_reducible refine BigFrame.wpList_want (o := ⟨some 4, .box _ _, _, _, _, _⟩) ?_ fun K hK => ?_); · rfl)); (first | refine wp_box_row rfl (ev_eq rfl) hS ?_ | refine wp_box_one rfl (ev_eq rfl) rfl hS ?_); clear hS; intro k4 W hS hBw hk0; clear hBw hk0; refine hK _ _ ?_; clear hK K)
      | ((first | (with_reducible refine wpList_plain (o := ⟨some 5, .box _ _, _, _, _, _⟩) rfl fun K hK => ?_) | ((with_reducible refine BigFrame.wpList_want (o := ⟨some 5, .box _ _, _, _, _, _⟩) ?_ fun K hK => ?_); · rfl)); (first | refine wp_box_row rfl (ev_eq rfl) hS ?_ | refine wp_box_one rfl (ev_eq rfl) rfl hS ?_); clear hS; intro k5 W hS hBw hk0; clear hBw hk0; refine hK _ _ ?_; clear hK K)
      | ((first | (with_reducible refine wpList_plain (o := ⟨_, .binOp .eql _ _ _ _, _, _, _, _⟩) rfl fun K hK => ?_) | ((with_reducible refine BigFrame.wpList_want (o := ⟨_, .binOp .eql _ _ _ _, _, _, _, _⟩) ?_ fun K hK => ?_); · rfl)); (first | refine wp_eqlS rfl (ev_eq rfl) (ev_eq rfl) (by assumption) ?_ | refine wp_eqlH rfl (ev_eq rfl) (ev_eq rfl) (by first | assumption | exact eqIs_refl _) (by assumption) rfl (by kernel_rfl) (by assumption) (by assumption) ?_); refine hK _ _ ?_; clear hK K)
      | ((first | (with_reducible refine wpList_plain (o := ⟨_, .binOp .neq _ _ _ _, _, _, _, _⟩) rfl fun K hK => ?_) | ((with_reducible refine BigFrame.wpList_want (o := ⟨_, .binOp .neq _ _ _ _, _, _, _, _⟩) ?_ fun K hK => ?_); · rfl)); (first | refine wp_neqS rfl (ev_eq rfl) (ev_eq rfl) (by assumption) ?_ | refine wp_neqH rfl (ev_eq rfl) (ev_eq rfl) (by first | assumption | exact eqIs_refl _) (by assumption) rfl (by kernel_rfl) (by assumption) (by assumption) ?_); refine hK _ _ ?_; clear hK K)
      | ((first | (with_reducible refine wpList_plain (o := ⟨_, .load _ _, _, _, _, _⟩) rfl fun K hK => ?_) | ((with_reducible refine BigFrame.wpList_want (o := ⟨_, .load _ _, _, _, _, _⟩) ?_ fun K hK => ?_); · rfl)); (first | refine wp_load_one rfl (ev_eq rfl) hS (by repeat (first | exact List.Mem.head _ | apply List.Mem.tail)) rfl (by first | rfl | assumption) ?_ | refine wp_load_row' rfl (ev_eq rfl) hS (by repeat (first | exact List.Mem.head _ | apply List.Mem.tail)) rfl (by first | assumption | rfl) ?_ | refine wp_load_sub rfl (ev_eq rfl) hS (by repeat (first | exact List.Mem.head _ | apply List.Mem.tail)) rfl rfl (by first | assumption | exact of_decide_eq_true rfl | (simp; omega)) (by assumption) ?_ | refine wp_load_at rfl (ev_eq rfl) rfl (by assumption) (by first | assumption | rfl) ?_ | refine wp_load_cell rfl (ev_eq rfl) rfl (by assumption) ?_); refine hK _ _ ?_; clear hK K))
  refine (weaker_any a a _ ha ha).mono ?_
  rintro e w' ⟨rfl, hB⟩
  replace hS := hS.step hB
  clear hB
  rw [weakE_ok oa.out oa.out]
  rw [weak_self oa.out]
  go_wp2_with (first
      | ((first | (with_reducible refine wpList_plain (o := ⟨some 3, .box _ _, _, _, _, _⟩) rfl fun K hK => ?_) | ((with_reducible refine BigFrame.wpList_want (o := ⟨some 3, .box _ _, _, _, _, _⟩) ?_ fun K hK => ?_); · rfl)); (first | refine wp_box_row rfl (ev_eq rfl) hS ?_ | refine wp_box_one rfl (ev_eq rfl) rfl hS ?_); clear hS; intro k3 W hS hBw hk0; clear hBw hk0; refine hK _ _ ?_; clear hK K)
      | ((first | (with_reducible refine wpList_plain (o := ⟨some 4, .box _ _, _, _, _, _⟩) rfl fun K hK => ?_) | ((with_reducible refine BigFrame.wpList_want (o := ⟨some 4, .box _ _, _, _, _, _⟩) ?_ fun K hK => ?_); · rfl)); (first | refine wp_box_row rfl (ev_eq rfl) hS ?_ | refine wp_box_one rfl (ev_eq rfl) rfl hS ?_); clear hS; intro k4 W hS hBw hk0; clear hBw hk0; refine hK _ _ ?_; clear hK K)
      | ((first | (with_reducible refine wpList_plain (o := ⟨some 5, .box _ _, _, _, _, _⟩) rfl fun K hK => ?_) | ((with_reducible refine BigFrame.wpList_want (o := ⟨some 5, .box _ _, _, _, _, _⟩) ?_ fun K hK => ?_); · rfl)); (first | refine wp_box_row rfl (ev_eq rfl) hS ?_ | refine wp_box_one rfl (ev_eq rfl) rfl hS ?_); clear hS; intro k5 W hS hBw hk0; clear hBw hk0; refine hK _ _ ?_; clear hK K)
      | ((first | (with_reducible refine wpList_plain (o := ⟨_, .binOp .eql _ _ _ _, _, _, _, _⟩) rfl fun K hK => ?_) | ((with_reducible refine BigFrame.wpList_want (o := ⟨_, .binOp .eql _ _ _ _, _, _, _, _⟩) ?_ fun K hK => ?_); · rfl)); (first | refine wp_eqlS rfl (ev_eq rfl) (ev_eq rfl) (by assumption) ?_ | refine wp_eqlH rfl (ev_eq rfl) (ev_eq rfl) (by first | assumption | exact eqIs_refl _) (by assumption) rfl (by kernel_rfl) (by assumption) (by assumption) ?_); refine hK _ _ ?_; clear hK K)
      | ((first | (with_reducible refine wpList_plain (o := ⟨_, .binOp .neq _ _ _ _, _, _, _, _⟩) rfl fun K hK => ?_) | ((with_reducible refine BigFrame.wpList_want (o := ⟨_, .binOp .neq _ _ _ _, _, _, _, _⟩) ?_ fun K hK => ?_); · rfl)); (first | refine wp_neqS rfl (ev_eq rfl) (ev_eq rfl) (by assumption) ?_ | refine wp_neqH rfl (ev_eq rfl) (ev_eq rfl) (by first | assumption | exact eqIs_refl _) (by assumption) rfl (by kernel_rfl) (by assumption) (by assumption) ?_); refine hK _ _ ?_; clear hK K)
      | ((first | (with_reducible refine wpList_plain (o := ⟨_, .load _ _, _, _, _, _⟩) rfl fun K hK => ?_) | ((with_reducible refine BigFrame.wpList_want (o := ⟨_, .load _ _, _, _, _, _⟩) ?_ fun K hK => ?_); · rfl)); (first | refine wp_load_one rfl (ev_eq rfl) hS (by repeat (first | exact List.Mem.head _ | apply List.Mem.tail)) rfl (by first | rfl | assumption) ?_ | refine wp_load_row' rfl (ev_eq rfl) hS (by repeat (first | exact List.Mem.head _ | apply List.Mem.tail)) rfl (by first | assumption | rfl) ?_ | refine wp_load_sub rfl (ev_eq rfl) hS (by repeat (first | exact List.Mem.head _ | apply List.Mem.tail)) rfl rfl (by first | assumption | exact of_decide_eq_true rfl | (simp; omega)) (by assumption) ?_ | refine wp_load_at rfl (ev_eq rfl) rfl (by assumption) (by first | assumption | rfl) ?_ | refine wp_load_cell rfl (ev_eq rfl) rfl (by assumption) ?_); refine hK _ _ ?_; clear hK K))
  refine (weaker_any a b _ ha hb).mono ?_
  rintro e w' ⟨rfl, hB⟩
  replace hS := hS.step hB
  clear hB
  rw [weakE_ok oa.out ob.out]
  go_wp2_with (first
      | ((first | (with_reducible refine wpList_plain (o := ⟨some 3, .box _ _, _, _, _, _⟩) rfl fun K hK => ?_) | ((with_reducible refine BigFrame.wpList_want (o := ⟨some 3, .box _ _, _, _, _, _⟩) ?_ fun K hK => ?_); · rfl)); (first | refine wp_box_row rfl (ev_eq rfl) hS ?_ | refine wp_box_one rfl (ev_eq rfl) rfl hS ?_); clear hS; intro k3 W hS hBw hk0; clear hBw hk0; refine hK _ _ ?_; clear hK K)
      | ((first | (with_reducible refine wpList_plain (o := ⟨some 4, .box _ _, _, _, _, _⟩) rfl fun K hK => ?_) | ((with_reducible refine BigFrame.wpList_want (o := ⟨some 4, .box _ _, _, _, _, _⟩) ?_ fun K hK => ?_); · rfl)); (first | refine wp_box_row rfl (ev_eq rfl) hS ?_ | refine wp_box_one rfl (ev_eq rfl) rfl hS ?_); clear hS; intro k4 W hS hBw hk0; clear hBw hk0; refine hK _ _ ?_; clear hK K)
      | ((first | (with_reducible refine wpList_plain (o := ⟨some 5, .box _ _, _, _, _, _⟩) rfl fun K hK => ?_) | ((with_reducible refine BigFrame.wpList_want (o := ⟨some 5, .box _ _, _, _, _, _⟩) ?_ fun K hK => ?_); · rfl)); (first | refine wp_box_row rfl (ev_eq rfl) hS ?_ | refine wp_box_one rfl (ev_eq rfl) rfl hS ?_); clear hS; intro k5 W hS hBw hk0; clear hBw hk0; refine hK _ _ ?_; clear hK K)
      | ((first | (with_reducible refine wpList_plain (o := ⟨_, .binOp .eql _ _ _ _, _, _, _, _⟩) rfl fun K hK => ?_) | ((with_reducible refine BigFrame.wpList_want (o := ⟨_, .binOp .eql _ _ _ _, _, _, _, _⟩) ?_ fun K hK => ?_); · rfl)); (first | refine wp_eqlS rfl (ev_eq rfl) (ev_eq rfl) (by assumption) ?_ | refine wp_eqlH rfl (ev_eq rfl) (ev_eq rfl) (by first | assumption | exact eqIs_refl _) (by assumption) rfl (by kernel_rfl) (by assumption) (by assumption) ?_); refine hK _ _ ?_; clear hK K)
      | ((first | (with_reducible refine wpList_plain (o := ⟨_, .binOp .neq _ _ _ _, _, _, _, _⟩) rfl fun K hK => ?_) | ((with_reducible refine BigFrame.wpList_want (o := ⟨_, .binOp .neq _ _ _ _, _, _, _, _⟩) ?_ fun K hK => ?_); · rfl)); (first | refine wp_neqS rfl (ev_eq rfl) (ev_eq rfl) (by assumption) ?_ | refine wp_neqH rfl (ev_eq rfl) (ev_eq rfl) (by first | assumption | exact eqIs_refl _) (by assumption) rfl (by kernel_rfl) (by assumption) (by assumption) ?_); refine hK _ _ ?_; clear hK K)
      | ((first | (with_reducible refine wpList_plain (o := ⟨_, .load _ _, _, _, _, _⟩) rfl fun K hK => ?_) | ((with_reducible refine BigFrame.wpList_want (o := ⟨_, .load _ _, _, _, _, _⟩) ?_ fun K hK => ?_); · rfl)); (first | refine wp_load_one rfl (ev_eq rfl) hS (by repeat (first | exact List.Mem.head _ | apply List.Mem.tail)) rfl (by first | rfl | assumption) ?_ | refine wp_load_row' rfl (ev_eq rfl) hS (by repeat (first | exact List.Mem.head _ | apply List.Mem.tail)) rfl (by first | assumption | rfl) ?_ | refine wp_load_sub rfl (ev_eq rfl) hS (by repeat (first | exact List.Mem.head _ | apply List.Mem.tail)) rfl rfl (by first | assumption | exact of_decide_eq_true rfl | (simp; omega)) (by assumption) ?_ | refine wp_load_at rfl (ev_eq rfl) rfl (by assumption) (by first | assumption | rfl) ?_ | refine wp_load_cell rfl (ev_eq rfl) rfl (by assumption) ?_); refine hK _ _ ?_; clear hK K))
  refine (weaker_any b a _ hb ha).mono ?_
  rintro e w' ⟨rfl, hB⟩
  replace hS := hS.step hB
  clear hB
  rw [weakE_ok ob.out oa.out]
  go_wp2_with (first
      | ((first | (with_reducible refine wpList_plain (o := ⟨some 3, .box _ _, _, _, _, _⟩) rfl fun K hK => ?_) | ((with_reducible refine BigFrame.wpList_want (o := ⟨some 3, .box _ _, _, _, _, _⟩) ?_ fun K hK => ?_); · rfl)); (first | refine wp_box_row rfl (ev_eq rfl) hS ?_ | refine wp_box_one rfl (ev_eq rfl) rfl hS ?_); clear hS; intro k3 W hS hBw hk0; clear hBw hk0; refine hK _ _ ?_; clear hK K)
      | ((first | (with_reducible refine wpList_plain (o := ⟨some 4, .box _ _, _, _, _, _⟩) rfl fun K hK => ?_) | ((with_reducible refine BigFrame.wpList_want (o := ⟨some 4, .box _ _, _, _, _, _⟩) ?_ fun K hK => ?_); · rfl)); (first | refine wp_box_row rfl (ev_eq rfl) hS ?_ | refine wp_box_one rfl (ev_eq rfl) rfl hS ?_); clear hS; intro k4 W hS hBw hk0; clear hBw hk0; refine hK _ _ ?_; clear hK K)
      | ((first | (with_reducible refine wpList_plain (o := ⟨some 5, .box _ _, _, _, _, _⟩) rfl fun K hK => ?_) | ((with_reducible refine BigFrame.wpList_want (o := ⟨some 5, .box _ _, _, _, _, _⟩) ?_ fun K hK => ?_); · rfl)); (first | refine wp_box_row rfl (ev_eq rfl) hS ?_ | refine wp_box_one rfl (ev_eq rfl) rfl hS ?_); clear hS; intro k5 W hS hBw hk0; clear hBw hk0; refine hK _ _ ?_; clear hK K)
      | ((first | (with_reducible refine wpList_plain (o := ⟨_, .binOp .eql _ _ _ _, _, _, _, _⟩) rfl fun K hK => ?_) | ((with_reducible refine BigFrame.wpList_want (o := ⟨_, .binOp .eql _ _ _ _, _, _, _, _⟩) ?_ fun K hK => ?_); · rfl)); (first | refine wp_eqlS rfl (ev_eq rfl) (ev_eq rfl) (by assumption) ?_ | refine wp_eqlH rfl (ev_eq rfl) (ev_eq rfl) (by first | assumption | exact eqIs_refl _) (by assumption) rfl (by kernel_rfl) (by assumption) (by assumption) ?_); refine hK _ _ ?_; clear hK K)
      | ((first | (with_reducible refine wpList_plain (o := ⟨_, .binOp .neq _ _ _ _, _, _, _, _⟩) rfl fun K hK => ?_) | ((with_reducible refine BigFrame.wpList_want (o := ⟨_, .binOp .neq _ _ _ _, _, _, _, _⟩) ?_ fun K hK => ?_); · rfl)); (first | refine wp_neqS rfl (ev_eq rfl) (ev_eq rfl) (by assumption) ?_ | refine wp_neqH rfl (ev_eq rfl) (ev_eq rfl) (by first | assumption | exact eqIs_refl _) (by assumption) rfl (by kernel_rfl) (by assumption) (by assumption) ?_); refine hK _ _ ?_; clear hK K)
      | ((first | (with_reducible refine wpList_plain (o := ⟨_, .load _ _, _, _, _, _⟩) rfl fun K hK => ?_) | ((with_reducible refine BigFrame.wpList_want (o := ⟨_, .load _ _, _, _, _, _⟩) ?_ fun K hK => ?_); · rfl)); (first | refine wp_load_one rfl (ev_eq rfl) hS (by repeat (first | exact List.Mem.head _ | apply List.Mem.tail)) rfl (by first | rfl | assumption) ?_ | refine wp_load_row' rfl (ev_eq rfl) hS (by repeat (first | exact List.Mem.head _ | apply List.Mem.tail)) rfl (by first | assumption | rfl) ?_ | refine wp_load_sub rfl (ev_eq rfl) hS (by repeat (first | exact List.Mem.head _ | apply List.Mem.tail)) rfl rfl (by first | assumption | exact of_decide_eq_true rfl | (simp; omega)) (by assumption) ?_ | refine wp_load_at rfl (ev_eq rfl) rfl (by assumption) (by first | assumption | rfl) ?_ | refine wp_load_cell rfl (ev_eq rfl) rfl (by assumption) ?_); refine hK _ _ ?_; clear hK K))
  refine (weaker_any b c _ hb hc).mono ?_
  rintro e w' ⟨rfl, hB⟩
  replace hS := hS.step hB
  clear hB
  rw [weakE_ok ob.out oc.out]
  go_wp2_with (first
      | ((first | (with_reducible refine wpList_plain (o := ⟨some 3, .box _ _, _, _, _, _⟩) rfl fun K hK => ?_) | ((with_reducible refine BigFrame.wpList_want (o := ⟨some 3, .box _ _, _, _, _, _⟩) ?_ fun K hK => ?_); · rfl)); (first | refine wp_box_row rfl (ev_eq rfl) hS ?_ | refine wp_box_one rfl (ev_eq rfl) rfl hS ?_); clear hS; intro k3 W hS hBw hk0; clear hBw hk0; refine hK _ _ ?_; clear hK K)
      | ((first | (with_reducible refine wpList_plain (o := ⟨some 4, .box _ _, _, _, _, _⟩) rfl fun K hK => ?_) | ((with_reducible refine BigFrame.wpList_want (o := ⟨some 4, .box _ _, _, _, _, _⟩) ?_ fun K hK => ?_); · rfl)); (first | refine wp_box_row rfl (ev_eq rfl) hS ?_ | refine wp_box_one rfl (ev_eq rfl) rfl hS ?_); clear hS; intro k4 W hS hBw hk0; clear hBw hk0; refine hK _ _ ?_; clear hK K)
      | ((first | (with_reducible refine wpList_plain (o := ⟨some 5, .box _ _, _, _, _, _⟩) rfl fun K hK => ?_) | ((with_reducible refine BigFrame.wpList_want (o := ⟨some 5, .box _ _, _, _, _, _⟩) ?_ fun K hK => ?_); · rfl)); (first | refine wp_box_row rfl (ev_eq rfl) hS ?_ | refine wp_box_one rfl (ev_eq rfl) rfl hS ?_); clear hS; intro k5 W hS hBw hk0; clear hBw hk0; refine hK _ _ ?_; clear hK K)
      | ((first | (with_reducible refine wpList_plain (o := ⟨_, .binOp .eql _ _ _ _, _, _, _, _⟩) rfl fun K hK => ?_) | ((with_reducible refine BigFrame.wpList_want (o := ⟨_, .binOp .eql _ _ _ _, _, _, _, _⟩) ?_ fun K hK => ?_); · rfl)); (first | refine wp_eqlS rfl (ev_eq rfl) (ev_eq rfl) (by assumption) ?_ | refine wp_eqlH rfl (ev_eq rfl) (ev_eq rfl) (by first | assumption | exact eqIs_refl _) (by assumption) rfl (by kernel_rfl) (by assumption) (by assumption) ?_); refine hK _ _ ?_; clear hK K)
      | ((first | (with_reducible refine wpList_plain (o := ⟨_, .binOp .neq _ _ _ _, _, _, _, _⟩) rfl fun K hK => ?_) | ((with_reducible refine BigFrame.wpList_want (o := ⟨_, .binOp .neq _ _ _ _, _, _, _, _⟩) ?_ fun K hK => ?_); · rfl)); (first | refine wp_neqS rfl (ev_eq rfl) (ev_eq rfl) (by assumption) ?_ | refine wp_neqH rfl (ev_eq rfl) (ev_eq rfl) (by first | assumption | exact eqIs_refl _) (by assumption) rfl (by kernel_rfl) (by assumption) (by assumption) ?_); refine hK _ _ ?_; clear hK K)
      | ((first | (with_reducible refine wpList_plain (o := ⟨_, .load _ _, _, _, _, _⟩) rfl fun K hK => ?_) | ((with_reducible refine BigFrame.wpList_want (o := ⟨_, .load _ _, _, _, _, _⟩) ?_ fun K hK => ?_); · rfl)); (first | refine wp_load_one rfl (ev_eq rfl) hS (by repeat (first | exact List.Mem.head _ | apply List.Mem.tail)) rfl (by first | rfl | assumption) ?_ | refine wp_load_row' rfl (ev_eq rfl) hS (by repeat (first | exact List.Mem.head _ | apply List.Mem.tail)) rfl (by first | assumption | rfl) ?_ | refine wp_load_sub rfl (ev_eq rfl) hS (by repeat (first | exact List.Mem.head _ | apply List.Mem.tail)) rfl rfl (by first | assumption | exact of_decide_eq_true rfl | (simp; omega)) (by assumption) ?_ | refine wp_load_at rfl (ev_eq rfl) rfl (by assumption) (by first | assumption | rfl) ?_ | refine wp_load_cell rfl (ev_eq rfl) rfl (by assumption) ?_); refine hK _ _ ?_; clear hK K))
  refine (weaker_any a c _ ha hc).mono ?_
  rintro e w' ⟨rfl, hB⟩
  replace hS := hS.step hB
  clear hB
  rw [weakE_ok oa.out oc.out]
  cases hab : Bod.weakV a b
  case false =>
    go_wp2_with fail
    exact bodyPost_ret (results_1 rfl rfl) rfl ⟨rfl, hS.below⟩
  cases hba : Bod.weakV b a
  case false =>
    cases hbc : Bod.weakV b c
    case false =>
      go_wp2_with fail
      exact bodyPost_ret (results_1 rfl rfl) rfl ⟨rfl, hS.below⟩
    case true =>
      rw [weak_trans oa.out ob.out oc.out hab hbc]
      go_wp2_with fail
      exact bodyPost_ret (results_1 rfl rfl) rfl ⟨rfl, hS.below⟩
  obtain rfl := weak_anti oa.out ob.out hab hba
  cases hbc : Bod.weakV a c
  case false =>
    go_wp2_with (first
      | ((first | (with_reducible refine wpList_plain (o := ⟨some 3, .box _ _, _, _, _, _⟩) rfl fun K hK => ?_) | ((with_reducible refine BigFrame.wpList_want (o := ⟨some 3, .box _ _, _, _, _, _⟩) ?_ fun K hK => ?_); · rfl)); (first | refine wp_box_row rfl (ev_eq rfl) hS ?_ | refine wp_box_one rfl (ev_eq rfl) rfl hS ?_); clear hS; intro k3 W hS hBw hk0; clear hBw hk0; refine hK _ _ ?_; clear hK K)
      | ((first | (with_reducible refine wpList_plain (o := ⟨some 4, .box _ _, _, _, _, _⟩) rfl fun K hK => ?_) | ((with_reducible refine BigFrame.wpList_want (o := ⟨some 4, .box _ _, _, _, _, _⟩) ?_ fun K hK => ?_); · rfl)); (first | refine wp_box_row rfl (ev_eq rfl) hS ?_ | refine wp_box_one rfl (ev_eq rfl) rfl hS ?_); clear hS; intro k4 W hS hBw hk0; clear hBw hk0; refine hK _ _ ?_; clear hK K)
      | ((first | (with_reducible refine wpList_plain (o := ⟨some 5, .box _ _, _, _, _, _⟩) rfl fun K hK => ?_) | ((with_reducible refine BigFrame.wpList_want (o := ⟨some 5, .box _ _, _, _, _, _⟩) ?_ fun K hK => ?_); · rfl)); (first | refine wp_box_row rfl (ev_eq rfl) hS ?_ | refine wp_box_one rfl (ev_eq rfl) rfl hS ?_); clear hS; intro k5 W hS hBw hk0; clear hBw hk0; refine hK _ _ ?_; clear hK K)
      | ((first | (with_reducible refine wpList_plain (o := ⟨_, .binOp .eql _ _ _ _, _, _, _, _⟩) rfl fun K hK => ?_) | ((with_reducible refine BigFrame.wpList_want (o := ⟨_, .binOp .eql _ _ _ _, _, _, _, _⟩) ?_ fun K hK => ?_); · rfl)); (first | refine wp_eqlS rfl (ev_eq rfl) (ev_eq rfl) (by assumption) ?_ | refine wp_eqlH rfl (ev_eq rfl) (ev_eq rfl) (by first | assumption | exact eqIs_refl _) (by assumption) rfl (by kernel_rfl) (by assumption) (by assumption) ?_); refine hK _ _ ?_; clear hK K)
      | ((first | (with_reducible refine wpList_plain (o := ⟨_, .binOp .neq _ _ _ _, _, _, _, _⟩) rfl fun K hK => ?_) | ((with_reducible refine BigFrame.wpList_want (o := ⟨_, .binOp .neq _ _ _ _, _, _, _, _⟩) ?_ fun K hK => ?_); · rfl)); (first | refine wp_neqS rfl (ev_eq rfl) (ev_eq rfl) (by assumption) ?_ | refine wp_neqH rfl (ev_eq rfl) (ev_eq rfl) (by first | assumption | exact eqIs_refl _) (by assumption) rfl (by kernel_rfl) (by assumption) (by assumption) ?_); refine hK _ _ ?_; clear hK K)
      | ((first | (with_reducible refine wpList_plain (o := ⟨_, .load _ _, _, _, _, _⟩) rfl fun K hK => ?_) | ((with_reducible refine BigFrame.wpList_want (o := ⟨_, .load _ _, _, _, _, _⟩) ?_ fun K hK => ?_); · rfl)); (first | refine wp_load_one rfl (ev_eq rfl) hS (by repeat (first | exact List.Mem.head _ | apply List.Mem.tail)) rfl (by first | rfl | assumption) ?_ | refine wp_load_row' rfl (ev_eq rfl) hS (by repeat (first | exact List.Mem.head _ | apply List.Mem.tail)) rfl (by first | assumption | rfl) ?_ | refine wp_load_sub rfl (ev_eq rfl) hS (by repeat (first | exact List.Mem.head _ | apply List.Mem.tail)) rfl rfl (by first | assumption | exact of_decide_eq_true rfl | (simp; omega)) (by assumption) ?_ | refine wp_load_at rfl (ev_eq rfl) rfl (by assumption) (by first | assumption | rfl) ?_ | refine wp_load_cell rfl (ev_eq rfl) rfl (by assumption) ?_); refine hK _ _ ?_; clear hK K))
    exact bodyPost_ret (results_1 rfl rfl) rfl ⟨rfl, hS.below⟩
  case true =>
    go_wp2_with (first
      | ((first | (with_reducible refine wpList_plain (o := ⟨some 3, .box _ _, _, _, _, _⟩) rfl fun K hK => ?_) | ((with_reducible refine BigFrame.wpList_want (o := ⟨some 3, .box _ _, _, _, _, _⟩) ?_ fun K hK => ?_); · rfl)); (first | refine wp_box_row rfl (ev_eq rfl) hS ?_ | refine wp_box_one rfl (ev_eq rfl) rfl hS ?_); clear hS; intro k3 W hS hBw hk0; clear hBw hk0; refine hK _ _ ?_; clear hK K)
      | ((first | (with_reducible refine wpList_plain (o := ⟨some 4, .box _ _, _, _, _, _⟩) rfl fun K hK => ?_) | ((with_reducible refine BigFrame.wpList_want (o := ⟨some 4, .box _ _, _, _, _, _⟩) ?_ fun K hK => ?_); · rfl)); (first | refine wp_box_row rfl (ev_eq rfl) hS ?_ | refine wp_box_one rfl (ev_eq rfl) rfl hS ?_); clear hS; intro k4 W hS hBw hk0; clear hBw hk0; refine hK _ _ ?_; clear hK K)
      | ((first | (with_reducible refine wpList_plain (o := ⟨some 5, .box _ _, _, _, _, _⟩) rfl fun K hK => ?_) | ((with_reducible refine BigFrame.wpList_want (o := ⟨some 5, .box _ _, _, _, _, _⟩) ?_ fun K hK => ?_); · rfl)); (first | refine wp_box_row rfl (ev_eq rfl) hS ?_ | refine wp_box_one rfl (ev_eq rfl) rfl hS ?_); clear hS; intro k5 W hS hBw hk0; clear hBw hk0; refine hK _ _ ?_; clear hK K)
      | ((first | (with_reducible refine wpList_plain (o := ⟨_, .binOp .eql _ _ _ _, _, _, _, _⟩) rfl fun K hK => ?_) | ((with_reducible refine BigFrame.wpList_want (o := ⟨_, .binOp .eql _ _ _ _, _, _, _, _⟩) ?_ fun K hK => ?_); · rfl)); (first | refine wp_eqlS rfl (ev_eq rfl) (ev_eq rfl) (by assumption) ?_ | refine wp_eqlH rfl (ev_eq rfl) (ev_eq rfl) (by first | assumption | exact eqIs_refl _) (by assumption) rfl (by kernel_rfl) (by assumption) (by assumption) ?_); refine hK _ _ ?_; clear hK K)
      | ((first | (with_reducible refine wpList_plain (o := ⟨_, .binOp .neq _ _ _ _, _, _, _, _⟩) rfl fun K hK => ?_) | ((with_reducible refine BigFrame.wpList_want (o := ⟨_, .binOp .neq _ _ _ _, _, _, _, _⟩) ?_ fun K hK => ?_); · rfl)); (first | refine wp_neqS rfl (ev_eq rfl) (ev_eq rfl) (by assumption) ?_ | refine wp_neqH rfl (ev_eq rfl) (ev_eq rfl) (by first | assumption | exact eqIs_refl _) (by assumption) rfl (by kernel_rfl) (by assumption) (by assumption) ?_); refine hK _ _ ?_; clear hK K)
      | ((first | (with_reducible refine wpList_plain (o := ⟨_, .load _ _, _, _, _, _⟩) rfl fun K hK => ?_) | ((with_reducible refine BigFrame.wpList_want (o := ⟨_, .load _ _, _, _, _, _⟩) ?_ fun K hK => ?_); · rfl)); (first | refine wp_load_one rfl (ev_eq rfl) hS (by repeat (first | exact List.Mem.head _ | apply List.Mem.tail)) rfl (by first | rfl | assumption) ?_ | refine wp_load_row' rfl (ev_eq rfl) hS (by repeat (first | exact List.Mem.head _ | apply List.Mem.tail)) rfl (by first | assumption | rfl) ?_ | refine wp_load_sub rfl (ev_eq rfl) hS (by repeat (first | exact List.Mem.head _ | apply List.Mem.tail)) rfl rfl (by first | assumption | exact of_decide_eq_true rfl | (simp; omega)) (by assumption) ?_ | refine wp_load_at rfl (ev_eq rfl) rfl (by assumption) (by first | assumption | rfl) ?_ | refine wp_load_cell rfl (ev_eq rfl) rfl (by assumption) ?_); refine hK _ _ ?_; clear hK K))
    exact bodyPost_ret (results_1 rfl rfl) rfl ⟨rfl, hS.below⟩
end Go.Proofs.Ytklppgkolcpbbaa
