/-
  Walks: the reference's Valid, meet, Meet, All.
-/
import Derived.Test.YtklppgkolcpbbaaBodyR1
namespace Go.Proofs.Ytklppgkolcpbbaa
set_option linter.unusedSimpArgs false
set_option linter.unusedVariables false
open Go Go.RowKit

theorem ok_out {c : Bod.Cp} (h : c.kind < 1 ∨ 6 < c.kind) : c.ok = false := by
  unfold Bod.Cp.ok
  rw [inB_no h]
  rfl
theorem inB_00 (n : Int) : Bod.inB 0 0 n = (n == 0) := by
  unfold Bod.inB
  rw [Bool.eq_iff_iff]
  simp
  omega
theorem ok_1 (limb n : Int) : (⟨1, limb, n⟩ : Bod.Cp).ok = (Bod.inB 0 2 limb && Bod.inB 1 3 n) := rfl
theorem ok_2 (limb n : Int) : (⟨2, limb, n⟩ : Bod.Cp).ok = (Bod.inB 0 2 limb && Bod.inB 1 1048576 n) := rfl
theorem ok_3 (limb n : Int) : (⟨3, limb, n⟩ : Bod.Cp).ok = ((limb == 0) && Bod.inB 1 16 n) := by rw [← inB_00]; rfl
theorem ok_4 (limb n : Int) : (⟨4, limb, n⟩ : Bod.Cp).ok = ((limb == 0) && Bod.inB 0 16 n) := by rw [← inB_00]; rfl
theorem ok_5 (limb n : Int) : (⟨5, limb, n⟩ : Bod.Cp).ok = ((limb == 0) && Bod.inB 0 500 n) := by rw [← inB_00]; rfl
theorem ok_6 (limb n : Int) : (⟨6, limb, n⟩ : Bod.Cp).ok = ((limb == 0) && Bod.inB 0 1048576 n) := by rw [← inB_00]; rfl

set_option maxRecDepth 100000 in
set_option maxHeartbeats 1000000 in
theorem rvalid_any (c : Bod.Cp) (w : World) :
    Calls Try.prog 15 #[valC c] w fun e w' => e = .returned (.bool c.ok) ∧ Below w.heap.size w w' := by
  have hS := St.start w
  by_cases hout : c.kind < 1 ∨ 6 < c.kind
  · have hk := Lib.hid (ok_out hout)
    have n1 : (c.kind == 1) = false := by rw [beq_eq_false_iff_ne]; omega
    have n2 : (c.kind == 2) = false := by rw [beq_eq_false_iff_ne]; omega
    have n3 : (c.kind == 3) = false := by rw [beq_eq_false_iff_ne]; omega
    have n4 : (c.kind == 4) = false := by rw [beq_eq_false_iff_ne]; omega
    have n5 : (c.kind == 5) = false := by rw [beq_eq_false_iff_ne]; omega
    have n6 : (c.kind == 6) = false := by rw [beq_eq_false_iff_ne]; omega
    clear hout
    go_enter Try.func15, Try.ntmps15
    go_wp2_with (first
      | ((first | (with_reducible refine wpList_plain (o := ⟨some 1, .box _ _, _, _, _, _⟩) rfl fun K hK => ?_) | ((with_reducible refine BigFrame.wpList_want (o := ⟨some 1, .box _ _, _, _, _, _⟩) ?_ fun K hK => ?_); · rfl)); (first | refine wp_box_row rfl (ev_eq rfl) hS ?_ | refine wp_box_one rfl (ev_eq rfl) rfl hS ?_); clear hS; intro k1 W hS hBw hk0; clear hBw hk0; refine hK _ _ ?_; clear hK K)
      | ((first | (with_reducible refine wpList_plain (o := ⟨_, .load _ _, _, _, _, _⟩) rfl fun K hK => ?_) | ((with_reducible refine BigFrame.wpList_want (o := ⟨_, .load _ _, _, _, _, _⟩) ?_ fun K hK => ?_); · rfl)); (first | refine wp_load_one rfl (ev_eq rfl) hS (by repeat (first | exact List.Mem.head _ | apply List.Mem.tail)) rfl (by first | rfl | assumption) ?_ | refine wp_load_row' rfl (ev_eq rfl) hS (by repeat (first | exact List.Mem.head _ | apply List.Mem.tail)) rfl (by first | assumption | rfl) ?_ | refine wp_load_sub rfl (ev_eq rfl) hS (by repeat (first | exact List.Mem.head _ | apply List.Mem.tail)) rfl rfl (by first | assumption | exact of_decide_eq_true rfl | (simp; omega)) (by assumption) ?_ | refine wp_load_at rfl (ev_eq rfl) rfl (by assumption) (by first | assumption | rfl) ?_ | refine wp_load_cell rfl (ev_eq rfl) rfl (by assumption) ?_); refine hK _ _ ?_; clear hK K))
    go_ret
    exact ⟨ret_boolW hk.out.symm, hS.below⟩
  obtain ⟨kind, limb, n⟩ := c
  have hcs : kind = 1 ∨ kind = 2 ∨ kind = 3 ∨ kind = 4 ∨ kind = 5 ∨ kind = 6 := by dsimp only at hout; omega
  clear hout
  rcases hcs with rfl | rfl | rfl | rfl | rfl | rfl
  · rw [ok_1]
    go_enter Try.func15, Try.ntmps15
    go_wp2_with (first
      | ((first | (with_reducible refine wpList_plain (o := ⟨some 1, .box _ _, _, _, _, _⟩) rfl fun K hK => ?_) | ((with_reducible refine BigFrame.wpList_want (o := ⟨some 1, .box _ _, _, _, _, _⟩) ?_ fun K hK => ?_); · rfl)); (first | refine wp_box_row rfl (ev_eq rfl) hS ?_ | refine wp_box_one rfl (ev_eq rfl) rfl hS ?_); clear hS; intro k1 W hS hBw hk0; clear hBw hk0; refine hK _ _ ?_; clear hK K)
      | ((first | (with_reducible refine wpList_plain (o := ⟨_, .load _ _, _, _, _, _⟩) rfl fun K hK => ?_) | ((with_reducible refine BigFrame.wpList_want (o := ⟨_, .load _ _, _, _, _, _⟩) ?_ fun K hK => ?_); · rfl)); (first | refine wp_load_one rfl (ev_eq rfl) hS (by repeat (first | exact List.Mem.head _ | apply List.Mem.tail)) rfl (by first | rfl | assumption) ?_ | refine wp_load_row' rfl (ev_eq rfl) hS (by repeat (first | exact List.Mem.head _ | apply List.Mem.tail)) rfl (by first | assumption | rfl) ?_ | refine wp_load_sub rfl (ev_eq rfl) hS (by repeat (first | exact List.Mem.head _ | apply List.Mem.tail)) rfl rfl (by first | assumption | exact of_decide_eq_true rfl | (simp; omega)) (by assumption) ?_ | refine wp_load_at rfl (ev_eq rfl) rfl (by assumption) (by first | assumption | rfl) ?_ | refine wp_load_cell rfl (ev_eq rfl) rfl (by assumption) ?_); refine hK _ _ ?_; clear hK K))
    refine (in_any limb 0 2 _).mono ?_
    rintro e w' ⟨rfl, rfl⟩
    cases q1 : Bod.inB 0 2 limb
    · go_wp2_with fail
      go_ret
      exact ⟨ret_boolW (by rw [q1]; rfl), hS.below⟩
    go_wp2_with (first
      | ((first | (with_reducible refine wpList_plain (o := ⟨some 1, .box _ _, _, _, _, _⟩) rfl fun K hK => ?_) | ((with_reducible refine BigFrame.wpList_want (o := ⟨some 1, .box _ _, _, _, _, _⟩) ?_ fun K hK => ?_); · rfl)); (first | refine wp_box_row rfl (ev_eq rfl) hS ?_ | refine wp_box_one rfl (ev_eq rfl) rfl hS ?_); clear hS; intro k1 W hS hBw hk0; clear hBw hk0; refine hK _ _ ?_; clear hK K)
      | ((first | (with_reducible refine wpList_plain (o := ⟨_, .load _ _, _, _, _, _⟩) rfl fun K hK => ?_) | ((with_reducible refine BigFrame.wpList_want (o := ⟨_, .load _ _, _, _, _, _⟩) ?_ fun K hK => ?_); · rfl)); (first | refine wp_load_one rfl (ev_eq rfl) hS (by repeat (first | exact List.Mem.head _ | apply List.Mem.tail)) rfl (by first | rfl | assumption) ?_ | refine wp_load_row' rfl (ev_eq rfl) hS (by repeat (first | exact List.Mem.head _ | apply List.Mem.tail)) rfl (by first | assumption | rfl) ?_ | refine wp_load_sub rfl (ev_eq rfl) hS (by repeat (first | exact List.Mem.head _ | apply List.Mem.tail)) rfl rfl (by first | assumption | exact of_decide_eq_true rfl | (simp; omega)) (by assumption) ?_ | refine wp_load_at rfl (ev_eq rfl) rfl (by assumption) (by first | assumption | rfl) ?_ | refine wp_load_cell rfl (ev_eq rfl) rfl (by assumption) ?_); refine hK _ _ ?_; clear hK K))
    refine (in_any n 1 3 _).mono ?_
    rintro e w' ⟨rfl, rfl⟩
    go_wp2_with fail
    go_ret
    exact ⟨ret_boolW (by rw [q1]; rfl), hS.below⟩
  · rw [ok_2]
    go_enter Try.func15, Try.ntmps15
    go_wp2_with (first
      | ((first | (with_reducible refine wpList_plain (o := ⟨some 1, .box _ _, _, _, _, _⟩) rfl fun K hK => ?_) | ((with_reducible refine BigFrame.wpList_want (o := ⟨some 1, .box _ _, _, _, _, _⟩) ?_ fun K hK => ?_); · rfl)); (first | refine wp_box_row rfl (ev_eq rfl) hS ?_ | refine wp_box_one rfl (ev_eq rfl) rfl hS ?_); clear hS; intro k1 W hS hBw hk0; clear hBw hk0; refine hK _ _ ?_; clear hK K)
      | ((first | (with_reducible refine wpList_plain (o := ⟨_, .load _ _, _, _, _, _⟩) rfl fun K hK => ?_) | ((with_reducible refine BigFrame.wpList_want (o := ⟨_, .load _ _, _, _, _, _⟩) ?_ fun K hK => ?_); · rfl)); (first | refine wp_load_one rfl (ev_eq rfl) hS (by repeat (first | exact List.Mem.head _ | apply List.Mem.tail)) rfl (by first | rfl | assumption) ?_ | refine wp_load_row' rfl (ev_eq rfl) hS (by repeat (first | exact List.Mem.head _ | apply List.Mem.tail)) rfl (by first | assumption | rfl) ?_ | refine wp_load_sub rfl (ev_eq rfl) hS (by repeat (first | exact List.Mem.head _ | apply List.Mem.tail)) rfl rfl (by first | assumption | exact of_decide_eq_true rfl | (simp; omega)) (by assumption) ?_ | refine wp_load_at rfl (ev_eq rfl) rfl (by assumption) (by first | assumption | rfl) ?_ | refine wp_load_cell rfl (ev_eq rfl) rfl (by assumption) ?_); refine hK _ _ ?_; clear hK K))
    refine (in_any limb 0 2 _).mono ?_
    rintro e w' ⟨rfl, rfl⟩
    cases q1 : Bod.inB 0 2 limb
    · go_wp2_with fail
      go_ret
      exact ⟨ret_boolW (by rw [q1]; rfl), hS.below⟩
    go_wp2_with (first
      | ((first | (with_reducible refine wpList_plain (o := ⟨some 1, .box _ _, _, _, _, _⟩) rfl fun K hK => ?_) | ((with_reducible refine BigFrame.wpList_want (o := ⟨some 1, .box _ _, _, _, _, _⟩) ?_ fun K hK => ?_); · rfl)); (first | refine wp_box_row rfl (ev_eq rfl) hS ?_ | refine wp_box_one rfl (ev_eq rfl) rfl hS ?_); clear hS; intro k1 W hS hBw hk0; clear hBw hk0; refine hK _ _ ?_; clear hK K)
      | ((first | (with_reducible refine wpList_plain (o := ⟨_, .load _ _, _, _, _, _⟩) rfl fun K hK => ?_) | ((with_reducible refine BigFrame.wpList_want (o := ⟨_, .load _ _, _, _, _, _⟩) ?_ fun K hK => ?_); · rfl)); (first | refine wp_load_one rfl (ev_eq rfl) hS (by repeat (first | exact List.Mem.head _ | apply List.Mem.tail)) rfl (by first | rfl | assumption) ?_ | refine wp_load_row' rfl (ev_eq rfl) hS (by repeat (first | exact List.Mem.head _ | apply List.Mem.tail)) rfl (by first | assumption | rfl) ?_ | refine wp_load_sub rfl (ev_eq rfl) hS (by repeat (first | exact List.Mem.head _ | apply List.Mem.tail)) rfl rfl (by first | assumption | exact of_decide_eq_true rfl | (simp; omega)) (by assumption) ?_ | refine wp_load_at rfl (ev_eq rfl) rfl (by assumption) (by first | assumption | rfl) ?_ | refine wp_load_cell rfl (ev_eq rfl) rfl (by assumption) ?_); refine hK _ _ ?_; clear hK K))
    refine (in_any n 1 1048576 _).mono ?_
    rintro e w' ⟨rfl, rfl⟩
    go_wp2_with fail
    go_ret
    exact ⟨ret_boolW (by rw [q1]; rfl), hS.below⟩
  · rw [ok_3]
    cases q1 : limb == 0
    · go_enter Try.func15, Try.ntmps15
      go_wp2_with (first
      | ((first | (with_reducible refine wpList_plain (o := ⟨some 1, .box _ _, _, _, _, _⟩) rfl fun K hK => ?_) | ((with_reducible refine BigFrame.wpList_want (o := ⟨some 1, .box _ _, _, _, _, _⟩) ?_ fun K hK => ?_); · rfl)); (first | refine wp_box_row rfl (ev_eq rfl) hS ?_ | refine wp_box_one rfl (ev_eq rfl) rfl hS ?_); clear hS; intro k1 W hS hBw hk0; clear hBw hk0; refine hK _ _ ?_; clear hK K)
      | ((first | (with_reducible refine wpList_plain (o := ⟨_, .load _ _, _, _, _, _⟩) rfl fun K hK => ?_) | ((with_reducible refine BigFrame.wpList_want (o := ⟨_, .load _ _, _, _, _, _⟩) ?_ fun K hK => ?_); · rfl)); (first | refine wp_load_one rfl (ev_eq rfl) hS (by repeat (first | exact List.Mem.head _ | apply List.Mem.tail)) rfl (by first | rfl | assumption) ?_ | refine wp_load_row' rfl (ev_eq rfl) hS (by repeat (first | exact List.Mem.head _ | apply List.Mem.tail)) rfl (by first | assumption | rfl) ?_ | refine wp_load_sub rfl (ev_eq rfl) hS (by repeat (first | exact List.Mem.head _ | apply List.Mem.tail)) rfl rfl (by first | assumption | exact of_decide_eq_true rfl | (simp; omega)) (by assumption) ?_ | refine wp_load_at rfl (ev_eq rfl) rfl (by assumption) (by first | assumption | rfl) ?_ | refine wp_load_cell rfl (ev_eq rfl) rfl (by assumption) ?_); refine hK _ _ ?_; clear hK K))
      go_ret
      exact ⟨ret_boolW rfl, hS.below⟩
    · go_enter Try.func15, Try.ntmps15
      go_wp2_with (first
      | ((first | (with_reducible refine wpList_plain (o := ⟨some 1, .box _ _, _, _, _, _⟩) rfl fun K hK => ?_) | ((with_reducible refine BigFrame.wpList_want (o := ⟨some 1, .box _ _, _, _, _, _⟩) ?_ fun K hK => ?_); · rfl)); (first | refine wp_box_row rfl (ev_eq rfl) hS ?_ | refine wp_box_one rfl (ev_eq rfl) rfl hS ?_); clear hS; intro k1 W hS hBw hk0; clear hBw hk0; refine hK _ _ ?_; clear hK K)
      | ((first | (with_reducible refine wpList_plain (o := ⟨_, .load _ _, _, _, _, _⟩) rfl fun K hK => ?_) | ((with_reducible refine BigFrame.wpList_want (o := ⟨_, .load _ _, _, _, _, _⟩) ?_ fun K hK => ?_); · rfl)); (first | refine wp_load_one rfl (ev_eq rfl) hS (by repeat (first | exact List.Mem.head _ | apply List.Mem.tail)) rfl (by first | rfl | assumption) ?_ | refine wp_load_row' rfl (ev_eq rfl) hS (by repeat (first | exact List.Mem.head _ | apply List.Mem.tail)) rfl (by first | assumption | rfl) ?_ | refine wp_load_sub rfl (ev_eq rfl) hS (by repeat (first | exact List.Mem.head _ | apply List.Mem.tail)) rfl rfl (by first | assumption | exact of_decide_eq_true rfl | (simp; omega)) (by assumption) ?_ | refine wp_load_at rfl (ev_eq rfl) rfl (by assumption) (by first | assumption | rfl) ?_ | refine wp_load_cell rfl (ev_eq rfl) rfl (by assumption) ?_); refine hK _ _ ?_; clear hK K))
      refine (in_any n 1 16 _).mono ?_
      rintro e w' ⟨rfl, rfl⟩
      go_wp2_with fail
      go_ret
      exact ⟨ret_boolW rfl, hS.below⟩
  · rw [ok_4]
    cases q1 : limb == 0
    · go_enter Try.func15, Try.ntmps15
      go_wp2_with (first
      | ((first | (with_reducible refine wpList_plain (o := ⟨some 1, .box _ _, _, _, _, _⟩) rfl fun K hK => ?_) | ((with_reducible refine BigFrame.wpList_want (o := ⟨some 1, .box _ _, _, _, _, _⟩) ?_ fun K hK => ?_); · rfl)); (first | refine wp_box_row rfl (ev_eq rfl) hS ?_ | refine wp_box_one rfl (ev_eq rfl) rfl hS ?_); clear hS; intro k1 W hS hBw hk0; clear hBw hk0; refine hK _ _ ?_; clear hK K)
      | ((first | (with_reducible refine wpList_plain (o := ⟨_, .load _ _, _, _, _, _⟩) rfl fun K hK => ?_) | ((with_reducible refine BigFrame.wpList_want (o := ⟨_, .load _ _, _, _, _, _⟩) ?_ fun K hK => ?_); · rfl)); (first | refine wp_load_one rfl (ev_eq rfl) hS (by repeat (first | exact List.Mem.head _ | apply List.Mem.tail)) rfl (by first | rfl | assumption) ?_ | refine wp_load_row' rfl (ev_eq rfl) hS (by repeat (first | exact List.Mem.head _ | apply List.Mem.tail)) rfl (by first | assumption | rfl) ?_ | refine wp_load_sub rfl (ev_eq rfl) hS (by repeat (first | exact List.Mem.head _ | apply List.Mem.tail)) rfl rfl (by first | assumption | exact of_decide_eq_true rfl | (simp; omega)) (by assumption) ?_ | refine wp_load_at rfl (ev_eq rfl) rfl (by assumption) (by first | assumption | rfl) ?_ | refine wp_load_cell rfl (ev_eq rfl) rfl (by assumption) ?_); refine hK _ _ ?_; clear hK K))
      go_ret
      exact ⟨ret_boolW rfl, hS.below⟩
    · go_enter Try.func15, Try.ntmps15
      go_wp2_with (first
      | ((first | (with_reducible refine wpList_plain (o := ⟨some 1, .box _ _, _, _, _, _⟩) rfl fun K hK => ?_) | ((with_reducible refine BigFrame.wpList_want (o := ⟨some 1, .box _ _, _, _, _, _⟩) ?_ fun K hK => ?_); · rfl)); (first | refine wp_box_row rfl (ev_eq rfl) hS ?_ | refine wp_box_one rfl (ev_eq rfl) rfl hS ?_); clear hS; intro k1 W hS hBw hk0; clear hBw hk0; refine hK _ _ ?_; clear hK K)
      | ((first | (with_reducible refine wpList_plain (o := ⟨_, .load _ _, _, _, _, _⟩) rfl fun K hK => ?_) | ((with_reducible refine BigFrame.wpList_want (o := ⟨_, .load _ _, _, _, _, _⟩) ?_ fun K hK => ?_); · rfl)); (first | refine wp_load_one rfl (ev_eq rfl) hS (by repeat (first | exact List.Mem.head _ | apply List.Mem.tail)) rfl (by first | rfl | assumption) ?_ | refine wp_load_row' rfl (ev_eq rfl) hS (by repeat (first | exact List.Mem.head _ | apply List.Mem.tail)) rfl (by first | assumption | rfl) ?_ | refine wp_load_sub rfl (ev_eq rfl) hS (by repeat (first | exact List.Mem.head _ | apply List.Mem.tail)) rfl rfl (by first | assumption | exact of_decide_eq_true rfl | (simp; omega)) (by assumption) ?_ | refine wp_load_at rfl (ev_eq rfl) rfl (by assumption) (by first | assumption | rfl) ?_ | refine wp_load_cell rfl (ev_eq rfl) rfl (by assumption) ?_); refine hK _ _ ?_; clear hK K))
      refine (in_any n 0 16 _).mono ?_
      rintro e w' ⟨rfl, rfl⟩
      go_wp2_with fail
      go_ret
      exact ⟨ret_boolW rfl, hS.below⟩
  · rw [ok_5]
    cases q1 : limb == 0
    · go_enter Try.func15, Try.ntmps15
      go_wp2_with (first
      | ((first | (with_reducible refine wpList_plain (o := ⟨some 1, .box _ _, _, _, _, _⟩) rfl fun K hK => ?_) | ((with_reducible refine BigFrame.wpList_want (o := ⟨some 1, .box _ _, _, _, _, _⟩) ?_ fun K hK => ?_); · rfl)); (first | refine wp_box_row rfl (ev_eq rfl) hS ?_ | refine wp_box_one rfl (ev_eq rfl) rfl hS ?_); clear hS; intro k1 W hS hBw hk0; clear hBw hk0; refine hK _ _ ?_; clear hK K)
      | ((first | (with_reducible refine wpList_plain (o := ⟨_, .load _ _, _, _, _, _⟩) rfl fun K hK => ?_) | ((with_reducible refine BigFrame.wpList_want (o := ⟨_, .load _ _, _, _, _, _⟩) ?_ fun K hK => ?_); · rfl)); (first | refine wp_load_one rfl (ev_eq rfl) hS (by repeat (first | exact List.Mem.head _ | apply List.Mem.tail)) rfl (by first | rfl | assumption) ?_ | refine wp_load_row' rfl (ev_eq rfl) hS (by repeat (first | exact List.Mem.head _ | apply List.Mem.tail)) rfl (by first | assumption | rfl) ?_ | refine wp_load_sub rfl (ev_eq rfl) hS (by repeat (first | exact List.Mem.head _ | apply List.Mem.tail)) rfl rfl (by first | assumption | exact of_decide_eq_true rfl | (simp; omega)) (by assumption) ?_ | refine wp_load_at rfl (ev_eq rfl) rfl (by assumption) (by first | assumption | rfl) ?_ | refine wp_load_cell rfl (ev_eq rfl) rfl (by assumption) ?_); refine hK _ _ ?_; clear hK K))
      go_ret
      exact ⟨ret_boolW rfl, hS.below⟩
    · go_enter Try.func15, Try.ntmps15
      go_wp2_with (first
      | ((first | (with_reducible refine wpList_plain (o := ⟨some 1, .box _ _, _, _, _, _⟩) rfl fun K hK => ?_) | ((with_reducible refine BigFrame.wpList_want (o := ⟨some 1, .box _ _, _, _, _, _⟩) ?_ fun K hK => ?_); · rfl)); (first | refine wp_box_row rfl (ev_eq rfl) hS ?_ | refine wp_box_one rfl (ev_eq rfl) rfl hS ?_); clear hS; intro k1 W hS hBw hk0; clear hBw hk0; refine hK _ _ ?_; clear hK K)
      | ((first | (with_reducible refine wpList_plain (o := ⟨_, .load _ _, _, _, _, _⟩) rfl fun K hK => ?_) | ((with_reducible refine BigFrame.wpList_want (o := ⟨_, .load _ _, _, _, _, _⟩) ?_ fun K hK => ?_); · rfl)); (first | refine wp_load_one rfl (ev_eq rfl) hS (by repeat (first | exact List.Mem.head _ | apply List.Mem.tail)) rfl (by first | rfl | assumption) ?_ | refine wp_load_row' rfl (ev_eq rfl) hS (by repeat (first | exact List.Mem.head _ | apply List.Mem.tail)) rfl (by first | assumption | rfl) ?_ | refine wp_load_sub rfl (ev_eq rfl) hS (by repeat (first | exact List.Mem.head _ | apply List.Mem.tail)) rfl rfl (by first | assumption | exact of_decide_eq_true rfl | (simp; omega)) (by assumption) ?_ | refine wp_load_at rfl (ev_eq rfl) rfl (by assumption) (by first | assumption | rfl) ?_ | refine wp_load_cell rfl (ev_eq rfl) rfl (by assumption) ?_); refine hK _ _ ?_; clear hK K))
      refine (in_any n 0 500 _).mono ?_
      rintro e w' ⟨rfl, rfl⟩
      go_wp2_with fail
      go_ret
      exact ⟨ret_boolW rfl, hS.below⟩
  · rw [ok_6]
    cases q1 : limb == 0
    · go_enter Try.func15, Try.ntmps15
      go_wp2_with (first
      | ((first | (with_reducible refine wpList_plain (o := ⟨some 1, .box _ _, _, _, _, _⟩) rfl fun K hK => ?_) | ((with_reducible refine BigFrame.wpList_want (o := ⟨some 1, .box _ _, _, _, _, _⟩) ?_ fun K hK => ?_); · rfl)); (first | refine wp_box_row rfl (ev_eq rfl) hS ?_ | refine wp_box_one rfl (ev_eq rfl) rfl hS ?_); clear hS; intro k1 W hS hBw hk0; clear hBw hk0; refine hK _ _ ?_; clear hK K)
      | ((first | (with_reducible refine wpList_plain (o := ⟨_, .load _ _, _, _, _, _⟩) rfl fun K hK => ?_) | ((with_reducible refine BigFrame.wpList_want (o := ⟨_, .load _ _, _, _, _, _⟩) ?_ fun K hK => ?_); · rfl)); (first | refine wp_load_one rfl (ev_eq rfl) hS (by repeat (first | exact List.Mem.head _ | apply List.Mem.tail)) rfl (by first | rfl | assumption) ?_ | refine wp_load_row' rfl (ev_eq rfl) hS (by repeat (first | exact List.Mem.head _ | apply List.Mem.tail)) rfl (by first | assumption | rfl) ?_ | refine wp_load_sub rfl (ev_eq rfl) hS (by repeat (first | exact List.Mem.head _ | apply List.Mem.tail)) rfl rfl (by first | assumption | exact of_decide_eq_true rfl | (simp; omega)) (by assumption) ?_ | refine wp_load_at rfl (ev_eq rfl) rfl (by assumption) (by first | assumption | rfl) ?_ | refine wp_load_cell rfl (ev_eq rfl) rfl (by assumption) ?_); refine hK _ _ ?_; clear hK K))
      go_ret
      exact ⟨ret_boolW rfl, hS.below⟩
    · go_enter Try.func15, Try.ntmps15
      go_wp2_with (first
      | ((first | (with_reducible refine wpList_plain (o := ⟨some 1, .box _ _, _, _, _, _⟩) rfl fun K hK => ?_) | ((with_reducible refine BigFrame.wpList_want (o := ⟨some 1, .box _ _, _, _, _, _⟩) ?_ fun K hK => ?_); · rfl)); (first | refine wp_box_row rfl (ev_eq rfl) hS ?_ | refine wp_box_one rfl (ev_eq rfl) rfl hS ?_); clear hS; intro k1 W hS hBw hk0; clear hBw hk0; refine hK _ _ ?_; clear hK K)
      | ((first | (with_reducible refine wpList_plain (o := ⟨_, .load _ _, _, _, _, _⟩) rfl fun K hK => ?_) | ((with_reducible refine BigFrame.wpList_want (o := ⟨_, .load _ _, _, _, _, _⟩) ?_ fun K hK => ?_); · rfl)); (first | refine wp_load_one rfl (ev_eq rfl) hS (by repeat (first | exact List.Mem.head _ | apply List.Mem.tail)) rfl (by first | rfl | assumption) ?_ | refine wp_load_row' rfl (ev_eq rfl) hS (by repeat (first | exact List.Mem.head _ | apply List.Mem.tail)) rfl (by first | assumption | rfl) ?_ | refine wp_load_sub rfl (ev_eq rfl) hS (by repeat (first | exact List.Mem.head _ | apply List.Mem.tail)) rfl rfl (by first | assumption | exact of_decide_eq_true rfl | (simp; omega)) (by assumption) ?_ | refine wp_load_at rfl (ev_eq rfl) rfl (by assumption) (by first | assumption | rfl) ?_ | refine wp_load_cell rfl (ev_eq rfl) rfl (by assumption) ?_); refine hK _ _ ?_; clear hK K))
      refine (in_any n 0 1048576 _).mono ?_
      rintro e w' ⟨rfl, rfl⟩
      go_wp2_with fail
      go_ret
      exact ⟨ret_boolW rfl, hS.below⟩
end Go.Proofs.Ytklppgkolcpbbaa
