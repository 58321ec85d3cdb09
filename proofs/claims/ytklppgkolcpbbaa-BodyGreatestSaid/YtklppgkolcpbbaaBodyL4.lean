/-
  Walks: the field of a cap; whether a body keeps caps.
-/
import Derived.Test.YtklppgkolcpbbaaBodyW4
import Derived.Test.YtklppgkolcpbbaaOps2
namespace Go.Proofs.Ytklppgkolcpbbaa
set_option linter.unusedSimpArgs false
set_option linter.unusedVariables false
open Go Go.RowKit
def fieldV (b : Bod.Bd) (c : Bod.Cp) : Int := if c.ok = true then b.fld c.r c.limb.toNat else 0
def keepV (b : Bod.Bd) (c : Bod.Cp) : Bool := c.ok && decide (b.fld c.r c.limb.toNat ≤ c.n)
def keepsV (b : Bod.Bd) (l : List Bod.Cp) : Bool := l.all (keepV b)
set_option maxRecDepth 100000 in
set_option maxHeartbeats 1000000 in
theorem field_1_0 (b : Bod.Bd) (n : Int) (hok : (⟨1, 0, n⟩ : Bod.Cp).ok = true) (w : World) :
    Calls Try.prog 31 #[valB b, valC ⟨1, 0, n⟩] w fun e w' => e = .returned (.tuple #[.int .i64 b.t0, .bool true]) ∧ Below w.heap.size w w' := by
  have h1 := cellsB_one b
  have h1c := cellsC_one ⟨1, 0, n⟩
  have HOK := Lib.hid hok
  clear hok
  have hS := St.start w
  go_enter Try.func31, Try.ntmps31
  go_wp2_with (first
      | ((first | (with_reducible refine wpList_plain (o := ⟨some 2, .box _ _, _, _, _, _⟩) rfl fun K hK => ?_) | ((with_reducible refine BigFrame.wpList_want (o := ⟨some 2, .box _ _, _, _, _, _⟩) ?_ fun K hK => ?_); · rfl)); (first | refine wp_box_row rfl (ev_eq rfl) hS ?_ | refine wp_box_one rfl (ev_eq rfl) rfl hS ?_); clear hS; intro k2 W hS hBw hk0; clear hBw hk0; refine hK _ _ ?_; clear hK K)
      | ((first | (with_reducible refine wpList_plain (o := ⟨some 3, .box _ _, _, _, _, _⟩) rfl fun K hK => ?_) | ((with_reducible refine BigFrame.wpList_want (o := ⟨some 3, .box _ _, _, _, _, _⟩) ?_ fun K hK => ?_); · rfl)); (first | refine wp_box_row rfl (ev_eq rfl) hS ?_ | refine wp_box_one rfl (ev_eq rfl) rfl hS ?_); clear hS; intro k3 W hS hBw hk0; clear hBw hk0; refine hK _ _ ?_; clear hK K)
      | ((first | (with_reducible refine wpList_plain (o := ⟨_, .load _ _, _, _, _, _⟩) rfl fun K hK => ?_) | ((with_reducible refine BigFrame.wpList_want (o := ⟨_, .load _ _, _, _, _, _⟩) ?_ fun K hK => ?_); · rfl)); (first | refine wp_load_one rfl (ev_eq rfl) hS (by repeat (first | exact List.Mem.head _ | apply List.Mem.tail)) rfl (by first | rfl | assumption) ?_ | refine wp_load_row' rfl (ev_eq rfl) hS (by repeat (first | exact List.Mem.head _ | apply List.Mem.tail)) rfl (by first | assumption | rfl) ?_ | refine wp_load_sub rfl (ev_eq rfl) hS (by repeat (first | exact List.Mem.head _ | apply List.Mem.tail)) rfl rfl (by first | assumption | exact of_decide_eq_true rfl | (simp; omega)) (by assumption) ?_ | refine wp_load_at rfl (ev_eq rfl) rfl (by assumption) (by first | assumption | rfl) ?_ | refine wp_load_cell rfl (ev_eq rfl) rfl (by assumption) ?_); refine hK _ _ ?_; clear hK K))
  refine (valid_any ⟨1, 0, n⟩ _).mono ?_
  rintro e w' ⟨rfl, hB⟩
  replace hS := hS.step hB
  clear hB
  rw [HOK.out]
  go_wp2_with (first
      | ((first | (with_reducible refine wpList_plain (o := ⟨some 2, .box _ _, _, _, _, _⟩) rfl fun K hK => ?_) | ((with_reducible refine BigFrame.wpList_want (o := ⟨some 2, .box _ _, _, _, _, _⟩) ?_ fun K hK => ?_); · rfl)); (first | refine wp_box_row rfl (ev_eq rfl) hS ?_ | refine wp_box_one rfl (ev_eq rfl) rfl hS ?_); clear hS; intro k2 W hS hBw hk0; clear hBw hk0; refine hK _ _ ?_; clear hK K)
      | ((first | (with_reducible refine wpList_plain (o := ⟨some 3, .box _ _, _, _, _, _⟩) rfl fun K hK => ?_) | ((with_reducible refine BigFrame.wpList_want (o := ⟨some 3, .box _ _, _, _, _, _⟩) ?_ fun K hK => ?_); · rfl)); (first | refine wp_box_row rfl (ev_eq rfl) hS ?_ | refine wp_box_one rfl (ev_eq rfl) rfl hS ?_); clear hS; intro k3 W hS hBw hk0; clear hBw hk0; refine hK _ _ ?_; clear hK K)
      | ((first | (with_reducible refine wpList_plain (o := ⟨_, .load _ _, _, _, _, _⟩) rfl fun K hK => ?_) | ((with_reducible refine BigFrame.wpList_want (o := ⟨_, .load _ _, _, _, _, _⟩) ?_ fun K hK => ?_); · rfl)); (first | refine wp_load_one rfl (ev_eq rfl) hS (by repeat (first | exact List.Mem.head _ | apply List.Mem.tail)) rfl (by first | rfl | assumption) ?_ | refine wp_load_row' rfl (ev_eq rfl) hS (by repeat (first | exact List.Mem.head _ | apply List.Mem.tail)) rfl (by first | assumption | rfl) ?_ | refine wp_load_sub rfl (ev_eq rfl) hS (by repeat (first | exact List.Mem.head _ | apply List.Mem.tail)) rfl rfl (by first | assumption | exact of_decide_eq_true rfl | (simp; omega)) (by assumption) ?_ | refine wp_load_at rfl (ev_eq rfl) rfl (by assumption) (by first | assumption | rfl) ?_ | refine wp_load_cell rfl (ev_eq rfl) rfl (by assumption) ?_); refine hK _ _ ?_; clear hK K))
  exact bodyPost_ret (results_2 rfl rfl rfl) rfl ⟨rfl, hS.below⟩
set_option maxRecDepth 100000 in
set_option maxHeartbeats 1000000 in
theorem field_1_1 (b : Bod.Bd) (n : Int) (hok : (⟨1, 1, n⟩ : Bod.Cp).ok = true) (w : World) :
    Calls Try.prog 31 #[valB b, valC ⟨1, 1, n⟩] w fun e w' => e = .returned (.tuple #[.int .i64 b.t1, .bool true]) ∧ Below w.heap.size w w' := by
  have h1 := cellsB_one b
  have h1c := cellsC_one ⟨1, 1, n⟩
  have HOK := Lib.hid hok
  clear hok
  have hS := St.start w
  go_enter Try.func31, Try.ntmps31
  go_wp2_with (first
      | ((first | (with_reducible refine wpList_plain (o := ⟨some 2, .box _ _, _, _, _, _⟩) rfl fun K hK => ?_) | ((with_reducible refine BigFrame.wpList_want (o := ⟨some 2, .box _ _, _, _, _, _⟩) ?_ fun K hK => ?_); · rfl)); (first | refine wp_box_row rfl (ev_eq rfl) hS ?_ | refine wp_box_one rfl (ev_eq rfl) rfl hS ?_); clear hS; intro k2 W hS hBw hk0; clear hBw hk0; refine hK _ _ ?_; clear hK K)
      | ((first | (with_reducible refine wpList_plain (o := ⟨some 3, .box _ _, _, _, _, _⟩) rfl fun K hK => ?_) | ((with_reducible refine BigFrame.wpList_want (o := ⟨some 3, .box _ _, _, _, _, _⟩) ?_ fun K hK => ?_); · rfl)); (first | refine wp_box_row rfl (ev_eq rfl) hS ?_ | refine wp_box_one rfl (ev_eq rfl) rfl hS ?_); clear hS; intro k3 W hS hBw hk0; clear hBw hk0; refine hK _ _ ?_; clear hK K)
      | ((first | (with_reducible refine wpList_plain (o := ⟨_, .load _ _, _, _, _, _⟩) rfl fun K hK => ?_) | ((with_reducible refine BigFrame.wpList_want (o := ⟨_, .load _ _, _, _, _, _⟩) ?_ fun K hK => ?_); · rfl)); (first | refine wp_load_one rfl (ev_eq rfl) hS (by repeat (first | exact List.Mem.head _ | apply List.Mem.tail)) rfl (by first | rfl | assumption) ?_ | refine wp_load_row' rfl (ev_eq rfl) hS (by repeat (first | exact List.Mem.head _ | apply List.Mem.tail)) rfl (by first | assumption | rfl) ?_ | refine wp_load_sub rfl (ev_eq rfl) hS (by repeat (first | exact List.Mem.head _ | apply List.Mem.tail)) rfl rfl (by first | assumption | exact of_decide_eq_true rfl | (simp; omega)) (by assumption) ?_ | refine wp_load_at rfl (ev_eq rfl) rfl (by assumption) (by first | assumption | rfl) ?_ | refine wp_load_cell rfl (ev_eq rfl) rfl (by assumption) ?_); refine hK _ _ ?_; clear hK K))
  refine (valid_any ⟨1, 1, n⟩ _).mono ?_
  rintro e w' ⟨rfl, hB⟩
  replace hS := hS.step hB
  clear hB
  rw [HOK.out]
  go_wp2_with (first
      | ((first | (with_reducible refine wpList_plain (o := ⟨some 2, .box _ _, _, _, _, _⟩) rfl fun K hK => ?_) | ((with_reducible refine BigFrame.wpList_want (o := ⟨some 2, .box _ _, _, _, _, _⟩) ?_ fun K hK => ?_); · rfl)); (first | refine wp_box_row rfl (ev_eq rfl) hS ?_ | refine wp_box_one rfl (ev_eq rfl) rfl hS ?_); clear hS; intro k2 W hS hBw hk0; clear hBw hk0; refine hK _ _ ?_; clear hK K)
      | ((first | (with_reducible refine wpList_plain (o := ⟨some 3, .box _ _, _, _, _, _⟩) rfl fun K hK => ?_) | ((with_reducible refine BigFrame.wpList_want (o := ⟨some 3, .box _ _, _, _, _, _⟩) ?_ fun K hK => ?_); · rfl)); (first | refine wp_box_row rfl (ev_eq rfl) hS ?_ | refine wp_box_one rfl (ev_eq rfl) rfl hS ?_); clear hS; intro k3 W hS hBw hk0; clear hBw hk0; refine hK _ _ ?_; clear hK K)
      | ((first | (with_reducible refine wpList_plain (o := ⟨_, .load _ _, _, _, _, _⟩) rfl fun K hK => ?_) | ((with_reducible refine BigFrame.wpList_want (o := ⟨_, .load _ _, _, _, _, _⟩) ?_ fun K hK => ?_); · rfl)); (first | refine wp_load_one rfl (ev_eq rfl) hS (by repeat (first | exact List.Mem.head _ | apply List.Mem.tail)) rfl (by first | rfl | assumption) ?_ | refine wp_load_row' rfl (ev_eq rfl) hS (by repeat (first | exact List.Mem.head _ | apply List.Mem.tail)) rfl (by first | assumption | rfl) ?_ | refine wp_load_sub rfl (ev_eq rfl) hS (by repeat (first | exact List.Mem.head _ | apply List.Mem.tail)) rfl rfl (by first | assumption | exact of_decide_eq_true rfl | (simp; omega)) (by assumption) ?_ | refine wp_load_at rfl (ev_eq rfl) rfl (by assumption) (by first | assumption | rfl) ?_ | refine wp_load_cell rfl (ev_eq rfl) rfl (by assumption) ?_); refine hK _ _ ?_; clear hK K))
  exact bodyPost_ret (results_2 rfl rfl rfl) rfl ⟨rfl, hS.below⟩
set_option maxRecDepth 100000 in
set_option maxHeartbeats 1000000 in
theorem field_1_2 (b : Bod.Bd) (n : Int) (hok : (⟨1, 2, n⟩ : Bod.Cp).ok = true) (w : World) :
    Calls Try.prog 31 #[valB b, valC ⟨1, 2, n⟩] w fun e w' => e = .returned (.tuple #[.int .i64 b.t2, .bool true]) ∧ Below w.heap.size w w' := by
  have h1 := cellsB_one b
  have h1c := cellsC_one ⟨1, 2, n⟩
  have HOK := Lib.hid hok
  clear hok
  have hS := St.start w
  go_enter Try.func31, Try.ntmps31
  go_wp2_with (first
      | ((first | (with_reducible refine wpList_plain (o := ⟨some 2, .box _ _, _, _, _, _⟩) rfl fun K hK => ?_) | ((with_reducible refine BigFrame.wpList_want (o := ⟨some 2, .box _ _, _, _, _, _⟩) ?_ fun K hK => ?_); · rfl)); (first | refine wp_box_row rfl (ev_eq rfl) hS ?_ | refine wp_box_one rfl (ev_eq rfl) rfl hS ?_); clear hS; intro k2 W hS hBw hk0; clear hBw hk0; refine hK _ _ ?_; clear hK K)
      | ((first | (with_reducible refine wpList_plain (o := ⟨some 3, .box _ _, _, _, _, _⟩) rfl fun K hK => ?_) | ((with_reducible refine BigFrame.wpList_want (o := ⟨some 3, .box _ _, _, _, _, _⟩) ?_ fun K hK => ?_); · rfl)); (first | refine wp_box_row rfl (ev_eq rfl) hS ?_ | refine wp_box_one rfl (ev_eq rfl) rfl hS ?_); clear hS; intro k3 W hS hBw hk0; clear hBw hk0; refine hK _ _ ?_; clear hK K)
      | ((first | (with_reducible refine wpList_plain (o := ⟨_, .load _ _, _, _, _, _⟩) rfl fun K hK => ?_) | ((with_reducible refine BigFrame.wpList_want (o := ⟨_, .load _ _, _, _, _, _⟩) ?_ fun K hK => ?_); · rfl)); (first | refine wp_load_one rfl (ev_eq rfl) hS (by repeat (first | exact List.Mem.head _ | apply List.Mem.tail)) rfl (by first | rfl | assumption) ?_ | refine wp_load_row' rfl (ev_eq rfl) hS (by repeat (first | exact List.Mem.head _ | apply List.Mem.tail)) rfl (by first | assumption | rfl) ?_ | refine wp_load_sub rfl (ev_eq rfl) hS (by repeat (first | exact List.Mem.head _ | apply List.Mem.tail)) rfl rfl (by first | assumption | exact of_decide_eq_true rfl | (simp; omega)) (by assumption) ?_ | refine wp_load_at rfl (ev_eq rfl) rfl (by assumption) (by first | assumption | rfl) ?_ | refine wp_load_cell rfl (ev_eq rfl) rfl (by assumption) ?_); refine hK _ _ ?_; clear hK K))
  refine (valid_any ⟨1, 2, n⟩ _).mono ?_
  rintro e w' ⟨rfl, hB⟩
  replace hS := hS.step hB
  clear hB
  rw [HOK.out]
  go_wp2_with (first
      | ((first | (with_reducible refine wpList_plain (o := ⟨some 2, .box _ _, _, _, _, _⟩) rfl fun K hK => ?_) | ((with_reducible refine BigFrame.wpList_want (o := ⟨some 2, .box _ _, _, _, _, _⟩) ?_ fun K hK => ?_); · rfl)); (first | refine wp_box_row rfl (ev_eq rfl) hS ?_ | refine wp_box_one rfl (ev_eq rfl) rfl hS ?_); clear hS; intro k2 W hS hBw hk0; clear hBw hk0; refine hK _ _ ?_; clear hK K)
      | ((first | (with_reducible refine wpList_plain (o := ⟨some 3, .box _ _, _, _, _, _⟩) rfl fun K hK => ?_) | ((with_reducible refine BigFrame.wpList_want (o := ⟨some 3, .box _ _, _, _, _, _⟩) ?_ fun K hK => ?_); · rfl)); (first | refine wp_box_row rfl (ev_eq rfl) hS ?_ | refine wp_box_one rfl (ev_eq rfl) rfl hS ?_); clear hS; intro k3 W hS hBw hk0; clear hBw hk0; refine hK _ _ ?_; clear hK K)
      | ((first | (with_reducible refine wpList_plain (o := ⟨_, .load _ _, _, _, _, _⟩) rfl fun K hK => ?_) | ((with_reducible refine BigFrame.wpList_want (o := ⟨_, .load _ _, _, _, _, _⟩) ?_ fun K hK => ?_); · rfl)); (first | refine wp_load_one rfl (ev_eq rfl) hS (by repeat (first | exact List.Mem.head _ | apply List.Mem.tail)) rfl (by first | rfl | assumption) ?_ | refine wp_load_row' rfl (ev_eq rfl) hS (by repeat (first | exact List.Mem.head _ | apply List.Mem.tail)) rfl (by first | assumption | rfl) ?_ | refine wp_load_sub rfl (ev_eq rfl) hS (by repeat (first | exact List.Mem.head _ | apply List.Mem.tail)) rfl rfl (by first | assumption | exact of_decide_eq_true rfl | (simp; omega)) (by assumption) ?_ | refine wp_load_at rfl (ev_eq rfl) rfl (by assumption) (by first | assumption | rfl) ?_ | refine wp_load_cell rfl (ev_eq rfl) rfl (by assumption) ?_); refine hK _ _ ?_; clear hK K))
  exact bodyPost_ret (results_2 rfl rfl rfl) rfl ⟨rfl, hS.below⟩
set_option maxRecDepth 100000 in
set_option maxHeartbeats 1000000 in
theorem field_2_0 (b : Bod.Bd) (n : Int) (hok : (⟨2, 0, n⟩ : Bod.Cp).ok = true) (w : World) :
    Calls Try.prog 31 #[valB b, valC ⟨2, 0, n⟩] w fun e w' => e = .returned (.tuple #[.int .i64 b.s0, .bool true]) ∧ Below w.heap.size w w' := by
  have h1 := cellsB_one b
  have h1c := cellsC_one ⟨2, 0, n⟩
  have HOK := Lib.hid hok
  clear hok
  have hS := St.start w
  go_enter Try.func31, Try.ntmps31
  go_wp2_with (first
      | ((first | (with_reducible refine wpList_plain (o := ⟨some 2, .box _ _, _, _, _, _⟩) rfl fun K hK => ?_) | ((with_reducible refine BigFrame.wpList_want (o := ⟨some 2, .box _ _, _, _, _, _⟩) ?_ fun K hK => ?_); · rfl)); (first | refine wp_box_row rfl (ev_eq rfl) hS ?_ | refine wp_box_one rfl (ev_eq rfl) rfl hS ?_); clear hS; intro k2 W hS hBw hk0; clear hBw hk0; refine hK _ _ ?_; clear hK K)
      | ((first | (with_reducible refine wpList_plain (o := ⟨some 3, .box _ _, _, _, _, _⟩) rfl fun K hK => ?_) | ((with_reducible refine BigFrame.wpList_want (o := ⟨some 3, .box _ _, _, _, _, _⟩) ?_ fun K hK => ?_); · rfl)); (first | refine wp_box_row rfl (ev_eq rfl) hS ?_ | refine wp_box_one rfl (ev_eq rfl) rfl hS ?_); clear hS; intro k3 W hS hBw hk0; clear hBw hk0; refine hK _ _ ?_; clear hK K)
      | ((first | (with_reducible refine wpList_plain (o := ⟨_, .load _ _, _, _, _, _⟩) rfl fun K hK => ?_) | ((with_reducible refine BigFrame.wpList_want (o := ⟨_, .load _ _, _, _, _, _⟩) ?_ fun K hK => ?_); · rfl)); (first | refine wp_load_one rfl (ev_eq rfl) hS (by repeat (first | exact List.Mem.head _ | apply List.Mem.tail)) rfl (by first | rfl | assumption) ?_ | refine wp_load_row' rfl (ev_eq rfl) hS (by repeat (first | exact List.Mem.head _ | apply List.Mem.tail)) rfl (by first | assumption | rfl) ?_ | refine wp_load_sub rfl (ev_eq rfl) hS (by repeat (first | exact List.Mem.head _ | apply List.Mem.tail)) rfl rfl (by first | assumption | exact of_decide_eq_true rfl | (simp; omega)) (by assumption) ?_ | refine wp_load_at rfl (ev_eq rfl) rfl (by assumption) (by first | assumption | rfl) ?_ | refine wp_load_cell rfl (ev_eq rfl) rfl (by assumption) ?_); refine hK _ _ ?_; clear hK K))
  refine (valid_any ⟨2, 0, n⟩ _).mono ?_
  rintro e w' ⟨rfl, hB⟩
  replace hS := hS.step hB
  clear hB
  rw [HOK.out]
  go_wp2_with (first
      | ((first | (with_reducible refine wpList_plain (o := ⟨some 2, .box _ _, _, _, _, _⟩) rfl fun K hK => ?_) | ((with_reducible refine BigFrame.wpList_want (o := ⟨some 2, .box _ _, _, _, _, _⟩) ?_ fun K hK => ?_); · rfl)); (first | refine wp_box_row rfl (ev_eq rfl) hS ?_ | refine wp_box_one rfl (ev_eq rfl) rfl hS ?_); clear hS; intro k2 W hS hBw hk0; clear hBw hk0; refine hK _ _ ?_; clear hK K)
      | ((first | (with_reducible refine wpList_plain (o := ⟨some 3, .box _ _, _, _, _, _⟩) rfl fun K hK => ?_) | ((with_reducible refine BigFrame.wpList_want (o := ⟨some 3, .box _ _, _, _, _, _⟩) ?_ fun K hK => ?_); · rfl)); (first | refine wp_box_row rfl (ev_eq rfl) hS ?_ | refine wp_box_one rfl (ev_eq rfl) rfl hS ?_); clear hS; intro k3 W hS hBw hk0; clear hBw hk0; refine hK _ _ ?_; clear hK K)
      | ((first | (with_reducible refine wpList_plain (o := ⟨_, .load _ _, _, _, _, _⟩) rfl fun K hK => ?_) | ((with_reducible refine BigFrame.wpList_want (o := ⟨_, .load _ _, _, _, _, _⟩) ?_ fun K hK => ?_); · rfl)); (first | refine wp_load_one rfl (ev_eq rfl) hS (by repeat (first | exact List.Mem.head _ | apply List.Mem.tail)) rfl (by first | rfl | assumption) ?_ | refine wp_load_row' rfl (ev_eq rfl) hS (by repeat (first | exact List.Mem.head _ | apply List.Mem.tail)) rfl (by first | assumption | rfl) ?_ | refine wp_load_sub rfl (ev_eq rfl) hS (by repeat (first | exact List.Mem.head _ | apply List.Mem.tail)) rfl rfl (by first | assumption | exact of_decide_eq_true rfl | (simp; omega)) (by assumption) ?_ | refine wp_load_at rfl (ev_eq rfl) rfl (by assumption) (by first | assumption | rfl) ?_ | refine wp_load_cell rfl (ev_eq rfl) rfl (by assumption) ?_); refine hK _ _ ?_; clear hK K))
  exact bodyPost_ret (results_2 rfl rfl rfl) rfl ⟨rfl, hS.below⟩
set_option maxRecDepth 100000 in
set_option maxHeartbeats 1000000 in
theorem field_2_1 (b : Bod.Bd) (n : Int) (hok : (⟨2, 1, n⟩ : Bod.Cp).ok = true) (w : World) :
    Calls Try.prog 31 #[valB b, valC ⟨2, 1, n⟩] w fun e w' => e = .returned (.tuple #[.int .i64 b.s1, .bool true]) ∧ Below w.heap.size w w' := by
  have h1 := cellsB_one b
  have h1c := cellsC_one ⟨2, 1, n⟩
  have HOK := Lib.hid hok
  clear hok
  have hS := St.start w
  go_enter Try.func31, Try.ntmps31
  go_wp2_with (first
      | ((first | (with_reducible refine wpList_plain (o := ⟨some 2, .box _ _, _, _, _, _⟩) rfl fun K hK => ?_) | ((with_reducible refine BigFrame.wpList_want (o := ⟨some 2, .box _ _, _, _, _, _⟩) ?_ fun K hK => ?_); · rfl)); (first | refine wp_box_row rfl (ev_eq rfl) hS ?_ | refine wp_box_one rfl (ev_eq rfl) rfl hS ?_); clear hS; intro k2 W hS hBw hk0; clear hBw hk0; refine hK _ _ ?_; clear hK K)
      | ((first | (with_reducible refine wpList_plain (o := ⟨some 3, .box _ _, _, _, _, _⟩) rfl fun K hK => ?_) | ((with_reducible refine BigFrame.wpList_want (o := ⟨some 3, .box _ _, _, _, _, _⟩) ?_ fun K hK => ?_); · rfl)); (first | refine wp_box_row rfl (ev_eq rfl) hS ?_ | refine wp_box_one rfl (ev_eq rfl) rfl hS ?_); clear hS; intro k3 W hS hBw hk0; clear hBw hk0; refine hK _ _ ?_; clear hK K)
      | ((first | (with_reducible refine wpList_plain (o := ⟨_, .load _ _, _, _, _, _⟩) rfl fun K hK => ?_) | ((with_reducible refine BigFrame.wpList_want (o := ⟨_, .load _ _, _, _, _, _⟩) ?_ fun K hK => ?_); · rfl)); (first | refine wp_load_one rfl (ev_eq rfl) hS (by repeat (first | exact List.Mem.head _ | apply List.Mem.tail)) rfl (by first | rfl | assumption) ?_ | refine wp_load_row' rfl (ev_eq rfl) hS (by repeat (first | exact List.Mem.head _ | apply List.Mem.tail)) rfl (by first | assumption | rfl) ?_ | refine wp_load_sub rfl (ev_eq rfl) hS (by repeat (first | exact List.Mem.head _ | apply List.Mem.tail)) rfl rfl (by first | assumption | exact of_decide_eq_true rfl | (simp; omega)) (by assumption) ?_ | refine wp_load_at rfl (ev_eq rfl) rfl (by assumption) (by first | assumption | rfl) ?_ | refine wp_load_cell rfl (ev_eq rfl) rfl (by assumption) ?_); refine hK _ _ ?_; clear hK K))
  refine (valid_any ⟨2, 1, n⟩ _).mono ?_
  rintro e w' ⟨rfl, hB⟩
  replace hS := hS.step hB
  clear hB
  rw [HOK.out]
  go_wp2_with (first
      | ((first | (with_reducible refine wpList_plain (o := ⟨some 2, .box _ _, _, _, _, _⟩) rfl fun K hK => ?_) | ((with_reducible refine BigFrame.wpList_want (o := ⟨some 2, .box _ _, _, _, _, _⟩) ?_ fun K hK => ?_); · rfl)); (first | refine wp_box_row rfl (ev_eq rfl) hS ?_ | refine wp_box_one rfl (ev_eq rfl) rfl hS ?_); clear hS; intro k2 W hS hBw hk0; clear hBw hk0; refine hK _ _ ?_; clear hK K)
      | ((first | (with_reducible refine wpList_plain (o := ⟨some 3, .box _ _, _, _, _, _⟩) rfl fun K hK => ?_) | ((with_reducible refine BigFrame.wpList_want (o := ⟨some 3, .box _ _, _, _, _, _⟩) ?_ fun K hK => ?_); · rfl)); (first | refine wp_box_row rfl (ev_eq rfl) hS ?_ | refine wp_box_one rfl (ev_eq rfl) rfl hS ?_); clear hS; intro k3 W hS hBw hk0; clear hBw hk0; refine hK _ _ ?_; clear hK K)
      | ((first | (with_reducible refine wpList_plain (o := ⟨_, .load _ _, _, _, _, _⟩) rfl fun K hK => ?_) | ((with_reducible refine BigFrame.wpList_want (o := ⟨_, .load _ _, _, _, _, _⟩) ?_ fun K hK => ?_); · rfl)); (first | refine wp_load_one rfl (ev_eq rfl) hS (by repeat (first | exact List.Mem.head _ | apply List.Mem.tail)) rfl (by first | rfl | assumption) ?_ | refine wp_load_row' rfl (ev_eq rfl) hS (by repeat (first | exact List.Mem.head _ | apply List.Mem.tail)) rfl (by first | assumption | rfl) ?_ | refine wp_load_sub rfl (ev_eq rfl) hS (by repeat (first | exact List.Mem.head _ | apply List.Mem.tail)) rfl rfl (by first | assumption | exact of_decide_eq_true rfl | (simp; omega)) (by assumption) ?_ | refine wp_load_at rfl (ev_eq rfl) rfl (by assumption) (by first | assumption | rfl) ?_ | refine wp_load_cell rfl (ev_eq rfl) rfl (by assumption) ?_); refine hK _ _ ?_; clear hK K))
  exact bodyPost_ret (results_2 rfl rfl rfl) rfl ⟨rfl, hS.below⟩
set_option maxRecDepth 100000 in
set_option maxHeartbeats 1000000 in
theorem field_2_2 (b : Bod.Bd) (n : Int) (hok : (⟨2, 2, n⟩ : Bod.Cp).ok = true) (w : World) :
    Calls Try.prog 31 #[valB b, valC ⟨2, 2, n⟩] w fun e w' => e = .returned (.tuple #[.int .i64 b.s2, .bool true]) ∧ Below w.heap.size w w' := by
  have h1 := cellsB_one b
  have h1c := cellsC_one ⟨2, 2, n⟩
  have HOK := Lib.hid hok
  clear hok
  have hS := St.start w
  go_enter Try.func31, Try.ntmps31
  go_wp2_with (first
      | ((first | (with_reducible refine wpList_plain (o := ⟨some 2, .box _ _, _, _, _, _⟩) rfl fun K hK => ?_) | ((with_reducible refine BigFrame.wpList_want (o := ⟨some 2, .box _ _, _, _, _, _⟩) ?_ fun K hK => ?_); · rfl)); (first | refine wp_box_row rfl (ev_eq rfl) hS ?_ | refine wp_box_one rfl (ev_eq rfl) rfl hS ?_); clear hS; intro k2 W hS hBw hk0; clear hBw hk0; refine hK _ _ ?_; clear hK K)
      | ((first | (with_reducible refine wpList_plain (o := ⟨some 3, .box _ _, _, _, _, _⟩) rfl fun K hK => ?_) | ((with_reducible refine BigFrame.wpList_want (o := ⟨some 3, .box _ _, _, _, _, _⟩) ?_ fun K hK => ?_); · rfl)); (first | refine wp_box_row rfl (ev_eq rfl) hS ?_ | refine wp_box_one rfl (ev_eq rfl) rfl hS ?_); clear hS; intro k3 W hS hBw hk0; clear hBw hk0; refine hK _ _ ?_; clear hK K)
      | ((first | (with_reducible refine wpList_plain (o := ⟨_, .load _ _, _, _, _, _⟩) rfl fun K hK => ?_) | ((with_reducible refine BigFrame.wpList_want (o := ⟨_, .load _ _, _, _, _, _⟩) ?_ fun K hK => ?_); · rfl)); (first | refine wp_load_one rfl (ev_eq rfl) hS (by repeat (first | exact List.Mem.head _ | apply List.Mem.tail)) rfl (by first | rfl | assumption) ?_ | refine wp_load_row' rfl (ev_eq rfl) hS (by repeat (first | exact List.Mem.head _ | apply List.Mem.tail)) rfl (by first | assumption | rfl) ?_ | refine wp_load_sub rfl (ev_eq rfl) hS (by repeat (first | exact List.Mem.head _ | apply List.Mem.tail)) rfl rfl (by first | assumption | exact of_decide_eq_true rfl | (simp; omega)) (by assumption) ?_ | refine wp_load_at rfl (ev_eq rfl) rfl (by assumption) (by first | assumption | rfl) ?_ | refine wp_load_cell rfl (ev_eq rfl) rfl (by assumption) ?_); refine hK _ _ ?_; clear hK K))
  refine (valid_any ⟨2, 2, n⟩ _).mono ?_
  rintro e w' ⟨rfl, hB⟩
  replace hS := hS.step hB
  clear hB
  rw [HOK.out]
  go_wp2_with (first
      | ((first | (with_reducible refine wpList_plain (o := ⟨some 2, .box _ _, _, _, _, _⟩) rfl fun K hK => ?_) | ((with_reducible refine BigFrame.wpList_want (o := ⟨some 2, .box _ _, _, _, _, _⟩) ?_ fun K hK => ?_); · rfl)); (first | refine wp_box_row rfl (ev_eq rfl) hS ?_ | refine wp_box_one rfl (ev_eq rfl) rfl hS ?_); clear hS; intro k2 W hS hBw hk0; clear hBw hk0; refine hK _ _ ?_; clear hK K)
      | ((first | (with_reducible refine wpList_plain (o := ⟨some 3, .box _ _, _, _, _, _⟩) rfl fun K hK => ?_) | ((with_reducible refine BigFrame.wpList_want (o := ⟨some 3, .box _ _, _, _, _, _⟩) ?_ fun K hK => ?_); · rfl)); (first | refine wp_box_row rfl (ev_eq rfl) hS ?_ | refine wp_box_one rfl (ev_eq rfl) rfl hS ?_); clear hS; intro k3 W hS hBw hk0; clear hBw hk0; refine hK _ _ ?_; clear hK K)
      | ((first | (with_reducible refine wpList_plain (o := ⟨_, .load _ _, _, _, _, _⟩) rfl fun K hK => ?_) | ((with_reducible refine BigFrame.wpList_want (o := ⟨_, .load _ _, _, _, _, _⟩) ?_ fun K hK => ?_); · rfl)); (first | refine wp_load_one rfl (ev_eq rfl) hS (by repeat (first | exact List.Mem.head _ | apply List.Mem.tail)) rfl (by first | rfl | assumption) ?_ | refine wp_load_row' rfl (ev_eq rfl) hS (by repeat (first | exact List.Mem.head _ | apply List.Mem.tail)) rfl (by first | assumption | rfl) ?_ | refine wp_load_sub rfl (ev_eq rfl) hS (by repeat (first | exact List.Mem.head _ | apply List.Mem.tail)) rfl rfl (by first | assumption | exact of_decide_eq_true rfl | (simp; omega)) (by assumption) ?_ | refine wp_load_at rfl (ev_eq rfl) rfl (by assumption) (by first | assumption | rfl) ?_ | refine wp_load_cell rfl (ev_eq rfl) rfl (by assumption) ?_); refine hK _ _ ?_; clear hK K))
  exact bodyPost_ret (results_2 rfl rfl rfl) rfl ⟨rfl, hS.below⟩
set_option maxRecDepth 100000 in
set_option maxHeartbeats 1000000 in
theorem field_3_0 (b : Bod.Bd) (n : Int) (hok : (⟨3, 0, n⟩ : Bod.Cp).ok = true) (w : World) :
    Calls Try.prog 31 #[valB b, valC ⟨3, 0, n⟩] w fun e w' => e = .returned (.tuple #[.int .i64 b.step, .bool true]) ∧ Below w.heap.size w w' := by
  have h1 := cellsB_one b
  have h1c := cellsC_one ⟨3, 0, n⟩
  have HOK := Lib.hid hok
  clear hok
  have hS := St.start w
  go_enter Try.func31, Try.ntmps31
  go_wp2_with (first
      | ((first | (with_reducible refine wpList_plain (o := ⟨some 2, .box _ _, _, _, _, _⟩) rfl fun K hK => ?_) | ((with_reducible refine BigFrame.wpList_want (o := ⟨some 2, .box _ _, _, _, _, _⟩) ?_ fun K hK => ?_); · rfl)); (first | refine wp_box_row rfl (ev_eq rfl) hS ?_ | refine wp_box_one rfl (ev_eq rfl) rfl hS ?_); clear hS; intro k2 W hS hBw hk0; clear hBw hk0; refine hK _ _ ?_; clear hK K)
      | ((first | (with_reducible refine wpList_plain (o := ⟨some 3, .box _ _, _, _, _, _⟩) rfl fun K hK => ?_) | ((with_reducible refine BigFrame.wpList_want (o := ⟨some 3, .box _ _, _, _, _, _⟩) ?_ fun K hK => ?_); · rfl)); (first | refine wp_box_row rfl (ev_eq rfl) hS ?_ | refine wp_box_one rfl (ev_eq rfl) rfl hS ?_); clear hS; intro k3 W hS hBw hk0; clear hBw hk0; refine hK _ _ ?_; clear hK K)
      | ((first | (with_reducible refine wpList_plain (o := ⟨_, .load _ _, _, _, _, _⟩) rfl fun K hK => ?_) | ((with_reducible refine BigFrame.wpList_want (o := ⟨_, .load _ _, _, _, _, _⟩) ?_ fun K hK => ?_); · rfl)); (first | refine wp_load_one rfl (ev_eq rfl) hS (by repeat (first | exact List.Mem.head _ | apply List.Mem.tail)) rfl (by first | rfl | assumption) ?_ | refine wp_load_row' rfl (ev_eq rfl) hS (by repeat (first | exact List.Mem.head _ | apply List.Mem.tail)) rfl (by first | assumption | rfl) ?_ | refine wp_load_sub rfl (ev_eq rfl) hS (by repeat (first | exact List.Mem.head _ | apply List.Mem.tail)) rfl rfl (by first | assumption | exact of_decide_eq_true rfl | (simp; omega)) (by assumption) ?_ | refine wp_load_at rfl (ev_eq rfl) rfl (by assumption) (by first | assumption | rfl) ?_ | refine wp_load_cell rfl (ev_eq rfl) rfl (by assumption) ?_); refine hK _ _ ?_; clear hK K))
  refine (valid_any ⟨3, 0, n⟩ _).mono ?_
  rintro e w' ⟨rfl, hB⟩
  replace hS := hS.step hB
  clear hB
  rw [HOK.out]
  go_wp2_with (first
      | ((first | (with_reducible refine wpList_plain (o := ⟨some 2, .box _ _, _, _, _, _⟩) rfl fun K hK => ?_) | ((with_reducible refine BigFrame.wpList_want (o := ⟨some 2, .box _ _, _, _, _, _⟩) ?_ fun K hK => ?_); · rfl)); (first | refine wp_box_row rfl (ev_eq rfl) hS ?_ | refine wp_box_one rfl (ev_eq rfl) rfl hS ?_); clear hS; intro k2 W hS hBw hk0; clear hBw hk0; refine hK _ _ ?_; clear hK K)
      | ((first | (with_reducible refine wpList_plain (o := ⟨some 3, .box _ _, _, _, _, _⟩) rfl fun K hK => ?_) | ((with_reducible refine BigFrame.wpList_want (o := ⟨some 3, .box _ _, _, _, _, _⟩) ?_ fun K hK => ?_); · rfl)); (first | refine wp_box_row rfl (ev_eq rfl) hS ?_ | refine wp_box_one rfl (ev_eq rfl) rfl hS ?_); clear hS; intro k3 W hS hBw hk0; clear hBw hk0; refine hK _ _ ?_; clear hK K)
      | ((first | (with_reducible refine wpList_plain (o := ⟨_, .load _ _, _, _, _, _⟩) rfl fun K hK => ?_) | ((with_reducible refine BigFrame.wpList_want (o := ⟨_, .load _ _, _, _, _, _⟩) ?_ fun K hK => ?_); · rfl)); (first | refine wp_load_one rfl (ev_eq rfl) hS (by repeat (first | exact List.Mem.head _ | apply List.Mem.tail)) rfl (by first | rfl | assumption) ?_ | refine wp_load_row' rfl (ev_eq rfl) hS (by repeat (first | exact List.Mem.head _ | apply List.Mem.tail)) rfl (by first | assumption | rfl) ?_ | refine wp_load_sub rfl (ev_eq rfl) hS (by repeat (first | exact List.Mem.head _ | apply List.Mem.tail)) rfl rfl (by first | assumption | exact of_decide_eq_true rfl | (simp; omega)) (by assumption) ?_ | refine wp_load_at rfl (ev_eq rfl) rfl (by assumption) (by first | assumption | rfl) ?_ | refine wp_load_cell rfl (ev_eq rfl) rfl (by assumption) ?_); refine hK _ _ ?_; clear hK K))
  exact bodyPost_ret (results_2 rfl rfl rfl) rfl ⟨rfl, hS.below⟩
set_option maxRecDepth 100000 in
set_option maxHeartbeats 1000000 in
theorem field_4_0 (b : Bod.Bd) (n : Int) (hok : (⟨4, 0, n⟩ : Bod.Cp).ok = true) (w : World) :
    Calls Try.prog 31 #[valB b, valC ⟨4, 0, n⟩] w fun e w' => e = .returned (.tuple #[.int .i64 b.jump, .bool true]) ∧ Below w.heap.size w w' := by
  have h1 := cellsB_one b
  have h1c := cellsC_one ⟨4, 0, n⟩
  have HOK := Lib.hid hok
  clear hok
  have hS := St.start w
  go_enter Try.func31, Try.ntmps31
  go_wp2_with (first
      | ((first | (with_reducible refine wpList_plain (o := ⟨some 2, .box _ _, _, _, _, _⟩) rfl fun K hK => ?_) | ((with_reducible refine BigFrame.wpList_want (o := ⟨some 2, .box _ _, _, _, _, _⟩) ?_ fun K hK => ?_); · rfl)); (first | refine wp_box_row rfl (ev_eq rfl) hS ?_ | refine wp_box_one rfl (ev_eq rfl) rfl hS ?_); clear hS; intro k2 W hS hBw hk0; clear hBw hk0; refine hK _ _ ?_; clear hK K)
      | ((first | (with_reducible refine wpList_plain (o := ⟨some 3, .box _ _, _, _, _, _⟩) rfl fun K hK => ?_) | ((with_reducible refine BigFrame.wpList_want (o := ⟨some 3, .box _ _, _, _, _, _⟩) ?_ fun K hK => ?_); · rfl)); (first | refine wp_box_row rfl (ev_eq rfl) hS ?_ | refine wp_box_one rfl (ev_eq rfl) rfl hS ?_); clear hS; intro k3 W hS hBw hk0; clear hBw hk0; refine hK _ _ ?_; clear hK K)
      | ((first | (with_reducible refine wpList_plain (o := ⟨_, .load _ _, _, _, _, _⟩) rfl fun K hK => ?_) | ((with_reducible refine BigFrame.wpList_want (o := ⟨_, .load _ _, _, _, _, _⟩) ?_ fun K hK => ?_); · rfl)); (first | refine wp_load_one rfl (ev_eq rfl) hS (by repeat (first | exact List.Mem.head _ | apply List.Mem.tail)) rfl (by first | rfl | assumption) ?_ | refine wp_load_row' rfl (ev_eq rfl) hS (by repeat (first | exact List.Mem.head _ | apply List.Mem.tail)) rfl (by first | assumption | rfl) ?_ | refine wp_load_sub rfl (ev_eq rfl) hS (by repeat (first | exact List.Mem.head _ | apply List.Mem.tail)) rfl rfl (by first | assumption | exact of_decide_eq_true rfl | (simp; omega)) (by assumption) ?_ | refine wp_load_at rfl (ev_eq rfl) rfl (by assumption) (by first | assumption | rfl) ?_ | refine wp_load_cell rfl (ev_eq rfl) rfl (by assumption) ?_); refine hK _ _ ?_; clear hK K))
  refine (valid_any ⟨4, 0, n⟩ _).mono ?_
  rintro e w' ⟨rfl, hB⟩
  replace hS := hS.step hB
  clear hB
  rw [HOK.out]
  go_wp2_with (first
      | ((first | (with_reducible refine wpList_plain (o := ⟨some 2, .box _ _, _, _, _, _⟩) rfl fun K hK => ?_) | ((with_reducible refine BigFrame.wpList_want (o := ⟨some 2, .box _ _, _, _, _, _⟩) ?_ fun K hK => ?_); · rfl)); (first | refine wp_box_row rfl (ev_eq rfl) hS ?_ | refine wp_box_one rfl (ev_eq rfl) rfl hS ?_); clear hS; intro k2 W hS hBw hk0; clear hBw hk0; refine hK _ _ ?_; clear hK K)
      | ((first | (with_reducible refine wpList_plain (o := ⟨some 3, .box _ _, _, _, _, _⟩) rfl fun K hK => ?_) | ((with_reducible refine BigFrame.wpList_want (o := ⟨some 3, .box _ _, _, _, _, _⟩) ?_ fun K hK => ?_); · rfl)); (first | refine wp_box_row rfl (ev_eq rfl) hS ?_ | refine wp_box_one rfl (ev_eq rfl) rfl hS ?_); clear hS; intro k3 W hS hBw hk0; clear hBw hk0; refine hK _ _ ?_; clear hK K)
      | ((first | (with_reducible refine wpList_plain (o := ⟨_, .load _ _, _, _, _, _⟩) rfl fun K hK => ?_) | ((with_reducible refine BigFrame.wpList_want (o := ⟨_, .load _ _, _, _, _, _⟩) ?_ fun K hK => ?_); · rfl)); (first | refine wp_load_one rfl (ev_eq rfl) hS (by repeat (first | exact List.Mem.head _ | apply List.Mem.tail)) rfl (by first | rfl | assumption) ?_ | refine wp_load_row' rfl (ev_eq rfl) hS (by repeat (first | exact List.Mem.head _ | apply List.Mem.tail)) rfl (by first | assumption | rfl) ?_ | refine wp_load_sub rfl (ev_eq rfl) hS (by repeat (first | exact List.Mem.head _ | apply List.Mem.tail)) rfl rfl (by first | assumption | exact of_decide_eq_true rfl | (simp; omega)) (by assumption) ?_ | refine wp_load_at rfl (ev_eq rfl) rfl (by assumption) (by first | assumption | rfl) ?_ | refine wp_load_cell rfl (ev_eq rfl) rfl (by assumption) ?_); refine hK _ _ ?_; clear hK K))
  exact bodyPost_ret (results_2 rfl rfl rfl) rfl ⟨rfl, hS.below⟩
set_option maxRecDepth 100000 in
set_option maxHeartbeats 1000000 in
theorem field_5_0 (b : Bod.Bd) (n : Int) (hok : (⟨5, 0, n⟩ : Bod.Cp).ok = true) (w : World) :
    Calls Try.prog 31 #[valB b, valC ⟨5, 0, n⟩] w fun e w' => e = .returned (.tuple #[.int .i64 b.lift, .bool true]) ∧ Below w.heap.size w w' := by
  have h1 := cellsB_one b
  have h1c := cellsC_one ⟨5, 0, n⟩
  have HOK := Lib.hid hok
  clear hok
  have hS := St.start w
  go_enter Try.func31, Try.ntmps31
  go_wp2_with (first
      | ((first | (with_reducible refine wpList_plain (o := ⟨some 2, .box _ _, _, _, _, _⟩) rfl fun K hK => ?_) | ((with_reducible refine BigFrame.wpList_want (o := ⟨some 2, .box _ _, _, _, _, _⟩) ?_ fun K hK => ?_); · rfl)); (first | refine wp_box_row rfl (ev_eq rfl) hS ?_ | refine wp_box_one rfl (ev_eq rfl) rfl hS ?_); clear hS; intro k2 W hS hBw hk0; clear hBw hk0; refine hK _ _ ?_; clear hK K)
      | ((first | (with_reducible refine wpList_plain (o := ⟨some 3, .box _ _, _, _, _, _⟩) rfl fun K hK => ?_) | ((with_reducible refine BigFrame.wpList_want (o := ⟨some 3, .box _ _, _, _, _, _⟩) ?_ fun K hK => ?_); · rfl)); (first | refine wp_box_row rfl (ev_eq rfl) hS ?_ | refine wp_box_one rfl (ev_eq rfl) rfl hS ?_); clear hS; intro k3 W hS hBw hk0; clear hBw hk0; refine hK _ _ ?_; clear hK K)
      | ((first | (with_reducible refine wpList_plain (o := ⟨_, .load _ _, _, _, _, _⟩) rfl fun K hK => ?_) | ((with_reducible refine BigFrame.wpList_want (o := ⟨_, .load _ _, _, _, _, _⟩) ?_ fun K hK => ?_); · rfl)); (first | refine wp_load_one rfl (ev_eq rfl) hS (by repeat (first | exact List.Mem.head _ | apply List.Mem.tail)) rfl (by first | rfl | assumption) ?_ | refine wp_load_row' rfl (ev_eq rfl) hS (by repeat (first | exact List.Mem.head _ | apply List.Mem.tail)) rfl (by first | assumption | rfl) ?_ | refine wp_load_sub rfl (ev_eq rfl) hS (by repeat (first | exact List.Mem.head _ | apply List.Mem.tail)) rfl rfl (by first | assumption | exact of_decide_eq_true rfl | (simp; omega)) (by assumption) ?_ | refine wp_load_at rfl (ev_eq rfl) rfl (by assumption) (by first | assumption | rfl) ?_ | refine wp_load_cell rfl (ev_eq rfl) rfl (by assumption) ?_); refine hK _ _ ?_; clear hK K))
  refine (valid_any ⟨5, 0, n⟩ _).mono ?_
  rintro e w' ⟨rfl, hB⟩
  replace hS := hS.step hB
  clear hB
  rw [HOK.out]
  go_wp2_with (first
      | ((first | (with_reducible refine wpList_plain (o := ⟨some 2, .box _ _, _, _, _, _⟩) rfl fun K hK => ?_) | ((with_reducible refine BigFrame.wpList_want (o := ⟨some 2, .box _ _, _, _, _, _⟩) ?_ fun K hK => ?_); · rfl)); (first | refine wp_box_row rfl (ev_eq rfl) hS ?_ | refine wp_box_one rfl (ev_eq rfl) rfl hS ?_); clear hS; intro k2 W hS hBw hk0; clear hBw hk0; refine hK _ _ ?_; clear hK K)
      | ((first | (with_reducible refine wpList_plain (o := ⟨some 3, .box _ _, _, _, _, _⟩) rfl fun K hK => ?_) | ((with_reducible refine BigFrame.wpList_want (o := ⟨some 3, .box _ _, _, _, _, _⟩) ?_ fun K hK => ?_); · rfl)); (first | refine wp_box_row rfl (ev_eq rfl) hS ?_ | refine wp_box_one rfl (ev_eq rfl) rfl hS ?_); clear hS; intro k3 W hS hBw hk0; clear hBw hk0; refine hK _ _ ?_; clear hK K)
      | ((first | (with_reducible refine wpList_plain (o := ⟨_, .load _ _, _, _, _, _⟩) rfl fun K hK => ?_) | ((with_reducible refine BigFrame.wpList_want (o := ⟨_, .load _ _, _, _, _, _⟩) ?_ fun K hK => ?_); · rfl)); (first | refine wp_load_one rfl (ev_eq rfl) hS (by repeat (first | exact List.Mem.head _ | apply List.Mem.tail)) rfl (by first | rfl | assumption) ?_ | refine wp_load_row' rfl (ev_eq rfl) hS (by repeat (first | exact List.Mem.head _ | apply List.Mem.tail)) rfl (by first | assumption | rfl) ?_ | refine wp_load_sub rfl (ev_eq rfl) hS (by repeat (first | exact List.Mem.head _ | apply List.Mem.tail)) rfl rfl (by first | assumption | exact of_decide_eq_true rfl | (simp; omega)) (by assumption) ?_ | refine wp_load_at rfl (ev_eq rfl) rfl (by assumption) (by first | assumption | rfl) ?_ | refine wp_load_cell rfl (ev_eq rfl) rfl (by assumption) ?_); refine hK _ _ ?_; clear hK K))
  exact bodyPost_ret (results_2 rfl rfl rfl) rfl ⟨rfl, hS.below⟩
set_option maxRecDepth 100000 in
set_option maxHeartbeats 1000000 in
theorem field_6_0 (b : Bod.Bd) (n : Int) (hok : (⟨6, 0, n⟩ : Bod.Cp).ok = true) (w : World) :
    Calls Try.prog 31 #[valB b, valC ⟨6, 0, n⟩] w fun e w' => e = .returned (.tuple #[.int .i64 b.effort, .bool true]) ∧ Below w.heap.size w w' := by
  have h1 := cellsB_one b
  have h1c := cellsC_one ⟨6, 0, n⟩
  have HOK := Lib.hid hok
  clear hok
  have hS := St.start w
  go_enter Try.func31, Try.ntmps31
  go_wp2_with (first
      | ((first | (with_reducible refine wpList_plain (o := ⟨some 2, .box _ _, _, _, _, _⟩) rfl fun K hK => ?_) | ((with_reducible refine BigFrame.wpList_want (o := ⟨some 2, .box _ _, _, _, _, _⟩) ?_ fun K hK => ?_); · rfl)); (first | refine wp_box_row rfl (ev_eq rfl) hS ?_ | refine wp_box_one rfl (ev_eq rfl) rfl hS ?_); clear hS; intro k2 W hS hBw hk0; clear hBw hk0; refine hK _ _ ?_; clear hK K)
      | ((first | (with_reducible refine wpList_plain (o := ⟨some 3, .box _ _, _, _, _, _⟩) rfl fun K hK => ?_) | ((with_reducible refine BigFrame.wpList_want (o := ⟨some 3, .box _ _, _, _, _, _⟩) ?_ fun K hK => ?_); · rfl)); (first | refine wp_box_row rfl (ev_eq rfl) hS ?_ | refine wp_box_one rfl (ev_eq rfl) rfl hS ?_); clear hS; intro k3 W hS hBw hk0; clear hBw hk0; refine hK _ _ ?_; clear hK K)
      | ((first | (with_reducible refine wpList_plain (o := ⟨_, .load _ _, _, _, _, _⟩) rfl fun K hK => ?_) | ((with_reducible refine BigFrame.wpList_want (o := ⟨_, .load _ _, _, _, _, _⟩) ?_ fun K hK => ?_); · rfl)); (first | refine wp_load_one rfl (ev_eq rfl) hS (by repeat (first | exact List.Mem.head _ | apply List.Mem.tail)) rfl (by first | rfl | assumption) ?_ | refine wp_load_row' rfl (ev_eq rfl) hS (by repeat (first | exact List.Mem.head _ | apply List.Mem.tail)) rfl (by first | assumption | rfl) ?_ | refine wp_load_sub rfl (ev_eq rfl) hS (by repeat (first | exact List.Mem.head _ | apply List.Mem.tail)) rfl rfl (by first | assumption | exact of_decide_eq_true rfl | (simp; omega)) (by assumption) ?_ | refine wp_load_at rfl (ev_eq rfl) rfl (by assumption) (by first | assumption | rfl) ?_ | refine wp_load_cell rfl (ev_eq rfl) rfl (by assumption) ?_); refine hK _ _ ?_; clear hK K))
  refine (valid_any ⟨6, 0, n⟩ _).mono ?_
  rintro e w' ⟨rfl, hB⟩
  replace hS := hS.step hB
  clear hB
  rw [HOK.out]
  go_wp2_with (first
      | ((first | (with_reducible refine wpList_plain (o := ⟨some 2, .box _ _, _, _, _, _⟩) rfl fun K hK => ?_) | ((with_reducible refine BigFrame.wpList_want (o := ⟨some 2, .box _ _, _, _, _, _⟩) ?_ fun K hK => ?_); · rfl)); (first | refine wp_box_row rfl (ev_eq rfl) hS ?_ | refine wp_box_one rfl (ev_eq rfl) rfl hS ?_); clear hS; intro k2 W hS hBw hk0; clear hBw hk0; refine hK _ _ ?_; clear hK K)
      | ((first | (with_reducible refine wpList_plain (o := ⟨some 3, .box _ _, _, _, _, _⟩) rfl fun K hK => ?_) | ((with_reducible refine BigFrame.wpList_want (o := ⟨some 3, .box _ _, _, _, _, _⟩) ?_ fun K hK => ?_); · rfl)); (first | refine wp_box_row rfl (ev_eq rfl) hS ?_ | refine wp_box_one rfl (ev_eq rfl) rfl hS ?_); clear hS; intro k3 W hS hBw hk0; clear hBw hk0; refine hK _ _ ?_; clear hK K)
      | ((first | (with_reducible refine wpList_plain (o := ⟨_, .load _ _, _, _, _, _⟩) rfl fun K hK => ?_) | ((with_reducible refine BigFrame.wpList_want (o := ⟨_, .load _ _, _, _, _, _⟩) ?_ fun K hK => ?_); · rfl)); (first | refine wp_load_one rfl (ev_eq rfl) hS (by repeat (first | exact List.Mem.head _ | apply List.Mem.tail)) rfl (by first | rfl | assumption) ?_ | refine wp_load_row' rfl (ev_eq rfl) hS (by repeat (first | exact List.Mem.head _ | apply List.Mem.tail)) rfl (by first | assumption | rfl) ?_ | refine wp_load_sub rfl (ev_eq rfl) hS (by repeat (first | exact List.Mem.head _ | apply List.Mem.tail)) rfl rfl (by first | assumption | exact of_decide_eq_true rfl | (simp; omega)) (by assumption) ?_ | refine wp_load_at rfl (ev_eq rfl) rfl (by assumption) (by first | assumption | rfl) ?_ | refine wp_load_cell rfl (ev_eq rfl) rfl (by assumption) ?_); refine hK _ _ ?_; clear hK K))
  exact bodyPost_ret (results_2 rfl rfl rfl) rfl ⟨rfl, hS.below⟩
set_option maxRecDepth 100000 in
set_option maxHeartbeats 1000000 in
theorem field_no (b : Bod.Bd) (c : Bod.Cp) (hok : (c : Bod.Cp).ok = false) (w : World) :
    Calls Try.prog 31 #[valB b, valC c] w fun e w' => e = .returned (.tuple #[.int .i64 0, .bool false]) ∧ Below w.heap.size w w' := by
  have h1 := cellsB_one b
  have h1c := cellsC_one c
  have HOK := Lib.hid hok
  clear hok
  have hS := St.start w
  go_enter Try.func31, Try.ntmps31
  go_wp2_with (first
      | ((first | (with_reducible refine wpList_plain (o := ⟨some 2, .box _ _, _, _, _, _⟩) rfl fun K hK => ?_) | ((with_reducible refine BigFrame.wpList_want (o := ⟨some 2, .box _ _, _, _, _, _⟩) ?_ fun K hK => ?_); · rfl)); (first | refine wp_box_row rfl (ev_eq rfl) hS ?_ | refine wp_box_one rfl (ev_eq rfl) rfl hS ?_); clear hS; intro k2 W hS hBw hk0; clear hBw hk0; refine hK _ _ ?_; clear hK K)
      | ((first | (with_reducible refine wpList_plain (o := ⟨some 3, .box _ _, _, _, _, _⟩) rfl fun K hK => ?_) | ((with_reducible refine BigFrame.wpList_want (o := ⟨some 3, .box _ _, _, _, _, _⟩) ?_ fun K hK => ?_); · rfl)); (first | refine wp_box_row rfl (ev_eq rfl) hS ?_ | refine wp_box_one rfl (ev_eq rfl) rfl hS ?_); clear hS; intro k3 W hS hBw hk0; clear hBw hk0; refine hK _ _ ?_; clear hK K)
      | ((first | (with_reducible refine wpList_plain (o := ⟨_, .load _ _, _, _, _, _⟩) rfl fun K hK => ?_) | ((with_reducible refine BigFrame.wpList_want (o := ⟨_, .load _ _, _, _, _, _⟩) ?_ fun K hK => ?_); · rfl)); (first | refine wp_load_one rfl (ev_eq rfl) hS (by repeat (first | exact List.Mem.head _ | apply List.Mem.tail)) rfl (by first | rfl | assumption) ?_ | refine wp_load_row' rfl (ev_eq rfl) hS (by repeat (first | exact List.Mem.head _ | apply List.Mem.tail)) rfl (by first | assumption | rfl) ?_ | refine wp_load_sub rfl (ev_eq rfl) hS (by repeat (first | exact List.Mem.head _ | apply List.Mem.tail)) rfl rfl (by first | assumption | exact of_decide_eq_true rfl | (simp; omega)) (by assumption) ?_ | refine wp_load_at rfl (ev_eq rfl) rfl (by assumption) (by first | assumption | rfl) ?_ | refine wp_load_cell rfl (ev_eq rfl) rfl (by assumption) ?_); refine hK _ _ ?_; clear hK K))
  refine (valid_any c _).mono ?_
  rintro e w' ⟨rfl, hB⟩
  replace hS := hS.step hB
  clear hB
  rw [HOK.out]
  go_wp2_with (first
      | ((first | (with_reducible refine wpList_plain (o := ⟨some 2, .box _ _, _, _, _, _⟩) rfl fun K hK => ?_) | ((with_reducible refine BigFrame.wpList_want (o := ⟨some 2, .box _ _, _, _, _, _⟩) ?_ fun K hK => ?_); · rfl)); (first | refine wp_box_row rfl (ev_eq rfl) hS ?_ | refine wp_box_one rfl (ev_eq rfl) rfl hS ?_); clear hS; intro k2 W hS hBw hk0; clear hBw hk0; refine hK _ _ ?_; clear hK K)
      | ((first | (with_reducible refine wpList_plain (o := ⟨some 3, .box _ _, _, _, _, _⟩) rfl fun K hK => ?_) | ((with_reducible refine BigFrame.wpList_want (o := ⟨some 3, .box _ _, _, _, _, _⟩) ?_ fun K hK => ?_); · rfl)); (first | refine wp_box_row rfl (ev_eq rfl) hS ?_ | refine wp_box_one rfl (ev_eq rfl) rfl hS ?_); clear hS; intro k3 W hS hBw hk0; clear hBw hk0; refine hK _ _ ?_; clear hK K)
      | ((first | (with_reducible refine wpList_plain (o := ⟨_, .load _ _, _, _, _, _⟩) rfl fun K hK => ?_) | ((with_reducible refine BigFrame.wpList_want (o := ⟨_, .load _ _, _, _, _, _⟩) ?_ fun K hK => ?_); · rfl)); (first | refine wp_load_one rfl (ev_eq rfl) hS (by repeat (first | exact List.Mem.head _ | apply List.Mem.tail)) rfl (by first | rfl | assumption) ?_ | refine wp_load_row' rfl (ev_eq rfl) hS (by repeat (first | exact List.Mem.head _ | apply List.Mem.tail)) rfl (by first | assumption | rfl) ?_ | refine wp_load_sub rfl (ev_eq rfl) hS (by repeat (first | exact List.Mem.head _ | apply List.Mem.tail)) rfl rfl (by first | assumption | exact of_decide_eq_true rfl | (simp; omega)) (by assumption) ?_ | refine wp_load_at rfl (ev_eq rfl) rfl (by assumption) (by first | assumption | rfl) ?_ | refine wp_load_cell rfl (ev_eq rfl) rfl (by assumption) ?_); refine hK _ _ ?_; clear hK K))
  exact bodyPost_ret (results_2 rfl rfl rfl) rfl ⟨rfl, hS.below⟩
theorem field_law (b : Bod.Bd) (c : Bod.Cp) (w : World) :
    Calls Try.prog 31 #[valB b, valC c] w fun e w' => e = .returned (.tuple #[.int .i64 (fieldV b c), .bool c.ok]) ∧ Below w.heap.size w w' := by
  cases hok : c.ok
  · have : fieldV b c = 0 := by unfold fieldV; rw [hok]; rfl
    rw [this]
    exact field_no b c hok w
  obtain ⟨h1, h2, _, h3, h4⟩ := cap_facts hok
  have hv : fieldV b c = b.fld c.r c.limb.toNat := by unfold fieldV; rw [if_pos hok]
  rw [hv]
  clear hv
  obtain ⟨kind, limb, n⟩ := c
  dsimp only at h1 h2 h3 h4
  have hcs : kind = 1 ∨ kind = 2 ∨ kind = 3 ∨ kind = 4 ∨ kind = 5 ∨ kind = 6 := by omega
  rcases hcs with rfl | rfl | rfl | rfl | rfl | rfl
  · have hl : limb ≤ ((2 : Nat) : Int) := h4
    have hc : limb = 0 ∨ limb = 1 ∨ limb = 2 := by omega
    rcases hc with rfl | rfl | rfl
    · exact field_1_0 b n hok w
    · exact field_1_1 b n hok w
    · exact field_1_2 b n hok w
  · have hl : limb ≤ ((2 : Nat) : Int) := h4
    have hc : limb = 0 ∨ limb = 1 ∨ limb = 2 := by omega
    rcases hc with rfl | rfl | rfl
    · exact field_2_0 b n hok w
    · exact field_2_1 b n hok w
    · exact field_2_2 b n hok w
  · have hl : limb ≤ ((0 : Nat) : Int) := h4
    have hc : limb = 0 := by omega
    obtain rfl := hc
    · exact field_3_0 b n hok w
  · have hl : limb ≤ ((0 : Nat) : Int) := h4
    have hc : limb = 0 := by omega
    obtain rfl := hc
    · exact field_4_0 b n hok w
  · have hl : limb ≤ ((0 : Nat) : Int) := h4
    have hc : limb = 0 := by omega
    obtain rfl := hc
    · exact field_5_0 b n hok w
  · have hl : limb ≤ ((0 : Nat) : Int) := h4
    have hc : limb = 0 := by omega
    obtain rfl := hc
    · exact field_6_0 b n hok w

theorem keeps_succ {b : Bod.Bd} {l : List Bod.Cp} {k : Nat} {c : Bod.Cp} (h : l[k]? = some c) (hall : Hid (keepsV b (l.take k) = true)) (hc : keepV b c = true) : Hid (keepsV b (l.take (k + 1)) = true) := take_all_succ (f := keepV b) h hall hc
theorem keeps_no {b : Bod.Bd} {l : List Bod.Cp} {k : Nat} {c : Bod.Cp} (h : l[k]? = some c) (hc : keepV b c = false) : keepsV b l = false := all_no' (f := keepV b) h hc
set_option maxRecDepth 100000 in
set_option maxHeartbeats 1000000 in
theorem keeps_law (b : Bod.Bd) (l : List Bod.Cp) (A : Option Addr) (n cap : Nat) (w : World) (hr : Rd w 3 A n (capsL l)) (hl : n ≤ maxLen) :
    Calls Try.prog 20 #[valB b, .slice A n cap] w fun e w' => e = .returned (.bool (keepsV b l)) ∧ Below w.heap.size w w' := by
  have hlen : l.length = n := by have := hr.1; rw [capsL_len] at this; omega
  have HL := Lib.hid hlen
  clear hlen
  unfold maxLen at hl
  have h1 := cellsB_one b
  have hS := (St.start w).keep0 (p := fun W => Rd W 3 A n (capsL l)) (fun W' h => hr.same0 h)
  clear hr
  go_enter Try.func20, Try.ntmps20
  go_wp2_with (first
      | ((first | (with_reducible refine wpList_plain (o := ⟨some 2, .box _ _, _, _, _, _⟩) rfl fun K hK => ?_) | ((with_reducible refine BigFrame.wpList_want (o := ⟨some 2, .box _ _, _, _, _, _⟩) ?_ fun K hK => ?_); · rfl)); (first | refine wp_box_row rfl (ev_eq rfl) hS ?_ | refine wp_box_one rfl (ev_eq rfl) rfl hS ?_); clear hS; intro k2 W hS hBw hk0; clear hBw hk0; refine hK _ _ ?_; clear hK K)
      | ((first | (with_reducible refine wpList_plain (o := ⟨some 6, .alloc _, _, _, _, _⟩) rfl fun K hK => ?_) | ((with_reducible refine BigFrame.wpList_want (o := ⟨some 6, .alloc _, _, _, _, _⟩) ?_ fun K hK => ?_); · rfl)); (first | refine wp_alloc_row rfl rfl hS ?_ | refine wp_alloc_one rfl rfl rfl hS ?_); clear hS; intro k6 W hS hBw hk0; clear hBw hk0; refine hK _ _ ?_; clear hK K)
      | ((first | (with_reducible refine wpList_plain (o := ⟨_, .load _ _, _, _, _, _⟩) rfl fun K hK => ?_) | ((with_reducible refine BigFrame.wpList_want (o := ⟨_, .load _ _, _, _, _, _⟩) ?_ fun K hK => ?_); · rfl)); (first | refine wp_load_one rfl (ev_eq rfl) hS (by repeat (first | exact List.Mem.head _ | apply List.Mem.tail)) rfl (by first | rfl | assumption) ?_ | refine wp_load_row' rfl (ev_eq rfl) hS (by repeat (first | exact List.Mem.head _ | apply List.Mem.tail)) rfl (by first | assumption | rfl) ?_ | refine wp_load_sub rfl (ev_eq rfl) hS (by repeat (first | exact List.Mem.head _ | apply List.Mem.tail)) rfl rfl (by first | assumption | exact of_decide_eq_true rfl | (simp; omega)) (by assumption) ?_ | refine wp_load_at rfl (ev_eq rfl) rfl (by assumption) (by first | assumption | rfl) ?_ | refine wp_load_cell rfl (ev_eq rfl) rfl (by assumption) ?_); refine hK _ _ ?_; clear hK K)
      | ((first | (with_reducible refine wpList_plain (o := ⟨_, .store _ _ _, _, _, _, _⟩) rfl fun K hK => ?_) | ((with_reducible refine BigFrame.wpList_want (o := ⟨_, .store _ _ _, _, _, _, _⟩) ?_ fun K hK => ?_); · rfl)); (first | refine st_row0 rfl (ev_eq rfl) (ev_eq rfl) hS (by first | assumption | rfl) (by first | assumption | rfl) (by first | assumption | rfl) ?_ | refine st_row1 rfl (ev_eq rfl) (ev_eq rfl) hS (by first | assumption | rfl) (by first | assumption | rfl) (by first | assumption | rfl) ?_ | refine st_row2 rfl (ev_eq rfl) (ev_eq rfl) hS (by first | assumption | rfl) (by first | assumption | rfl) (by first | assumption | rfl) ?_ | refine st_row3 rfl (ev_eq rfl) (ev_eq rfl) hS (by first | assumption | rfl) (by first | assumption | rfl) (by first | assumption | rfl) ?_ | refine st_row4 rfl (ev_eq rfl) (ev_eq rfl) hS (by first | assumption | rfl) (by first | assumption | rfl) (by first | assumption | rfl) ?_ | refine st_row5 rfl (ev_eq rfl) (ev_eq rfl) hS (by first | assumption | rfl) (by first | assumption | rfl) (by first | assumption | rfl) ?_ | refine st_row6 rfl (ev_eq rfl) (ev_eq rfl) hS (by first | assumption | rfl) (by first | assumption | rfl) (by first | assumption | rfl) ?_ | refine st_row7 rfl (ev_eq rfl) (ev_eq rfl) hS (by first | assumption | rfl) (by first | assumption | rfl) (by first | assumption | rfl) ?_ | refine st_row8 rfl (ev_eq rfl) (ev_eq rfl) hS (by first | assumption | rfl) (by first | assumption | rfl) (by first | assumption | rfl) ?_ | refine st_one0 rfl (ev_eq rfl) (ev_eq rfl) hS (by first | assumption | rfl) rfl (by first | assumption | exact of_decide_eq_true rfl | simp) (by first | assumption | rfl) ?_ | refine st_one1 rfl (ev_eq rfl) (ev_eq rfl) hS (by first | assumption | rfl) rfl (by first | assumption | exact of_decide_eq_true rfl | simp) (by first | assumption | rfl) ?_ | refine st_one2 rfl (ev_eq rfl) (ev_eq rfl) hS (by first | assumption | rfl) rfl (by first | assumption | exact of_decide_eq_true rfl | simp) (by first | assumption | rfl) ?_ | refine st_one3 rfl (ev_eq rfl) (ev_eq rfl) hS (by first | assumption | rfl) rfl (by first | assumption | exact of_decide_eq_true rfl | simp) (by first | assumption | rfl) ?_ | refine st_one4 rfl (ev_eq rfl) (ev_eq rfl) hS (by first | assumption | rfl) rfl (by first | assumption | exact of_decide_eq_true rfl | simp) (by first | assumption | rfl) ?_ | refine st_one5 rfl (ev_eq rfl) (ev_eq rfl) hS (by first | assumption | rfl) rfl (by first | assumption | exact of_decide_eq_true rfl | simp) (by first | assumption | rfl) ?_ | refine st_one6 rfl (ev_eq rfl) (ev_eq rfl) hS (by first | assumption | rfl) rfl (by first | assumption | exact of_decide_eq_true rfl | simp) (by first | assumption | rfl) ?_ | refine st_one7 rfl (ev_eq rfl) (ev_eq rfl) hS (by first | assumption | rfl) rfl (by first | assumption | exact of_decide_eq_true rfl | simp) (by first | assumption | rfl) ?_ | refine st_one8 rfl (ev_eq rfl) (ev_eq rfl) hS (by first | assumption | rfl) rfl (by first | assumption | exact of_decide_eq_true rfl | simp) (by first | assumption | rfl) ?_ | refine st_sub0 rfl (ev_eq rfl) (ev_eq rfl) hS (by first | assumption | rfl) (by first | assumption | rfl) (by first | assumption | exact of_decide_eq_true rfl | simp) (by first | assumption | rfl) ?_ | refine st_sub1 rfl (ev_eq rfl) (ev_eq rfl) hS (by first | assumption | rfl) (by first | assumption | rfl) (by first | assumption | exact of_decide_eq_true rfl | simp) (by first | assumption | rfl) ?_ | refine st_sub2 rfl (ev_eq rfl) (ev_eq rfl) hS (by first | assumption | rfl) (by first | assumption | rfl) (by first | assumption | exact of_decide_eq_true rfl | simp) (by first | assumption | rfl) ?_ | refine st_sub3 rfl (ev_eq rfl) (ev_eq rfl) hS (by first | assumption | rfl) (by first | assumption | rfl) (by first | assumption | exact of_decide_eq_true rfl | simp) (by first | assumption | rfl) ?_ | refine st_sub4 rfl (ev_eq rfl) (ev_eq rfl) hS (by first | assumption | rfl) (by first | assumption | rfl) (by first | assumption | exact of_decide_eq_true rfl | simp) (by first | assumption | rfl) ?_ | refine st_sub5 rfl (ev_eq rfl) (ev_eq rfl) hS (by first | assumption | rfl) (by first | assumption | rfl) (by first | assumption | exact of_decide_eq_true rfl | simp) (by first | assumption | rfl) ?_ | refine st_sub6 rfl (ev_eq rfl) (ev_eq rfl) hS (by first | assumption | rfl) (by first | assumption | rfl) (by first | assumption | exact of_decide_eq_true rfl | simp) (by first | assumption | rfl) ?_ | refine st_sub7 rfl (ev_eq rfl) (ev_eq rfl) hS (by first | assumption | rfl) (by first | assumption | rfl) (by first | assumption | exact of_decide_eq_true rfl | simp) (by first | assumption | rfl) ?_ | refine st_sub8 rfl (ev_eq rfl) (ev_eq rfl) hS (by first | assumption | rfl) (by first | assumption | rfl) (by first | assumption | exact of_decide_eq_true rfl | simp) (by first | assumption | rfl) ?_); clear hS; intro W hS; refine hK _ _ ?_; clear hK K))
  have hS2 : St w [⟨k2, cellsB b, 24⟩] [] [fun W => Rd W 3 A n (capsL l)] W := hS
  clear hS
  go_loopw [11] (fun v W => ∃ k : Nat, k ≤ n ∧ v = .int .i64 k ∧ Hid (keepsV b (l.take k) = true) ∧ St w [⟨k2, cellsB b, 24⟩] [] [fun W => Rd W 3 A n (capsL l)] W) (fun v _ => n - (intOf v).toNat)
  case atStart => exact ⟨0, by omega, rfl, by simp [Hid, keepsV], hS2⟩
  case round =>
    clear hS2
    obtain ⟨k, hk, rfl, hall, hS⟩ := hrel
    by_cases hlt : k < n
    · obtain ⟨c, hc⟩ : ∃ c, l[k]? = some c := ⟨_, List.getElem?_eq_getElem (by rw [HL.out]; exact hlt)⟩
      obtain ⟨ad, rfl, hcells⟩ := (hS.fact (List.Mem.head _)).elem hlt (capsL_elem hc)
      have HC := Lib.hid hc
      clear hc
      have h1c := cellsC_one c
      go_wp2_with (first
      | ((first | (with_reducible refine wpList_plain (o := ⟨some 2, .box _ _, _, _, _, _⟩) rfl fun K hK => ?_) | ((with_reducible refine BigFrame.wpList_want (o := ⟨some 2, .box _ _, _, _, _, _⟩) ?_ fun K hK => ?_); · rfl)); (first | refine wp_box_row rfl (ev_eq rfl) hS ?_ | refine wp_box_one rfl (ev_eq rfl) rfl hS ?_); clear hS; intro k2 W hS hBw hk0; clear hBw hk0; refine hK _ _ ?_; clear hK K)
      | ((first | (with_reducible refine wpList_plain (o := ⟨some 6, .alloc _, _, _, _, _⟩) rfl fun K hK => ?_) | ((with_reducible refine BigFrame.wpList_want (o := ⟨some 6, .alloc _, _, _, _, _⟩) ?_ fun K hK => ?_); · rfl)); (first | refine wp_alloc_row rfl rfl hS ?_ | refine wp_alloc_one rfl rfl rfl hS ?_); clear hS; intro k6 W hS hBw hk0; clear hBw hk0; refine hK _ _ ?_; clear hK K)
      | ((first | (with_reducible refine wpList_plain (o := ⟨_, .load _ _, _, _, _, _⟩) rfl fun K hK => ?_) | ((with_reducible refine BigFrame.wpList_want (o := ⟨_, .load _ _, _, _, _, _⟩) ?_ fun K hK => ?_); · rfl)); (first | refine wp_load_one rfl (ev_eq rfl) hS (by repeat (first | exact List.Mem.head _ | apply List.Mem.tail)) rfl (by first | rfl | assumption) ?_ | refine wp_load_row' rfl (ev_eq rfl) hS (by repeat (first | exact List.Mem.head _ | apply List.Mem.tail)) rfl (by first | assumption | rfl) ?_ | refine wp_load_sub rfl (ev_eq rfl) hS (by repeat (first | exact List.Mem.head _ | apply List.Mem.tail)) rfl rfl (by first | assumption | exact of_decide_eq_true rfl | (simp; omega)) (by assumption) ?_ | refine wp_load_at rfl (ev_eq rfl) rfl (by assumption) (by first | assumption | rfl) ?_ | refine wp_load_cell rfl (ev_eq rfl) rfl (by assumption) ?_); refine hK _ _ ?_; clear hK K)
      | ((first | (with_reducible refine wpList_plain (o := ⟨_, .store _ _ _, _, _, _, _⟩) rfl fun K hK => ?_) | ((with_reducible refine BigFrame.wpList_want (o := ⟨_, .store _ _ _, _, _, _, _⟩) ?_ fun K hK => ?_); · rfl)); (first | refine st_row0 rfl (ev_eq rfl) (ev_eq rfl) hS (by first | assumption | rfl) (by first | assumption | rfl) (by first | assumption | rfl) ?_ | refine st_row1 rfl (ev_eq rfl) (ev_eq rfl) hS (by first | assumption | rfl) (by first | assumption | rfl) (by first | assumption | rfl) ?_ | refine st_row2 rfl (ev_eq rfl) (ev_eq rfl) hS (by first | assumption | rfl) (by first | assumption | rfl) (by first | assumption | rfl) ?_ | refine st_row3 rfl (ev_eq rfl) (ev_eq rfl) hS (by first | assumption | rfl) (by first | assumption | rfl) (by first | assumption | rfl) ?_ | refine st_row4 rfl (ev_eq rfl) (ev_eq rfl) hS (by first | assumption | rfl) (by first | assumption | rfl) (by first | assumption | rfl) ?_ | refine st_row5 rfl (ev_eq rfl) (ev_eq rfl) hS (by first | assumption | rfl) (by first | assumption | rfl) (by first | assumption | rfl) ?_ | refine st_row6 rfl (ev_eq rfl) (ev_eq rfl) hS (by first | assumption | rfl) (by first | assumption | rfl) (by first | assumption | rfl) ?_ | refine st_row7 rfl (ev_eq rfl) (ev_eq rfl) hS (by first | assumption | rfl) (by first | assumption | rfl) (by first | assumption | rfl) ?_ | refine st_row8 rfl (ev_eq rfl) (ev_eq rfl) hS (by first | assumption | rfl) (by first | assumption | rfl) (by first | assumption | rfl) ?_ | refine st_one0 rfl (ev_eq rfl) (ev_eq rfl) hS (by first | assumption | rfl) rfl (by first | assumption | exact of_decide_eq_true rfl | simp) (by first | assumption | rfl) ?_ | refine st_one1 rfl (ev_eq rfl) (ev_eq rfl) hS (by first | assumption | rfl) rfl (by first | assumption | exact of_decide_eq_true rfl | simp) (by first | assumption | rfl) ?_ | refine st_one2 rfl (ev_eq rfl) (ev_eq rfl) hS (by first | assumption | rfl) rfl (by first | assumption | exact of_decide_eq_true rfl | simp) (by first | assumption | rfl) ?_ | refine st_one3 rfl (ev_eq rfl) (ev_eq rfl) hS (by first | assumption | rfl) rfl (by first | assumption | exact of_decide_eq_true rfl | simp) (by first | assumption | rfl) ?_ | refine st_one4 rfl (ev_eq rfl) (ev_eq rfl) hS (by first | assumption | rfl) rfl (by first | assumption | exact of_decide_eq_true rfl | simp) (by first | assumption | rfl) ?_ | refine st_one5 rfl (ev_eq rfl) (ev_eq rfl) hS (by first | assumption | rfl) rfl (by first | assumption | exact of_decide_eq_true rfl | simp) (by first | assumption | rfl) ?_ | refine st_one6 rfl (ev_eq rfl) (ev_eq rfl) hS (by first | assumption | rfl) rfl (by first | assumption | exact of_decide_eq_true rfl | simp) (by first | assumption | rfl) ?_ | refine st_one7 rfl (ev_eq rfl) (ev_eq rfl) hS (by first | assumption | rfl) rfl (by first | assumption | exact of_decide_eq_true rfl | simp) (by first | assumption | rfl) ?_ | refine st_one8 rfl (ev_eq rfl) (ev_eq rfl) hS (by first | assumption | rfl) rfl (by first | assumption | exact of_decide_eq_true rfl | simp) (by first | assumption | rfl) ?_ | refine st_sub0 rfl (ev_eq rfl) (ev_eq rfl) hS (by first | assumption | rfl) (by first | assumption | rfl) (by first | assumption | exact of_decide_eq_true rfl | simp) (by first | assumption | rfl) ?_ | refine st_sub1 rfl (ev_eq rfl) (ev_eq rfl) hS (by first | assumption | rfl) (by first | assumption | rfl) (by first | assumption | exact of_decide_eq_true rfl | simp) (by first | assumption | rfl) ?_ | refine st_sub2 rfl (ev_eq rfl) (ev_eq rfl) hS (by first | assumption | rfl) (by first | assumption | rfl) (by first | assumption | exact of_decide_eq_true rfl | simp) (by first | assumption | rfl) ?_ | refine st_sub3 rfl (ev_eq rfl) (ev_eq rfl) hS (by first | assumption | rfl) (by first | assumption | rfl) (by first | assumption | exact of_decide_eq_true rfl | simp) (by first | assumption | rfl) ?_ | refine st_sub4 rfl (ev_eq rfl) (ev_eq rfl) hS (by first | assumption | rfl) (by first | assumption | rfl) (by first | assumption | exact of_decide_eq_true rfl | simp) (by first | assumption | rfl) ?_ | refine st_sub5 rfl (ev_eq rfl) (ev_eq rfl) hS (by first | assumption | rfl) (by first | assumption | rfl) (by first | assumption | exact of_decide_eq_true rfl | simp) (by first | assumption | rfl) ?_ | refine st_sub6 rfl (ev_eq rfl) (ev_eq rfl) hS (by first | assumption | rfl) (by first | assumption | rfl) (by first | assumption | exact of_decide_eq_true rfl | simp) (by first | assumption | rfl) ?_ | refine st_sub7 rfl (ev_eq rfl) (ev_eq rfl) hS (by first | assumption | rfl) (by first | assumption | rfl) (by first | assumption | exact of_decide_eq_true rfl | simp) (by first | assumption | rfl) ?_ | refine st_sub8 rfl (ev_eq rfl) (ev_eq rfl) hS (by first | assumption | rfl) (by first | assumption | rfl) (by first | assumption | exact of_decide_eq_true rfl | simp) (by first | assumption | rfl) ?_); clear hS; intro W hS; refine hK _ _ ?_; clear hK K))
      refine (field_law b c _).mono ?_
      rintro e w' ⟨rfl, hB⟩
      replace hS := hS.step hB
      clear hB
      cases hok : c.ok
      · go_wp2_with fail
        exact bodyPost_ret (results_1 rfl rfl) rfl ⟨by rw [keeps_no HC.out (by unfold keepV; rw [hok]; rfl)], hS.below⟩
      have hv : fieldV b c = b.fld c.r c.limb.toNat := by unfold fieldV; rw [if_pos hok]
      rw [hv]
      clear hv
      have HOK := Lib.hid hok
      clear hok
      by_cases hgt : b.fld c.r c.limb.toNat > c.n
      · go_wp2_with (first
      | ((first | (with_reducible refine wpList_plain (o := ⟨some 2, .box _ _, _, _, _, _⟩) rfl fun K hK => ?_) | ((with_reducible refine BigFrame.wpList_want (o := ⟨some 2, .box _ _, _, _, _, _⟩) ?_ fun K hK => ?_); · rfl)); (first | refine wp_box_row rfl (ev_eq rfl) hS ?_ | refine wp_box_one rfl (ev_eq rfl) rfl hS ?_); clear hS; intro k2 W hS hBw hk0; clear hBw hk0; refine hK _ _ ?_; clear hK K)
      | ((first | (with_reducible refine wpList_plain (o := ⟨some 6, .alloc _, _, _, _, _⟩) rfl fun K hK => ?_) | ((with_reducible refine BigFrame.wpList_want (o := ⟨some 6, .alloc _, _, _, _, _⟩) ?_ fun K hK => ?_); · rfl)); (first | refine wp_alloc_row rfl rfl hS ?_ | refine wp_alloc_one rfl rfl rfl hS ?_); clear hS; intro k6 W hS hBw hk0; clear hBw hk0; refine hK _ _ ?_; clear hK K)
      | ((first | (with_reducible refine wpList_plain (o := ⟨_, .load _ _, _, _, _, _⟩) rfl fun K hK => ?_) | ((with_reducible refine BigFrame.wpList_want (o := ⟨_, .load _ _, _, _, _, _⟩) ?_ fun K hK => ?_); · rfl)); (first | refine wp_load_one rfl (ev_eq rfl) hS (by repeat (first | exact List.Mem.head _ | apply List.Mem.tail)) rfl (by first | rfl | assumption) ?_ | refine wp_load_row' rfl (ev_eq rfl) hS (by repeat (first | exact List.Mem.head _ | apply List.Mem.tail)) rfl (by first | assumption | rfl) ?_ | refine wp_load_sub rfl (ev_eq rfl) hS (by repeat (first | exact List.Mem.head _ | apply List.Mem.tail)) rfl rfl (by first | assumption | exact of_decide_eq_true rfl | (simp; omega)) (by assumption) ?_ | refine wp_load_at rfl (ev_eq rfl) rfl (by assumption) (by first | assumption | rfl) ?_ | refine wp_load_cell rfl (ev_eq rfl) rfl (by assumption) ?_); refine hK _ _ ?_; clear hK K)
      | ((first | (with_reducible refine wpList_plain (o := ⟨_, .store _ _ _, _, _, _, _⟩) rfl fun K hK => ?_) | ((with_reducible refine BigFrame.wpList_want (o := ⟨_, .store _ _ _, _, _, _, _⟩) ?_ fun K hK => ?_); · rfl)); (first | refine st_row0 rfl (ev_eq rfl) (ev_eq rfl) hS (by first | assumption | rfl) (by first | assumption | rfl) (by first | assumption | rfl) ?_ | refine st_row1 rfl (ev_eq rfl) (ev_eq rfl) hS (by first | assumption | rfl) (by first | assumption | rfl) (by first | assumption | rfl) ?_ | refine st_row2 rfl (ev_eq rfl) (ev_eq rfl) hS (by first | assumption | rfl) (by first | assumption | rfl) (by first | assumption | rfl) ?_ | refine st_row3 rfl (ev_eq rfl) (ev_eq rfl) hS (by first | assumption | rfl) (by first | assumption | rfl) (by first | assumption | rfl) ?_ | refine st_row4 rfl (ev_eq rfl) (ev_eq rfl) hS (by first | assumption | rfl) (by first | assumption | rfl) (by first | assumption | rfl) ?_ | refine st_row5 rfl (ev_eq rfl) (ev_eq rfl) hS (by first | assumption | rfl) (by first | assumption | rfl) (by first | assumption | rfl) ?_ | refine st_row6 rfl (ev_eq rfl) (ev_eq rfl) hS (by first | assumption | rfl) (by first | assumption | rfl) (by first | assumption | rfl) ?_ | refine st_row7 rfl (ev_eq rfl) (ev_eq rfl) hS (by first | assumption | rfl) (by first | assumption | rfl) (by first | assumption | rfl) ?_ | refine st_row8 rfl (ev_eq rfl) (ev_eq rfl) hS (by first | assumption | rfl) (by first | assumption | rfl) (by first | assumption | rfl) ?_ | refine st_one0 rfl (ev_eq rfl) (ev_eq rfl) hS (by first | assumption | rfl) rfl (by first | assumption | exact of_decide_eq_true rfl | simp) (by first | assumption | rfl) ?_ | refine st_one1 rfl (ev_eq rfl) (ev_eq rfl) hS (by first | assumption | rfl) rfl (by first | assumption | exact of_decide_eq_true rfl | simp) (by first | assumption | rfl) ?_ | refine st_one2 rfl (ev_eq rfl) (ev_eq rfl) hS (by first | assumption | rfl) rfl (by first | assumption | exact of_decide_eq_true rfl | simp) (by first | assumption | rfl) ?_ | refine st_one3 rfl (ev_eq rfl) (ev_eq rfl) hS (by first | assumption | rfl) rfl (by first | assumption | exact of_decide_eq_true rfl | simp) (by first | assumption | rfl) ?_ | refine st_one4 rfl (ev_eq rfl) (ev_eq rfl) hS (by first | assumption | rfl) rfl (by first | assumption | exact of_decide_eq_true rfl | simp) (by first | assumption | rfl) ?_ | refine st_one5 rfl (ev_eq rfl) (ev_eq rfl) hS (by first | assumption | rfl) rfl (by first | assumption | exact of_decide_eq_true rfl | simp) (by first | assumption | rfl) ?_ | refine st_one6 rfl (ev_eq rfl) (ev_eq rfl) hS (by first | assumption | rfl) rfl (by first | assumption | exact of_decide_eq_true rfl | simp) (by first | assumption | rfl) ?_ | refine st_one7 rfl (ev_eq rfl) (ev_eq rfl) hS (by first | assumption | rfl) rfl (by first | assumption | exact of_decide_eq_true rfl | simp) (by first | assumption | rfl) ?_ | refine st_one8 rfl (ev_eq rfl) (ev_eq rfl) hS (by first | assumption | rfl) rfl (by first | assumption | exact of_decide_eq_true rfl | simp) (by first | assumption | rfl) ?_ | refine st_sub0 rfl (ev_eq rfl) (ev_eq rfl) hS (by first | assumption | rfl) (by first | assumption | rfl) (by first | assumption | exact of_decide_eq_true rfl | simp) (by first | assumption | rfl) ?_ | refine st_sub1 rfl (ev_eq rfl) (ev_eq rfl) hS (by first | assumption | rfl) (by first | assumption | rfl) (by first | assumption | exact of_decide_eq_true rfl | simp) (by first | assumption | rfl) ?_ | refine st_sub2 rfl (ev_eq rfl) (ev_eq rfl) hS (by first | assumption | rfl) (by first | assumption | rfl) (by first | assumption | exact of_decide_eq_true rfl | simp) (by first | assumption | rfl) ?_ | refine st_sub3 rfl (ev_eq rfl) (ev_eq rfl) hS (by first | assumption | rfl) (by first | assumption | rfl) (by first | assumption | exact of_decide_eq_true rfl | simp) (by first | assumption | rfl) ?_ | refine st_sub4 rfl (ev_eq rfl) (ev_eq rfl) hS (by first | assumption | rfl) (by first | assumption | rfl) (by first | assumption | exact of_decide_eq_true rfl | simp) (by first | assumption | rfl) ?_ | refine st_sub5 rfl (ev_eq rfl) (ev_eq rfl) hS (by first | assumption | rfl) (by first | assumption | rfl) (by first | assumption | exact of_decide_eq_true rfl | simp) (by first | assumption | rfl) ?_ | refine st_sub6 rfl (ev_eq rfl) (ev_eq rfl) hS (by first | assumption | rfl) (by first | assumption | rfl) (by first | assumption | exact of_decide_eq_true rfl | simp) (by first | assumption | rfl) ?_ | refine st_sub7 rfl (ev_eq rfl) (ev_eq rfl) hS (by first | assumption | rfl) (by first | assumption | rfl) (by first | assumption | exact of_decide_eq_true rfl | simp) (by first | assumption | rfl) ?_ | refine st_sub8 rfl (ev_eq rfl) (ev_eq rfl) hS (by first | assumption | rfl) (by first | assumption | rfl) (by first | assumption | exact of_decide_eq_true rfl | simp) (by first | assumption | rfl) ?_); clear hS; intro W hS; refine hK _ _ ?_; clear hK K))
        exact bodyPost_ret (results_1 rfl rfl) rfl ⟨by rw [keeps_no HC.out (by unfold keepV; rw [HOK.out]; simp; omega)], hS.below⟩
      · go_wp2_with (first
      | ((first | (with_reducible refine wpList_plain (o := ⟨some 2, .box _ _, _, _, _, _⟩) rfl fun K hK => ?_) | ((with_reducible refine BigFrame.wpList_want (o := ⟨some 2, .box _ _, _, _, _, _⟩) ?_ fun K hK => ?_); · rfl)); (first | refine wp_box_row rfl (ev_eq rfl) hS ?_ | refine wp_box_one rfl (ev_eq rfl) rfl hS ?_); clear hS; intro k2 W hS hBw hk0; clear hBw hk0; refine hK _ _ ?_; clear hK K)
      | ((first | (with_reducible refine wpList_plain (o := ⟨some 6, .alloc _, _, _, _, _⟩) rfl fun K hK => ?_) | ((with_reducible refine BigFrame.wpList_want (o := ⟨some 6, .alloc _, _, _, _, _⟩) ?_ fun K hK => ?_); · rfl)); (first | refine wp_alloc_row rfl rfl hS ?_ | refine wp_alloc_one rfl rfl rfl hS ?_); clear hS; intro k6 W hS hBw hk0; clear hBw hk0; refine hK _ _ ?_; clear hK K)
      | ((first | (with_reducible refine wpList_plain (o := ⟨_, .load _ _, _, _, _, _⟩) rfl fun K hK => ?_) | ((with_reducible refine BigFrame.wpList_want (o := ⟨_, .load _ _, _, _, _, _⟩) ?_ fun K hK => ?_); · rfl)); (first | refine wp_load_one rfl (ev_eq rfl) hS (by repeat (first | exact List.Mem.head _ | apply List.Mem.tail)) rfl (by first | rfl | assumption) ?_ | refine wp_load_row' rfl (ev_eq rfl) hS (by repeat (first | exact List.Mem.head _ | apply List.Mem.tail)) rfl (by first | assumption | rfl) ?_ | refine wp_load_sub rfl (ev_eq rfl) hS (by repeat (first | exact List.Mem.head _ | apply List.Mem.tail)) rfl rfl (by first | assumption | exact of_decide_eq_true rfl | (simp; omega)) (by assumption) ?_ | refine wp_load_at rfl (ev_eq rfl) rfl (by assumption) (by first | assumption | rfl) ?_ | refine wp_load_cell rfl (ev_eq rfl) rfl (by assumption) ?_); refine hK _ _ ?_; clear hK K)
      | ((first | (with_reducible refine wpList_plain (o := ⟨_, .store _ _ _, _, _, _, _⟩) rfl fun K hK => ?_) | ((with_reducible refine BigFrame.wpList_want (o := ⟨_, .store _ _ _, _, _, _, _⟩) ?_ fun K hK => ?_); · rfl)); (first | refine st_row0 rfl (ev_eq rfl) (ev_eq rfl) hS (by first | assumption | rfl) (by first | assumption | rfl) (by first | assumption | rfl) ?_ | refine st_row1 rfl (ev_eq rfl) (ev_eq rfl) hS (by first | assumption | rfl) (by first | assumption | rfl) (by first | assumption | rfl) ?_ | refine st_row2 rfl (ev_eq rfl) (ev_eq rfl) hS (by first | assumption | rfl) (by first | assumption | rfl) (by first | assumption | rfl) ?_ | refine st_row3 rfl (ev_eq rfl) (ev_eq rfl) hS (by first | assumption | rfl) (by first | assumption | rfl) (by first | assumption | rfl) ?_ | refine st_row4 rfl (ev_eq rfl) (ev_eq rfl) hS (by first | assumption | rfl) (by first | assumption | rfl) (by first | assumption | rfl) ?_ | refine st_row5 rfl (ev_eq rfl) (ev_eq rfl) hS (by first | assumption | rfl) (by first | assumption | rfl) (by first | assumption | rfl) ?_ | refine st_row6 rfl (ev_eq rfl) (ev_eq rfl) hS (by first | assumption | rfl) (by first | assumption | rfl) (by first | assumption | rfl) ?_ | refine st_row7 rfl (ev_eq rfl) (ev_eq rfl) hS (by first | assumption | rfl) (by first | assumption | rfl) (by first | assumption | rfl) ?_ | refine st_row8 rfl (ev_eq rfl) (ev_eq rfl) hS (by first | assumption | rfl) (by first | assumption | rfl) (by first | assumption | rfl) ?_ | refine st_one0 rfl (ev_eq rfl) (ev_eq rfl) hS (by first | assumption | rfl) rfl (by first | assumption | exact of_decide_eq_true rfl | simp) (by first | assumption | rfl) ?_ | refine st_one1 rfl (ev_eq rfl) (ev_eq rfl) hS (by first | assumption | rfl) rfl (by first | assumption | exact of_decide_eq_true rfl | simp) (by first | assumption | rfl) ?_ | refine st_one2 rfl (ev_eq rfl) (ev_eq rfl) hS (by first | assumption | rfl) rfl (by first | assumption | exact of_decide_eq_true rfl | simp) (by first | assumption | rfl) ?_ | refine st_one3 rfl (ev_eq rfl) (ev_eq rfl) hS (by first | assumption | rfl) rfl (by first | assumption | exact of_decide_eq_true rfl | simp) (by first | assumption | rfl) ?_ | refine st_one4 rfl (ev_eq rfl) (ev_eq rfl) hS (by first | assumption | rfl) rfl (by first | assumption | exact of_decide_eq_true rfl | simp) (by first | assumption | rfl) ?_ | refine st_one5 rfl (ev_eq rfl) (ev_eq rfl) hS (by first | assumption | rfl) rfl (by first | assumption | exact of_decide_eq_true rfl | simp) (by first | assumption | rfl) ?_ | refine st_one6 rfl (ev_eq rfl) (ev_eq rfl) hS (by first | assumption | rfl) rfl (by first | assumption | exact of_decide_eq_true rfl | simp) (by first | assumption | rfl) ?_ | refine st_one7 rfl (ev_eq rfl) (ev_eq rfl) hS (by first | assumption | rfl) rfl (by first | assumption | exact of_decide_eq_true rfl | simp) (by first | assumption | rfl) ?_ | refine st_one8 rfl (ev_eq rfl) (ev_eq rfl) hS (by first | assumption | rfl) rfl (by first | assumption | exact of_decide_eq_true rfl | simp) (by first | assumption | rfl) ?_ | refine st_sub0 rfl (ev_eq rfl) (ev_eq rfl) hS (by first | assumption | rfl) (by first | assumption | rfl) (by first | assumption | exact of_decide_eq_true rfl | simp) (by first | assumption | rfl) ?_ | refine st_sub1 rfl (ev_eq rfl) (ev_eq rfl) hS (by first | assumption | rfl) (by first | assumption | rfl) (by first | assumption | exact of_decide_eq_true rfl | simp) (by first | assumption | rfl) ?_ | refine st_sub2 rfl (ev_eq rfl) (ev_eq rfl) hS (by first | assumption | rfl) (by first | assumption | rfl) (by first | assumption | exact of_decide_eq_true rfl | simp) (by first | assumption | rfl) ?_ | refine st_sub3 rfl (ev_eq rfl) (ev_eq rfl) hS (by first | assumption | rfl) (by first | assumption | rfl) (by first | assumption | exact of_decide_eq_true rfl | simp) (by first | assumption | rfl) ?_ | refine st_sub4 rfl (ev_eq rfl) (ev_eq rfl) hS (by first | assumption | rfl) (by first | assumption | rfl) (by first | assumption | exact of_decide_eq_true rfl | simp) (by first | assumption | rfl) ?_ | refine st_sub5 rfl (ev_eq rfl) (ev_eq rfl) hS (by first | assumption | rfl) (by first | assumption | rfl) (by first | assumption | exact of_decide_eq_true rfl | simp) (by first | assumption | rfl) ?_ | refine st_sub6 rfl (ev_eq rfl) (ev_eq rfl) hS (by first | assumption | rfl) (by first | assumption | rfl) (by first | assumption | exact of_decide_eq_true rfl | simp) (by first | assumption | rfl) ?_ | refine st_sub7 rfl (ev_eq rfl) (ev_eq rfl) hS (by first | assumption | rfl) (by first | assumption | rfl) (by first | assumption | exact of_decide_eq_true rfl | simp) (by first | assumption | rfl) ?_ | refine st_sub8 rfl (ev_eq rfl) (ev_eq rfl) hS (by first | assumption | rfl) (by first | assumption | rfl) (by first | assumption | exact of_decide_eq_true rfl | simp) (by first | assumption | rfl) ?_); clear hS; intro W hS; refine hK _ _ ?_; clear hK K))
        replace hS := hS.weak (.cons _ (.refl _)) (.refl _) fun _ h => h
        go_roundw
        case rel => exact ⟨k + 1, by omega, by go_num, keeps_succ HC.out hall (by unfold keepV; rw [HOK.out]; simp; omega), hS⟩
        case measure => simp [intOf]; omega
    · obtain rfl : k = n := by omega
      go_wp2_with fail
      exact bodyPost_ret (results_1 rfl rfl) rfl ⟨by rw [← hall.out, List.take_of_length_le (by rw [HL.out]; omega)], hS.below⟩
end Go.Proofs.Ytklppgkolcpbbaa
