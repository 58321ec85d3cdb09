/-
  Walk: the reference's Weaker.
-/
import Derived.Test.YtklppgkolcpbbaaBodyR4
import Derived.Test.YtklppgkolcpbbaaOps3
namespace Go.Proofs.Ytklppgkolcpbbaa
set_option linter.unusedSimpArgs false
set_option linter.unusedVariables false
open Go Go.RowKit

theorem toList_inj {p q : ByteArray} (h : p.toList = q.toList) : p = q := by
  simp only [ByteArray.toList_eq] at h
  have hd : p.data = q.data := by rw [← Array.toArray_toList (xs := p.data), h]
  cases p; cases q; simpa using hd
def limbK : List CK := [.i .i64, .i .i64, .i .i64]
theorem kinds22 : kindsT Try.prog 20 22 = some limbK := by kernel_rfl
theorem limbK_fits (x y z : Int) : fits limbK (limbs x y z).toList = true := rfl
theorem limbs_inj (x y z x' y' z' : Int) : limbs x y z = limbs x' y' z' ↔ x = x' ∧ y = y' ∧ z = z' := by simp [limbs]
theorem eqBase_iff (a b : Bod.Bd) : Bod.eqBase a b = true ↔ a.name = b.name ∧ a.weight = b.weight ∧ a.girth = b.girth ∧ limbs a.r0 a.r1 a.r2 = limbs b.r0 b.r1 b.r2 ∧ a.recover = b.recover := by
  unfold Bod.eqBase
  rw [limbs_inj, decide_eq_true_iff]
  simp only [and_assoc]
theorem weak_eq (a b : Bod.Bd) : (List.range 6).all (Bod.mostB a b) = (decide (a.lift ≤ b.lift) && decide (a.step ≤ b.step) && decide (a.jump ≤ b.jump) && (decide (a.s0 ≤ b.s0) && decide (a.s1 ≤ b.s1) && decide (a.s2 ≤ b.s2)) && (decide (a.t0 ≤ b.t0) && decide (a.t1 ≤ b.t1) && decide (a.t2 ≤ b.t2)) && decide (a.effort ≤ b.effort)) := by
  rw [Bool.eq_iff_iff]
  simp [Bod.mostB, List.range, List.range.loop, Bod.rlimb, Bod.Bd.fld]
  constructor <;> intro h <;> simp only [h, and_self]

set_option maxRecDepth 100000 in
set_option maxHeartbeats 4000000 in
theorem rweaker_any (a b : Bod.Bd) (w : World) (ha : a.name.size ≤ maxLen) (hb : b.name.size ≤ maxLen) :
    Calls Try.prog 19 #[valB a, valB b] w (WeakPost a b w) := by
  have hS := St.start w
  go_enter Try.func19, Try.ntmps19
  go_wp2_with (first
      | ((first | (with_reducible refine wpList_plain (o := ⟨some 2, .box _ _, _, _, _, _⟩) rfl fun K hK => ?_) | ((with_reducible refine BigFrame.wpList_want (o := ⟨some 2, .box _ _, _, _, _, _⟩) ?_ fun K hK => ?_); · rfl)); (first | refine wp_box_row rfl (ev_eq rfl) hS ?_ | refine wp_box_one rfl (ev_eq rfl) rfl hS ?_); clear hS; intro k2 W hS hBw hk0; clear hBw hk0; refine hK _ _ ?_; clear hK K)
      | ((first | (with_reducible refine wpList_plain (o := ⟨some 3, .box _ _, _, _, _, _⟩) rfl fun K hK => ?_) | ((with_reducible refine BigFrame.wpList_want (o := ⟨some 3, .box _ _, _, _, _, _⟩) ?_ fun K hK => ?_); · rfl)); (first | refine wp_box_row rfl (ev_eq rfl) hS ?_ | refine wp_box_one rfl (ev_eq rfl) rfl hS ?_); clear hS; intro k3 W hS hBw hk0; clear hBw hk0; refine hK _ _ ?_; clear hK K)
      | ((first | (with_reducible refine wpList_plain (o := ⟨_, .binOp .eql _ _ _ _, _, _, _, _⟩) rfl fun K hK => ?_) | ((with_reducible refine BigFrame.wpList_want (o := ⟨_, .binOp .eql _ _ _ _, _, _, _, _⟩) ?_ fun K hK => ?_); · rfl)); (first | refine wp_eqlS rfl (ev_eq rfl) (ev_eq rfl) (by assumption) ?_ | refine wp_eqlH rfl (ev_eq rfl) (ev_eq rfl) (by first | assumption | exact eqIs_refl _) (by assumption) rfl (by kernel_rfl) (by assumption) (by assumption) ?_); refine hK _ _ ?_; clear hK K)
      | ((first | (with_reducible refine wpList_plain (o := ⟨_, .binOp .neq _ _ _ _, _, _, _, _⟩) rfl fun K hK => ?_) | ((with_reducible refine BigFrame.wpList_want (o := ⟨_, .binOp .neq _ _ _ _, _, _, _, _⟩) ?_ fun K hK => ?_); · rfl)); (first | refine wp_neqS rfl (ev_eq rfl) (ev_eq rfl) (by assumption) ?_ | refine wp_neqH rfl (ev_eq rfl) (ev_eq rfl) (by first | assumption | exact eqIs_refl _) (by assumption) rfl (by kernel_rfl) (by assumption) (by assumption) ?_); refine hK _ _ ?_; clear hK K)
      | ((first | (with_reducible refine wpList_plain (o := ⟨_, .load _ _, _, _, _, _⟩) rfl fun K hK => ?_) | ((with_reducible refine BigFrame.wpList_want (o := ⟨_, .load _ _, _, _, _, _⟩) ?_ fun K hK => ?_); · rfl)); (first | refine wp_load_one rfl (ev_eq rfl) hS (by repeat (first | exact List.Mem.head _ | apply List.Mem.tail)) rfl (by first | rfl | assumption) ?_ | refine wp_load_row' rfl (ev_eq rfl) hS (by repeat (first | exact List.Mem.head _ | apply List.Mem.tail)) rfl (by first | assumption | rfl) ?_ | refine wp_load_sub rfl (ev_eq rfl) hS (by repeat (first | exact List.Mem.head _ | apply List.Mem.tail)) rfl rfl (by first | assumption | exact of_decide_eq_true rfl | (simp; omega)) (by assumption) ?_ | refine wp_load_at rfl (ev_eq rfl) rfl (by assumption) (by first | assumption | rfl) ?_ | refine wp_load_cell rfl (ev_eq rfl) rfl (by assumption) ?_); refine hK _ _ ?_; clear hK K))
  refine (rcheck_any a _ ha).mono ?_
  rintro e w' ⟨rfl, hb'⟩
  replace hS := hS.step hb'
  clear hb'
  rcases Bod.Bd.chk_iff a with ⟨hc, hok⟩ | ⟨hc, hok⟩
  case inr =>
    rw [hc]
    clear hc
    go_wp2_with fail
    exact bodyPost_ret (results_2 rfl rfl rfl) rfl (ret_weak (by unfold Bod.weakV; rw [hok]; rfl) (by unfold Bod.weakE; rw [hok]; rfl) hS.below)
  rw [hc]
  clear hc
  have oa := Lib.hid hok
  clear hok
  go_wp2_with (first
      | ((first | (with_reducible refine wpList_plain (o := ⟨some 2, .box _ _, _, _, _, _⟩) rfl fun K hK => ?_) | ((with_reducible refine BigFrame.wpList_want (o := ⟨some 2, .box _ _, _, _, _, _⟩) ?_ fun K hK => ?_); · rfl)); (first | refine wp_box_row rfl (ev_eq rfl) hS ?_ | refine wp_box_one rfl (ev_eq rfl) rfl hS ?_); clear hS; intro k2 W hS hBw hk0; clear hBw hk0; refine hK _ _ ?_; clear hK K)
      | ((first | (with_reducible refine wpList_plain (o := ⟨some 3, .box _ _, _, _, _, _⟩) rfl fun K hK => ?_) | ((with_reducible refine BigFrame.wpList_want (o := ⟨some 3, .box _ _, _, _, _, _⟩) ?_ fun K hK => ?_); · rfl)); (first | refine wp_box_row rfl (ev_eq rfl) hS ?_ | refine wp_box_one rfl (ev_eq rfl) rfl hS ?_); clear hS; intro k3 W hS hBw hk0; clear hBw hk0; refine hK _ _ ?_; clear hK K)
      | ((first | (with_reducible refine wpList_plain (o := ⟨_, .binOp .eql _ _ _ _, _, _, _, _⟩) rfl fun K hK => ?_) | ((with_reducible refine BigFrame.wpList_want (o := ⟨_, .binOp .eql _ _ _ _, _, _, _, _⟩) ?_ fun K hK => ?_); · rfl)); (first | refine wp_eqlS rfl (ev_eq rfl) (ev_eq rfl) (by assumption) ?_ | refine wp_eqlH rfl (ev_eq rfl) (ev_eq rfl) (by first | assumption | exact eqIs_refl _) (by assumption) rfl (by kernel_rfl) (by assumption) (by assumption) ?_); refine hK _ _ ?_; clear hK K)
      | ((first | (with_reducible refine wpList_plain (o := ⟨_, .binOp .neq _ _ _ _, _, _, _, _⟩) rfl fun K hK => ?_) | ((with_reducible refine BigFrame.wpList_want (o := ⟨_, .binOp .neq _ _ _ _, _, _, _, _⟩) ?_ fun K hK => ?_); · rfl)); (first | refine wp_neqS rfl (ev_eq rfl) (ev_eq rfl) (by assumption) ?_ | refine wp_neqH rfl (ev_eq rfl) (ev_eq rfl) (by first | assumption | exact eqIs_refl _) (by assumption) rfl (by kernel_rfl) (by assumption) (by assumption) ?_); refine hK _ _ ?_; clear hK K)
      | ((first | (with_reducible refine wpList_plain (o := ⟨_, .load _ _, _, _, _, _⟩) rfl fun K hK => ?_) | ((with_reducible refine BigFrame.wpList_want (o := ⟨_, .load _ _, _, _, _, _⟩) ?_ fun K hK => ?_); · rfl)); (first | refine wp_load_one rfl (ev_eq rfl) hS (by repeat (first | exact List.Mem.head _ | apply List.Mem.tail)) rfl (by first | rfl | assumption) ?_ | refine wp_load_row' rfl (ev_eq rfl) hS (by repeat (first | exact List.Mem.head _ | apply List.Mem.tail)) rfl (by first | assumption | rfl) ?_ | refine wp_load_sub rfl (ev_eq rfl) hS (by repeat (first | exact List.Mem.head _ | apply List.Mem.tail)) rfl rfl (by first | assumption | exact of_decide_eq_true rfl | (simp; omega)) (by assumption) ?_ | refine wp_load_at rfl (ev_eq rfl) rfl (by assumption) (by first | assumption | rfl) ?_ | refine wp_load_cell rfl (ev_eq rfl) rfl (by assumption) ?_); refine hK _ _ ?_; clear hK K))
  refine (rcheck_any b _ hb).mono ?_
  rintro e w' ⟨rfl, hb'⟩
  replace hS := hS.step hb'
  clear hb'
  rcases Bod.Bd.chk_iff b with ⟨hc, hok⟩ | ⟨hc, hok⟩
  case inr =>
    rw [hc]
    have hcc := Lib.hid hc
    clear hc
    go_wp2_with fail
    exact bodyPost_ret (results_2 rfl rfl rfl) rfl (ret_weak (by unfold Bod.weakV; rw [oa.out, hok]; rfl) (by unfold Bod.weakE; rw [if_pos oa.out, hcc.out]) hS.below)
  rw [hc]
  have hcc := Lib.hid hc
  clear hc
  have ob := Lib.hid hok
  clear hok
  have hE : Bod.weakE a b = 0 := by unfold Bod.weakE; rw [if_pos oa.out, hcc.out]
  have HE := Lib.hid hE
  clear hE hcc
  have hx1 : (cellsB a).extract 6 (6 + 3) = limbs a.r0 a.r1 a.r2 := rfl
  have hx2 : (cellsB b).extract 6 (6 + 3) = limbs b.r0 b.r1 b.r2 := rfl
  have hx3 : (cellsB a).extract 9 (9 + 3) = limbs a.s0 a.s1 a.s2 := rfl
  have hx4 : (cellsB b).extract 9 (9 + 3) = limbs b.s0 b.s1 b.s2 := rfl
  have hx5 : (cellsB a).extract 12 (12 + 3) = limbs a.t0 a.t1 a.t2 := rfl
  have hx6 : (cellsB b).extract 12 (12 + 3) = limbs b.t0 b.t1 b.t2 := rfl
  have hk22 := Lib.hid kinds22
  have f1 := Lib.hid (limbK_fits a.r0 a.r1 a.r2)
  have f2 := Lib.hid (limbK_fits b.r0 b.r1 b.r2)
  by_cases c0 : a.name = b.name
  case neg =>
    have hB0 : EqIs false (a.name = b.name) := by simp [EqIs, c0]
    have hno : Bod.weakV a b = false := by
      have : Bod.eqBase a b = false := by rw [← Bool.not_eq_true, eqBase_iff]; exact fun h => c0 h.1
      unfold Bod.weakV Bod.weakB
      rw [this]
      simp
    have HN := Lib.hid hno
    clear hno c0
    go_wp2_with (first
      | ((first | (with_reducible refine wpList_plain (o := ⟨some 2, .box _ _, _, _, _, _⟩) rfl fun K hK => ?_) | ((with_reducible refine BigFrame.wpList_want (o := ⟨some 2, .box _ _, _, _, _, _⟩) ?_ fun K hK => ?_); · rfl)); (first | refine wp_box_row rfl (ev_eq rfl) hS ?_ | refine wp_box_one rfl (ev_eq rfl) rfl hS ?_); clear hS; intro k2 W hS hBw hk0; clear hBw hk0; refine hK _ _ ?_; clear hK K)
      | ((first | (with_reducible refine wpList_plain (o := ⟨some 3, .box _ _, _, _, _, _⟩) rfl fun K hK => ?_) | ((with_reducible refine BigFrame.wpList_want (o := ⟨some 3, .box _ _, _, _, _, _⟩) ?_ fun K hK => ?_); · rfl)); (first | refine wp_box_row rfl (ev_eq rfl) hS ?_ | refine wp_box_one rfl (ev_eq rfl) rfl hS ?_); clear hS; intro k3 W hS hBw hk0; clear hBw hk0; refine hK _ _ ?_; clear hK K)
      | ((first | (with_reducible refine wpList_plain (o := ⟨_, .binOp .eql _ _ _ _, _, _, _, _⟩) rfl fun K hK => ?_) | ((with_reducible refine BigFrame.wpList_want (o := ⟨_, .binOp .eql _ _ _ _, _, _, _, _⟩) ?_ fun K hK => ?_); · rfl)); (first | refine wp_eqlS rfl (ev_eq rfl) (ev_eq rfl) (by assumption) ?_ | refine wp_eqlH rfl (ev_eq rfl) (ev_eq rfl) (by first | assumption | exact eqIs_refl _) (by assumption) rfl (by kernel_rfl) (by assumption) (by assumption) ?_); refine hK _ _ ?_; clear hK K)
      | ((first | (with_reducible refine wpList_plain (o := ⟨_, .binOp .neq _ _ _ _, _, _, _, _⟩) rfl fun K hK => ?_) | ((with_reducible refine BigFrame.wpList_want (o := ⟨_, .binOp .neq _ _ _ _, _, _, _, _⟩) ?_ fun K hK => ?_); · rfl)); (first | refine wp_neqS rfl (ev_eq rfl) (ev_eq rfl) (by assumption) ?_ | refine wp_neqH rfl (ev_eq rfl) (ev_eq rfl) (by first | assumption | exact eqIs_refl _) (by assumption) rfl (by kernel_rfl) (by assumption) (by assumption) ?_); refine hK _ _ ?_; clear hK K)
      | ((first | (with_reducible refine wpList_plain (o := ⟨_, .load _ _, _, _, _, _⟩) rfl fun K hK => ?_) | ((with_reducible refine BigFrame.wpList_want (o := ⟨_, .load _ _, _, _, _, _⟩) ?_ fun K hK => ?_); · rfl)); (first | refine wp_load_one rfl (ev_eq rfl) hS (by repeat (first | exact List.Mem.head _ | apply List.Mem.tail)) rfl (by first | rfl | assumption) ?_ | refine wp_load_row' rfl (ev_eq rfl) hS (by repeat (first | exact List.Mem.head _ | apply List.Mem.tail)) rfl (by first | assumption | rfl) ?_ | refine wp_load_sub rfl (ev_eq rfl) hS (by repeat (first | exact List.Mem.head _ | apply List.Mem.tail)) rfl rfl (by first | assumption | exact of_decide_eq_true rfl | (simp; omega)) (by assumption) ?_ | refine wp_load_at rfl (ev_eq rfl) rfl (by assumption) (by first | assumption | rfl) ?_ | refine wp_load_cell rfl (ev_eq rfl) rfl (by assumption) ?_); refine hK _ _ ?_; clear hK K))
    exact bodyPost_ret (results_2 rfl rfl rfl) rfl (ret_weak HN.out HE.out hS.below)
  have hB0 : EqIs true (a.name = b.name) := by simp [EqIs, c0]
  have C0 := Lib.hid c0
  clear c0
  by_cases c1 : a.weight = b.weight
  case neg =>
    have n1a : (a.weight == b.weight) = false := by first | (rw [c1]; simp) | (rw [beq_eq_false_iff_ne]; exact c1)
    have n1b : (a.weight != b.weight) = true := by rw [bne, n1a]; rfl
    have hno : Bod.weakV a b = false := by
      have : Bod.eqBase a b = false := by rw [← Bool.not_eq_true, eqBase_iff]; exact fun h => c1 h.2.1
      unfold Bod.weakV Bod.weakB
      rw [this]
      simp
    have HN := Lib.hid hno
    clear hno c1
    go_wp2_with (first
      | ((first | (with_reducible refine wpList_plain (o := ⟨some 2, .box _ _, _, _, _, _⟩) rfl fun K hK => ?_) | ((with_reducible refine BigFrame.wpList_want (o := ⟨some 2, .box _ _, _, _, _, _⟩) ?_ fun K hK => ?_); · rfl)); (first | refine wp_box_row rfl (ev_eq rfl) hS ?_ | refine wp_box_one rfl (ev_eq rfl) rfl hS ?_); clear hS; intro k2 W hS hBw hk0; clear hBw hk0; refine hK _ _ ?_; clear hK K)
      | ((first | (with_reducible refine wpList_plain (o := ⟨some 3, .box _ _, _, _, _, _⟩) rfl fun K hK => ?_) | ((with_reducible refine BigFrame.wpList_want (o := ⟨some 3, .box _ _, _, _, _, _⟩) ?_ fun K hK => ?_); · rfl)); (first | refine wp_box_row rfl (ev_eq rfl) hS ?_ | refine wp_box_one rfl (ev_eq rfl) rfl hS ?_); clear hS; intro k3 W hS hBw hk0; clear hBw hk0; refine hK _ _ ?_; clear hK K)
      | ((first | (with_reducible refine wpList_plain (o := ⟨_, .binOp .eql _ _ _ _, _, _, _, _⟩) rfl fun K hK => ?_) | ((with_reducible refine BigFrame.wpList_want (o := ⟨_, .binOp .eql _ _ _ _, _, _, _, _⟩) ?_ fun K hK => ?_); · rfl)); (first | refine wp_eqlS rfl (ev_eq rfl) (ev_eq rfl) (by assumption) ?_ | refine wp_eqlH rfl (ev_eq rfl) (ev_eq rfl) (by first | assumption | exact eqIs_refl _) (by assumption) rfl (by kernel_rfl) (by assumption) (by assumption) ?_); refine hK _ _ ?_; clear hK K)
      | ((first | (with_reducible refine wpList_plain (o := ⟨_, .binOp .neq _ _ _ _, _, _, _, _⟩) rfl fun K hK => ?_) | ((with_reducible refine BigFrame.wpList_want (o := ⟨_, .binOp .neq _ _ _ _, _, _, _, _⟩) ?_ fun K hK => ?_); · rfl)); (first | refine wp_neqS rfl (ev_eq rfl) (ev_eq rfl) (by assumption) ?_ | refine wp_neqH rfl (ev_eq rfl) (ev_eq rfl) (by first | assumption | exact eqIs_refl _) (by assumption) rfl (by kernel_rfl) (by assumption) (by assumption) ?_); refine hK _ _ ?_; clear hK K)
      | ((first | (with_reducible refine wpList_plain (o := ⟨_, .load _ _, _, _, _, _⟩) rfl fun K hK => ?_) | ((with_reducible refine BigFrame.wpList_want (o := ⟨_, .load _ _, _, _, _, _⟩) ?_ fun K hK => ?_); · rfl)); (first | refine wp_load_one rfl (ev_eq rfl) hS (by repeat (first | exact List.Mem.head _ | apply List.Mem.tail)) rfl (by first | rfl | assumption) ?_ | refine wp_load_row' rfl (ev_eq rfl) hS (by repeat (first | exact List.Mem.head _ | apply List.Mem.tail)) rfl (by first | assumption | rfl) ?_ | refine wp_load_sub rfl (ev_eq rfl) hS (by repeat (first | exact List.Mem.head _ | apply List.Mem.tail)) rfl rfl (by first | assumption | exact of_decide_eq_true rfl | (simp; omega)) (by assumption) ?_ | refine wp_load_at rfl (ev_eq rfl) rfl (by assumption) (by first | assumption | rfl) ?_ | refine wp_load_cell rfl (ev_eq rfl) rfl (by assumption) ?_); refine hK _ _ ?_; clear hK K))
    exact bodyPost_ret (results_2 rfl rfl rfl) rfl (ret_weak HN.out HE.out hS.below)
  have n1a : (a.weight == b.weight) = true := by first | (rw [c1]; simp) | (rw [beq_eq_false_iff_ne]; exact c1)
  have n1b : (a.weight != b.weight) = false := by rw [bne, n1a]; rfl
  have C1 := Lib.hid c1
  clear c1
  by_cases c2 : a.girth = b.girth
  case neg =>
    have n2a : (a.girth == b.girth) = false := by first | (rw [c2]; simp) | (rw [beq_eq_false_iff_ne]; exact c2)
    have n2b : (a.girth != b.girth) = true := by rw [bne, n2a]; rfl
    have hno : Bod.weakV a b = false := by
      have : Bod.eqBase a b = false := by rw [← Bool.not_eq_true, eqBase_iff]; exact fun h => c2 h.2.2.1
      unfold Bod.weakV Bod.weakB
      rw [this]
      simp
    have HN := Lib.hid hno
    clear hno c2
    go_wp2_with (first
      | ((first | (with_reducible refine wpList_plain (o := ⟨some 2, .box _ _, _, _, _, _⟩) rfl fun K hK => ?_) | ((with_reducible refine BigFrame.wpList_want (o := ⟨some 2, .box _ _, _, _, _, _⟩) ?_ fun K hK => ?_); · rfl)); (first | refine wp_box_row rfl (ev_eq rfl) hS ?_ | refine wp_box_one rfl (ev_eq rfl) rfl hS ?_); clear hS; intro k2 W hS hBw hk0; clear hBw hk0; refine hK _ _ ?_; clear hK K)
      | ((first | (with_reducible refine wpList_plain (o := ⟨some 3, .box _ _, _, _, _, _⟩) rfl fun K hK => ?_) | ((with_reducible refine BigFrame.wpList_want (o := ⟨some 3, .box _ _, _, _, _, _⟩) ?_ fun K hK => ?_); · rfl)); (first | refine wp_box_row rfl (ev_eq rfl) hS ?_ | refine wp_box_one rfl (ev_eq rfl) rfl hS ?_); clear hS; intro k3 W hS hBw hk0; clear hBw hk0; refine hK _ _ ?_; clear hK K)
      | ((first | (with_reducible refine wpList_plain (o := ⟨_, .binOp .eql _ _ _ _, _, _, _, _⟩) rfl fun K hK => ?_) | ((with_reducible refine BigFrame.wpList_want (o := ⟨_, .binOp .eql _ _ _ _, _, _, _, _⟩) ?_ fun K hK => ?_); · rfl)); (first | refine wp_eqlS rfl (ev_eq rfl) (ev_eq rfl) (by assumption) ?_ | refine wp_eqlH rfl (ev_eq rfl) (ev_eq rfl) (by first | assumption | exact eqIs_refl _) (by assumption) rfl (by kernel_rfl) (by assumption) (by assumption) ?_); refine hK _ _ ?_; clear hK K)
      | ((first | (with_reducible refine wpList_plain (o := ⟨_, .binOp .neq _ _ _ _, _, _, _, _⟩) rfl fun K hK => ?_) | ((with_reducible refine BigFrame.wpList_want (o := ⟨_, .binOp .neq _ _ _ _, _, _, _, _⟩) ?_ fun K hK => ?_); · rfl)); (first | refine wp_neqS rfl (ev_eq rfl) (ev_eq rfl) (by assumption) ?_ | refine wp_neqH rfl (ev_eq rfl) (ev_eq rfl) (by first | assumption | exact eqIs_refl _) (by assumption) rfl (by kernel_rfl) (by assumption) (by assumption) ?_); refine hK _ _ ?_; clear hK K)
      | ((first | (with_reducible refine wpList_plain (o := ⟨_, .load _ _, _, _, _, _⟩) rfl fun K hK => ?_) | ((with_reducible refine BigFrame.wpList_want (o := ⟨_, .load _ _, _, _, _, _⟩) ?_ fun K hK => ?_); · rfl)); (first | refine wp_load_one rfl (ev_eq rfl) hS (by repeat (first | exact List.Mem.head _ | apply List.Mem.tail)) rfl (by first | rfl | assumption) ?_ | refine wp_load_row' rfl (ev_eq rfl) hS (by repeat (first | exact List.Mem.head _ | apply List.Mem.tail)) rfl (by first | assumption | rfl) ?_ | refine wp_load_sub rfl (ev_eq rfl) hS (by repeat (first | exact List.Mem.head _ | apply List.Mem.tail)) rfl rfl (by first | assumption | exact of_decide_eq_true rfl | (simp; omega)) (by assumption) ?_ | refine wp_load_at rfl (ev_eq rfl) rfl (by assumption) (by first | assumption | rfl) ?_ | refine wp_load_cell rfl (ev_eq rfl) rfl (by assumption) ?_); refine hK _ _ ?_; clear hK K))
    exact bodyPost_ret (results_2 rfl rfl rfl) rfl (ret_weak HN.out HE.out hS.below)
  have n2a : (a.girth == b.girth) = true := by first | (rw [c2]; simp) | (rw [beq_eq_false_iff_ne]; exact c2)
  have n2b : (a.girth != b.girth) = false := by rw [bne, n2a]; rfl
  have C2 := Lib.hid c2
  clear c2
  by_cases c3 : limbs a.r0 a.r1 a.r2 = limbs b.r0 b.r1 b.r2
  case neg =>
    have hB3 : EqIs false (limbs a.r0 a.r1 a.r2 = limbs b.r0 b.r1 b.r2) := by simp [EqIs, c3]
    have hno : Bod.weakV a b = false := by
      have : Bod.eqBase a b = false := by rw [← Bool.not_eq_true, eqBase_iff]; exact fun h => c3 h.2.2.2.1
      unfold Bod.weakV Bod.weakB
      rw [this]
      simp
    have HN := Lib.hid hno
    clear hno c3
    go_wp2_with (first
      | ((first | (with_reducible refine wpList_plain (o := ⟨some 2, .box _ _, _, _, _, _⟩) rfl fun K hK => ?_) | ((with_reducible refine BigFrame.wpList_want (o := ⟨some 2, .box _ _, _, _, _, _⟩) ?_ fun K hK => ?_); · rfl)); (first | refine wp_box_row rfl (ev_eq rfl) hS ?_ | refine wp_box_one rfl (ev_eq rfl) rfl hS ?_); clear hS; intro k2 W hS hBw hk0; clear hBw hk0; refine hK _ _ ?_; clear hK K)
      | ((first | (with_reducible refine wpList_plain (o := ⟨some 3, .box _ _, _, _, _, _⟩) rfl fun K hK => ?_) | ((with_reducible refine BigFrame.wpList_want (o := ⟨some 3, .box _ _, _, _, _, _⟩) ?_ fun K hK => ?_); · rfl)); (first | refine wp_box_row rfl (ev_eq rfl) hS ?_ | refine wp_box_one rfl (ev_eq rfl) rfl hS ?_); clear hS; intro k3 W hS hBw hk0; clear hBw hk0; refine hK _ _ ?_; clear hK K)
      | ((first | (with_reducible refine wpList_plain (o := ⟨_, .binOp .eql _ _ _ _, _, _, _, _⟩) rfl fun K hK => ?_) | ((with_reducible refine BigFrame.wpList_want (o := ⟨_, .binOp .eql _ _ _ _, _, _, _, _⟩) ?_ fun K hK => ?_); · rfl)); (first | refine wp_eqlS rfl (ev_eq rfl) (ev_eq rfl) (by assumption) ?_ | refine wp_eqlH rfl (ev_eq rfl) (ev_eq rfl) (by first | assumption | exact eqIs_refl _) (by assumption) rfl (by kernel_rfl) (by assumption) (by assumption) ?_); refine hK _ _ ?_; clear hK K)
      | ((first | (with_reducible refine wpList_plain (o := ⟨_, .binOp .neq _ _ _ _, _, _, _, _⟩) rfl fun K hK => ?_) | ((with_reducible refine BigFrame.wpList_want (o := ⟨_, .binOp .neq _ _ _ _, _, _, _, _⟩) ?_ fun K hK => ?_); · rfl)); (first | refine wp_neqS rfl (ev_eq rfl) (ev_eq rfl) (by assumption) ?_ | refine wp_neqH rfl (ev_eq rfl) (ev_eq rfl) (by first | assumption | exact eqIs_refl _) (by assumption) rfl (by kernel_rfl) (by assumption) (by assumption) ?_); refine hK _ _ ?_; clear hK K)
      | ((first | (with_reducible refine wpList_plain (o := ⟨_, .load _ _, _, _, _, _⟩) rfl fun K hK => ?_) | ((with_reducible refine BigFrame.wpList_want (o := ⟨_, .load _ _, _, _, _, _⟩) ?_ fun K hK => ?_); · rfl)); (first | refine wp_load_one rfl (ev_eq rfl) hS (by repeat (first | exact List.Mem.head _ | apply List.Mem.tail)) rfl (by first | rfl | assumption) ?_ | refine wp_load_row' rfl (ev_eq rfl) hS (by repeat (first | exact List.Mem.head _ | apply List.Mem.tail)) rfl (by first | assumption | rfl) ?_ | refine wp_load_sub rfl (ev_eq rfl) hS (by repeat (first | exact List.Mem.head _ | apply List.Mem.tail)) rfl rfl (by first | assumption | exact of_decide_eq_true rfl | (simp; omega)) (by assumption) ?_ | refine wp_load_at rfl (ev_eq rfl) rfl (by assumption) (by first | assumption | rfl) ?_ | refine wp_load_cell rfl (ev_eq rfl) rfl (by assumption) ?_); refine hK _ _ ?_; clear hK K))
    exact bodyPost_ret (results_2 rfl rfl rfl) rfl (ret_weak HN.out HE.out hS.below)
  have hB3 : EqIs true (limbs a.r0 a.r1 a.r2 = limbs b.r0 b.r1 b.r2) := by simp [EqIs, c3]
  have C3 := Lib.hid c3
  clear c3
  by_cases c4 : a.recover = b.recover
  case neg =>
    have n4a : (a.recover == b.recover) = false := by first | (rw [c4]; simp) | (rw [beq_eq_false_iff_ne]; exact c4)
    have n4b : (a.recover != b.recover) = true := by rw [bne, n4a]; rfl
    have hno : Bod.weakV a b = false := by
      have : Bod.eqBase a b = false := by rw [← Bool.not_eq_true, eqBase_iff]; exact fun h => c4 h.2.2.2.2
      unfold Bod.weakV Bod.weakB
      rw [this]
      simp
    have HN := Lib.hid hno
    clear hno c4
    go_wp2_with (first
      | ((first | (with_reducible refine wpList_plain (o := ⟨some 2, .box _ _, _, _, _, _⟩) rfl fun K hK => ?_) | ((with_reducible refine BigFrame.wpList_want (o := ⟨some 2, .box _ _, _, _, _, _⟩) ?_ fun K hK => ?_); · rfl)); (first | refine wp_box_row rfl (ev_eq rfl) hS ?_ | refine wp_box_one rfl (ev_eq rfl) rfl hS ?_); clear hS; intro k2 W hS hBw hk0; clear hBw hk0; refine hK _ _ ?_; clear hK K)
      | ((first | (with_reducible refine wpList_plain (o := ⟨some 3, .box _ _, _, _, _, _⟩) rfl fun K hK => ?_) | ((with_reducible refine BigFrame.wpList_want (o := ⟨some 3, .box _ _, _, _, _, _⟩) ?_ fun K hK => ?_); · rfl)); (first | refine wp_box_row rfl (ev_eq rfl) hS ?_ | refine wp_box_one rfl (ev_eq rfl) rfl hS ?_); clear hS; intro k3 W hS hBw hk0; clear hBw hk0; refine hK _ _ ?_; clear hK K)
      | ((first | (with_reducible refine wpList_plain (o := ⟨_, .binOp .eql _ _ _ _, _, _, _, _⟩) rfl fun K hK => ?_) | ((with_reducible refine BigFrame.wpList_want (o := ⟨_, .binOp .eql _ _ _ _, _, _, _, _⟩) ?_ fun K hK => ?_); · rfl)); (first | refine wp_eqlS rfl (ev_eq rfl) (ev_eq rfl) (by assumption) ?_ | refine wp_eqlH rfl (ev_eq rfl) (ev_eq rfl) (by first | assumption | exact eqIs_refl _) (by assumption) rfl (by kernel_rfl) (by assumption) (by assumption) ?_); refine hK _ _ ?_; clear hK K)
      | ((first | (with_reducible refine wpList_plain (o := ⟨_, .binOp .neq _ _ _ _, _, _, _, _⟩) rfl fun K hK => ?_) | ((with_reducible refine BigFrame.wpList_want (o := ⟨_, .binOp .neq _ _ _ _, _, _, _, _⟩) ?_ fun K hK => ?_); · rfl)); (first | refine wp_neqS rfl (ev_eq rfl) (ev_eq rfl) (by assumption) ?_ | refine wp_neqH rfl (ev_eq rfl) (ev_eq rfl) (by first | assumption | exact eqIs_refl _) (by assumption) rfl (by kernel_rfl) (by assumption) (by assumption) ?_); refine hK _ _ ?_; clear hK K)
      | ((first | (with_reducible refine wpList_plain (o := ⟨_, .load _ _, _, _, _, _⟩) rfl fun K hK => ?_) | ((with_reducible refine BigFrame.wpList_want (o := ⟨_, .load _ _, _, _, _, _⟩) ?_ fun K hK => ?_); · rfl)); (first | refine wp_load_one rfl (ev_eq rfl) hS (by repeat (first | exact List.Mem.head _ | apply List.Mem.tail)) rfl (by first | rfl | assumption) ?_ | refine wp_load_row' rfl (ev_eq rfl) hS (by repeat (first | exact List.Mem.head _ | apply List.Mem.tail)) rfl (by first | assumption | rfl) ?_ | refine wp_load_sub rfl (ev_eq rfl) hS (by repeat (first | exact List.Mem.head _ | apply List.Mem.tail)) rfl rfl (by first | assumption | exact of_decide_eq_true rfl | (simp; omega)) (by assumption) ?_ | refine wp_load_at rfl (ev_eq rfl) rfl (by assumption) (by first | assumption | rfl) ?_ | refine wp_load_cell rfl (ev_eq rfl) rfl (by assumption) ?_); refine hK _ _ ?_; clear hK K))
    exact bodyPost_ret (results_2 rfl rfl rfl) rfl (ret_weak HN.out HE.out hS.below)
  have n4a : (a.recover == b.recover) = true := by first | (rw [c4]; simp) | (rw [beq_eq_false_iff_ne]; exact c4)
  have n4b : (a.recover != b.recover) = false := by rw [bne, n4a]; rfl
  have C4 := Lib.hid c4
  clear c4
  have hbase : Bod.eqBase a b = true := (eqBase_iff a b).2 ⟨C0.out, C1.out, C2.out, C3.out, C4.out⟩
  have hV : Bod.weakV a b = (List.range 6).all (Bod.mostB a b) := by unfold Bod.weakV Bod.weakB; rw [oa.out, ob.out, hbase]; simp
  rw [weak_eq] at hV
  have HV := Lib.hid hV
  clear hV hbase
  by_cases dlift : a.lift ≤ b.lift
  case neg =>
    have hno : Bod.weakV a b = false := by rw [HV.out, decide_eq_false dlift]; simp
    have HN := Lib.hid hno
    clear hno
    go_wp2_with (first
      | ((first | (with_reducible refine wpList_plain (o := ⟨some 2, .box _ _, _, _, _, _⟩) rfl fun K hK => ?_) | ((with_reducible refine BigFrame.wpList_want (o := ⟨some 2, .box _ _, _, _, _, _⟩) ?_ fun K hK => ?_); · rfl)); (first | refine wp_box_row rfl (ev_eq rfl) hS ?_ | refine wp_box_one rfl (ev_eq rfl) rfl hS ?_); clear hS; intro k2 W hS hBw hk0; clear hBw hk0; refine hK _ _ ?_; clear hK K)
      | ((first | (with_reducible refine wpList_plain (o := ⟨some 3, .box _ _, _, _, _, _⟩) rfl fun K hK => ?_) | ((with_reducible refine BigFrame.wpList_want (o := ⟨some 3, .box _ _, _, _, _, _⟩) ?_ fun K hK => ?_); · rfl)); (first | refine wp_box_row rfl (ev_eq rfl) hS ?_ | refine wp_box_one rfl (ev_eq rfl) rfl hS ?_); clear hS; intro k3 W hS hBw hk0; clear hBw hk0; refine hK _ _ ?_; clear hK K)
      | ((first | (with_reducible refine wpList_plain (o := ⟨_, .binOp .eql _ _ _ _, _, _, _, _⟩) rfl fun K hK => ?_) | ((with_reducible refine BigFrame.wpList_want (o := ⟨_, .binOp .eql _ _ _ _, _, _, _, _⟩) ?_ fun K hK => ?_); · rfl)); (first | refine wp_eqlS rfl (ev_eq rfl) (ev_eq rfl) (by assumption) ?_ | refine wp_eqlH rfl (ev_eq rfl) (ev_eq rfl) (by first | assumption | exact eqIs_refl _) (by assumption) rfl (by kernel_rfl) (by assumption) (by assumption) ?_); refine hK _ _ ?_; clear hK K)
      | ((first | (with_reducible refine wpList_plain (o := ⟨_, .binOp .neq _ _ _ _, _, _, _, _⟩) rfl fun K hK => ?_) | ((with_reducible refine BigFrame.wpList_want (o := ⟨_, .binOp .neq _ _ _ _, _, _, _, _⟩) ?_ fun K hK => ?_); · rfl)); (first | refine wp_neqS rfl (ev_eq rfl) (ev_eq rfl) (by assumption) ?_ | refine wp_neqH rfl (ev_eq rfl) (ev_eq rfl) (by first | assumption | exact eqIs_refl _) (by assumption) rfl (by kernel_rfl) (by assumption) (by assumption) ?_); refine hK _ _ ?_; clear hK K)
      | ((first | (with_reducible refine wpList_plain (o := ⟨_, .load _ _, _, _, _, _⟩) rfl fun K hK => ?_) | ((with_reducible refine BigFrame.wpList_want (o := ⟨_, .load _ _, _, _, _, _⟩) ?_ fun K hK => ?_); · rfl)); (first | refine wp_load_one rfl (ev_eq rfl) hS (by repeat (first | exact List.Mem.head _ | apply List.Mem.tail)) rfl (by first | rfl | assumption) ?_ | refine wp_load_row' rfl (ev_eq rfl) hS (by repeat (first | exact List.Mem.head _ | apply List.Mem.tail)) rfl (by first | assumption | rfl) ?_ | refine wp_load_sub rfl (ev_eq rfl) hS (by repeat (first | exact List.Mem.head _ | apply List.Mem.tail)) rfl rfl (by first | assumption | exact of_decide_eq_true rfl | (simp; omega)) (by assumption) ?_ | refine wp_load_at rfl (ev_eq rfl) rfl (by assumption) (by first | assumption | rfl) ?_ | refine wp_load_cell rfl (ev_eq rfl) rfl (by assumption) ?_); refine hK _ _ ?_; clear hK K))
    exact bodyPost_ret (results_2 rfl rfl rfl) rfl (ret_weak HN.out HE.out hS.below)
  by_cases dstep : a.step ≤ b.step
  case neg =>
    have hno : Bod.weakV a b = false := by rw [HV.out, decide_eq_false dstep]; simp
    have HN := Lib.hid hno
    clear hno
    go_wp2_with (first
      | ((first | (with_reducible refine wpList_plain (o := ⟨some 2, .box _ _, _, _, _, _⟩) rfl fun K hK => ?_) | ((with_reducible refine BigFrame.wpList_want (o := ⟨some 2, .box _ _, _, _, _, _⟩) ?_ fun K hK => ?_); · rfl)); (first | refine wp_box_row rfl (ev_eq rfl) hS ?_ | refine wp_box_one rfl (ev_eq rfl) rfl hS ?_); clear hS; intro k2 W hS hBw hk0; clear hBw hk0; refine hK _ _ ?_; clear hK K)
      | ((first | (with_reducible refine wpList_plain (o := ⟨some 3, .box _ _, _, _, _, _⟩) rfl fun K hK => ?_) | ((with_reducible refine BigFrame.wpList_want (o := ⟨some 3, .box _ _, _, _, _, _⟩) ?_ fun K hK => ?_); · rfl)); (first | refine wp_box_row rfl (ev_eq rfl) hS ?_ | refine wp_box_one rfl (ev_eq rfl) rfl hS ?_); clear hS; intro k3 W hS hBw hk0; clear hBw hk0; refine hK _ _ ?_; clear hK K)
      | ((first | (with_reducible refine wpList_plain (o := ⟨_, .binOp .eql _ _ _ _, _, _, _, _⟩) rfl fun K hK => ?_) | ((with_reducible refine BigFrame.wpList_want (o := ⟨_, .binOp .eql _ _ _ _, _, _, _, _⟩) ?_ fun K hK => ?_); · rfl)); (first | refine wp_eqlS rfl (ev_eq rfl) (ev_eq rfl) (by assumption) ?_ | refine wp_eqlH rfl (ev_eq rfl) (ev_eq rfl) (by first | assumption | exact eqIs_refl _) (by assumption) rfl (by kernel_rfl) (by assumption) (by assumption) ?_); refine hK _ _ ?_; clear hK K)
      | ((first | (with_reducible refine wpList_plain (o := ⟨_, .binOp .neq _ _ _ _, _, _, _, _⟩) rfl fun K hK => ?_) | ((with_reducible refine BigFrame.wpList_want (o := ⟨_, .binOp .neq _ _ _ _, _, _, _, _⟩) ?_ fun K hK => ?_); · rfl)); (first | refine wp_neqS rfl (ev_eq rfl) (ev_eq rfl) (by assumption) ?_ | refine wp_neqH rfl (ev_eq rfl) (ev_eq rfl) (by first | assumption | exact eqIs_refl _) (by assumption) rfl (by kernel_rfl) (by assumption) (by assumption) ?_); refine hK _ _ ?_; clear hK K)
      | ((first | (with_reducible refine wpList_plain (o := ⟨_, .load _ _, _, _, _, _⟩) rfl fun K hK => ?_) | ((with_reducible refine BigFrame.wpList_want (o := ⟨_, .load _ _, _, _, _, _⟩) ?_ fun K hK => ?_); · rfl)); (first | refine wp_load_one rfl (ev_eq rfl) hS (by repeat (first | exact List.Mem.head _ | apply List.Mem.tail)) rfl (by first | rfl | assumption) ?_ | refine wp_load_row' rfl (ev_eq rfl) hS (by repeat (first | exact List.Mem.head _ | apply List.Mem.tail)) rfl (by first | assumption | rfl) ?_ | refine wp_load_sub rfl (ev_eq rfl) hS (by repeat (first | exact List.Mem.head _ | apply List.Mem.tail)) rfl rfl (by first | assumption | exact of_decide_eq_true rfl | (simp; omega)) (by assumption) ?_ | refine wp_load_at rfl (ev_eq rfl) rfl (by assumption) (by first | assumption | rfl) ?_ | refine wp_load_cell rfl (ev_eq rfl) rfl (by assumption) ?_); refine hK _ _ ?_; clear hK K))
    exact bodyPost_ret (results_2 rfl rfl rfl) rfl (ret_weak HN.out HE.out hS.below)
  by_cases djump : a.jump ≤ b.jump
  case neg =>
    have hno : Bod.weakV a b = false := by rw [HV.out, decide_eq_false djump]; simp
    have HN := Lib.hid hno
    clear hno
    go_wp2_with (first
      | ((first | (with_reducible refine wpList_plain (o := ⟨some 2, .box _ _, _, _, _, _⟩) rfl fun K hK => ?_) | ((with_reducible refine BigFrame.wpList_want (o := ⟨some 2, .box _ _, _, _, _, _⟩) ?_ fun K hK => ?_); · rfl)); (first | refine wp_box_row rfl (ev_eq rfl) hS ?_ | refine wp_box_one rfl (ev_eq rfl) rfl hS ?_); clear hS; intro k2 W hS hBw hk0; clear hBw hk0; refine hK _ _ ?_; clear hK K)
      | ((first | (with_reducible refine wpList_plain (o := ⟨some 3, .box _ _, _, _, _, _⟩) rfl fun K hK => ?_) | ((with_reducible refine BigFrame.wpList_want (o := ⟨some 3, .box _ _, _, _, _, _⟩) ?_ fun K hK => ?_); · rfl)); (first | refine wp_box_row rfl (ev_eq rfl) hS ?_ | refine wp_box_one rfl (ev_eq rfl) rfl hS ?_); clear hS; intro k3 W hS hBw hk0; clear hBw hk0; refine hK _ _ ?_; clear hK K)
      | ((first | (with_reducible refine wpList_plain (o := ⟨_, .binOp .eql _ _ _ _, _, _, _, _⟩) rfl fun K hK => ?_) | ((with_reducible refine BigFrame.wpList_want (o := ⟨_, .binOp .eql _ _ _ _, _, _, _, _⟩) ?_ fun K hK => ?_); · rfl)); (first | refine wp_eqlS rfl (ev_eq rfl) (ev_eq rfl) (by assumption) ?_ | refine wp_eqlH rfl (ev_eq rfl) (ev_eq rfl) (by first | assumption | exact eqIs_refl _) (by assumption) rfl (by kernel_rfl) (by assumption) (by assumption) ?_); refine hK _ _ ?_; clear hK K)
      | ((first | (with_reducible refine wpList_plain (o := ⟨_, .binOp .neq _ _ _ _, _, _, _, _⟩) rfl fun K hK => ?_) | ((with_reducible refine BigFrame.wpList_want (o := ⟨_, .binOp .neq _ _ _ _, _, _, _, _⟩) ?_ fun K hK => ?_); · rfl)); (first | refine wp_neqS rfl (ev_eq rfl) (ev_eq rfl) (by assumption) ?_ | refine wp_neqH rfl (ev_eq rfl) (ev_eq rfl) (by first | assumption | exact eqIs_refl _) (by assumption) rfl (by kernel_rfl) (by assumption) (by assumption) ?_); refine hK _ _ ?_; clear hK K)
      | ((first | (with_reducible refine wpList_plain (o := ⟨_, .load _ _, _, _, _, _⟩) rfl fun K hK => ?_) | ((with_reducible refine BigFrame.wpList_want (o := ⟨_, .load _ _, _, _, _, _⟩) ?_ fun K hK => ?_); · rfl)); (first | refine wp_load_one rfl (ev_eq rfl) hS (by repeat (first | exact List.Mem.head _ | apply List.Mem.tail)) rfl (by first | rfl | assumption) ?_ | refine wp_load_row' rfl (ev_eq rfl) hS (by repeat (first | exact List.Mem.head _ | apply List.Mem.tail)) rfl (by first | assumption | rfl) ?_ | refine wp_load_sub rfl (ev_eq rfl) hS (by repeat (first | exact List.Mem.head _ | apply List.Mem.tail)) rfl rfl (by first | assumption | exact of_decide_eq_true rfl | (simp; omega)) (by assumption) ?_ | refine wp_load_at rfl (ev_eq rfl) rfl (by assumption) (by first | assumption | rfl) ?_ | refine wp_load_cell rfl (ev_eq rfl) rfl (by assumption) ?_); refine hK _ _ ?_; clear hK K))
    exact bodyPost_ret (results_2 rfl rfl rfl) rfl (ret_weak HN.out HE.out hS.below)
  go_wp2_with (first
      | ((first | (with_reducible refine wpList_plain (o := ⟨some 2, .box _ _, _, _, _, _⟩) rfl fun K hK => ?_) | ((with_reducible refine BigFrame.wpList_want (o := ⟨some 2, .box _ _, _, _, _, _⟩) ?_ fun K hK => ?_); · rfl)); (first | refine wp_box_row rfl (ev_eq rfl) hS ?_ | refine wp_box_one rfl (ev_eq rfl) rfl hS ?_); clear hS; intro k2 W hS hBw hk0; clear hBw hk0; refine hK _ _ ?_; clear hK K)
      | ((first | (with_reducible refine wpList_plain (o := ⟨some 3, .box _ _, _, _, _, _⟩) rfl fun K hK => ?_) | ((with_reducible refine BigFrame.wpList_want (o := ⟨some 3, .box _ _, _, _, _, _⟩) ?_ fun K hK => ?_); · rfl)); (first | refine wp_box_row rfl (ev_eq rfl) hS ?_ | refine wp_box_one rfl (ev_eq rfl) rfl hS ?_); clear hS; intro k3 W hS hBw hk0; clear hBw hk0; refine hK _ _ ?_; clear hK K)
      | ((first | (with_reducible refine wpList_plain (o := ⟨_, .binOp .eql _ _ _ _, _, _, _, _⟩) rfl fun K hK => ?_) | ((with_reducible refine BigFrame.wpList_want (o := ⟨_, .binOp .eql _ _ _ _, _, _, _, _⟩) ?_ fun K hK => ?_); · rfl)); (first | refine wp_eqlS rfl (ev_eq rfl) (ev_eq rfl) (by assumption) ?_ | refine wp_eqlH rfl (ev_eq rfl) (ev_eq rfl) (by first | assumption | exact eqIs_refl _) (by assumption) rfl (by kernel_rfl) (by assumption) (by assumption) ?_); refine hK _ _ ?_; clear hK K)
      | ((first | (with_reducible refine wpList_plain (o := ⟨_, .binOp .neq _ _ _ _, _, _, _, _⟩) rfl fun K hK => ?_) | ((with_reducible refine BigFrame.wpList_want (o := ⟨_, .binOp .neq _ _ _ _, _, _, _, _⟩) ?_ fun K hK => ?_); · rfl)); (first | refine wp_neqS rfl (ev_eq rfl) (ev_eq rfl) (by assumption) ?_ | refine wp_neqH rfl (ev_eq rfl) (ev_eq rfl) (by first | assumption | exact eqIs_refl _) (by assumption) rfl (by kernel_rfl) (by assumption) (by assumption) ?_); refine hK _ _ ?_; clear hK K)
      | ((first | (with_reducible refine wpList_plain (o := ⟨_, .load _ _, _, _, _, _⟩) rfl fun K hK => ?_) | ((with_reducible refine BigFrame.wpList_want (o := ⟨_, .load _ _, _, _, _, _⟩) ?_ fun K hK => ?_); · rfl)); (first | refine wp_load_one rfl (ev_eq rfl) hS (by repeat (first | exact List.Mem.head _ | apply List.Mem.tail)) rfl (by first | rfl | assumption) ?_ | refine wp_load_row' rfl (ev_eq rfl) hS (by repeat (first | exact List.Mem.head _ | apply List.Mem.tail)) rfl (by first | assumption | rfl) ?_ | refine wp_load_sub rfl (ev_eq rfl) hS (by repeat (first | exact List.Mem.head _ | apply List.Mem.tail)) rfl rfl (by first | assumption | exact of_decide_eq_true rfl | (simp; omega)) (by assumption) ?_ | refine wp_load_at rfl (ev_eq rfl) rfl (by assumption) (by first | assumption | rfl) ?_ | refine wp_load_cell rfl (ev_eq rfl) rfl (by assumption) ?_); refine hK _ _ ?_; clear hK K))
  refine (most3_any a.s0 a.s1 a.s2 b.s0 b.s1 b.s2 _).mono ?_
  rintro e w' ⟨rfl, hb'⟩
  replace hS := hS.step hb'
  clear hb'
  cases q1 : (decide (a.s0 ≤ b.s0) && decide (a.s1 ≤ b.s1) && decide (a.s2 ≤ b.s2))
  · go_wp2_with fail
    exact bodyPost_ret (results_2 rfl rfl rfl) rfl (ret_weak (by rw [HV.out, q1]; simp) HE.out hS.below)
  go_wp2_with (first
      | ((first | (with_reducible refine wpList_plain (o := ⟨some 2, .box _ _, _, _, _, _⟩) rfl fun K hK => ?_) | ((with_reducible refine BigFrame.wpList_want (o := ⟨some 2, .box _ _, _, _, _, _⟩) ?_ fun K hK => ?_); · rfl)); (first | refine wp_box_row rfl (ev_eq rfl) hS ?_ | refine wp_box_one rfl (ev_eq rfl) rfl hS ?_); clear hS; intro k2 W hS hBw hk0; clear hBw hk0; refine hK _ _ ?_; clear hK K)
      | ((first | (with_reducible refine wpList_plain (o := ⟨some 3, .box _ _, _, _, _, _⟩) rfl fun K hK => ?_) | ((with_reducible refine BigFrame.wpList_want (o := ⟨some 3, .box _ _, _, _, _, _⟩) ?_ fun K hK => ?_); · rfl)); (first | refine wp_box_row rfl (ev_eq rfl) hS ?_ | refine wp_box_one rfl (ev_eq rfl) rfl hS ?_); clear hS; intro k3 W hS hBw hk0; clear hBw hk0; refine hK _ _ ?_; clear hK K)
      | ((first | (with_reducible refine wpList_plain (o := ⟨_, .binOp .eql _ _ _ _, _, _, _, _⟩) rfl fun K hK => ?_) | ((with_reducible refine BigFrame.wpList_want (o := ⟨_, .binOp .eql _ _ _ _, _, _, _, _⟩) ?_ fun K hK => ?_); · rfl)); (first | refine wp_eqlS rfl (ev_eq rfl) (ev_eq rfl) (by assumption) ?_ | refine wp_eqlH rfl (ev_eq rfl) (ev_eq rfl) (by first | assumption | exact eqIs_refl _) (by assumption) rfl (by kernel_rfl) (by assumption) (by assumption) ?_); refine hK _ _ ?_; clear hK K)
      | ((first | (with_reducible refine wpList_plain (o := ⟨_, .binOp .neq _ _ _ _, _, _, _, _⟩) rfl fun K hK => ?_) | ((with_reducible refine BigFrame.wpList_want (o := ⟨_, .binOp .neq _ _ _ _, _, _, _, _⟩) ?_ fun K hK => ?_); · rfl)); (first | refine wp_neqS rfl (ev_eq rfl) (ev_eq rfl) (by assumption) ?_ | refine wp_neqH rfl (ev_eq rfl) (ev_eq rfl) (by first | assumption | exact eqIs_refl _) (by assumption) rfl (by kernel_rfl) (by assumption) (by assumption) ?_); refine hK _ _ ?_; clear hK K)
      | ((first | (with_reducible refine wpList_plain (o := ⟨_, .load _ _, _, _, _, _⟩) rfl fun K hK => ?_) | ((with_reducible refine BigFrame.wpList_want (o := ⟨_, .load _ _, _, _, _, _⟩) ?_ fun K hK => ?_); · rfl)); (first | refine wp_load_one rfl (ev_eq rfl) hS (by repeat (first | exact List.Mem.head _ | apply List.Mem.tail)) rfl (by first | rfl | assumption) ?_ | refine wp_load_row' rfl (ev_eq rfl) hS (by repeat (first | exact List.Mem.head _ | apply List.Mem.tail)) rfl (by first | assumption | rfl) ?_ | refine wp_load_sub rfl (ev_eq rfl) hS (by repeat (first | exact List.Mem.head _ | apply List.Mem.tail)) rfl rfl (by first | assumption | exact of_decide_eq_true rfl | (simp; omega)) (by assumption) ?_ | refine wp_load_at rfl (ev_eq rfl) rfl (by assumption) (by first | assumption | rfl) ?_ | refine wp_load_cell rfl (ev_eq rfl) rfl (by assumption) ?_); refine hK _ _ ?_; clear hK K))
  refine (most3_any a.t0 a.t1 a.t2 b.t0 b.t1 b.t2 _).mono ?_
  rintro e w' ⟨rfl, hb'⟩
  replace hS := hS.step hb'
  clear hb'
  cases q2 : (decide (a.t0 ≤ b.t0) && decide (a.t1 ≤ b.t1) && decide (a.t2 ≤ b.t2))
  · go_wp2_with fail
    exact bodyPost_ret (results_2 rfl rfl rfl) rfl (ret_weak (by rw [HV.out, q2]; simp) HE.out hS.below)
  go_wp2_with (first
      | ((first | (with_reducible refine wpList_plain (o := ⟨some 2, .box _ _, _, _, _, _⟩) rfl fun K hK => ?_) | ((with_reducible refine BigFrame.wpList_want (o := ⟨some 2, .box _ _, _, _, _, _⟩) ?_ fun K hK => ?_); · rfl)); (first | refine wp_box_row rfl (ev_eq rfl) hS ?_ | refine wp_box_one rfl (ev_eq rfl) rfl hS ?_); clear hS; intro k2 W hS hBw hk0; clear hBw hk0; refine hK _ _ ?_; clear hK K)
      | ((first | (with_reducible refine wpList_plain (o := ⟨some 3, .box _ _, _, _, _, _⟩) rfl fun K hK => ?_) | ((with_reducible refine BigFrame.wpList_want (o := ⟨some 3, .box _ _, _, _, _, _⟩) ?_ fun K hK => ?_); · rfl)); (first | refine wp_box_row rfl (ev_eq rfl) hS ?_ | refine wp_box_one rfl (ev_eq rfl) rfl hS ?_); clear hS; intro k3 W hS hBw hk0; clear hBw hk0; refine hK _ _ ?_; clear hK K)
      | ((first | (with_reducible refine wpList_plain (o := ⟨_, .binOp .eql _ _ _ _, _, _, _, _⟩) rfl fun K hK => ?_) | ((with_reducible refine BigFrame.wpList_want (o := ⟨_, .binOp .eql _ _ _ _, _, _, _, _⟩) ?_ fun K hK => ?_); · rfl)); (first | refine wp_eqlS rfl (ev_eq rfl) (ev_eq rfl) (by assumption) ?_ | refine wp_eqlH rfl (ev_eq rfl) (ev_eq rfl) (by first | assumption | exact eqIs_refl _) (by assumption) rfl (by kernel_rfl) (by assumption) (by assumption) ?_); refine hK _ _ ?_; clear hK K)
      | ((first | (with_reducible refine wpList_plain (o := ⟨_, .binOp .neq _ _ _ _, _, _, _, _⟩) rfl fun K hK => ?_) | ((with_reducible refine BigFrame.wpList_want (o := ⟨_, .binOp .neq _ _ _ _, _, _, _, _⟩) ?_ fun K hK => ?_); · rfl)); (first | refine wp_neqS rfl (ev_eq rfl) (ev_eq rfl) (by assumption) ?_ | refine wp_neqH rfl (ev_eq rfl) (ev_eq rfl) (by first | assumption | exact eqIs_refl _) (by assumption) rfl (by kernel_rfl) (by assumption) (by assumption) ?_); refine hK _ _ ?_; clear hK K)
      | ((first | (with_reducible refine wpList_plain (o := ⟨_, .load _ _, _, _, _, _⟩) rfl fun K hK => ?_) | ((with_reducible refine BigFrame.wpList_want (o := ⟨_, .load _ _, _, _, _, _⟩) ?_ fun K hK => ?_); · rfl)); (first | refine wp_load_one rfl (ev_eq rfl) hS (by repeat (first | exact List.Mem.head _ | apply List.Mem.tail)) rfl (by first | rfl | assumption) ?_ | refine wp_load_row' rfl (ev_eq rfl) hS (by repeat (first | exact List.Mem.head _ | apply List.Mem.tail)) rfl (by first | assumption | rfl) ?_ | refine wp_load_sub rfl (ev_eq rfl) hS (by repeat (first | exact List.Mem.head _ | apply List.Mem.tail)) rfl rfl (by first | assumption | exact of_decide_eq_true rfl | (simp; omega)) (by assumption) ?_ | refine wp_load_at rfl (ev_eq rfl) rfl (by assumption) (by first | assumption | rfl) ?_ | refine wp_load_cell rfl (ev_eq rfl) rfl (by assumption) ?_); refine hK _ _ ?_; clear hK K))
  exact bodyPost_ret (results_2 rfl rfl rfl) rfl (ret_weak (by rw [HV.out, q1, q2, decide_eq_true dlift, decide_eq_true dstep, decide_eq_true djump]; simp) HE.out hS.below)
end Go.Proofs.Ytklppgkolcpbbaa
