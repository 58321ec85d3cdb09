/-
  Walks: the reference's Letter, Figure, part, Name; in, three, most, Check.
-/
import Derived.Test.YtklppgkolcpbbaaBodyW6
namespace Go.Proofs.Ytklppgkolcpbbaa
set_option linter.unusedSimpArgs false
set_option linter.unusedVariables false
open Go Go.RowKit

theorem in_any (n lo hi : Int) (w : World) : Calls Try.prog 27 #[.int .i64 n, .int .i64 lo, .int .i64 hi] w fun e w' => e = .returned (.bool (Bod.inB lo hi n)) ∧ w = w' := by
  by_cases h : lo ≤ n
  · have h' : n ≥ lo := h
    go_enter Try.func27, Try.ntmps27
    go_wp2
    go_ret
    exact ⟨ret_boolW (by unfold Bod.inB; simp [h]), rfl⟩
  · have h' : ¬ n ≥ lo := h
    go_enter Try.func27, Try.ntmps27
    go_wp2
    go_ret
    exact ⟨ret_boolW (inB_no (.inl (by omega))).symm, rfl⟩

def limbs (x y z : Int) : Array Value := #[.int .i64 x, .int .i64 y, .int .i64 z]
set_option maxHeartbeats 400000 in
theorem three_any (x y z hi : Int) (w : World) : Calls Try.prog 28 #[.agg (limbs x y z), .int .i64 hi] w fun e w' => e = .returned (.bool (Bod.inB 1 hi x && Bod.inB 1 hi y && Bod.inB 1 hi z)) ∧ Below w.heap.size w w' := by
  have hS := St.start w
  go_enter Try.func28, Try.ntmps28
  go_wp2_with (first
      | ((first | (with_reducible refine wpList_plain (o := ⟨some 2, .box _ _, _, _, _, _⟩) rfl fun K hK => ?_) | ((with_reducible refine BigFrame.wpList_want (o := ⟨some 2, .box _ _, _, _, _, _⟩) ?_ fun K hK => ?_); · rfl)); (first | refine wp_box_row rfl (ev_eq rfl) hS ?_ | refine wp_box_one rfl (ev_eq rfl) rfl hS ?_); clear hS; intro k2 W hS hBw hk0; clear hBw hk0; refine hK _ _ ?_; clear hK K)
      | ((first | (with_reducible refine wpList_plain (o := ⟨_, .load _ _, _, _, _, _⟩) rfl fun K hK => ?_) | ((with_reducible refine BigFrame.wpList_want (o := ⟨_, .load _ _, _, _, _, _⟩) ?_ fun K hK => ?_); · rfl)); (first | refine wp_load_one rfl (ev_eq rfl) hS (by repeat (first | exact List.Mem.head _ | apply List.Mem.tail)) rfl (by first | rfl | assumption) ?_ | refine wp_load_row' rfl (ev_eq rfl) hS (by repeat (first | exact List.Mem.head _ | apply List.Mem.tail)) rfl (by first | assumption | rfl) ?_ | refine wp_load_sub rfl (ev_eq rfl) hS (by repeat (first | exact List.Mem.head _ | apply List.Mem.tail)) rfl rfl (by first | assumption | exact of_decide_eq_true rfl | (simp; omega)) (by assumption) ?_ | refine wp_load_at rfl (ev_eq rfl) rfl (by assumption) (by first | assumption | rfl) ?_ | refine wp_load_cell rfl (ev_eq rfl) rfl (by assumption) ?_); refine hK _ _ ?_; clear hK K))
  refine (in_any x 1 hi _).mono ?_
  rintro e w' ⟨rfl, rfl⟩
  cases q1 : Bod.inB 1 hi x
  · go_wp2_with fail
    go_ret
    exact ⟨ret_boolW (by rw [q1]; rfl), hS.below⟩
  go_wp2_with (first
      | ((first | (with_reducible refine wpList_plain (o := ⟨some 2, .box _ _, _, _, _, _⟩) rfl fun K hK => ?_) | ((with_reducible refine BigFrame.wpList_want (o := ⟨some 2, .box _ _, _, _, _, _⟩) ?_ fun K hK => ?_); · rfl)); (first | refine wp_box_row rfl (ev_eq rfl) hS ?_ | refine wp_box_one rfl (ev_eq rfl) rfl hS ?_); clear hS; intro k2 W hS hBw hk0; clear hBw hk0; refine hK _ _ ?_; clear hK K)
      | ((first | (with_reducible refine wpList_plain (o := ⟨_, .load _ _, _, _, _, _⟩) rfl fun K hK => ?_) | ((with_reducible refine BigFrame.wpList_want (o := ⟨_, .load _ _, _, _, _, _⟩) ?_ fun K hK => ?_); · rfl)); (first | refine wp_load_one rfl (ev_eq rfl) hS (by repeat (first | exact List.Mem.head _ | apply List.Mem.tail)) rfl (by first | rfl | assumption) ?_ | refine wp_load_row' rfl (ev_eq rfl) hS (by repeat (first | exact List.Mem.head _ | apply List.Mem.tail)) rfl (by first | assumption | rfl) ?_ | refine wp_load_sub rfl (ev_eq rfl) hS (by repeat (first | exact List.Mem.head _ | apply List.Mem.tail)) rfl rfl (by first | assumption | exact of_decide_eq_true rfl | (simp; omega)) (by assumption) ?_ | refine wp_load_at rfl (ev_eq rfl) rfl (by assumption) (by first | assumption | rfl) ?_ | refine wp_load_cell rfl (ev_eq rfl) rfl (by assumption) ?_); refine hK _ _ ?_; clear hK K))
  refine (in_any y 1 hi _).mono ?_
  rintro e w' ⟨rfl, rfl⟩
  cases q2 : Bod.inB 1 hi y
  · go_wp2_with fail
    go_ret
    exact ⟨ret_boolW (by rw [q1, q2]; rfl), hS.below⟩
  go_wp2_with (first
      | ((first | (with_reducible refine wpList_plain (o := ⟨some 2, .box _ _, _, _, _, _⟩) rfl fun K hK => ?_) | ((with_reducible refine BigFrame.wpList_want (o := ⟨some 2, .box _ _, _, _, _, _⟩) ?_ fun K hK => ?_); · rfl)); (first | refine wp_box_row rfl (ev_eq rfl) hS ?_ | refine wp_box_one rfl (ev_eq rfl) rfl hS ?_); clear hS; intro k2 W hS hBw hk0; clear hBw hk0; refine hK _ _ ?_; clear hK K)
      | ((first | (with_reducible refine wpList_plain (o := ⟨_, .load _ _, _, _, _, _⟩) rfl fun K hK => ?_) | ((with_reducible refine BigFrame.wpList_want (o := ⟨_, .load _ _, _, _, _, _⟩) ?_ fun K hK => ?_); · rfl)); (first | refine wp_load_one rfl (ev_eq rfl) hS (by repeat (first | exact List.Mem.head _ | apply List.Mem.tail)) rfl (by first | rfl | assumption) ?_ | refine wp_load_row' rfl (ev_eq rfl) hS (by repeat (first | exact List.Mem.head _ | apply List.Mem.tail)) rfl (by first | assumption | rfl) ?_ | refine wp_load_sub rfl (ev_eq rfl) hS (by repeat (first | exact List.Mem.head _ | apply List.Mem.tail)) rfl rfl (by first | assumption | exact of_decide_eq_true rfl | (simp; omega)) (by assumption) ?_ | refine wp_load_at rfl (ev_eq rfl) rfl (by assumption) (by first | assumption | rfl) ?_ | refine wp_load_cell rfl (ev_eq rfl) rfl (by assumption) ?_); refine hK _ _ ?_; clear hK K))
  refine (in_any z 1 hi _).mono ?_
  rintro e w' ⟨rfl, rfl⟩
  go_wp2_with fail
  go_ret
  exact ⟨ret_boolW (by rw [q1, q2]; rfl), hS.below⟩
set_option maxHeartbeats 400000 in
theorem most3_any (x y z x' y' z' : Int) (w : World) : Calls Try.prog 30 #[.agg (limbs x y z), .agg (limbs x' y' z')] w fun e w' => e = .returned (.bool (decide (x ≤ x') && decide (y ≤ y') && decide (z ≤ z'))) ∧ Below w.heap.size w w' := by
  have hS := St.start w
  by_cases h1 : x ≤ x'
  · by_cases h2 : y ≤ y'
    · by_cases h3 : z ≤ z'
      · go_enter Try.func30, Try.ntmps30
        go_wp2_with (first
      | ((first | (with_reducible refine wpList_plain (o := ⟨some 2, .box _ _, _, _, _, _⟩) rfl fun K hK => ?_) | ((with_reducible refine BigFrame.wpList_want (o := ⟨some 2, .box _ _, _, _, _, _⟩) ?_ fun K hK => ?_); · rfl)); (first | refine wp_box_row rfl (ev_eq rfl) hS ?_ | refine wp_box_one rfl (ev_eq rfl) rfl hS ?_); clear hS; intro k2 W hS hBw hk0; clear hBw hk0; refine hK _ _ ?_; clear hK K)
      | ((first | (with_reducible refine wpList_plain (o := ⟨some 3, .box _ _, _, _, _, _⟩) rfl fun K hK => ?_) | ((with_reducible refine BigFrame.wpList_want (o := ⟨some 3, .box _ _, _, _, _, _⟩) ?_ fun K hK => ?_); · rfl)); (first | refine wp_box_row rfl (ev_eq rfl) hS ?_ | refine wp_box_one rfl (ev_eq rfl) rfl hS ?_); clear hS; intro k3 W hS hBw hk0; clear hBw hk0; refine hK _ _ ?_; clear hK K)
      | ((first | (with_reducible refine wpList_plain (o := ⟨_, .load _ _, _, _, _, _⟩) rfl fun K hK => ?_) | ((with_reducible refine BigFrame.wpList_want (o := ⟨_, .load _ _, _, _, _, _⟩) ?_ fun K hK => ?_); · rfl)); (first | refine wp_load_one rfl (ev_eq rfl) hS (by repeat (first | exact List.Mem.head _ | apply List.Mem.tail)) rfl (by first | rfl | assumption) ?_ | refine wp_load_row' rfl (ev_eq rfl) hS (by repeat (first | exact List.Mem.head _ | apply List.Mem.tail)) rfl (by first | assumption | rfl) ?_ | refine wp_load_sub rfl (ev_eq rfl) hS (by repeat (first | exact List.Mem.head _ | apply List.Mem.tail)) rfl rfl (by first | assumption | exact of_decide_eq_true rfl | (simp; omega)) (by assumption) ?_ | refine wp_load_at rfl (ev_eq rfl) rfl (by assumption) (by first | assumption | rfl) ?_ | refine wp_load_cell rfl (ev_eq rfl) rfl (by assumption) ?_); refine hK _ _ ?_; clear hK K))
        go_ret
        exact ⟨ret_boolW (by simp [h1, h2, h3]), hS.below⟩
      · go_enter Try.func30, Try.ntmps30
        go_wp2_with (first
      | ((first | (with_reducible refine wpList_plain (o := ⟨some 2, .box _ _, _, _, _, _⟩) rfl fun K hK => ?_) | ((with_reducible refine BigFrame.wpList_want (o := ⟨some 2, .box _ _, _, _, _, _⟩) ?_ fun K hK => ?_); · rfl)); (first | refine wp_box_row rfl (ev_eq rfl) hS ?_ | refine wp_box_one rfl (ev_eq rfl) rfl hS ?_); clear hS; intro k2 W hS hBw hk0; clear hBw hk0; refine hK _ _ ?_; clear hK K)
      | ((first | (with_reducible refine wpList_plain (o := ⟨some 3, .box _ _, _, _, _, _⟩) rfl fun K hK => ?_) | ((with_reducible refine BigFrame.wpList_want (o := ⟨some 3, .box _ _, _, _, _, _⟩) ?_ fun K hK => ?_); · rfl)); (first | refine wp_box_row rfl (ev_eq rfl) hS ?_ | refine wp_box_one rfl (ev_eq rfl) rfl hS ?_); clear hS; intro k3 W hS hBw hk0; clear hBw hk0; refine hK _ _ ?_; clear hK K)
      | ((first | (with_reducible refine wpList_plain (o := ⟨_, .load _ _, _, _, _, _⟩) rfl fun K hK => ?_) | ((with_reducible refine BigFrame.wpList_want (o := ⟨_, .load _ _, _, _, _, _⟩) ?_ fun K hK => ?_); · rfl)); (first | refine wp_load_one rfl (ev_eq rfl) hS (by repeat (first | exact List.Mem.head _ | apply List.Mem.tail)) rfl (by first | rfl | assumption) ?_ | refine wp_load_row' rfl (ev_eq rfl) hS (by repeat (first | exact List.Mem.head _ | apply List.Mem.tail)) rfl (by first | assumption | rfl) ?_ | refine wp_load_sub rfl (ev_eq rfl) hS (by repeat (first | exact List.Mem.head _ | apply List.Mem.tail)) rfl rfl (by first | assumption | exact of_decide_eq_true rfl | (simp; omega)) (by assumption) ?_ | refine wp_load_at rfl (ev_eq rfl) rfl (by assumption) (by first | assumption | rfl) ?_ | refine wp_load_cell rfl (ev_eq rfl) rfl (by assumption) ?_); refine hK _ _ ?_; clear hK K))
        go_ret
        exact ⟨ret_boolW (by simp; omega), hS.below⟩
    · go_enter Try.func30, Try.ntmps30
      go_wp2_with (first
      | ((first | (with_reducible refine wpList_plain (o := ⟨some 2, .box _ _, _, _, _, _⟩) rfl fun K hK => ?_) | ((with_reducible refine BigFrame.wpList_want (o := ⟨some 2, .box _ _, _, _, _, _⟩) ?_ fun K hK => ?_); · rfl)); (first | refine wp_box_row rfl (ev_eq rfl) hS ?_ | refine wp_box_one rfl (ev_eq rfl) rfl hS ?_); clear hS; intro k2 W hS hBw hk0; clear hBw hk0; refine hK _ _ ?_; clear hK K)
      | ((first | (with_reducible refine wpList_plain (o := ⟨some 3, .box _ _, _, _, _, _⟩) rfl fun K hK => ?_) | ((with_reducible refine BigFrame.wpList_want (o := ⟨some 3, .box _ _, _, _, _, _⟩) ?_ fun K hK => ?_); · rfl)); (first | refine wp_box_row rfl (ev_eq rfl) hS ?_ | refine wp_box_one rfl (ev_eq rfl) rfl hS ?_); clear hS; intro k3 W hS hBw hk0; clear hBw hk0; refine hK _ _ ?_; clear hK K)
      | ((first | (with_reducible refine wpList_plain (o := ⟨_, .load _ _, _, _, _, _⟩) rfl fun K hK => ?_) | ((with_reducible refine BigFrame.wpList_want (o := ⟨_, .load _ _, _, _, _, _⟩) ?_ fun K hK => ?_); · rfl)); (first | refine wp_load_one rfl (ev_eq rfl) hS (by repeat (first | exact List.Mem.head _ | apply List.Mem.tail)) rfl (by first | rfl | assumption) ?_ | refine wp_load_row' rfl (ev_eq rfl) hS (by repeat (first | exact List.Mem.head _ | apply List.Mem.tail)) rfl (by first | assumption | rfl) ?_ | refine wp_load_sub rfl (ev_eq rfl) hS (by repeat (first | exact List.Mem.head _ | apply List.Mem.tail)) rfl rfl (by first | assumption | exact of_decide_eq_true rfl | (simp; omega)) (by assumption) ?_ | refine wp_load_at rfl (ev_eq rfl) rfl (by assumption) (by first | assumption | rfl) ?_ | refine wp_load_cell rfl (ev_eq rfl) rfl (by assumption) ?_); refine hK _ _ ?_; clear hK K))
      go_ret
      exact ⟨ret_boolW (by simp; omega), hS.below⟩
  · go_enter Try.func30, Try.ntmps30
    go_wp2_with (first
      | ((first | (with_reducible refine wpList_plain (o := ⟨some 2, .box _ _, _, _, _, _⟩) rfl fun K hK => ?_) | ((with_reducible refine BigFrame.wpList_want (o := ⟨some 2, .box _ _, _, _, _, _⟩) ?_ fun K hK => ?_); · rfl)); (first | refine wp_box_row rfl (ev_eq rfl) hS ?_ | refine wp_box_one rfl (ev_eq rfl) rfl hS ?_); clear hS; intro k2 W hS hBw hk0; clear hBw hk0; refine hK _ _ ?_; clear hK K)
      | ((first | (with_reducible refine wpList_plain (o := ⟨some 3, .box _ _, _, _, _, _⟩) rfl fun K hK => ?_) | ((with_reducible refine BigFrame.wpList_want (o := ⟨some 3, .box _ _, _, _, _, _⟩) ?_ fun K hK => ?_); · rfl)); (first | refine wp_box_row rfl (ev_eq rfl) hS ?_ | refine wp_box_one rfl (ev_eq rfl) rfl hS ?_); clear hS; intro k3 W hS hBw hk0; clear hBw hk0; refine hK _ _ ?_; clear hK K)
      | ((first | (with_reducible refine wpList_plain (o := ⟨_, .load _ _, _, _, _, _⟩) rfl fun K hK => ?_) | ((with_reducible refine BigFrame.wpList_want (o := ⟨_, .load _ _, _, _, _, _⟩) ?_ fun K hK => ?_); · rfl)); (first | refine wp_load_one rfl (ev_eq rfl) hS (by repeat (first | exact List.Mem.head _ | apply List.Mem.tail)) rfl (by first | rfl | assumption) ?_ | refine wp_load_row' rfl (ev_eq rfl) hS (by repeat (first | exact List.Mem.head _ | apply List.Mem.tail)) rfl (by first | assumption | rfl) ?_ | refine wp_load_sub rfl (ev_eq rfl) hS (by repeat (first | exact List.Mem.head _ | apply List.Mem.tail)) rfl rfl (by first | assumption | exact of_decide_eq_true rfl | (simp; omega)) (by assumption) ?_ | refine wp_load_at rfl (ev_eq rfl) rfl (by assumption) (by first | assumption | rfl) ?_ | refine wp_load_cell rfl (ev_eq rfl) rfl (by assumption) ?_); refine hK _ _ ?_; clear hK K))
    go_ret
    exact ⟨ret_boolW (by simp; omega), hS.below⟩


theorem letter_any (c : UInt8) (w : World) : Calls Try.prog 39 #[.int .u8 c.toNat] w fun e w' => e = .returned (.bool (Bod.letterB c)) ∧ w = w' := by
  rw [Bod.letter_iff]
  go_enter Try.func39, Try.ntmps39
  go_wp2
  all_goals
    go_ret
    exact ⟨ret_boolW (by rw [Bool.eq_iff_iff]; simp; omega), rfl⟩
theorem figure_any (c : UInt8) (w : World) : Calls Try.prog 42 #[.int .u8 c.toNat] w fun e w' => e = .returned (.bool (Bod.figureB c)) ∧ w = w' := by
  rw [Bod.figure_iff]
  go_enter Try.func42, Try.ntmps42
  go_wp2
  all_goals
    go_ret
    exact ⟨ret_boolW (by rw [Bool.eq_iff_iff]; simp; omega), rfl⟩
theorem partR_any (c : UInt8) (w : World) : Calls Try.prog 40 #[.int .u8 c.toNat] w fun e w' => e = .returned (.bool (Bod.partB c)) ∧ w = w' := by
  have hl := Bod.line_iff c
  unfold Bod.partB
  rw [hl]
  clear hl
  cases q1 : Bod.letterB c
  · cases q2 : Bod.figureB c
    · go_enter Try.func40, Try.ntmps40
      go_wp2_with fail
      refine (letter_any c _).mono ?_
      rintro e w' ⟨rfl, rfl⟩
      rw [q1]
      go_wp2_with fail
      refine (figure_any c _).mono ?_
      rintro e w' ⟨rfl, rfl⟩
      rw [q2]
      go_wp2_with fail
      go_ret
      exact ⟨ret_boolW (by rw [Bool.eq_iff_iff]; simp; omega), rfl⟩
    · go_enter Try.func40, Try.ntmps40
      go_wp2_with fail
      refine (letter_any c _).mono ?_
      rintro e w' ⟨rfl, rfl⟩
      rw [q1]
      go_wp2_with fail
      refine (figure_any c _).mono ?_
      rintro e w' ⟨rfl, rfl⟩
      rw [q2]
      go_wp2_with fail
      go_ret
      exact ⟨ret_boolW rfl, rfl⟩
  · go_enter Try.func40, Try.ntmps40
    go_wp2_with fail
    refine (letter_any c _).mono ?_
    rintro e w' ⟨rfl, rfl⟩
    rw [q1]
    go_wp2_with fail
    go_ret
    exact ⟨ret_boolW rfl, rfl⟩

set_option maxHeartbeats 400000 in
theorem rname_any (s : ByteArray) (w : World) (hs : s.size ≤ maxLen) :
    Calls Try.prog 26 #[.string s] w fun e w' => e = .returned (.bool (Bod.nameB s.data.toList)) ∧ w = w' := by
  unfold maxLen at hs
  have hl : s.data.toList.length = s.size := by simp
  by_cases h0 : s.size < 1
  · have hn : Hid (Bod.nameB s.data.toList = false) := Lib.hid (by unfold Bod.nameB; rw [decide_eq_false (by rw [hl]; omega)]; rfl)
    clear hl
    go_enter Try.func26, Try.ntmps26
    go_wp2_with fail
    go_ret
    exact ⟨ret_boolW hn.out.symm, rfl⟩
  · have h1 : 0 < s.size := by omega
    have a0 := at_byte s 0 h1
    by_cases h32 : 32 < s.size
    · have hn : Hid (Bod.nameB s.data.toList = false) := Lib.hid (by unfold Bod.nameB; rw [decide_eq_false (by rw [hl]; omega)]; rfl)
      clear hl a0
      go_enter Try.func26, Try.ntmps26
      go_wp2_with fail
      go_ret
      exact ⟨ret_boolW hn.out.symm, rfl⟩
    · have HL := Lib.hid hl
      have HA := Lib.hid a0
      clear hl a0
      go_enter Try.func26, Try.ntmps26
      go_wp2_with fail
      refine (letter_any s[0] _).mono ?_
      rintro e w' ⟨rfl, rfl⟩
      cases hlt : Bod.letterB s[0]
      · have hn : Hid (Bod.nameB s.data.toList = false) := Lib.hid (by unfold Bod.nameB; rw [HA.out, hlt]; simp)
        go_wp2_with fail
        go_ret
        exact ⟨ret_boolW hn.out.symm, rfl⟩
      have HLT := Lib.hid hlt
      clear hlt
      go_wp2_with fail
      go_loop [3] (fun i => NRel s i) (fun i => s.size - (intOf i).toNat)
      case atStart => exact ⟨0, Nat.zero_le _, rfl, fun j h => by omega⟩
      case round =>
        obtain ⟨k, hk, rfl, hp⟩ := hrel
        have HP := Lib.hid hp
        clear hp
        by_cases hlk : k < s.size
        · have ak := Lib.hid (at_byte s k hlk)
          go_wp2_with fail
          refine (partR_any s[k] _).mono ?_
          rintro e w' ⟨rfl, rfl⟩
          cases hpk : Bod.partB s[k]
          · have hn : Hid (Bod.nameB s.data.toList = false) := Lib.hid (nameB_no k (by rw [HL.out]; exact hlk) (by rw [ak.out]; exact hpk))
            go_wp2_with fail
            go_ret
            exact ⟨ret_boolW hn.out.symm, rfl⟩
          · have HPK := Lib.hid hpk
            clear hpk
            go_wp2_with fail
            go_round
            case rel =>
              exact ⟨k + 1, by omega, by go_num, fun j hj => by
                by_cases e : j = k
                · subst e; rw [ak.out]; exact HPK.out
                · exact HP.out j (by omega)⟩
            case measure => simp [intOf]; omega
        · have hn : Hid (Bod.nameB s.data.toList = true) := Lib.hid (nameB_yes (by rw [HL.out]; omega) (by rw [HL.out]; omega) (by rw [HA.out]; exact HLT.out) (fun j hj => HP.out j (by rw [HL.out] at hj; omega)))
          go_wp2_with fail
          go_ret
          exact ⟨ret_boolW hn.out.symm, rfl⟩

theorem Bod.okB_eq (b : Bod.Bd) : b.okB = (Bod.nameB b.name.data.toList && Bod.inB 1 500 b.weight && Bod.inB 0 500 b.lift && Bod.inB 1 4 b.girth && Bod.inB 1 16 b.step && Bod.inB 0 16 b.jump && (Bod.inB 1 8 b.r0 && Bod.inB 1 8 b.r1 && Bod.inB 1 8 b.r2) &&
    (Bod.inB 1 1048576 b.s0 && Bod.inB 1 1048576 b.s1 && Bod.inB 1 1048576 b.s2) && (Bod.inB 1 3 b.t0 && Bod.inB 1 3 b.t1 && Bod.inB 1 3 b.t2) && Bod.inB 0 1048576 b.effort && Bod.inB 0 1048576 b.recover) := by
  unfold Bod.Bd.okB Bod.Bd.baseB Bod.Bd.capsB
  rw [Bool.eq_iff_iff]
  simp only [Bool.and_eq_true]
  constructor <;> intro h <;> simp only [h, and_self]

set_option maxRecDepth 100000 in
set_option maxHeartbeats 1000000 in
theorem rcheck_any (b : Bod.Bd) (w : World) (hn : b.name.size ≤ maxLen) :
    Calls Try.prog 13 #[valB b] w fun e w' => e = .returned (.int .i64 b.chk) ∧ Below w.heap.size w w' := by
  have hS := St.start w
  go_enter Try.func13, Try.ntmps13
  go_wp2_with (first
      | ((first | (with_reducible refine wpList_plain (o := ⟨some 1, .box _ _, _, _, _, _⟩) rfl fun K hK => ?_) | ((with_reducible refine BigFrame.wpList_want (o := ⟨some 1, .box _ _, _, _, _, _⟩) ?_ fun K hK => ?_); · rfl)); (first | refine wp_box_row rfl (ev_eq rfl) hS ?_ | refine wp_box_one rfl (ev_eq rfl) rfl hS ?_); clear hS; intro k1 W hS hBw hk0; clear hBw hk0; refine hK _ _ ?_; clear hK K)
      | ((first | (with_reducible refine wpList_plain (o := ⟨_, .load _ _, _, _, _, _⟩) rfl fun K hK => ?_) | ((with_reducible refine BigFrame.wpList_want (o := ⟨_, .load _ _, _, _, _, _⟩) ?_ fun K hK => ?_); · rfl)); (first | refine wp_load_one rfl (ev_eq rfl) hS (by repeat (first | exact List.Mem.head _ | apply List.Mem.tail)) rfl (by first | rfl | assumption) ?_ | refine wp_load_row' rfl (ev_eq rfl) hS (by repeat (first | exact List.Mem.head _ | apply List.Mem.tail)) rfl (by first | assumption | rfl) ?_ | refine wp_load_sub rfl (ev_eq rfl) hS (by repeat (first | exact List.Mem.head _ | apply List.Mem.tail)) rfl rfl (by first | assumption | exact of_decide_eq_true rfl | (simp; omega)) (by assumption) ?_ | refine wp_load_at rfl (ev_eq rfl) rfl (by assumption) (by first | assumption | rfl) ?_ | refine wp_load_cell rfl (ev_eq rfl) rfl (by assumption) ?_); refine hK _ _ ?_; clear hK K))
  refine (rname_any _ _ hn).mono ?_
  rintro e w' ⟨rfl, rfl⟩
  cases q0 : Bod.nameB b.name.data.toList
  · have rchk : b.okB = false := by rw [Bod.okB_eq, q0]; simp
    go_wp2_with fail
    go_ret
    exact ⟨ret_int (by unfold Bod.Bd.chk; rw [rchk]; simp), hS.below⟩
  go_wp2_with (first
      | ((first | (with_reducible refine wpList_plain (o := ⟨some 1, .box _ _, _, _, _, _⟩) rfl fun K hK => ?_) | ((with_reducible refine BigFrame.wpList_want (o := ⟨some 1, .box _ _, _, _, _, _⟩) ?_ fun K hK => ?_); · rfl)); (first | refine wp_box_row rfl (ev_eq rfl) hS ?_ | refine wp_box_one rfl (ev_eq rfl) rfl hS ?_); clear hS; intro k1 W hS hBw hk0; clear hBw hk0; refine hK _ _ ?_; clear hK K)
      | ((first | (with_reducible refine wpList_plain (o := ⟨_, .load _ _, _, _, _, _⟩) rfl fun K hK => ?_) | ((with_reducible refine BigFrame.wpList_want (o := ⟨_, .load _ _, _, _, _, _⟩) ?_ fun K hK => ?_); · rfl)); (first | refine wp_load_one rfl (ev_eq rfl) hS (by repeat (first | exact List.Mem.head _ | apply List.Mem.tail)) rfl (by first | rfl | assumption) ?_ | refine wp_load_row' rfl (ev_eq rfl) hS (by repeat (first | exact List.Mem.head _ | apply List.Mem.tail)) rfl (by first | assumption | rfl) ?_ | refine wp_load_sub rfl (ev_eq rfl) hS (by repeat (first | exact List.Mem.head _ | apply List.Mem.tail)) rfl rfl (by first | assumption | exact of_decide_eq_true rfl | (simp; omega)) (by assumption) ?_ | refine wp_load_at rfl (ev_eq rfl) rfl (by assumption) (by first | assumption | rfl) ?_ | refine wp_load_cell rfl (ev_eq rfl) rfl (by assumption) ?_); refine hK _ _ ?_; clear hK K))
  refine (in_any b.weight 1 500 _).mono ?_
  rintro e w' ⟨rfl, rfl⟩
  cases q1 : Bod.inB 1 500 b.weight
  · have rchk : b.okB = false := by rw [Bod.okB_eq, q1]; simp
    go_wp2_with fail
    go_ret
    exact ⟨ret_int (by unfold Bod.Bd.chk; rw [rchk]; simp), hS.below⟩
  go_wp2_with (first
      | ((first | (with_reducible refine wpList_plain (o := ⟨some 1, .box _ _, _, _, _, _⟩) rfl fun K hK => ?_) | ((with_reducible refine BigFrame.wpList_want (o := ⟨some 1, .box _ _, _, _, _, _⟩) ?_ fun K hK => ?_); · rfl)); (first | refine wp_box_row rfl (ev_eq rfl) hS ?_ | refine wp_box_one rfl (ev_eq rfl) rfl hS ?_); clear hS; intro k1 W hS hBw hk0; clear hBw hk0; refine hK _ _ ?_; clear hK K)
      | ((first | (with_reducible refine wpList_plain (o := ⟨_, .load _ _, _, _, _, _⟩) rfl fun K hK => ?_) | ((with_reducible refine BigFrame.wpList_want (o := ⟨_, .load _ _, _, _, _, _⟩) ?_ fun K hK => ?_); · rfl)); (first | refine wp_load_one rfl (ev_eq rfl) hS (by repeat (first | exact List.Mem.head _ | apply List.Mem.tail)) rfl (by first | rfl | assumption) ?_ | refine wp_load_row' rfl (ev_eq rfl) hS (by repeat (first | exact List.Mem.head _ | apply List.Mem.tail)) rfl (by first | assumption | rfl) ?_ | refine wp_load_sub rfl (ev_eq rfl) hS (by repeat (first | exact List.Mem.head _ | apply List.Mem.tail)) rfl rfl (by first | assumption | exact of_decide_eq_true rfl | (simp; omega)) (by assumption) ?_ | refine wp_load_at rfl (ev_eq rfl) rfl (by assumption) (by first | assumption | rfl) ?_ | refine wp_load_cell rfl (ev_eq rfl) rfl (by assumption) ?_); refine hK _ _ ?_; clear hK K))
  refine (in_any b.lift 0 500 _).mono ?_
  rintro e w' ⟨rfl, rfl⟩
  cases q2 : Bod.inB 0 500 b.lift
  · have rchk : b.okB = false := by rw [Bod.okB_eq, q2]; simp
    go_wp2_with fail
    go_ret
    exact ⟨ret_int (by unfold Bod.Bd.chk; rw [rchk]; simp), hS.below⟩
  go_wp2_with (first
      | ((first | (with_reducible refine wpList_plain (o := ⟨some 1, .box _ _, _, _, _, _⟩) rfl fun K hK => ?_) | ((with_reducible refine BigFrame.wpList_want (o := ⟨some 1, .box _ _, _, _, _, _⟩) ?_ fun K hK => ?_); · rfl)); (first | refine wp_box_row rfl (ev_eq rfl) hS ?_ | refine wp_box_one rfl (ev_eq rfl) rfl hS ?_); clear hS; intro k1 W hS hBw hk0; clear hBw hk0; refine hK _ _ ?_; clear hK K)
      | ((first | (with_reducible refine wpList_plain (o := ⟨_, .load _ _, _, _, _, _⟩) rfl fun K hK => ?_) | ((with_reducible refine BigFrame.wpList_want (o := ⟨_, .load _ _, _, _, _, _⟩) ?_ fun K hK => ?_); · rfl)); (first | refine wp_load_one rfl (ev_eq rfl) hS (by repeat (first | exact List.Mem.head _ | apply List.Mem.tail)) rfl (by first | rfl | assumption) ?_ | refine wp_load_row' rfl (ev_eq rfl) hS (by repeat (first | exact List.Mem.head _ | apply List.Mem.tail)) rfl (by first | assumption | rfl) ?_ | refine wp_load_sub rfl (ev_eq rfl) hS (by repeat (first | exact List.Mem.head _ | apply List.Mem.tail)) rfl rfl (by first | assumption | exact of_decide_eq_true rfl | (simp; omega)) (by assumption) ?_ | refine wp_load_at rfl (ev_eq rfl) rfl (by assumption) (by first | assumption | rfl) ?_ | refine wp_load_cell rfl (ev_eq rfl) rfl (by assumption) ?_); refine hK _ _ ?_; clear hK K))
  refine (in_any b.girth 1 4 _).mono ?_
  rintro e w' ⟨rfl, rfl⟩
  cases q3 : Bod.inB 1 4 b.girth
  · have rchk : b.okB = false := by rw [Bod.okB_eq, q3]; simp
    go_wp2_with fail
    go_ret
    exact ⟨ret_int (by unfold Bod.Bd.chk; rw [rchk]; simp), hS.below⟩
  go_wp2_with (first
      | ((first | (with_reducible refine wpList_plain (o := ⟨some 1, .box _ _, _, _, _, _⟩) rfl fun K hK => ?_) | ((with_reducible refine BigFrame.wpList_want (o := ⟨some 1, .box _ _, _, _, _, _⟩) ?_ fun K hK => ?_); · rfl)); (first | refine wp_box_row rfl (ev_eq rfl) hS ?_ | refine wp_box_one rfl (ev_eq rfl) rfl hS ?_); clear hS; intro k1 W hS hBw hk0; clear hBw hk0; refine hK _ _ ?_; clear hK K)
      | ((first | (with_reducible refine wpList_plain (o := ⟨_, .load _ _, _, _, _, _⟩) rfl fun K hK => ?_) | ((with_reducible refine BigFrame.wpList_want (o := ⟨_, .load _ _, _, _, _, _⟩) ?_ fun K hK => ?_); · rfl)); (first | refine wp_load_one rfl (ev_eq rfl) hS (by repeat (first | exact List.Mem.head _ | apply List.Mem.tail)) rfl (by first | rfl | assumption) ?_ | refine wp_load_row' rfl (ev_eq rfl) hS (by repeat (first | exact List.Mem.head _ | apply List.Mem.tail)) rfl (by first | assumption | rfl) ?_ | refine wp_load_sub rfl (ev_eq rfl) hS (by repeat (first | exact List.Mem.head _ | apply List.Mem.tail)) rfl rfl (by first | assumption | exact of_decide_eq_true rfl | (simp; omega)) (by assumption) ?_ | refine wp_load_at rfl (ev_eq rfl) rfl (by assumption) (by first | assumption | rfl) ?_ | refine wp_load_cell rfl (ev_eq rfl) rfl (by assumption) ?_); refine hK _ _ ?_; clear hK K))
  refine (in_any b.step 1 16 _).mono ?_
  rintro e w' ⟨rfl, rfl⟩
  cases q4 : Bod.inB 1 16 b.step
  · have rchk : b.okB = false := by rw [Bod.okB_eq, q4]; simp
    go_wp2_with fail
    go_ret
    exact ⟨ret_int (by unfold Bod.Bd.chk; rw [rchk]; simp), hS.below⟩
  go_wp2_with (first
      | ((first | (with_reducible refine wpList_plain (o := ⟨some 1, .box _ _, _, _, _, _⟩) rfl fun K hK => ?_) | ((with_reducible refine BigFrame.wpList_want (o := ⟨some 1, .box _ _, _, _, _, _⟩) ?_ fun K hK => ?_); · rfl)); (first | refine wp_box_row rfl (ev_eq rfl) hS ?_ | refine wp_box_one rfl (ev_eq rfl) rfl hS ?_); clear hS; intro k1 W hS hBw hk0; clear hBw hk0; refine hK _ _ ?_; clear hK K)
      | ((first | (with_reducible refine wpList_plain (o := ⟨_, .load _ _, _, _, _, _⟩) rfl fun K hK => ?_) | ((with_reducible refine BigFrame.wpList_want (o := ⟨_, .load _ _, _, _, _, _⟩) ?_ fun K hK => ?_); · rfl)); (first | refine wp_load_one rfl (ev_eq rfl) hS (by repeat (first | exact List.Mem.head _ | apply List.Mem.tail)) rfl (by first | rfl | assumption) ?_ | refine wp_load_row' rfl (ev_eq rfl) hS (by repeat (first | exact List.Mem.head _ | apply List.Mem.tail)) rfl (by first | assumption | rfl) ?_ | refine wp_load_sub rfl (ev_eq rfl) hS (by repeat (first | exact List.Mem.head _ | apply List.Mem.tail)) rfl rfl (by first | assumption | exact of_decide_eq_true rfl | (simp; omega)) (by assumption) ?_ | refine wp_load_at rfl (ev_eq rfl) rfl (by assumption) (by first | assumption | rfl) ?_ | refine wp_load_cell rfl (ev_eq rfl) rfl (by assumption) ?_); refine hK _ _ ?_; clear hK K))
  refine (in_any b.jump 0 16 _).mono ?_
  rintro e w' ⟨rfl, rfl⟩
  cases q5 : Bod.inB 0 16 b.jump
  · have rchk : b.okB = false := by rw [Bod.okB_eq, q5]; simp
    go_wp2_with fail
    go_ret
    exact ⟨ret_int (by unfold Bod.Bd.chk; rw [rchk]; simp), hS.below⟩
  have hx6 : (cellsB b).extract 6 (6 + 3) = limbs b.r0 b.r1 b.r2 := rfl
  go_wp2_with (first
      | ((first | (with_reducible refine wpList_plain (o := ⟨some 1, .box _ _, _, _, _, _⟩) rfl fun K hK => ?_) | ((with_reducible refine BigFrame.wpList_want (o := ⟨some 1, .box _ _, _, _, _, _⟩) ?_ fun K hK => ?_); · rfl)); (first | refine wp_box_row rfl (ev_eq rfl) hS ?_ | refine wp_box_one rfl (ev_eq rfl) rfl hS ?_); clear hS; intro k1 W hS hBw hk0; clear hBw hk0; refine hK _ _ ?_; clear hK K)
      | ((first | (with_reducible refine wpList_plain (o := ⟨_, .load _ _, _, _, _, _⟩) rfl fun K hK => ?_) | ((with_reducible refine BigFrame.wpList_want (o := ⟨_, .load _ _, _, _, _, _⟩) ?_ fun K hK => ?_); · rfl)); (first | refine wp_load_one rfl (ev_eq rfl) hS (by repeat (first | exact List.Mem.head _ | apply List.Mem.tail)) rfl (by first | rfl | assumption) ?_ | refine wp_load_row' rfl (ev_eq rfl) hS (by repeat (first | exact List.Mem.head _ | apply List.Mem.tail)) rfl (by first | assumption | rfl) ?_ | refine wp_load_sub rfl (ev_eq rfl) hS (by repeat (first | exact List.Mem.head _ | apply List.Mem.tail)) rfl rfl (by first | assumption | exact of_decide_eq_true rfl | (simp; omega)) (by assumption) ?_ | refine wp_load_at rfl (ev_eq rfl) rfl (by assumption) (by first | assumption | rfl) ?_ | refine wp_load_cell rfl (ev_eq rfl) rfl (by assumption) ?_); refine hK _ _ ?_; clear hK K))
  clear hx6
  refine (three_any b.r0 b.r1 b.r2 8 _).mono ?_
  rintro e w' ⟨rfl, hb⟩
  replace hS := hS.step hb
  clear hb
  cases q6 : (Bod.inB 1 8 b.r0 && Bod.inB 1 8 b.r1 && Bod.inB 1 8 b.r2)
  · have rchk : b.okB = false := by rw [Bod.okB_eq, q6]; simp
    go_wp2_with fail
    go_ret
    exact ⟨ret_int (by unfold Bod.Bd.chk; rw [rchk]; simp), hS.below⟩
  have hx7 : (cellsB b).extract 9 (9 + 3) = limbs b.s0 b.s1 b.s2 := rfl
  go_wp2_with (first
      | ((first | (with_reducible refine wpList_plain (o := ⟨some 1, .box _ _, _, _, _, _⟩) rfl fun K hK => ?_) | ((with_reducible refine BigFrame.wpList_want (o := ⟨some 1, .box _ _, _, _, _, _⟩) ?_ fun K hK => ?_); · rfl)); (first | refine wp_box_row rfl (ev_eq rfl) hS ?_ | refine wp_box_one rfl (ev_eq rfl) rfl hS ?_); clear hS; intro k1 W hS hBw hk0; clear hBw hk0; refine hK _ _ ?_; clear hK K)
      | ((first | (with_reducible refine wpList_plain (o := ⟨_, .load _ _, _, _, _, _⟩) rfl fun K hK => ?_) | ((with_reducible refine BigFrame.wpList_want (o := ⟨_, .load _ _, _, _, _, _⟩) ?_ fun K hK => ?_); · rfl)); (first | refine wp_load_one rfl (ev_eq rfl) hS (by repeat (first | exact List.Mem.head _ | apply List.Mem.tail)) rfl (by first | rfl | assumption) ?_ | refine wp_load_row' rfl (ev_eq rfl) hS (by repeat (first | exact List.Mem.head _ | apply List.Mem.tail)) rfl (by first | assumption | rfl) ?_ | refine wp_load_sub rfl (ev_eq rfl) hS (by repeat (first | exact List.Mem.head _ | apply List.Mem.tail)) rfl rfl (by first | assumption | exact of_decide_eq_true rfl | (simp; omega)) (by assumption) ?_ | refine wp_load_at rfl (ev_eq rfl) rfl (by assumption) (by first | assumption | rfl) ?_ | refine wp_load_cell rfl (ev_eq rfl) rfl (by assumption) ?_); refine hK _ _ ?_; clear hK K))
  clear hx7
  refine (three_any b.s0 b.s1 b.s2 1048576 _).mono ?_
  rintro e w' ⟨rfl, hb⟩
  replace hS := hS.step hb
  clear hb
  cases q7 : (Bod.inB 1 1048576 b.s0 && Bod.inB 1 1048576 b.s1 && Bod.inB 1 1048576 b.s2)
  · have rchk : b.okB = false := by rw [Bod.okB_eq, q7]; simp
    go_wp2_with fail
    go_ret
    exact ⟨ret_int (by unfold Bod.Bd.chk; rw [rchk]; simp), hS.below⟩
  have hx8 : (cellsB b).extract 12 (12 + 3) = limbs b.t0 b.t1 b.t2 := rfl
  go_wp2_with (first
      | ((first | (with_reducible refine wpList_plain (o := ⟨some 1, .box _ _, _, _, _, _⟩) rfl fun K hK => ?_) | ((with_reducible refine BigFrame.wpList_want (o := ⟨some 1, .box _ _, _, _, _, _⟩) ?_ fun K hK => ?_); · rfl)); (first | refine wp_box_row rfl (ev_eq rfl) hS ?_ | refine wp_box_one rfl (ev_eq rfl) rfl hS ?_); clear hS; intro k1 W hS hBw hk0; clear hBw hk0; refine hK _ _ ?_; clear hK K)
      | ((first | (with_reducible refine wpList_plain (o := ⟨_, .load _ _, _, _, _, _⟩) rfl fun K hK => ?_) | ((with_reducible refine BigFrame.wpList_want (o := ⟨_, .load _ _, _, _, _, _⟩) ?_ fun K hK => ?_); · rfl)); (first | refine wp_load_one rfl (ev_eq rfl) hS (by repeat (first | exact List.Mem.head _ | apply List.Mem.tail)) rfl (by first | rfl | assumption) ?_ | refine wp_load_row' rfl (ev_eq rfl) hS (by repeat (first | exact List.Mem.head _ | apply List.Mem.tail)) rfl (by first | assumption | rfl) ?_ | refine wp_load_sub rfl (ev_eq rfl) hS (by repeat (first | exact List.Mem.head _ | apply List.Mem.tail)) rfl rfl (by first | assumption | exact of_decide_eq_true rfl | (simp; omega)) (by assumption) ?_ | refine wp_load_at rfl (ev_eq rfl) rfl (by assumption) (by first | assumption | rfl) ?_ | refine wp_load_cell rfl (ev_eq rfl) rfl (by assumption) ?_); refine hK _ _ ?_; clear hK K))
  clear hx8
  refine (three_any b.t0 b.t1 b.t2 3 _).mono ?_
  rintro e w' ⟨rfl, hb⟩
  replace hS := hS.step hb
  clear hb
  cases q8 : (Bod.inB 1 3 b.t0 && Bod.inB 1 3 b.t1 && Bod.inB 1 3 b.t2)
  · have rchk : b.okB = false := by rw [Bod.okB_eq, q8]; simp
    go_wp2_with fail
    go_ret
    exact ⟨ret_int (by unfold Bod.Bd.chk; rw [rchk]; simp), hS.below⟩
  go_wp2_with (first
      | ((first | (with_reducible refine wpList_plain (o := ⟨some 1, .box _ _, _, _, _, _⟩) rfl fun K hK => ?_) | ((with_reducible refine BigFrame.wpList_want (o := ⟨some 1, .box _ _, _, _, _, _⟩) ?_ fun K hK => ?_); · rfl)); (first | refine wp_box_row rfl (ev_eq rfl) hS ?_ | refine wp_box_one rfl (ev_eq rfl) rfl hS ?_); clear hS; intro k1 W hS hBw hk0; clear hBw hk0; refine hK _ _ ?_; clear hK K)
      | ((first | (with_reducible refine wpList_plain (o := ⟨_, .load _ _, _, _, _, _⟩) rfl fun K hK => ?_) | ((with_reducible refine BigFrame.wpList_want (o := ⟨_, .load _ _, _, _, _, _⟩) ?_ fun K hK => ?_); · rfl)); (first | refine wp_load_one rfl (ev_eq rfl) hS (by repeat (first | exact List.Mem.head _ | apply List.Mem.tail)) rfl (by first | rfl | assumption) ?_ | refine wp_load_row' rfl (ev_eq rfl) hS (by repeat (first | exact List.Mem.head _ | apply List.Mem.tail)) rfl (by first | assumption | rfl) ?_ | refine wp_load_sub rfl (ev_eq rfl) hS (by repeat (first | exact List.Mem.head _ | apply List.Mem.tail)) rfl rfl (by first | assumption | exact of_decide_eq_true rfl | (simp; omega)) (by assumption) ?_ | refine wp_load_at rfl (ev_eq rfl) rfl (by assumption) (by first | assumption | rfl) ?_ | refine wp_load_cell rfl (ev_eq rfl) rfl (by assumption) ?_); refine hK _ _ ?_; clear hK K))
  refine (in_any b.effort 0 1048576 _).mono ?_
  rintro e w' ⟨rfl, rfl⟩
  cases q9 : Bod.inB 0 1048576 b.effort
  · have rchk : b.okB = false := by rw [Bod.okB_eq, q9]; simp
    go_wp2_with fail
    go_ret
    exact ⟨ret_int (by unfold Bod.Bd.chk; rw [rchk]; simp), hS.below⟩
  go_wp2_with (first
      | ((first | (with_reducible refine wpList_plain (o := ⟨some 1, .box _ _, _, _, _, _⟩) rfl fun K hK => ?_) | ((with_reducible refine BigFrame.wpList_want (o := ⟨some 1, .box _ _, _, _, _, _⟩) ?_ fun K hK => ?_); · rfl)); (first | refine wp_box_row rfl (ev_eq rfl) hS ?_ | refine wp_box_one rfl (ev_eq rfl) rfl hS ?_); clear hS; intro k1 W hS hBw hk0; clear hBw hk0; refine hK _ _ ?_; clear hK K)
      | ((first | (with_reducible refine wpList_plain (o := ⟨_, .load _ _, _, _, _, _⟩) rfl fun K hK => ?_) | ((with_reducible refine BigFrame.wpList_want (o := ⟨_, .load _ _, _, _, _, _⟩) ?_ fun K hK => ?_); · rfl)); (first | refine wp_load_one rfl (ev_eq rfl) hS (by repeat (first | exact List.Mem.head _ | apply List.Mem.tail)) rfl (by first | rfl | assumption) ?_ | refine wp_load_row' rfl (ev_eq rfl) hS (by repeat (first | exact List.Mem.head _ | apply List.Mem.tail)) rfl (by first | assumption | rfl) ?_ | refine wp_load_sub rfl (ev_eq rfl) hS (by repeat (first | exact List.Mem.head _ | apply List.Mem.tail)) rfl rfl (by first | assumption | exact of_decide_eq_true rfl | (simp; omega)) (by assumption) ?_ | refine wp_load_at rfl (ev_eq rfl) rfl (by assumption) (by first | assumption | rfl) ?_ | refine wp_load_cell rfl (ev_eq rfl) rfl (by assumption) ?_); refine hK _ _ ?_; clear hK K))
  refine (in_any b.recover 0 1048576 _).mono ?_
  rintro e w' ⟨rfl, rfl⟩
  cases q10 : Bod.inB 0 1048576 b.recover
  · have rchk : b.okB = false := by rw [Bod.okB_eq, q10]; simp
    go_wp2_with fail
    go_ret
    exact ⟨ret_int (by unfold Bod.Bd.chk; rw [rchk]; simp), hS.below⟩
  have rchk : b.okB = true := by rw [Bod.okB_eq, q0, q1, q2, q3, q4, q5, q6, q7, q8, q9, q10]; rfl
  go_wp2_with fail
  go_ret
  exact ⟨ret_int (by unfold Bod.Bd.chk; rw [rchk]; simp), hS.below⟩

end Go.Proofs.Ytklppgkolcpbbaa
