/-
  Walks: the class of a byte, and whether a text is a name.
-/
import Derived.Test.YtmkigejhgpoleaaRows
import Derived.Test.YtmkigejhgpoleaaBody
import Derived.Test.YtmkigejhgpoleaaShelf
import Derived.Test.YtmkigejhgpoleaaKit
import Derived.Test.YtmkigejhgpoleaaBodyW1
import Derived.WalkKit
import Derived.WalkSpells
import Derived.WalkLawsBesides
namespace Go.Proofs.Ytmkigejhgpoleaa
set_option linter.unusedSimpArgs false
set_option linter.unusedVariables false
open Go Go.RowKit

set_option maxHeartbeats 1000000 in
theorem class_any (c : UInt8) (w : World) :
    Calls Try.prog 58 #[.int .u8 c.toNat] w fun e w' => (∃ n, e = .returned (.int .i64 n) ∧ Bod.IsClass c n) ∧ w = w' := by
  go_enter Try.func58, Try.ntmps58
  go_wp2_with (go_at_call 69; refine (Try.strings_IndexByte _ _ _).mono ?_; rintro e w' ⟨rfl, rfl⟩)
  all_goals
    (try simp only [beq_iff_eq, beq_eq_false_iff_ne, ne_eq] at *)
    go_ret
    exact ⟨⟨_, rfl, Bod.isClass_mk (by omega)⟩, rfl⟩

def NRel (s : ByteArray) (i : Value) : Prop := ∃ k : Nat, k ≤ s.size ∧ i = .int .i64 k ∧ ∀ j, j < k → Bod.partB (s.data.toList.getD j 0) = true

theorem nameB_no {l : List UInt8} (k : Nat) (hk : k < l.length) (h : Bod.partB (l.getD k 0) = false) : Bod.nameB l = false := by
  unfold Bod.nameB
  have : l.all Bod.partB = false := by
    rw [List.all_eq_false]
    refine ⟨l.getD k 0, ?_, by rw [h]; simp⟩
    rw [List.getD_eq_getElem?_getD, List.getElem?_eq_getElem hk]
    exact List.getElem_mem _
  rw [this, Bool.and_false]

theorem nameB_yes {l : List UInt8} (h1 : 1 ≤ l.length) (h2 : l.length ≤ 32) (h3 : Bod.letterB (l.getD 0 0) = true) (h : ∀ j, j < l.length → Bod.partB (l.getD j 0) = true) : Bod.nameB l = true := by
  unfold Bod.nameB
  rw [h3, decide_eq_true ⟨h1, h2⟩]
  simp only [Bool.true_and]
  rw [List.all_eq_true]
  intro x hx
  obtain ⟨j, hj, rfl⟩ := List.mem_iff_getElem.1 hx
  have := h j hj
  rwa [List.getD_eq_getElem?_getD, List.getElem?_eq_getElem hj] at this

theorem class_two {c : UInt8} (h : Bod.letterB c = true) (w : World) :
    Calls Try.prog 58 #[.int .u8 c.toNat] w fun e w' => e = .returned (.int .i64 2) ∧ w = w' :=
  (class_any c w).mono fun _ _ ⟨⟨n, he, hn⟩, hw⟩ => ⟨by rw [he, hn.1.2 h], hw⟩
theorem class_three {c : UInt8} (h : Bod.letterB c = false) (h' : Bod.figureB c = true) (w : World) :
    Calls Try.prog 58 #[.int .u8 c.toNat] w fun e w' => e = .returned (.int .i64 3) ∧ w = w' :=
  (class_any c w).mono fun _ _ ⟨⟨n, he, hn⟩, hw⟩ => ⟨by rw [he, hn.2.1.2 ⟨h, h'⟩], hw⟩
theorem class_five {c : UInt8} (h : Bod.letterB c = false) (h' : Bod.figureB c = false) (h'' : (c == 95) = true) (w : World) :
    Calls Try.prog 58 #[.int .u8 c.toNat] w fun e w' => e = .returned (.int .i64 5) ∧ w = w' :=
  (class_any c w).mono fun _ _ ⟨⟨n, he, hn⟩, hw⟩ => ⟨by rw [he, hn.2.2.2 ⟨h, h', h''⟩], hw⟩
theorem class_not {c : UInt8} (h : Bod.letterB c = false) (w : World) :
    Calls Try.prog 58 #[.int .u8 c.toNat] w fun e w' => (∃ n, e = .returned (.int .i64 n) ∧ (n != 2) = true) ∧ w = w' :=
  (class_any c w).mono fun _ _ ⟨⟨n, he, hn⟩, hw⟩ => ⟨⟨n, he, by rw [hn.two, h]; rfl⟩, hw⟩
theorem class_none {c : UInt8} (h : Bod.partB c = false) (w : World) :
    Calls Try.prog 58 #[.int .u8 c.toNat] w fun e w' => (∃ n, e = .returned (.int .i64 n) ∧ (n != 2) = true ∧ (n != 3) = true ∧ (n != 5) = true) ∧ w = w' :=
  (class_any c w).mono fun _ _ ⟨⟨n, he, hn⟩, hw⟩ => ⟨⟨n, he, by
    have := hn.part
    rw [h] at this
    simp only [Bool.false_eq_true, iff_false] at this
    simp only [bne_iff_ne, ne_eq]
    omega⟩, hw⟩

theorem at_byte (s : ByteArray) (k : Nat) (h : k < s.size) : s.data.toList.getD k 0 = s[k] := by
  rw [List.getD_eq_getElem?_getD, List.getElem?_eq_getElem (by simpa using h)]; rfl

set_option maxHeartbeats 1000000 in
theorem name_any (s : ByteArray) (w : World) (hs : s.size ≤ maxLen) :
    Calls Try.prog 45 #[.string s] w fun e w' => e = .returned (.bool (Bod.nameB s.data.toList)) ∧ w = w' := by
  unfold maxLen at hs
  have hl : s.data.toList.length = s.size := by simp
  by_cases h0 : s.size = 0
  · have hd : s.data.toList = [] := List.length_eq_zero_iff.1 (by rw [hl, h0])
    have hn : Hid (Bod.nameB s.data.toList = false) := Lib.hid (by rw [hd]; rfl)
    have he : s.toList = [] := by rw [ByteArray.toList_eq, hd]
    have he' : s.toList.isEmpty = true := by rw [he]; rfl
    clear hd hl h0
    go_enter Try.func45, Try.ntmps45
    go_wp2_with fail
    go_ret
    exact ⟨ret_bool hn.out.symm, rfl⟩
  · have hne : s.toList.isEmpty = false := by
      rw [ByteArray.toList_eq]
      cases hq : s.data.toList with
      | nil => rw [hq] at hl; simp at hl; omega
      | cons a l => rfl
    have h1 : 0 < s.size := by omega
    have a0 := at_byte s 0 h1
    clear h0
    by_cases h32 : 32 < s.size
    · have hn : Hid (Bod.nameB s.data.toList = false) := Lib.hid (by unfold Bod.nameB; rw [decide_eq_false (by rw [hl]; omega)]; rfl)
      clear hl a0
      go_enter Try.func45, Try.ntmps45
      go_wp2_with fail
      go_ret
      exact ⟨ret_bool hn.out.symm, rfl⟩
    · cases hlt : Bod.letterB s[0] with
      | false =>
        have hn : Hid (Bod.nameB s.data.toList = false) := Lib.hid (by unfold Bod.nameB; rw [a0, hlt]; simp)
        clear hl a0
        go_enter Try.func45, Try.ntmps45
        go_wp2_with (go_at_call 58; refine (class_not hlt _).mono ?_; rintro e w' ⟨⟨n, rfl, hn2⟩, rfl⟩)
        go_ret
        exact ⟨ret_bool hn.out.symm, rfl⟩
      | true =>
        have HL := Lib.hid hl
        have HA := Lib.hid a0
        clear hl a0
        go_enter Try.func45, Try.ntmps45
        go_wp2_with (go_at_call 58; refine (class_two hlt _).mono ?_; rintro e w' ⟨rfl, rfl⟩)
        go_loop [20] (fun i => NRel s i) (fun i => s.size - (intOf i).toNat)
        case atStart => exact ⟨0, Nat.zero_le _, rfl, fun j h => by omega⟩
        case round =>
          obtain ⟨k, hk, rfl, hp⟩ := hrel
          have HP := Lib.hid hp
          clear hp
          by_cases hlk : k < s.size
          · have ak := Lib.hid (at_byte s k hlk)
            have next : Bod.partB s[k] = true → NRel s (.int .i64 ((k : Int) + 1)) := fun hpk => ⟨k + 1, by omega, by go_num, fun j hj => by
              by_cases e : j = k
              · subst e; rw [ak.out]; exact hpk
              · exact HP.out j (by omega)⟩
            have NX := Lib.hid next
            clear next
            cases h2 : Bod.letterB s[k] with
            | true =>
              go_wp2_with (go_at_call 58; refine (class_two h2 _).mono ?_; rintro e w' ⟨rfl, rfl⟩)
              go_round
              case rel => exact NX.out (by unfold Bod.partB; rw [h2]; rfl)
              case measure => simp [intOf]; omega
            | false =>
              cases h3 : Bod.figureB s[k] with
              | true =>
                go_wp2_with (go_at_call 58; refine (class_three h2 h3 _).mono ?_; rintro e w' ⟨rfl, rfl⟩)
                go_round
                case rel => exact NX.out (by unfold Bod.partB; rw [h2, h3]; rfl)
                case measure => simp [intOf]; omega
              | false =>
                cases h5 : s[k] == 95 with
                | true =>
                  go_wp2_with (go_at_call 58; refine (class_five h2 h3 h5 _).mono ?_; rintro e w' ⟨rfl, rfl⟩)
                  go_round
                  case rel => exact NX.out (by unfold Bod.partB; rw [h2, h3, h5]; rfl)
                  case measure => simp [intOf]; omega
                | false =>
                  have hpp : Bod.partB s[k] = false := by unfold Bod.partB; rw [h2, h3, h5]; rfl
                  have hn : Hid (Bod.nameB s.data.toList = false) := Lib.hid (nameB_no k (by rw [HL.out]; exact hlk) (by rw [ak.out]; exact hpp))
                  clear h2 h3 h5
                  go_wp2_with (go_at_call 58; refine (class_none hpp _).mono ?_; rintro e w' ⟨⟨n, rfl, hn2, hn3, hn5⟩, rfl⟩)
                  go_ret
                  exact ⟨ret_bool hn.out.symm, rfl⟩
          · have hn : Hid (Bod.nameB s.data.toList = true) := Lib.hid (nameB_yes (by rw [HL.out]; omega) (by rw [HL.out]; omega) (by rw [HA.out]; exact hlt) (fun j hj => HP.out j (by rw [HL.out] at hj; omega)))
            go_wp2_with fail
            go_ret
            exact ⟨ret_bool hn.out.symm, rfl⟩
end Go.Proofs.Ytmkigejhgpoleaa
