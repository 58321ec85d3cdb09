/-
  Walk: body.within, over any slice of numbers.
-/
import Derived.Test.YtklppgkolcpbbaaRows
import Derived.Test.YtklppgkolcpbbaaBody
import Derived.Test.YtklppgkolcpbbaaSt
import Derived.WalkSpells
import Derived.WalkLawsBesides
namespace Go.Proofs.Ytklppgkolcpbbaa
set_option linter.unusedSimpArgs false
set_option linter.unusedVariables false
open Go Go.RowKit

theorem inB_no {lo hi v : Int} (h : v < lo ∨ hi < v) : Bod.inB lo hi v = false := by
  unfold Bod.inB
  rcases h with h | h
  · rw [decide_eq_false (by omega)]; rfl
  · rw [decide_eq_false (by omega : ¬ v ≤ hi)]; simp
theorem inB_yes {lo hi v : Int} (h : ¬ v < lo) (h' : ¬ hi < v) : Bod.inB lo hi v = true := by unfold Bod.inB; simp; omega

theorem all_take_succ {f : Int → Bool} {xs : List Int} {k : Nat} {x : Int} (hx : xs[k]? = some x) (h : (xs.take k).all f = true) (h' : f x = true) : (xs.take (k + 1)).all f = true := by
  rw [List.take_add_one, hx]
  simp [h, h']
theorem all_no {f : Int → Bool} {xs : List Int} {k : Nat} {x : Int} (hx : xs[k]? = some x) (h' : f x = false) : xs.all f = false := by
  rw [List.all_eq_false]
  exact ⟨x, List.mem_of_getElem? hx, by simp [h']⟩

theorem ret_boolW {a b : Bool} (h : a = b) : Ending.returned (.bool a) = .returned (.bool b) := by rw [h]
theorem within_any (lo hi : Int) (xs : List Int) (A : Option Addr) (n cap : Nat) (w : World) (hr : Rd w 1 A n (xs.map (.int .i64))) (hn : n ≤ maxLen) :
    Calls Try.prog 24 #[.int .i64 lo, .int .i64 hi, .slice A n cap] w fun e w' => e = .returned (.bool (xs.all (Bod.inB lo hi))) ∧ w = w' := by
  unfold maxLen at hn
  have hl : xs.length = n := by simpa using hr.1
  have HL := Lib.hid hl
  clear hl
  have HR := Lib.hid hr
  clear hr
  go_enter Try.func24, Try.ntmps24
  go_wp2
  go_loop [11] (fun i => ∃ k : Nat, k ≤ n ∧ i = .int .i64 k ∧ Hid ((xs.take k).all (Bod.inB lo hi) = true)) (fun i => n - (intOf i).toNat)
  case atStart => exact ⟨0, Nat.zero_le _, rfl, by simp [Hid]⟩
  case round =>
    obtain ⟨k, hk, rfl, hall⟩ := hrel
    by_cases hlt : k < n
    · obtain ⟨ad, u, rfl, hu, hc⟩ := HR.out.at_ hlt
      obtain ⟨x, hx, rfl⟩ : ∃ x, xs[k]? = some x ∧ u = .int .i64 x := by
        rw [List.getElem?_map] at hu
        cases hq : xs[k]? with
        | none => rw [hq] at hu; cases hu
        | some x => rw [hq] at hu; exact ⟨x, rfl, by simpa using hu.symm⟩
      have HX := Lib.hid hx
      clear hx hu
      by_cases h1 : x < lo
      · go_wp2
        go_ret
        exact ⟨ret_boolW (all_no HX.out (inB_no (.inl h1))).symm, rfl⟩
      · by_cases h2 : hi < x
        · go_wp2
          go_ret
          exact ⟨ret_boolW (all_no HX.out (inB_no (.inr h2))).symm, rfl⟩
        · go_wp2
          go_round
          case rel => exact ⟨k + 1, by omega, by go_num, all_take_succ HX.out hall (inB_yes h1 h2)⟩
          case measure => simp [intOf]; omega
    · go_wp2
      go_ret
      exact ⟨ret_boolW (by rw [← hall.out, List.take_of_length_le (by rw [HL.out]; omega)]), rfl⟩
end Go.Proofs.Ytklppgkolcpbbaa
