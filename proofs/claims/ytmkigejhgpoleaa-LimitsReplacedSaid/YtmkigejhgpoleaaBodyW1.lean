/-
  Walks: within, the rules of bodies, the fields by methods.
-/
import Derived.Test.YtmkigejhgpoleaaRows
import Derived.Test.YtmkigejhgpoleaaBody
import Derived.Test.YtmkigejhgpoleaaKit
import Derived.WalkKit
import Derived.WalkSpells
import Derived.WalkLawsBesides
import Derived.Laws.EntriesVeiled
import Derived.Deep.WholeRow
namespace Go.Proofs.Ytmkigejhgpoleaa
set_option linter.unusedSimpArgs false
set_option linter.unusedVariables false
open Go Go.RowKit

theorem ret_bool {a b : Bool} (h : a = b) : Ending.returned (.bool a) = .returned (.bool b) := by rw [h]

theorem within_one (lo hi x : Int) (b off : Nat) (w : World) (h0 : w.cell? ⟨b, off, none⟩ = some (.int .i64 x)) (cap : Nat) :
    Calls Try.prog 46 #[.int .i64 lo, .int .i64 hi, .slice (some ⟨b, off, none⟩) 1 cap] w fun e w' => e = .returned (.bool (Bod.inB lo hi x)) ∧ w = w' := by
  go_enter Try.func46, Try.ntmps46
  go_wp2
  go_loop [11] (fun i => (i = .int .i64 0) ∨ (i = .int .i64 1 ∧ Bod.inB lo hi x = true)) (fun i => 1 - (intOf i).toNat)
  case atStart => exact .inl rfl
  case round =>
    rcases hrel with rfl | ⟨rfl, hin⟩
    · by_cases h1 : x < lo
      · go_wp2
        go_ret
        exact ⟨ret_bool (by unfold Bod.inB; rw [decide_eq_false (by omega)]; rfl), rfl⟩
      · by_cases h2 : hi < x
        · go_wp2
          go_ret
          exact ⟨ret_bool (by unfold Bod.inB; rw [decide_eq_false (by omega : ¬ x ≤ hi)]; simp), rfl⟩
        · go_wp2
          go_round
          case rel => exact .inr ⟨rfl, by unfold Bod.inB; simp; omega⟩
          case measure => simp [intOf]
    · have HI := Lib.hid hin
      clear hin
      go_wp2
      go_ret
      exact ⟨ret_bool HI.out.symm, rfl⟩

theorem within_three (lo hi x y z : Int) (b off : Nat) (w : World) (h0 : w.cell? ⟨b, off, none⟩ = some (.int .i64 x)) (h1 : w.cell? ⟨b, off + 1, none⟩ = some (.int .i64 y)) (h2 : w.cell? ⟨b, off + 2, none⟩ = some (.int .i64 z)) (cap : Nat) :
    Calls Try.prog 46 #[.int .i64 lo, .int .i64 hi, .slice (some ⟨b, off, none⟩) 3 cap] w fun e w' => e = .returned (.bool (Bod.inB lo hi x && Bod.inB lo hi y && Bod.inB lo hi z)) ∧ w = w' := by
  go_enter Try.func46, Try.ntmps46
  go_wp2
  go_loop [11] (fun i => (i = .int .i64 0) ∨ (i = .int .i64 1 ∧ Bod.inB lo hi x = true) ∨ (i = .int .i64 2 ∧ (Bod.inB lo hi x && Bod.inB lo hi y) = true) ∨ (i = .int .i64 3 ∧ (Bod.inB lo hi x && Bod.inB lo hi y && Bod.inB lo hi z) = true)) (fun i => 3 - (intOf i).toNat)
  case atStart => exact .inl rfl
  case round =>
    have no : ∀ v, (v < lo ∨ hi < v) → Bod.inB lo hi v = false := fun v hv => by
      unfold Bod.inB
      rcases hv with h | h
      · rw [decide_eq_false (by omega)]; rfl
      · rw [decide_eq_false (by omega : ¬ v ≤ hi)]; simp
    have yes : ∀ v, ¬ v < lo → ¬ hi < v → Bod.inB lo hi v = true := fun v h h' => by unfold Bod.inB; simp; omega
    have HN := Lib.hid no
    have HY := Lib.hid yes
    clear no yes
    rcases hrel with rfl | ⟨rfl, hin⟩ | ⟨rfl, hin⟩ | ⟨rfl, hin⟩
    · by_cases k1 : x < lo
      · go_wp2
        go_ret
        exact ⟨ret_bool (by rw [HN.out x (.inl k1)]; rfl), rfl⟩
      · by_cases k2 : hi < x
        · go_wp2
          go_ret
          exact ⟨ret_bool (by rw [HN.out x (.inr k2)]; rfl), rfl⟩
        · go_wp2
          go_round
          case rel => exact .inr (.inl ⟨rfl, HY.out x k1 k2⟩)
          case measure => simp [intOf]
    · have HI := Lib.hid hin
      clear hin
      by_cases k1 : y < lo
      · go_wp2
        go_ret
        exact ⟨ret_bool (by rw [HN.out y (.inl k1)]; simp), rfl⟩
      · by_cases k2 : hi < y
        · go_wp2
          go_ret
          exact ⟨ret_bool (by rw [HN.out y (.inr k2)]; simp), rfl⟩
        · go_wp2
          go_round
          case rel => exact .inr (.inr (.inl ⟨rfl, by rw [HI.out, HY.out y k1 k2]; rfl⟩))
          case measure => simp [intOf]
    · have HI := Lib.hid hin
      clear hin
      by_cases k1 : z < lo
      · go_wp2
        go_ret
        exact ⟨ret_bool (by rw [HN.out z (.inl k1)]; simp), rfl⟩
      · by_cases k2 : hi < z
        · go_wp2
          go_ret
          exact ⟨ret_bool (by rw [HN.out z (.inr k2)]; simp), rfl⟩
        · go_wp2
          go_round
          case rel => exact .inr (.inr (.inr ⟨rfl, by rw [HI.out, HY.out z k1 k2]; rfl⟩))
          case measure => simp [intOf]
    · have HI := Lib.hid hin
      clear hin
      go_wp2
      go_ret
      exact ⟨ret_bool HI.out.symm, rfl⟩

/-- the rules of all kinds, as cells -/
def rulesC : Array Value := #[.nilFunc, .int .i64 0, .int .i64 0, .int .i64 0,
  .func (.func 59) #[] #[], .int .i64 1, .int .i64 3, .int .i64 2,
  .func (.func 60) #[] #[], .int .i64 1, .int .i64 1048576, .int .i64 2,
  .func (.func 61) #[] #[], .int .i64 1, .int .i64 16, .int .i64 0,
  .func (.func 62) #[] #[], .int .i64 0, .int .i64 16, .int .i64 0,
  .func (.func 63) #[] #[], .int .i64 0, .int .i64 500, .int .i64 0,
  .func (.func 64) #[] #[], .int .i64 0, .int .i64 1048576, .int .i64 0]
theorem rulesC_one : rulesC.all (·.oneCell') = true := by kernel_rfl
def rulesV : Value := .agg rulesC
def rulesO : Obj := .cells rulesC 80

theorem rules_any (w : World) : Calls Try.prog 47 #[] w fun e w' => e = .returned rulesV ∧ w.alloc rulesO = w' := by
  go_enter Try.func47, Try.ntmps47
  go_wp2_with (refine wpList_store_row rfl 80 _ _ rfl w.heap.size rulesC rfl rfl 80 _ (heap_alloc_last w _) (by kernel_rfl) rfl rulesC_one ?_; rw [World.setRow_alloc_new])
  refine bodyPost_ret (results_cell_row rfl _ _ _ 80 rulesC (0, 0) _ rfl (heap_alloc_last w _) Try.underlying80 rfl (by kernel_rfl)) rfl ⟨rfl, rfl⟩

theorem ftop_any (b off limb : Nat) (w : World) (hl : limb ≤ 2) : Calls Try.prog 59 #[.pointer (some ⟨b, off, none⟩), .int .i64 limb] w fun e w' => e = .returned (.pointer (some ⟨b, off + 12 + limb, none⟩)) ∧ w = w' := by
  go_enter Try.func59, Try.ntmps59
  go_wp2
  go_ret
  exact ⟨rfl, rfl⟩

theorem fspeed_any (b off limb : Nat) (w : World) (hl : limb ≤ 2) : Calls Try.prog 60 #[.pointer (some ⟨b, off, none⟩), .int .i64 limb] w fun e w' => e = .returned (.pointer (some ⟨b, off + 9 + limb, none⟩)) ∧ w = w' := by
  go_enter Try.func60, Try.ntmps60
  go_wp2
  go_ret
  exact ⟨rfl, rfl⟩

theorem fstep_any (b off : Nat) (n : Int) (w : World) : Calls Try.prog 61 #[.pointer (some ⟨b, off, none⟩), .int .i64 n] w fun e w' => e = .returned (.pointer (some ⟨b, off + 4, none⟩)) ∧ w = w' := by
  go_enter Try.func61, Try.ntmps61
  go_wp2
  go_ret
  exact ⟨rfl, rfl⟩

theorem fjump_any (b off : Nat) (n : Int) (w : World) : Calls Try.prog 62 #[.pointer (some ⟨b, off, none⟩), .int .i64 n] w fun e w' => e = .returned (.pointer (some ⟨b, off + 5, none⟩)) ∧ w = w' := by
  go_enter Try.func62, Try.ntmps62
  go_wp2
  go_ret
  exact ⟨rfl, rfl⟩

theorem flift_any (b off : Nat) (n : Int) (w : World) : Calls Try.prog 63 #[.pointer (some ⟨b, off, none⟩), .int .i64 n] w fun e w' => e = .returned (.pointer (some ⟨b, off + 2, none⟩)) ∧ w = w' := by
  go_enter Try.func63, Try.ntmps63
  go_wp2
  go_ret
  exact ⟨rfl, rfl⟩

theorem feffort_any (b off : Nat) (n : Int) (w : World) : Calls Try.prog 64 #[.pointer (some ⟨b, off, none⟩), .int .i64 n] w fun e w' => e = .returned (.pointer (some ⟨b, off + 15, none⟩)) ∧ w = w' := by
  go_enter Try.func64, Try.ntmps64
  go_wp2
  go_ret
  exact ⟨rfl, rfl⟩
end Go.Proofs.Ytmkigejhgpoleaa
