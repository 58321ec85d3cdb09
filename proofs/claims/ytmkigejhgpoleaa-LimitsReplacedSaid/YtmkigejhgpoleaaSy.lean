/-
  The executor: small laws for the walks that are printed.
-/
import Derived.Test.YtmkigejhgpoleaaSx9
namespace Go.Proofs.Ytmkigejhgpoleaa
set_option linter.unusedSimpArgs false
set_option linter.unusedVariables false
open Go Go.RowKit
theorem wrap_i64 {x : Int} (h1 : -9223372036854775808 ≤ x) (h2 : x ≤ 9223372036854775807) : IntKind.i64.wrap x = x := by
  rw [IntKind.wrap_i64]; omega
theorem wrap_u64 {x : Int} (h1 : 0 ≤ x) (h2 : x ≤ 18446744073709551615) : IntKind.u64.wrap x = x := by
  simp only [IntKind.wrap, IntKind.signed, IntKind.bits]; simp; omega
namespace SX
section
variable {C : Cx} {w0 : Org} {ps : List (World → Prop)} {T0 : List TF} {R : Ending → World → Prop} {L : List (List Value → Prop)} {ρ : List Value}
theorem VC_df {q : Opq} {args : List V} {sh : Sh} {t : Tree} (v : Value) (h : ∀ α, q.rel C ρ α args v) (hf : sh.fit v = true) (k : VC C w0 ps T0 R L (ρ ++ [v]) t) : VC C w0 ps T0 R L ρ (.df q args sh t) := by
  unfold VC; exact ⟨v, h, hf, k⟩
theorem VC_br {i : Nat} {p : List Nat} {t e : Tree} (b : Bool) (h : p.foldl comp (ρ.getD i undef) = .bool b) (ht : b = true → VC C w0 ps T0 R L ρ t) (he : b = false → VC C w0 ps T0 R L ρ e) : VC C w0 ps T0 R L ρ (.br i p t e) := by
  unfold VC; exact ⟨b, h, ht, he⟩
theorem VC_ret {v : V} {hp : List (Option Blk)} {stk : List (List (Option V))} (h : ∀ α W, Fms ρ α stk T0 → (∀ (n : Nat) (b : Blk), hp[n]? = some (some b) → b.rowOk ρ α n) → St w0 (chs ρ α 0 hp) [] (exs w0 ρ α 0 hp ++ ps) W → R (.returned (v.den ρ α)) W) : VC C w0 ps T0 R L ρ (.ret v hp stk) := by
  unfold VC; exact h
theorem VC_loop {vals : List V} {shs : List Sh} {t : Tree} (I : List Value → Prop) (μ : List Value → Nat) (h0 : ∀ α, I (denL ρ α vals)) (h : ∀ xs, Sh.fitL shs xs = true → I xs → VC C w0 ps T0 R (L ++ [fun ys => I ys ∧ μ ys < μ xs]) (ρ ++ xs) t) : VC C w0 ps T0 R L ρ (.loop vals shs t) := by
  unfold VC; exact ⟨I, μ, h0, h⟩
theorem VC_again {l : Nat} {vals : List V} (h : ∀ α, (L.getD l fun _ => False) (denL ρ α vals)) : VC C w0 ps T0 R L ρ (.again l vals) := by
  unfold VC; exact h
theorem VC_sp {i : Nat} {p : List Nat} {l : List Tree} (j : Nat) (hj : j < l.length) (h : p.foldl comp (ρ.getD i undef) = .int .i64 j) (ht : ∀ t, l[j]? = some t → VC C w0 ps T0 R L ρ t) : VC C w0 ps T0 R L ρ (.sp i p l) := by
  unfold VC
  refine ⟨⟨j, hj, h⟩, ?_⟩
  rw [h]
  have key : ∀ (l : List Tree) (k : Nat), (∀ t m, l[m]? = some t → k + m = j → VC C w0 ps T0 R L ρ t) → VCs C w0 ps T0 R L ρ (.int .i64 (j : Int)) k l := by
    intro l
    induction l with
    | nil => intro k _; unfold VCs; trivial
    | cons t l ih =>
      intro k hk
      unfold VCs
      refine ⟨fun e => hk t 0 rfl ?_, ih (k + 1) fun t m hm he => hk t (m + 1) (by simpa using hm) (by omega)⟩
      injection e with _ e
      omega
  exact key l 0 fun t m hm he => ht t (by rw [← hm]; congr 1; omega)
end
theorem flat_len {β : Type} {f : β → List Value} {sz : Nat} (hf : ∀ a, (f a).length = sz) : ∀ l : List β, (l.flatMap f).length = l.length * sz
  | [] => by simp
  | a :: l => by simp only [List.flatMap_cons, List.length_append, List.length_cons, flat_len hf l, hf]; rw [Nat.add_mul]; omega
theorem flat_drop {β : Type} {f : β → List Value} {sz : Nat} (hf : ∀ a, (f a).length = sz) : ∀ (l : List β) (j : Nat), (l.flatMap f).drop (j * sz) = (l.drop j).flatMap f
  | l, 0 => by simp
  | [], j + 1 => by simp
  | a :: l, j + 1 => by
    rw [List.flatMap_cons, show (j + 1) * sz = (f a).length + j * sz by rw [hf, Nat.add_mul]; omega, List.drop_append, List.drop_of_length_le (by omega), List.nil_append, Nat.add_sub_cancel_left, List.drop_succ_cons, ← flat_drop hf l j]
theorem flat_take {β : Type} {f : β → List Value} {sz : Nat} (hf : ∀ a, (f a).length = sz) : ∀ (l : List β) (j : Nat), (l.flatMap f).take (j * sz) = (l.take j).flatMap f
  | l, 0 => by simp
  | [], j + 1 => by simp
  | a :: l, j + 1 => by
    rw [List.flatMap_cons, show (j + 1) * sz = (f a).length + j * sz by rw [hf, Nat.add_mul]; omega, List.take_length_add_append, List.take_succ_cons, List.flatMap_cons, ← flat_take hf l j]
theorem flat_elem {β : Type} {f : β → List Value} {sz : Nat} (hf : ∀ a, (f a).length = sz) {l : List β} {j : Nat} {z : β} (hz : l[j]? = some z) : (l.flatMap f).drop (j * sz) = f z ++ (l.drop (j + 1)).flatMap f := by
  rw [flat_drop hf, List.drop_eq_getElem_cons (List.getElem?_eq_some_iff.1 hz).1, List.flatMap_cons, (List.getElem?_eq_some_iff.1 hz).2]
theorem extBnd {C : Cx} {ρ : List Value} {α : Nat → AV} {s i : V} {A : Option Addr} {n c j : Nat} (hA : 0 < n → A.isSome = true) (hs : s.den ρ α = .slice A n c) (hi : i.den ρ α = .int .i64 (j : Int)) (hj : j < n) : Opq.rel C ρ α .bnd [s, i] (.bool true) := by
  obtain ⟨ad, rfl⟩ := Option.isSome_iff_exists.1 (hA (by omega))
  refine ⟨?_, rfl⟩
  rw [hs, hi]
  exact ⟨by omega, by omega⟩
theorem extElems {C : Cx} {ρ : List Value} {α : Nat → AV} {s i : V} {A : Option Addr} {n c j sz : Nat} {β : Type} {f : β → List Value} {l : List β} {z : β} (hf : ∀ a, (f a).length = sz) (hA : 0 < n → A.isSome = true) (hs : s.den ρ α = .slice A n c) (hi : i.den ρ α = .int .i64 (j : Int)) (hj : j < n) (hK : C.K (.slice A n c) sz (l.flatMap f)) (hz : l[j]? = some z) : Opq.rel C ρ α (.elems sz 0 sz) [s, i] (.agg (f z).toArray) := by
  refine ⟨(extBnd (C := C) hA hs hi hj).1, l.flatMap f, by rw [hs]; exact hK, ?_, ?_⟩
  · rw [hi, flat_len hf]
    have h1 : (j + 1) * sz ≤ l.length * sz := Nat.mul_le_mul_right _ (List.getElem?_eq_some_iff.1 hz).1
    rw [Nat.add_mul] at h1
    show (j : Int).toNat * sz + 0 + sz ≤ _
    rw [Int.toNat_natCast]; omega
  · rw [hi]
    show _ = Value.agg (((l.flatMap f).drop ((j : Int).toNat * sz + 0)).take sz).toArray
    rw [Int.toNat_natCast, Nat.add_zero, flat_elem hf hz, List.take_left' (hf z)]
theorem extElem {C : Cx} {ρ : List Value} {α : Nat → AV} {s i : V} {A : Option Addr} {n c j sz o : Nat} {β : Type} {f : β → List Value} {l : List β} {z : β} {v : Value} (hf : ∀ a, (f a).length = sz) (hA : 0 < n → A.isSome = true) (hs : s.den ρ α = .slice A n c) (hi : i.den ρ α = .int .i64 (j : Int)) (hj : j < n) (hK : C.K (.slice A n c) sz (l.flatMap f)) (hz : l[j]? = some z) (ho : o < sz) (hv : (f z)[o]? = some v) : Opq.rel C ρ α (.elem sz o) [s, i] v := by
  refine ⟨(extBnd (C := C) hA hs hi hj).1, l.flatMap f, by rw [hs]; exact hK, ?_⟩
  rw [hi]
  show (l.flatMap f)[(j : Int).toNat * sz + o]? = some v
  rw [Int.toNat_natCast, ← List.getElem?_drop, flat_elem hf hz, List.getElem?_append_left (by rw [hf]; exact ho), hv]
theorem shr1_u64 {a : Nat} : binV .shr (.int .u64 (a : Int)) (.int .u64 1) = some (.int .u64 ((a / 2 : Nat) : Int)) := by
  have e : ((a / 2 : Nat) : Int) = (a : Int).fdiv 2 := by
    rw [Int.fdiv_eq_ediv_of_nonneg _ (by omega)]; rfl
  simp only [binV]
  rw [if_neg (by omega), e]
  rfl
theorem eqr_rel {C : Cx} {ρ : List Value} {α : Nat → AV} {neq : Bool} {n : Nat} {l : List CK} {vs : List V} {β : Type} [DecidableEq β] {f : β → List Value} (hf : ∀ a b, f a = f b → a = b) {y z : β} (h : (f y = f z) = (denL ρ α (vs.take n) = denL ρ α (vs.drop n))) (h1 : fits l (denL ρ α (vs.take n)) = true) (h2 : fits l (denL ρ α (vs.drop n)) = true) : Opq.rel C ρ α (.eqr neq n l) vs (.bool (neq ^^ decide (y = z))) :=
  ⟨decide (y = z), by rw [← h, decide_eq_true_eq]; exact ⟨fun e => by rw [e], hf y z⟩, h1, h2, rfl⟩
theorem rd_some {W : World} {sz : Nat} {A : Option Addr} {n : Nat} {xs : List Value} (h : Rd W sz A n xs) : 0 < n → A.isSome = true := fun hn => by
  obtain ⟨ad, rfl, _⟩ := h.2 hn
  rfl
theorem noAli {C : Cx} {f : FuncId} {rw : List Rw} {as' : List Arg} (h : C.ali f = []) : aliRel C f rw as' := fun j hj => by rw [h] at hj; cases hj
theorem rem_nat {a b : Nat} (h : 0 < b) : binV .rem (.int .i64 (a : Int)) (.int .i64 (b : Int)) = some (.int .i64 ((a % b : Nat) : Int)) := by
  have hb : ¬ ((b : Int) = 0) := by omega
  have e : ((a % b : Nat) : Int) = (a : Int).tmod b := by
    rw [Int.tmod_eq_emod_of_nonneg (by omega)]; rfl
  simp only [binV]
  rw [if_pos trivial, if_neg hb, e]
/-- a value that is returned, the old blocks as they were -/
theorem ret_of {w : World} {rt : World → Prop} {rf : Nat → Prop} {hs : List Ch} {os : List Ow} {ps : List (World → Prop)} {W : World} {u v x : Value} (h : St ⟨w, [], rt, rf⟩ hs os ps W) (hu : Ending.returned v = .returned x) (hx : x = u) : Ending.returned v = .returned u ∧ Below w.heap.size w W := ⟨hu.trans (by rw [hx]), h.below⟩
end SX
theorem NRM : (∀ b : Bool, (true != b) = !b) ∧ (∀ b : Bool, (false != b) = b) ∧ (∀ b : Bool, (true ^^ b) = !b) ∧ (∀ b : Bool, (false ^^ b) = b) ∧ (∀ b : Bool, ((!b) = true) = (b = false)) ∧ (∀ b : Bool, ((!b) = false) = (b = true)) ∧ (∀ (p : Prop) [Decidable p], (decide p = true) = p) ∧ (∀ (p : Prop) [Decidable p], (decide p = false) = ¬ p) ∧ (∀ {α : Type} [BEq α] [LawfulBEq α] (a b : α), ((a == b) = true) = (a = b)) ∧ (∀ {α : Type} [BEq α] [LawfulBEq α] (a b : α), ((a != b) = true) = (a ≠ b)) ∧ (∀ {α : Type} (a b : α), (a ≠ b) = ¬ (a = b)) ∧ (∀ {α : Type} [BEq α] [LawfulBEq α] (a b : α), ((a == b) = false) = (a ≠ b)) ∧ (∀ {α : Type} [BEq α] [LawfulBEq α] (a b : α), ((a != b) = false) = (a = b)) ∧ (∀ {a b : Int}, (¬ a < b) = (b ≤ a)) ∧ (∀ {a b : Int}, (¬ a ≤ b) = (b < a)) ∧ (∀ {α : Type} [LT α] (a b : α), (a > b) = (b < a)) ∧ (∀ {α : Type} [LE α] (a b : α), (a ≥ b) = (b ≤ a)) :=
  ⟨by simp, by simp, by simp, by simp, by simp, by simp, fun p _ => by simp, fun p _ => by simp, by intros; simp, by intros; simp, by intros; simp, by intros; simp, by intros; simp, by intros; simp [Int.not_lt], by intros; simp [Int.not_le], by intros; rfl, by intros; rfl⟩
end Go.Proofs.Ytmkigejhgpoleaa
