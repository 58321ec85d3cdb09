/-
  Caps as an argument: nothing at all, or an address.
-/
import Derived.Test.YtklppgkolcpbbaaBodyOpen2
namespace Go.Proofs.Ytklppgkolcpbbaa
set_option linter.unusedSimpArgs false
set_option linter.unusedVariables false
open Go Go.RowKit Go.ChangeShapes Go.WideShapes Go.ChangeAt
theorem caps_some {H : Type} {enc : TypeId × Value → H} {w : World} {base : Nat} {sp : Nat → Bool} {held : Bool} {r : Reach} {b0 : Nat} {v : Value} {d : DataW H} {ps : List MemPlace}
    (hval : Value.okWide Try.prog w r b0 34 v) (hd : DataW.Trod enc Try.prog w base sp held 34 v d ps) : v = .slice none 0 0 ∨ ∃ ad k j, v = .slice (some ad) k j := by
  obtain ⟨A, n, cap, rfl⟩ := okWide_slice Try.underlying34 hval
  obtain ⟨fuel, hf⟩ := hd
  rcases DataW.trod_slice Try.underlying34 hf with ⟨he, _⟩ | ⟨a, len, cap', elems, rest, m, _, he, _⟩
  · simp [Value.cells] at he
    obtain ⟨rfl, rfl, rfl⟩ := he
    exact .inl rfl
  · simp [Value.cells] at he
    obtain ⟨rfl, rfl, rfl⟩ := he
    exact .inr ⟨_, _, _, rfl⟩
end Go.Proofs.Ytklppgkolcpbbaa
