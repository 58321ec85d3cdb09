/-
  law10's cards: what absorb computes.
-/
import Derived.Test.YtockbjpldlopiaaDoorHc
namespace Go.Proofs.YtockbjpldlopiaaDoor
set_option linter.unusedSimpArgs false
set_option linter.unusedVariables false
open Go Go.RowKit
/-- words as cells -/
def c32 (x : W32) : List Value := [w32 x]
theorem c32_len (x : W32) : (c32 x).length = 1 := rfl
theorem flat_c32 : ∀ l : List W32, l.flatMap c32 = l.map w32
  | [] => rfl
  | x :: l => by simp [c32, flat_c32 l]
def wordAt (l : List W8) (t : Nat) : W32 := wordOf (l.getD (4 * t) 0) (l.getD (4 * t + 1) 0) (l.getD (4 * t + 2) 0) (l.getD (4 * t + 3) 0)
theorem take4 (l : List W8) (h : 4 ≤ l.length) : l.take 4 = [l.getD 0 0, l.getD 1 0, l.getD 2 0, l.getD 3 0] := by
  match l, h with
  | a :: b :: c :: d :: l, _ => rfl
/-- the first 64 words -/
def ws0 (l : List W8) : List W32 := ((List.range 16).map fun t => wordAt l t) ++ List.replicate 48 0
theorem ws0_len (l : List W8) : (ws0 l).length = 64 := by simp [ws0]
def nextW (u : List W32) (t : Nat) : W32 := u.getD (t - 16) 0 + (rotL (u.getD (t - 15) 0) (turnOf (-7)) ^^^ rotL (u.getD (t - 15) 0) (turnOf (-18)) ^^^ u.getD (t - 15) 0 >>> 3) + u.getD (t - 7) 0 + (rotL (u.getD (t - 2) 0) (turnOf (-17)) ^^^ rotL (u.getD (t - 2) 0) (turnOf (-19)) ^^^ u.getD (t - 2) 0 >>> 10)
def expd (l : List W8) : Nat → List W32
  | 0 => ws0 l
  | k + 1 => (expd l k).set (16 + k) (nextW (expd l k) (16 + k))
theorem expd_len (l : List W8) : ∀ k, (expd l k).length = 64
  | 0 => ws0_len l
  | k + 1 => by simp [expd, expd_len l k]
structure S8 where
  a : W32
  b : W32
  c : W32
  d : W32
  e : W32
  f : W32
  g : W32
  h : W32
def S8.cells (s : S8) : List Value := [w32 s.a, w32 s.b, w32 s.c, w32 s.d, w32 s.e, w32 s.f, w32 s.g, w32 s.h]
def sig (x : W32) (a b c : Int) : W32 := rotL x (turnOf (-a)) ^^^ rotL x (turnOf (-b)) ^^^ rotL x (turnOf (-c))
def S8.p (s : S8) (k w : W32) : W32 := s.h + sig s.e 6 11 25 + (s.g ^^^ (s.e &&& (s.f ^^^ s.g))) + k + w
def S8.q (s : S8) : W32 := sig s.a 2 13 22 + ((s.a &&& s.b) ||| (s.c &&& (s.a ||| s.b)))
def S8.rnd (s : S8) (k w : W32) : S8 := ⟨s.p k w + s.q, s.a, s.b, s.c, s.d + s.p k w, s.e, s.f, s.g⟩
def numbersK : List W32 := [0x428a2f98, 0x71374491, 0xb5c0fbcf, 0xe9b5dba5, 0x3956c25b, 0x59f111f1, 0x923f82a4, 0xab1c5ed5, 0xd807aa98, 0x12835b01, 0x243185be, 0x550c7dc3, 0x72be5d74, 0x80deb1fe, 0x9bdc06a7, 0xc19bf174, 0xe49b69c1, 0xefbe4786, 0x0fc19dc6, 0x240ca1cc, 0x2de92c6f, 0x4a7484aa, 0x5cb0a9dc, 0x76f988da, 0x983e5152, 0xa831c66d, 0xb00327c8, 0xbf597fc7, 0xc6e00bf3, 0xd5a79147, 0x06ca6351, 0x14292967, 0x27b70a85, 0x2e1b2138, 0x4d2c6dfc, 0x53380d13, 0x650a7354, 0x766a0abb, 0x81c2c92e, 0x92722c85, 0xa2bfe8a1, 0xa81a664b, 0xc24b8b70, 0xc76c51a3, 0xd192e819, 0xd6990624, 0xf40e3585, 0x106aa070, 0x19a4c116, 0x1e376c08, 0x2748774c, 0x34b0bcb5, 0x391c0cb3, 0x4ed8aa4a, 0x5b9cca4f, 0x682e6ff3, 0x748f82ee, 0x78a5636f, 0x84c87814, 0x8cc70208, 0x90befffa, 0xa4506ceb, 0xbef9a3f7, 0xc67178f2]
def rnds (ws : List W32) (s : S8) : Nat → S8
  | 0 => s
  | k + 1 => (rnds ws s k).rnd (numbersK.getD k 0) (ws.getD k 0)
/-- the state after a block of 64 bytes -/
def absorbE (s : S8) (l : List W8) : S8 := let v := rnds (expd l 48) s 64; ⟨s.a + v.a, s.b + v.b, s.c + v.c, s.d + v.d, s.e + v.e, s.f + v.f, s.g + v.g, s.h + v.h⟩
section
variable {C : SX.Cx} {ρ : List Value} {α : Nat → SX.AV}
theorem relemW {c i : SX.V} {u : List W32} {k : Nat} (hc : SX.cellsV (c.den ρ α) = u.map w32) (hi : i.den ρ α = .int .i64 (k : Int)) (hk : k < u.length) : SX.Opq.rel C ρ α (.relem 1 0) [c, i] (w32 (u.getD k 0)) := by
  refine ⟨?_, ?_⟩
  · rw [hc, hi]
    refine ⟨by omega, ?_⟩
    simp only [List.length_map, Nat.div_one]
    omega
  · rw [hc, hi]
    simp [SX.idxOf, List.getD_eq_getElem?_getD, List.getElem?_eq_getElem hk]
theorem rsetW {c i x : SX.V} {u : List W32} {k : Nat} {y : W32} (hc : SX.cellsV (c.den ρ α) = u.map w32) (hi : i.den ρ α = .int .i64 (k : Int)) (hx : x.den ρ α = w32 y) (hk : k < u.length) : SX.Opq.rel C ρ α (.rset 1 0) [c, i, x] (.agg ((u.set k y).map w32).toArray) := by
  refine ⟨?_, by simp, ?_⟩
  · rw [hc, hi]
    refine ⟨by omega, ?_⟩
    simp only [List.length_map, Nat.div_one]
    omega
  · rw [hc, hi]
    simp only [SX.idxOf, Int.toNat_natCast, Nat.mul_one, Nat.add_zero, SX.denL, hx, List.length_cons, List.length_nil, Nat.zero_add]
    congr 2
    rw [List.map_set, List.set_eq_take_append_cons_drop, if_pos (by simpa using hk)]
    simp
theorem again_den {vals : List SX.V} {v0 : SX.V} {m N : Nat} {t : Value} {cs : List Value} (hv : vals = v0 :: (List.range N).map fun j => SX.V.x m [j]) (h0 : v0.den ρ α = t) (hm : ρ.getD m undef = .agg cs.toArray) (hl : cs.length = N) : SX.denL ρ α vals = t :: cs := by
  subst hv
  have := SX.xs_den (ρ := ρ) (α := α) (u := undef) (path := []) (m := m) (N := N) (cs := cs) (by rw [List.foldl_nil]; exact hm) hl
  simp only [List.nil_append] at this
  simp only [SX.denL, h0, this]
end
theorem VC_again2 {C : SX.Cx} {w0 : Org} {ps : List (World → Prop)} {T0 : List SX.TF} {R : Ending → World → Prop} {L : List (List Value → Prop)} {ρ : List Value} {l : Nat} {vals : List SX.V} {I : List Value → Prop} {μ : List Value → Nat} {m0 : Nat} (hL : L.getD l (fun _ => False) = fun ys => I ys ∧ μ ys < m0) (h : ∀ α, I (SX.denL ρ α vals)) (hm : ∀ α, μ (SX.denL ρ α vals) < m0) : SX.VC C w0 ps T0 R L ρ (.again l vals) :=
  SX.VC_again fun α => by rw [hL]; exact ⟨h α, hm α⟩
theorem fitW {n : Nat} (l : List W32) (h : l.length = n) : (SX.Sh.ag n).fit (.agg (l.map w32).toArray) = true := by
  simp only [SX.Sh.fit, List.length_map, h, beq_self_eq_true, Bool.true_and, List.all_eq_true]
  intro x hx
  obtain ⟨y, -, rfl⟩ := List.mem_map.1 hx
  rfl
theorem list64 (l : List W32) (h : l.length = 64) : ∃ g : Nat → W32, l = (List.range 64).map g := by
  refine ⟨fun j => l.getD j 0, ?_⟩
  apply List.ext_getElem
  · simp [h]
  · intro j h1 h2
    simp [List.getD_eq_getElem?_getD, h1]
end Go.Proofs.YtockbjpldlopiaaDoor
