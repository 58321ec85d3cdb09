/-
  The executor: slices of slices, appends, rows of structs; slices that are handed back.
-/
import Derived.Test.YtmkigejhgpoleaaSy
namespace Go.Proofs.Ytmkigejhgpoleaa
set_option linter.unusedSimpArgs false
set_option linter.unusedVariables false
open Go Go.RowKit
namespace SX
/-- a part of a slice -/
def subS (A : Option Addr) (sz l h m : Nat) : Value := .slice (if m = l then A else A.map (·.add (l * sz))) (h - l) (m - l)
/-- the parts of a slice, with their contents -/
def SubK (A : Option Addr) (n c sz : Nat) (cells : List Value) (s : Value) (z : Nat) (xs : List Value) : Prop := z = sz ∧ ∃ l h m, l ≤ h ∧ h ≤ n ∧ h ≤ m ∧ m ≤ c ∧ s = subS A sz l h m ∧ xs = (cells.drop (l * sz)).take ((h - l) * sz)
theorem subS_full (A : Option Addr) (n c sz : Nat) : subS A sz 0 n c = .slice A n c := by
  unfold subS
  have : A.map (·.add (0 * sz)) = A := by cases A <;> simp [add_zero_addr, Addr.add]
  rw [this]
  split <;> rfl
theorem SubK.full {A : Option Addr} {n c sz : Nat} {cells : List Value} (hl : cells.length = n * sz) (hc : n ≤ c) : SubK A n c sz cells (.slice A n c) sz cells :=
  ⟨rfl, 0, n, c, Nat.zero_le _, Nat.le_refl _, hc, Nat.le_refl _, (subS_full A n c sz).symm, by simp [← hl]⟩
theorem SubK.part {β : Type} {f : β → List Value} {sz : Nat} (hf : ∀ a, (f a).length = sz) {A : Option Addr} {n c : Nat} {L : List β} {l h m : Nat} (h1 : l ≤ h) (h2 : h ≤ n) (h3 : h ≤ m) (h4 : m ≤ c) : SubK A n c sz (L.flatMap f) (subS A sz l h m) sz (((L.drop l).take (h - l)).flatMap f) :=
  ⟨rfl, l, h, m, h1, h2, h3, h4, rfl, by rw [flat_drop hf, flat_take hf]⟩
theorem SubK.rd {W : World} {A : Option Addr} {n c sz z : Nat} {cells xs : List Value} {s : Value} (hr : Rd W sz A n cells) (h : SubK A n c sz cells s z xs) : Arg.rd W ⟨s, z, xs⟩ := by
  obtain ⟨rfl, l, h, m, h1, h2, h3, h4, rfl, rfl⟩ := h
  have := (hr.take h2).cut (k := l) (cap := m) h1 (by omega)
  refine ⟨?_, by omega⟩
  show Rd W z _ _ _
  rw [List.drop_take, ← Nat.sub_mul] at this
  exact this
theorem SubK.frs {B : Nat} {A : Option Addr} {n c sz z : Nat} {cells xs : List Value} {s : Value} (hf : FrsB B (.slice A n c)) (h : SubK A n c sz cells s z xs) : FrsB B s := by
  obtain ⟨rfl, l, h, m, h1, h2, h3, h4, rfl, rfl⟩ := h
  intro ad k c' e hn
  injection e with e1 e2 e3
  subst e2
  split at e1
  · exact hf ad n c (by rw [e1]) (by omega)
  · cases A with
    | none => cases e1
    | some ad' =>
      simp only [Option.map_some, Option.some.injEq] at e1
      subst e1
      rw [block_of_add]
      exact hf ad' n c rfl (by omega)
section
variable {C : Cx} {ρ : List Value} {α : Nat → AV} {s i i' x y : V} {A : Option Addr} {n c k sz : Nat}
theorem slc_hm (hs : s.den ρ α = .slice A n c) (hi : i.den ρ α = .int .i64 (k : Int)) (hi' : i'.den ρ α = .int .i64 (k : Int)) (hk : k ≤ c) : Opq.rel C ρ α (.slc false sz false true true) [s, i, i'] (subS A sz 0 k k) := by
  show slcV _ _ _ _ _ _ = _
  simp only [denL, hs, hi, hi', slcV, optsV, Option.bind_some, boundsV, bndV]
  rw [if_pos (by omega)]
  simp only [Option.bind_some, Int.toNat_natCast]
  rw [if_pos (by omega)]
  simp [subS]
theorem slc_hi (hs : s.den ρ α = .slice A n c) (hi : i.den ρ α = .int .i64 (k : Int)) (hk : k ≤ c) : Opq.rel C ρ α (.slc false sz false true false) [s, i] (subS A sz 0 k c) := by
  show slcV _ _ _ _ _ _ = _
  simp only [denL, hs, hi, slcV, optsV, Option.bind_some, boundsV, bndV]
  rw [if_pos (by omega)]
  simp [subS]
theorem slc_lo (hs : s.den ρ α = .slice A n c) (hi : i.den ρ α = .int .i64 (k : Int)) (hk : k ≤ n) : Opq.rel C ρ α (.slc false sz true false false) [s, i] (subS A sz k n c) := by
  show slcV _ _ _ _ _ _ = _
  simp only [denL, hs, hi, slcV, optsV, Option.bind_some, boundsV, bndV]
  rw [if_pos (by omega)]
  simp [subS]
/-- what is appended -/
def srcRel (C : Cx) (ρ : List Value) (α : Nat → AV) (sz : Nat) (src : Rw) (y : V) (xs : List Value) : Prop := ∃ x, argsOk C ρ α [src] [y] [x] ∧ x.sz = sz ∧ x.cells = xs
theorem src_ext {xs : List Value} (hK : C.K (y.den ρ α) sz xs) : srcRel C ρ α sz (.ext sz) y xs := ⟨⟨y.den ρ α, sz, xs⟩, ⟨rfl, rfl, hK, trivial⟩, rfl, rfl⟩
theorem src_own {xs : List Value} {cs : List V} (h : denL ρ α cs = xs) : srcRel C ρ α sz (.own sz cs) y xs := ⟨⟨y.den ρ α, sz, xs⟩, ⟨by rw [← h], trivial⟩, rfl, rfl⟩
theorem app_rel {β : Type} {f : β → List Value} (hf : ∀ a, (f a).length = sz) (h1 : ∀ a, ∀ u ∈ f a, u.oneCell' = true) (h0 : 0 < sz) {l1 l2 : List β} {cc : V} {by' : Nat} {src : Rw} (hc : cellsV (cc.den ρ α) = l1.flatMap f) (hs : srcRel C ρ α sz src y (l2.flatMap f)) (hb : (l1.length + l2.length) * by' ≤ 140737488355328) (hl : l1.length + l2.length ≤ 140737488355328) : Opq.rel C ρ α (.app sz by' src) [cc, y] (.agg (l2.flatMap f).toArray) := by
  obtain ⟨x, ha, hz, hx⟩ := hs
  have e : ((cellsV (cc.den ρ α)).length + x.cells.length) / sz = l1.length + l2.length := by
    rw [hx, hc, flat_len hf, flat_len hf, ← Nat.add_mul, Nat.mul_div_cancel _ h0]
  refine ⟨x, ha, hz, fun u hu => ?_, by rw [e]; exact hb, by rw [e]; exact hl, by rw [hx]⟩
  rw [hx] at hu
  obtain ⟨a, _, h⟩ := List.mem_flatMap.1 hu
  exact h1 a u h
theorem appx_rel {β : Type} {f : β → List Value} (hf : ∀ a, (f a).length = sz) (h1 : ∀ a, ∀ u ∈ f a, u.oneCell' = true) (h0 : 0 < sz) {l1 l2 : List β} {by' : Nat} {src : Rw} {fr : Bool} {m : Nat} (hx : x.den ρ α = .slice A m m) (hK : C.K (.slice A m m) sz (l1.flatMap f)) (hA : C.A (.slice A m m) sz (l1.flatMap f)) (hs : srcRel C ρ α sz src y (l2.flatMap f)) (hfr : fr = true → l2 ≠ []) (hb : (l1.length + l2.length) * by' ≤ 140737488355328) (hl : l1.length + l2.length ≤ 140737488355328) : Opq.rel C ρ α (.appx sz by' fr src) [x, y] (.agg ((l1 ++ l2).flatMap f).toArray) := by
  obtain ⟨xa, ha, hz, hxa⟩ := hs
  have e : ((l1.flatMap f).length + xa.cells.length) / sz = l1.length + l2.length := by
    rw [hxa, flat_len hf, flat_len hf, ← Nat.add_mul, Nat.mul_div_cancel _ h0]
  have one : ∀ l : List β, ∀ u ∈ l.flatMap f, u.oneCell' = true := fun l u hu => by
    obtain ⟨a, _, h⟩ := List.mem_flatMap.1 hu
    exact h1 a u h
  refine ⟨l1.flatMap f, xa, A, m, hx, by rw [hx]; exact hK, fun _ => by rw [hx]; exact hA, one l1, ha, hz, by unfold srcOk; rw [hxa]; exact one l2, fun h => ?_, by rw [e]; exact hb, by rw [e]; exact hl, by rw [hxa, List.flatMap_append]⟩
  rw [hxa]
  intro hn
  cases l2 with
  | nil => exact hfr h rfl
  | cons a l =>
    have h2 : (l.length + 1) * sz = 0 := by
      have := congrArg List.length hn
      rwa [flat_len hf] at this
    have := Nat.mul_pos (show 0 < l.length + 1 by omega) h0
    omega
theorem row_bnd {β : Type} {f : β → List Value} (hf : ∀ a, (f a).length = sz) (h0 : 0 < sz) {l : List β} {cc : V} (hc : cellsV (cc.den ρ α) = l.flatMap f) (hi : i.den ρ α = .int .i64 (k : Int)) (hk : k < l.length) : Opq.rel C ρ α (.rbnd sz) [cc, i] (.bool true) := by
  refine ⟨?_, rfl⟩
  rw [hi, hc, flat_len hf]
  show 0 ≤ (k : Int) ∧ (k : Int) < ((l.length * sz / sz : Nat) : Int)
  rw [Nat.mul_div_cancel _ h0]
  omega
theorem row_elems {β : Type} {f : β → List Value} (hf : ∀ a, (f a).length = sz) (h0 : 0 < sz) {l : List β} {cc : V} {z : β} (hc : cellsV (cc.den ρ α) = l.flatMap f) (hi : i.den ρ α = .int .i64 (k : Int)) (hz : l[k]? = some z) : Opq.rel C ρ α (.relems sz 0 sz) [cc, i] (.agg (f z).toArray) := by
  have hk := (List.getElem?_eq_some_iff.1 hz).1
  refine ⟨(row_bnd (C := C) hf h0 hc hi hk).1, ?_, ?_⟩
  · rw [hc, hi, flat_len hf]
    have h1 : (k + 1) * sz ≤ l.length * sz := Nat.mul_le_mul_right _ hk
    rw [Nat.add_mul] at h1
    show (k : Int).toNat * sz + 0 + sz ≤ _
    rw [Int.toNat_natCast]; omega
  · rw [hc, hi]
    show _ = Value.agg (((l.flatMap f).drop ((k : Int).toNat * sz + 0)).take sz).toArray
    rw [Int.toNat_natCast, Nat.add_zero, flat_elem hf hz, List.take_left' (hf z)]
theorem row_set {β : Type} {f : β → List Value} (hf : ∀ a, (f a).length = sz) (h0 : 0 < sz) {l : List β} {cc : V} {vs : List V} {z : β} (hc : cellsV (cc.den ρ α) = l.flatMap f) (hi : i.den ρ α = .int .i64 (k : Int)) (hk : k < l.length) (hv : denL ρ α vs = f z) : Opq.rel C ρ α (.rset sz 0) (cc :: i :: vs) (.agg ((l.set k z).flatMap f).toArray) := by
  have hl : vs.length = sz := by have := congrArg List.length hv; rw [denL_len, hf] at this; exact this
  refine ⟨(row_bnd (C := C) hf h0 hc hi hk).1, by omega, ?_⟩
  rw [hc, hi, hv, hl]
  show _ = Value.agg ((l.flatMap f).take ((k : Int).toNat * sz + 0) ++ f z ++ (l.flatMap f).drop ((k : Int).toNat * sz + 0 + sz)).toArray
  rw [Int.toNat_natCast, Nat.add_zero, flat_take hf, show k * sz + sz = (k + 1) * sz by rw [Nat.add_mul]; omega, flat_drop hf, List.set_eq_take_append_cons_drop, if_pos hk]
  simp
theorem cat1 {j : Nat} {l : List Value} (h : ρ.getD j undef = .agg l.toArray) : cellsV ((V.cat [.x j []]).den ρ α) = l := by
  simp only [V.den, denL, List.foldl_nil, h, List.flatMap_cons, List.flatMap_nil, cellsV, List.append_nil]
end
/-- a slice that is handed back: new, or a part of one of those -/
def SlRet (w w' : World) (roots : List Arg) (hdr : Value) (sz : Nat) (cells : List Value) : Prop :=
  (∃ A len cap, hdr = .slice A len cap ∧ len ≤ cap) ∧ Arg.rd w' ⟨hdr, sz, cells⟩ ∧
  (FrsB w.heap.size hdr ∨ ∃ x ∈ roots, (∀ W2, x.rd W2 → Arg.rd W2 ⟨hdr, sz, cells⟩) ∧ ∀ B, FrsB B x.v → FrsB B hdr)
section
variable {w W : World} {rt : World → Prop} {rf : Nat → Prop} {hp : List (Option Blk)} {ps : List (World → Prop)} {ρ : List Value} {α : Nat → AV} {sz : Nat} {roots : List Arg}
theorem SlRet.nil {c : Nat} : SlRet w W roots (.slice none 0 c) sz [] := ⟨⟨_, _, _, rfl, Nat.zero_le _⟩, rd_empty, .inl fun ad n c e _ => by cases e⟩
theorem SlRet.ok {C : Cx} {f : FuncId} {x : Arg} {as' : List Arg} {W' : World} {e : Ending} {k : Int} {cells : List Value} (hs : C.sh f = .tp [.sl sz, .one]) (ha : C.ali f = [0]) (h : Below W.heap.size W W' ∧ ∃ hdr, e = .returned (.tuple #[hdr, .int .i64 k]) ∧ SlRet W W' [x] hdr sz cells) :
    Below W.heap.size W W' ∧ ∃ hdr, e = .returned ((C.sh f).fill hdr (.tuple #[.agg cells.toArray, .int .i64 k])) ∧ ∀ p z, (p, z) ∈ (C.sh f).sls [] → HdrOk C f (x :: as') W W' hdr z (cellsV (p.foldl comp (.tuple #[.agg cells.toArray, .int .i64 k]))) := by
  obtain ⟨hb, hdr, he, h1, h2, h3⟩ := h
  refine ⟨hb, hdr, by rw [hs, he]; rfl, fun p z hp => ?_⟩
  rw [hs] at hp
  obtain ⟨rfl, rfl⟩ : p = [0] ∧ z = sz := by simpa [Sh.sls, Sh.slsL] using hp
  refine ⟨h1, h2, h3.imp id fun ⟨y, hy, h4, h5⟩ => ⟨0, by rw [ha]; simp, x, rfl, ?_, ?_⟩⟩
  · obtain rfl : y = x := by simpa using hy
    exact h4
  · obtain rfl : y = x := by simpa using hy
    exact h5
theorem SlRet.root {x : Arg} (hx : x ∈ roots) (hr : x.rd W) (hs : ∃ A len cap, x.v = .slice A len cap ∧ len ≤ cap) : SlRet w W roots x.v x.sz x.cells := ⟨hs, hr, .inr ⟨x, hx, fun W2 h => h, fun B h => h⟩⟩
theorem SlRet.row (hS : St ⟨w, [], rt, rf⟩ (chs ρ α 0 hp) [] ps W) {n : Nat} {b : Blk} (hb : hp[n]? = some (some b)) (hk : b.k = .row sz) (hr : b.rowOk ρ α n) {cells : List Value} (hc : b.xs ρ α = cells) : SlRet w W roots ((α n).h) sz cells := by
  subst hc
  unfold Blk.rowOk at hr
  rw [hk] at hr
  obtain ⟨h0, ⟨h1, h2⟩ | ⟨len, cap, h1, h2, h3, h4, h5⟩⟩ := hr
  · rw [h1, h2]; exact .nil
  · have hm : (⟨(α n).b, (b.xs ρ α ++ (α n).tl).toArray, b.t⟩ : Ch) ∈ chs ρ α 0 hp := chs_mem (k := 0) hb (by simp only [Blk.ch, hk, Nat.zero_add, h1])
    rw [h1]
    refine ⟨⟨_, _, _, rfl, h4⟩, ⟨?_, h4⟩, .inl fun ad k c e _ => ?_⟩
    · refine Rd.of_blk (hS.at_ hm) h2 fun j u hu => ?_
      rw [Nat.zero_add]
      have : (b.xs ρ α ++ (α n).tl)[j]? = some u := by rw [List.getElem?_append_left (List.getElem?_eq_some_iff.1 hu).1]; exact hu
      simpa using this
    · cases e
      exact (hS.ge_ hm).resolve_right nofun
theorem SlRet.nrow (hS : St ⟨w, [], rt, rf⟩ (chs ρ α 0 hp) [] ps W) {n : Nat} {b : Blk} (hb : hp[n]? = some (some b)) (hk : b.k = .row sz) (hr : b.rowOk ρ α n) {cells : List Value} (hc : b.xs ρ α = cells) : ∃ b' tl', RowAt sz ((α n).h) b' b.t cells tl' W ∧ w.heap.size ≤ b' := by
  subst hc
  unfold Blk.rowOk at hr
  rw [hk] at hr
  obtain ⟨h0, ⟨h1, h2⟩ | ⟨len, cap, h1, h2, h3, h4, h5⟩⟩ := hr
  · exact ⟨w.heap.size, [], .inl ⟨h2, h1⟩, Nat.le_refl _⟩
  · have hm : (⟨(α n).b, (b.xs ρ α ++ (α n).tl).toArray, b.t⟩ : Ch) ∈ chs ρ α 0 hp := chs_mem (k := 0) hb (by simp only [Blk.ch, hk, Nat.zero_add, h1])
    exact ⟨(α n).b, (α n).tl, .inr ⟨len, cap, h1, h2, h3, h4, h5, hS.at_ hm⟩, (hS.ge_ hm).resolve_right nofun⟩
/-- a call's answer, whatever its contract's row says the old values are -/
theorem RCall.old {C : Cx} {f : FuncId} {rw' : List Rw} {as' : List Arg} {old old' : List Value} {t : TypeId} {v : Value} (h : RCall C f rw' as' old' sz t v) (e : old = old') : RCall C f rw' as' old sz t v := e ▸ h
theorem SlRet.own (hS : St ⟨w, [], rt, rf⟩ (chs ρ α 0 hp) [] ps W) {n l : Nat} {b : Blk} (hb : hp[n]? = some (some b)) (hk : b.k = .cells) {cells : List Value} (hc : denL ρ α b.c = cells) (hl : cells.length = l * sz) : SlRet w W roots (.slice (some ⟨(α n).b, 0, none⟩) l l) sz cells := by
  have hm : (⟨(α n).b, (denL ρ α b.c).toArray, b.t⟩ : Ch) ∈ chs ρ α 0 hp := chs_mem (k := 0) hb (by simp only [Blk.ch, hk, Nat.zero_add])
  refine ⟨⟨_, _, _, rfl, Nat.le_refl _⟩, ⟨Rd.of_all (hS.at_ hm) (by simp [hc]) hl, Nat.le_refl _⟩, .inl fun ad k c e _ => ?_⟩
  cases e
  exact (hS.ge_ hm).resolve_right nofun
theorem SlRet.ext {C : Cx} (hS : St ⟨w, [], Af C, Bf C⟩ (chs ρ α 0 hp) [] (exs ⟨w, [], Af C, Bf C⟩ ρ α 0 hp ++ ps) W) {n : Nat} {b : Blk} (hb : hp[n]? = some (some b)) (hk : b.k = .ext sz) (hr : b.rowOk ρ α n) {cells : List Value} (hc : b.xs ρ α = cells) {x : Arg} (hx : x ∈ roots) (hA : ∀ W2, x.rd W2 → Af C W2) (hB : ∀ B, FrsB B x.v → Bf C B) : SlRet w W roots ((α n).h) sz cells := by
  subst hc
  unfold Blk.rowOk at hr
  rw [hk] at hr
  obtain ⟨h0, A, len, cap, h1, h2, h3, _⟩ := hr
  obtain ⟨f1, f2⟩ := hS.fact (List.mem_append.2 (.inl (exs_mem.2 ⟨n, b, hb, by rw [Nat.zero_add]; simp only [Blk.ex, hk]; rfl⟩)))
  refine ⟨⟨A, len, cap, h1, h3⟩, f1, f2.imp id fun ⟨g1, g2⟩ => ⟨x, hx, fun W2 h => g1 W2 (hA W2 h), fun B h => g2 B (hB B h)⟩⟩
end
end SX
end Go.Proofs.Ytmkigejhgpoleaa
