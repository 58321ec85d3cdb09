/-
  Texts behind the statement, part 5.
-/
import Derived.Test.YtdamlaegboiokaaDoorPG4
import Derived.Test.YtdamlaegboiokaaDoorPG1
set_option linter.unusedSimpArgs false
set_option linter.unusedVariables false
namespace Go.Proofs.YtdamlaegboiokaaDoor
open Go Go.RowKit
namespace SX
def subS (A : Option Addr) (sz l h m : Nat) : Value := .slice (if m = l then A else A.map (·.add (l * sz))) (h - l) (m - l)
def SubK (A : Option Addr) (n c sz : Nat) (cells : List Value) (s : Value) (z : Nat) (xs : List Value) : Prop := z = sz ∧ ∃ l h m, l ≤ h ∧ h ≤ n ∧ h ≤ m ∧ m ≤ c ∧ s = subS A sz l h m ∧ xs = (cells.drop (l * sz)).take ((h - l) * sz)
theorem subS_full (A : Option Addr) (n c sz : Nat) : subS A sz 0 n c = .slice A n c := by
  unfold subS
  have : A.map (·.add (0 * sz)) = A := by cases A <;> simp [add_zero_addr, Addr.add]
  rw [this]
  split <;> rfl
theorem SubK.full {A : Option Addr} {n c sz : Nat} {cells : List Value} (hl : cells.length = n * sz) (hc : n ≤ c) : SubK A n c sz cells (.slice A n c) sz cells :=
  ⟨rfl, 0, n, c, Nat.zero_le _, Nat.le_refl _, hc, Nat.le_refl _, (subS_full A n c sz).symm, by simp [← hl]⟩
theorem SubK.part {β : Type} {f : β → List Value} {sz : Nat} (hf : ∀ a, (f a).length = sz) {A : Option Addr} {n c : Nat} {L : List β} {l h m : Nat} (h1 : l ≤ h) (h2 : h ≤ n) (h3 : h ≤ m) (h4 : m ≤ c) : SubK A n c sz (L.flatMap f) (subS A sz l h m) sz (((L.drop l).take (h - l)).flatMap f) :=
  ⟨rfl, l, h, m, h1, h2, h3, h4, rfl, by rw [flat_drop hf, flat_take hf]⟩
theorem SubK.rd {W : World} {A : Option Addr} {n c sz z : Nat} {cells xs : List Value} {s : Value} (hr : Rd W sz A n cells) (h : SubK A n c sz cells s z xs) : Arg.rd W ⟨s, z, xs⟩ := by
  obtain ⟨rfl, l, h, m, h1, h2, h3, h4, rfl, rfl⟩ := h
  have := (hr.take h2).cut (k := l) (cap := m) h1 (by omega)
  refine ⟨?_, by omega⟩
  show Rd W z _ _ _
  rw [List.drop_take, ← Nat.sub_mul] at this
  exact this
theorem SubK.frs {B : Nat} {A : Option Addr} {n c sz z : Nat} {cells xs : List Value} {s : Value} (hf : FrsB B (.slice A n c)) (h : SubK A n c sz cells s z xs) : FrsB B s := by
  obtain ⟨rfl, l, h, m, h1, h2, h3, h4, rfl, rfl⟩ := h
  intro ad k c' e hn
  injection e with e1 e2 e3
  subst e2
  split at e1
  · exact hf ad n c (by rw [e1]) (by omega)
  cases A with
  | none => cases e1
  | some ad' =>
    simp only [Option.map_some, Option.some.injEq] at e1
    subst e1
    rw [block_of_add]
    exact hf ad' n c rfl (by omega)
section
variable {C : Cx} {ρ : List Value} {α : Nat → AV} {s i i' x y : V} {A : Option Addr} {n c k sz : Nat}
theorem slc_hm (hs : s.den ρ α = .slice A n c) (hi : i.den ρ α = .int .i64 (k : Int)) (hi' : i'.den ρ α = .int .i64 (k : Int)) (hk : k ≤ c) : Opq.rel C ρ α (.slc false sz false true true) [s, i, i'] (subS A sz 0 k k) := by
  show slcV _ _ _ _ _ _ = _
  simp only [denL, hs, hi, hi', slcV, optsV, Option.bind_some, boundsV, bndV]
  rw [if_pos (by omega)]
  simp only [Option.bind_some, Int.toNat_natCast]
  rw [if_pos (by omega)]
  simp [subS]
theorem slc_hi (hs : s.den ρ α = .slice A n c) (hi : i.den ρ α = .int .i64 (k : Int)) (hk : k ≤ c) : Opq.rel C ρ α (.slc false sz false true false) [s, i] (subS A sz 0 k c) := by
  show slcV _ _ _ _ _ _ = _
  simp only [denL, hs, hi, slcV, optsV, Option.bind_some, boundsV, bndV]
  rw [if_pos (by omega)]
  simp [subS]
theorem slc_lo (hs : s.den ρ α = .slice A n c) (hi : i.den ρ α = .int .i64 (k : Int)) (hk : k ≤ n) : Opq.rel C ρ α (.slc false sz true false false) [s, i] (subS A sz k n c) := by
  show slcV _ _ _ _ _ _ = _
  simp only [denL, hs, hi, slcV, optsV, Option.bind_some, boundsV, bndV]
  rw [if_pos (by omega)]
  simp [subS]
def srcRel (C : Cx) (ρ : List Value) (α : Nat → AV) (sz : Nat) (src : Rw) (y : V) (xs : List Value) : Prop := ∃ x, argsOk C ρ α [src] [y] [x] ∧ x.sz = sz ∧ x.cells = xs
theorem src_ext {xs : List Value} (hK : C.K (y.den ρ α) sz xs) : srcRel C ρ α sz (.ext sz) y xs := ⟨⟨y.den ρ α, sz, xs⟩, ⟨rfl, rfl, hK, trivial⟩, rfl, rfl⟩
theorem src_own {xs : List Value} {cs : List V} (h : denL ρ α cs = xs) : srcRel C ρ α sz (.own sz cs) y xs := ⟨⟨y.den ρ α, sz, xs⟩, ⟨by rw [← h], trivial⟩, rfl, rfl⟩
theorem app_rel {β : Type} {f : β → List Value} (hf : ∀ a, (f a).length = sz) (h1 : ∀ a, ∀ u ∈ f a, u.oneCell' = true) (h0 : 0 < sz) {l1 l2 : List β} {cc : V} {by' : Nat} {src : Rw} (hc : cellsV (cc.den ρ α) = l1.flatMap f) (hs : srcRel C ρ α sz src y (l2.flatMap f)) (hb : (l1.length + l2.length) * by' ≤ 140737488355328) (hl : l1.length + l2.length ≤ 140737488355328) : Opq.rel C ρ α (.app sz by' src) [cc, y] (.agg (l2.flatMap f).toArray) := by
  obtain ⟨x, ha, hz, hx⟩ := hs
  have e : ((cellsV (cc.den ρ α)).length + x.cells.length) / sz = l1.length + l2.length := by
    rw [hx, hc, flat_len hf, flat_len hf, ← Nat.add_mul, Nat.mul_div_cancel _ h0]
  refine ⟨x, ha, hz, fun u hu => ?_, by rw [e]; exact hb, by rw [e]; exact hl, by rw [hx]⟩
  rw [hx] at hu
  obtain ⟨a, _, h⟩ := List.mem_flatMap.1 hu
  exact h1 a u h
theorem appx_rel {β : Type} {f : β → List Value} (hf : ∀ a, (f a).length = sz) (h1 : ∀ a, ∀ u ∈ f a, u.oneCell' = true) (h0 : 0 < sz) {l1 l2 : List β} {by' : Nat} {src : Rw} {fr : Bool} {m : Nat} (hx : x.den ρ α = .slice A m m) (hK : C.K (.slice A m m) sz (l1.flatMap f)) (hA : C.A (.slice A m m) sz (l1.flatMap f)) (hs : srcRel C ρ α sz src y (l2.flatMap f)) (hfr : fr = true → l2 ≠ []) (hb : (l1.length + l2.length) * by' ≤ 140737488355328) (hl : l1.length + l2.length ≤ 140737488355328) : Opq.rel C ρ α (.appx sz by' fr src) [x, y] (.agg ((l1 ++ l2).flatMap f).toArray) := by
  obtain ⟨xa, ha, hz, hxa⟩ := hs
  have e : ((l1.flatMap f).length + xa.cells.length) / sz = l1.length + l2.length := by
    rw [hxa, flat_len hf, flat_len hf, ← Nat.add_mul, Nat.mul_div_cancel _ h0]
  have one : ∀ l : List β, ∀ u ∈ l.flatMap f, u.oneCell' = true := fun l u hu => by
    obtain ⟨a, _, h⟩ := List.mem_flatMap.1 hu
    exact h1 a u h
  refine ⟨l1.flatMap f, xa, A, m, hx, by rw [hx]; exact hK, fun _ => by rw [hx]; exact hA, one l1, ha, hz, by unfold srcOk; rw [hxa]; exact one l2, fun h => ?_, by rw [e]; exact hb, by rw [e]; exact hl, by rw [hxa, List.flatMap_append]⟩
  rw [hxa]
  intro hn
  cases l2 with
  | nil => exact hfr h rfl
  | cons a l =>
    have h2 : (l.length + 1) * sz = 0 := by
      have := congrArg List.length hn
      rwa [flat_len hf] at this
    have := Nat.mul_pos (show 0 < l.length + 1 by omega) h0
    omega
theorem row_bnd {β : Type} {f : β → List Value} (hf : ∀ a, (f a).length = sz) (h0 : 0 < sz) {l : List β} {cc : V} (hc : cellsV (cc.den ρ α) = l.flatMap f) (hi : i.den ρ α = .int .i64 (k : Int)) (hk : k < l.length) : Opq.rel C ρ α (.rbnd sz) [cc, i] (.bool true) := by
  refine ⟨?_, rfl⟩
  rw [hi, hc, flat_len hf]
  show 0 ≤ (k : Int) ∧ (k : Int) < ((l.length * sz / sz : Nat) : Int)
  rw [Nat.mul_div_cancel _ h0]
  omega
theorem row_set {β : Type} {f : β → List Value} (hf : ∀ a, (f a).length = sz) (h0 : 0 < sz) {l : List β} {cc : V} {vs : List V} {z : β} (hc : cellsV (cc.den ρ α) = l.flatMap f) (hi : i.den ρ α = .int .i64 (k : Int)) (hk : k < l.length) (hv : denL ρ α vs = f z) : Opq.rel C ρ α (.rset sz 0) (cc :: i :: vs) (.agg ((l.set k z).flatMap f).toArray) := by
  have hl : vs.length = sz := by have := congrArg List.length hv; rw [denL_len, hf] at this; exact this
  refine ⟨(row_bnd (C := C) hf h0 hc hi hk).1, by omega, ?_⟩
  rw [hc, hi, hv, hl]
  show _ = Value.agg ((l.flatMap f).take ((k : Int).toNat * sz + 0) ++ f z ++ (l.flatMap f).drop ((k : Int).toNat * sz + 0 + sz)).toArray
  rw [Int.toNat_natCast, Nat.add_zero, flat_take hf, show k * sz + sz = (k + 1) * sz by rw [Nat.add_mul]; omega, flat_drop hf, List.set_eq_take_append_cons_drop, if_pos hk]
  simp
theorem cat1 {j : Nat} {l : List Value} (h : ρ.getD j undef = .agg l.toArray) : cellsV ((V.cat [.x j []]).den ρ α) = l := by
  simp only [V.den, denL, List.foldl_nil, h, List.flatMap_cons, List.flatMap_nil, cellsV, List.append_nil]
end
def SlRet (w w' : World) (roots : List Arg) (hdr : Value) (sz : Nat) (cells : List Value) : Prop :=
  (∃ A len cap, hdr = .slice A len cap ∧ len ≤ cap) ∧ Arg.rd w' ⟨hdr, sz, cells⟩ ∧
  (FrsB w.heap.size hdr ∨ ∃ x ∈ roots, (∀ W2, x.rd W2 → Arg.rd W2 ⟨hdr, sz, cells⟩) ∧ ∀ B, FrsB B x.v → FrsB B hdr)
section
variable {w W : World} {rt : World → Prop} {rf : Nat → Prop} {hp : List (Option Blk)} {ps : List (World → Prop)} {ρ : List Value} {α : Nat → AV} {sz : Nat} {roots : List Arg}
theorem SlRet.nil {c : Nat} : SlRet w W roots (.slice none 0 c) sz [] := ⟨⟨_, _, _, rfl, Nat.zero_le _⟩, rd_empty, .inl fun ad n c e _ => by cases e⟩
theorem SlRet.ok {C : Cx} {f : FuncId} {x : Arg} {as' : List Arg} {W' : World} {e : Ending} {k : Int} {cells : List Value} (hs : C.sh f = .tp [.sl sz, .one]) (ha : C.ali f = [0]) (h : Below W.heap.size W W' ∧ ∃ hdr, e = .returned (.tuple #[hdr, .int .i64 k]) ∧ SlRet W W' [x] hdr sz cells) :
    Below W.heap.size W W' ∧ ∃ hdr, e = .returned ((C.sh f).fill hdr (.tuple #[.agg cells.toArray, .int .i64 k])) ∧ ∀ p z, (p, z) ∈ (C.sh f).sls [] → HdrOk C f (x :: as') W W' hdr z (cellsV (p.foldl comp (.tuple #[.agg cells.toArray, .int .i64 k]))) := by
  obtain ⟨hb, hdr, he, h1, h2, h3⟩ := h
  refine ⟨hb, hdr, by rw [hs, he]; rfl, fun p z hp => ?_⟩
  rw [hs] at hp
  obtain ⟨rfl, rfl⟩ : p = [0] ∧ z = sz := by simpa [Sh.sls, Sh.slsL] using hp
  refine ⟨h1, h2, h3.imp id fun ⟨y, hy, h4, h5⟩ => ⟨0, by rw [ha]; simp, x, rfl, ?_, ?_⟩⟩
  · obtain rfl : y = x := by simpa using hy
    exact h4
  obtain rfl : y = x := by simpa using hy
  exact h5
theorem SlRet.row (hS : St ⟨w, [], rt, rf⟩ (chs ρ α 0 hp) [] ps W) {n : Nat} {b : Blk} (hb : hp[n]? = some (some b)) (hk : b.k = .row sz) (hr : b.rowOk ρ α n) {cells : List Value} (hc : b.xs ρ α = cells) : SlRet w W roots ((α n).h) sz cells := by
  subst hc
  unfold Blk.rowOk at hr
  rw [hk] at hr
  obtain ⟨h0, ⟨h1, h2⟩ | ⟨len, cap, h1, h2, h3, h4, h5⟩⟩ := hr
  · rw [h1, h2]; exact .nil
  have hm : (⟨(α n).b, (b.xs ρ α ++ (α n).tl).toArray, b.t⟩ : Ch) ∈ chs ρ α 0 hp := chs_mem (k := 0) hb (by simp only [Blk.ch, hk, Nat.zero_add, h1])
  rw [h1]
  refine ⟨⟨_, _, _, rfl, h4⟩, ⟨?_, h4⟩, .inl fun ad k c e _ => ?_⟩
  · refine Rd.of_blk (hS.at_ hm) h2 fun j u hu => ?_
    rw [Nat.zero_add]
    have : (b.xs ρ α ++ (α n).tl)[j]? = some u := by rw [List.getElem?_append_left (List.getElem?_eq_some_iff.1 hu).1]; exact hu
    simpa using this
  cases e
  exact (hS.ge_ hm).resolve_right nofun
theorem RCall.old {C : Cx} {f : FuncId} {rw' : List Rw} {as' : List Arg} {old old' : List Value} {t : TypeId} {v : Value} (h : RCall C f rw' as' old' sz t v) (e : old = old') : RCall C f rw' as' old sz t v := e ▸ h
theorem SlRet.own (hS : St ⟨w, [], rt, rf⟩ (chs ρ α 0 hp) [] ps W) {n l : Nat} {b : Blk} (hb : hp[n]? = some (some b)) (hk : b.k = .cells) {cells : List Value} (hc : denL ρ α b.c = cells) (hl : cells.length = l * sz) : SlRet w W roots (.slice (some ⟨(α n).b, 0, none⟩) l l) sz cells := by
  have hm : (⟨(α n).b, (denL ρ α b.c).toArray, b.t⟩ : Ch) ∈ chs ρ α 0 hp := chs_mem (k := 0) hb (by simp only [Blk.ch, hk, Nat.zero_add])
  refine ⟨⟨_, _, _, rfl, Nat.le_refl _⟩, ⟨Rd.of_all (hS.at_ hm) (by simp [hc]) hl, Nat.le_refl _⟩, .inl fun ad k c e _ => ?_⟩
  cases e
  exact (hS.ge_ hm).resolve_right nofun
theorem SlRet.ext {C : Cx} (hS : St ⟨w, [], Af C, Bf C⟩ (chs ρ α 0 hp) [] (exs ⟨w, [], Af C, Bf C⟩ ρ α 0 hp ++ ps) W) {n : Nat} {b : Blk} (hb : hp[n]? = some (some b)) (hk : b.k = .ext sz) (hr : b.rowOk ρ α n) {cells : List Value} (hc : b.xs ρ α = cells) {x : Arg} (hx : x ∈ roots) (hA : ∀ W2, x.rd W2 → Af C W2) (hB : ∀ B, FrsB B x.v → Bf C B) : SlRet w W roots ((α n).h) sz cells := by
  subst hc
  unfold Blk.rowOk at hr
  rw [hk] at hr
  obtain ⟨h0, A, len, cap, h1, h2, h3, _⟩ := hr
  obtain ⟨f1, f2⟩ := hS.fact (List.mem_append.2 (.inl (exs_mem.2 ⟨n, b, hb, by rw [Nat.zero_add]; simp only [Blk.ex, hk]; rfl⟩)))
  refine ⟨⟨A, len, cap, h1, h3⟩, f1, f2.imp id fun ⟨g1, g2⟩ => ⟨x, hx, fun W2 h => g1 W2 (hA W2 h), fun B h => g2 B (hB B h)⟩⟩
end
end SX
abbrev W32 := BitVec 32
abbrev W8 := BitVec 8
def w32 (x : W32) : Value := .int .u32 (x.toNat : Int)
def w8 (x : W8) : Value := .int .u8 (x.toNat : Int)
theorem wrap_u32 (n : Nat) : IntKind.u32.wrap (n : Int) = ((BitVec.ofNat 32 n).toNat : Int) := by
  simp [IntKind.wrap, IntKind.signed, IntKind.bits]
theorem wrap_u8 (n : Nat) : IntKind.u8.wrap (n : Int) = ((BitVec.ofNat 8 n).toNat : Int) := by
  simp [IntKind.wrap, IntKind.signed, IntKind.bits]
theorem w_add (x y : W32) : SX.binV .add (w32 x) (w32 y) = some (w32 (x + y)) := by
  simp only [SX.binV, binI, w32, if_true]
  rw [← Int.natCast_add, wrap_u32, BitVec.ofNat_add]
  simp
theorem w_and (x y : W32) : SX.binV .and (w32 x) (w32 y) = some (w32 (x &&& y)) := by
  have h : (BitVec.ofInt 32 (x.toNat : Int)) = x := by apply BitVec.eq_of_toNat_eq; simp
  have h' : (BitVec.ofInt 32 (y.toNat : Int)) = y := by apply BitVec.eq_of_toNat_eq; simp
  simp only [SX.binV, w32, if_true, IntKind.bits, h, h', wrap_u32, BitVec.ofNat_toNat, BitVec.setWidth_eq]
  rfl
theorem w_or (x y : W32) : SX.binV .or (w32 x) (w32 y) = some (w32 (x ||| y)) := by
  have h : (BitVec.ofInt 32 (x.toNat : Int)) = x := by apply BitVec.eq_of_toNat_eq; simp
  have h' : (BitVec.ofInt 32 (y.toNat : Int)) = y := by apply BitVec.eq_of_toNat_eq; simp
  simp only [SX.binV, w32, if_true, IntKind.bits, h, h', wrap_u32, BitVec.ofNat_toNat, BitVec.setWidth_eq]
  rfl
theorem w_xor (x y : W32) : SX.binV .xor (w32 x) (w32 y) = some (w32 (x ^^^ y)) := by
  have h : (BitVec.ofInt 32 (x.toNat : Int)) = x := by apply BitVec.eq_of_toNat_eq; simp
  have h' : (BitVec.ofInt 32 (y.toNat : Int)) = y := by apply BitVec.eq_of_toNat_eq; simp
  simp only [SX.binV, w32, if_true, IntKind.bits, h, h', wrap_u32, BitVec.ofNat_toNat, BitVec.setWidth_eq]
  rfl
theorem w_shl (x : W32) (k : IntKind) (n : Nat) (hn : n < 32) : SX.binV .shl (w32 x) (.int k (n : Int)) = some (w32 (x <<< n)) := by
  have h1 : ¬ ((n : Int) < 0) := by omega
  have h2 : min n 32 = n := by omega
  simp only [SX.binV, w32, h1, if_false, Int.toNat_natCast, IntKind.bits, h2]
  rw [show ((x.toNat : Int) * 2 ^ n) = ((x.toNat * 2 ^ n : Nat) : Int) by simp, wrap_u32]
  congr 2
  simp [BitVec.toNat_shiftLeft, Nat.shiftLeft_eq]
theorem w_shr (x : W32) (k : IntKind) (n : Nat) (hn : n < 32) : SX.binV .shr (w32 x) (.int k (n : Int)) = some (w32 (x >>> n)) := by
  have h1 : ¬ ((n : Int) < 0) := by omega
  have h2 : min n 32 = n := by omega
  simp only [SX.binV, w32, h1, if_false, Int.toNat_natCast, IntKind.bits, h2]
  rw [BitVec.toNat_ushiftRight, Nat.shiftRight_eq_div_pow]
  congr 2
  rw [show ((2 : Int) ^ n) = ((2 ^ n : Nat) : Int) by simp, Int.fdiv_eq_ediv_of_nonneg _ (Int.natCast_nonneg _)]
  exact (Int.natCast_ediv _ _).symm
theorem w_conv8 (b : W8) : SX.convV .u32 (w8 b) = some (w32 (b.setWidth 32)) := by
  simp [SX.convV, w8, w32, wrap_u32]
theorem w_to8 (n : Nat) (k : IntKind) : SX.convV .u8 (.int k (n : Int)) = some (w8 (BitVec.ofNat 8 n)) := by
  simp [SX.convV, w8, wrap_u8]
def rotL (x : W32) (n : Nat) : W32 := x <<< n ||| x >>> (32 - n)
noncomputable def cx0 (K A : Value → Nat → List Value → Prop) : SX.Cx := { P := Tryd.prog, R := fun _ _ _ _ => False, shp := fun _ => none, K := K, A := A }
theorem cx0_ok (K A : Value → Nat → List Value → Prop) : (cx0 K A).Ok := SX.Cx.ok_of (fun _ => rfl) fun _ f xs v W h => h.elim
def tree_rotl : SX.Tree :=
(.df (.conv .u64) [(.q 1)] .one
(.df (.bin .and 87) [(.q 2), (.k (.int .u64 31))] .one
(.df (.bin .shl 70) [(.q 0), (.q 3)] .one
(.df (.bin .sub 87) [(.k (.int .u64 32)), (.q 3)] .one
(.df (.bin .shr 70) [(.q 0), (.q 5)] .one
(.df (.bin .or 70) [(.q 4), (.q 6)] .one
(.ret (.q 7) [] [])))))))
def args_rotl : List SX.V := [.x 0 [], .x 1 []]
set_option maxRecDepth 100000 in
theorem run_rotl (K A : Value → Nat → List Value → Prop) : (SX.run (cx0 K A) ⟨fun _ => false, [], 0, 100⟩ 100000 0 (SX.door 54 Tryd.f54 args_rotl [.one, .one]) [.code (Tryd.f54.body.getD .skip), .top Tryd.f54]).strip = tree_rotl := by kernel_rfl
def turnOf (k : Int) : Nat := (k % 32).toNat
def turns : List Int := [-2, -6, -7, -11, -13, -17, -18, -19, -22, -25]
set_option maxRecDepth 100000 in
theorem rotl_any (x : W32) (k : Int) (hk : k ∈ turns) (w : World) : Calls Tryd.prog 54 #[w32 x, .int .i64 k] w fun e w' => e = .returned (w32 (rotL x (turnOf k))) ∧ Below w.heap.size w w' := by
  have hc : SX.convV .u64 (.int .i64 k) = some (.int .u64 (IntKind.u64.wrap k)) := rfl
  have ha : SX.binV .and (.int .u64 (IntKind.u64.wrap k)) (.int .u64 31) = some (.int .u64 (turnOf k : Nat)) := by
    simp only [turns, List.mem_cons, List.not_mem_nil, or_false] at hk
    rcases hk with rfl | rfl | rfl | rfl | rfl | rfl | rfl | rfl | rfl | rfl <;> kernel_rfl
  have hb : 0 < turnOf k ∧ turnOf k < 32 := by
    simp only [turns, List.mem_cons, List.not_mem_nil, or_false] at hk
    rcases hk with rfl | rfl | rfl | rfl | rfl | rfl | rfl | rfl | rfl | rfl <;> decide
  have hs : SX.binV .sub (.int .u64 32) (.int .u64 (turnOf k : Nat)) = some (.int .u64 ((32 - turnOf k : Nat) : Int)) := by
    simp only [SX.binV, binI, if_true]
    rw [wrap_u64 (by omega) (by omega)]
    congr 2
    omega
  refine SX.calls_of_run (C := cx0 (fun _ _ _ => False) (fun _ _ _ => False)) (G := ⟨fun _ => false, [], 0, 100⟩) (args := args_rotl) (sh := [.one, .one]) (ρ := [w32 x, .int .i64 k]) 100000 tree_rotl (cx0_ok _ _) Tryd.func54 rfl (run_rotl _ _) (by kernel_rfl) (by kernel_rfl) (by kernel_rfl) (fun W _ => SX.Kf_none (fun _ _ _ h => h) W) ?_
  unfold tree_rotl
  refine SX.E (.int .u64 (IntKind.u64.wrap k)) (fun α => cast (by kernel_rfl) hc) ?_
  refine SX.E (.int .u64 (turnOf k : Nat)) (fun α => cast (by kernel_rfl) ha) ?_
  refine SX.E (w32 (x <<< turnOf k)) (fun α => cast (by kernel_rfl) (w_shl x .u64 (turnOf k) hb.2)) ?_
  refine SX.E (.int .u64 ((32 - turnOf k : Nat) : Int)) (fun α => cast (by kernel_rfl) hs) ?_
  refine SX.E (w32 (x >>> (32 - turnOf k))) (fun α => cast (by kernel_rfl) (w_shr x .u64 (32 - turnOf k) (by omega))) ?_
  refine SX.E (w32 (rotL x (turnOf k))) (fun α => cast (by kernel_rfl) (w_or (x <<< turnOf k) (x >>> (32 - turnOf k)))) ?_
  exact SX.VC_ret fun α W _ _ hS => SX.ret_of hS (x := w32 (rotL x (turnOf k))) (by kernel_rfl) rfl
def RotR (f : FuncId) (xs : List SX.Arg) (v : Value) : Prop := f = 54 ∧ ∃ (x : W32) (k : Int), k ∈ turns ∧ xs = [⟨w32 x, 0, []⟩, ⟨.int .i64 k, 0, []⟩] ∧ v = w32 (rotL x (turnOf k))
noncomputable def cxR (K A : Value → Nat → List Value → Prop) : SX.Cx := { P := Tryd.prog, R := fun _ => RotR, shp := fun f => if f = 54 then some .one else none, K := K, A := A }
theorem cxR_ok (K A : Value → Nat → List Value → Prop) : (cxR K A).Ok := SX.Cx.ok_of (fun _ => rfl) fun _ f xs v W h hrd hK => by
  obtain ⟨rfl, x, k, hk, rfl, rfl⟩ := h
  exact (rotl_any x k hk W).mono fun e w' h => SX.plainOk rfl h
def tree_rotated : SX.Tree :=
(.df .neg [(.q 1)] .one
(.df (.call 54 [.no, .no]) [(.q 0), (.q 4)] .one
(.df .neg [(.q 2)] .one
(.df (.call 54 [.no, .no]) [(.q 0), (.q 6)] .one
(.df (.bin .xor 70) [(.q 5), (.q 7)] .one
(.df .neg [(.q 3)] .one
(.df (.call 54 [.no, .no]) [(.q 0), (.q 9)] .one
(.df (.bin .xor 70) [(.q 8), (.q 10)] .one
(.ret (.q 11) [] [])))))))))
def args_rotated : List SX.V := [.x 0 [], .x 1 [], .x 2 [], .x 3 []]
set_option maxRecDepth 100000 in
theorem run_rotated (K A : Value → Nat → List Value → Prop) : (SX.run (cxR K A) ⟨fun _ => false, [], 0, 100⟩ 100000 0 (SX.door 55 Tryd.f55 args_rotated [.one, .one, .one, .one]) [.code (Tryd.f55.body.getD .skip), .top Tryd.f55]).strip = tree_rotated := by kernel_rfl
set_option maxRecDepth 100000 in
theorem rotated_any (x : W32) (a b c : Int) (ha : -a ∈ turns) (hb : -b ∈ turns) (hc : -c ∈ turns) (w : World) : Calls Tryd.prog 55 #[w32 x, .int .i64 a, .int .i64 b, .int .i64 c] w fun e w' => e = .returned (w32 (rotL x (turnOf (-a)) ^^^ rotL x (turnOf (-b)) ^^^ rotL x (turnOf (-c)))) ∧ Below w.heap.size w w' := by
  have hn : ∀ a : Int, -a ∈ turns → SX.negV (.int .i64 a) = some (.int .i64 (-a)) := fun a h => by
    simp only [SX.negV]
    rw [wrap_i64]
    · revert h; generalize -a = b; intro h; simp only [turns, List.mem_cons, List.not_mem_nil, or_false] at h; omega
    revert h; generalize -a = b; intro h; simp only [turns, List.mem_cons, List.not_mem_nil, or_false] at h; omega
  refine SX.calls_of_run (C := cxR (fun _ _ _ => False) (fun _ _ _ => False)) (G := ⟨fun _ => false, [], 0, 100⟩) (args := args_rotated) (sh := [.one, .one, .one, .one]) (ρ := [w32 x, .int .i64 a, .int .i64 b, .int .i64 c]) 100000 tree_rotated (cxR_ok _ _) Tryd.func55 rfl (run_rotated _ _) (by kernel_rfl) (by kernel_rfl) (by kernel_rfl) (fun W _ => SX.Kf_none (fun _ _ _ h => h) W) ?_
  unfold tree_rotated
  refine SX.E (.int .i64 (-a)) (fun α => cast (by kernel_rfl) (hn a ha)) ?_
  refine SX.E (w32 (rotL x (turnOf (-a)))) (fun α => ⟨[⟨w32 x, 0, []⟩, ⟨.int .i64 (-a), 0, []⟩], ⟨by kernel_rfl, by kernel_rfl, by kernel_rfl, by kernel_rfl, trivial⟩, ⟨rfl, x, -a, ha, rfl, rfl⟩, SX.noAli rfl⟩) ?_
  refine SX.E (.int .i64 (-b)) (fun α => cast (by kernel_rfl) (hn b hb)) ?_
  refine SX.E (w32 (rotL x (turnOf (-b)))) (fun α => ⟨[⟨w32 x, 0, []⟩, ⟨.int .i64 (-b), 0, []⟩], ⟨by kernel_rfl, by kernel_rfl, by kernel_rfl, by kernel_rfl, trivial⟩, ⟨rfl, x, -b, hb, rfl, rfl⟩, SX.noAli rfl⟩) ?_
  refine SX.E (w32 (rotL x (turnOf (-a)) ^^^ rotL x (turnOf (-b)))) (fun α => cast (by kernel_rfl) (w_xor (rotL x (turnOf (-a))) (rotL x (turnOf (-b))))) ?_
  refine SX.E (.int .i64 (-c)) (fun α => cast (by kernel_rfl) (hn c hc)) ?_
  refine SX.E (w32 (rotL x (turnOf (-c)))) (fun α => ⟨[⟨w32 x, 0, []⟩, ⟨.int .i64 (-c), 0, []⟩], ⟨by kernel_rfl, by kernel_rfl, by kernel_rfl, by kernel_rfl, trivial⟩, ⟨rfl, x, -c, hc, rfl, rfl⟩, SX.noAli rfl⟩) ?_
  refine SX.E (w32 (rotL x (turnOf (-a)) ^^^ rotL x (turnOf (-b)) ^^^ rotL x (turnOf (-c)))) (fun α => cast (by kernel_rfl) (w_xor (rotL x (turnOf (-a)) ^^^ rotL x (turnOf (-b))) (rotL x (turnOf (-c))))) ?_
  exact SX.VC_ret fun α W _ _ hS => SX.ret_of hS (x := w32 (rotL x (turnOf (-a)) ^^^ rotL x (turnOf (-b)) ^^^ rotL x (turnOf (-c)))) (by kernel_rfl) rfl
def c8 (b : W8) : List Value := [w8 b]
theorem c8_len (b : W8) : (c8 b).length = 1 := rfl
noncomputable def cxW (K A : Value → Nat → List Value → Prop) : SX.Cx := { cx0 K A with cut := [(3, 0, false), (8, 1, false), (14, 2, false), (20, 3, false), (26, 4, true)] }
theorem cxW_ok (K A : Value → Nat → List Value → Prop) : (cxW K A).Ok := SX.Cx.ok_of (fun _ => rfl) fun _ f xs v W h => h.elim
def wordOf (a b c d : W8) : W32 := (((0 ||| a.setWidth 32) <<< 8 ||| b.setWidth 32) <<< 8 ||| c.setWidth 32) <<< 8 ||| d.setWidth 32
def tree_word : SX.Tree :=
(.df (.slc false 1 false true false) [(.q 0), (.i 4)] .one
(.df (.len false) [(.q 1)] .one
(.df (.bin .lss 3) [(.i 0), (.q 2)] .one
(.br 3 []
(.df .bnd [(.q 1), (.i 0)] .one
(.df (.elem 1 0) [(.q 1), (.i 0)] .one
(.df (.conv .u32) [(.q 5)] .one
(.df (.bin .or 70) [(.k (.int .u32 0)), (.q 6)] .one
(.df (.bin .lss 3) [(.i 1), (.q 2)] .one
(.br 8 []
(.df .bnd [(.q 1), (.i 1)] .one
(.df (.elem 1 0) [(.q 1), (.i 1)] .one
(.df (.bin .shl 70) [(.q 7), (.k (.int .u64 8))] .one
(.df (.conv .u32) [(.q 10)] .one
(.df (.bin .or 70) [(.q 11), (.q 12)] .one
(.df (.bin .lss 3) [(.i 2), (.q 2)] .one
(.br 14 []
(.df .bnd [(.q 1), (.i 2)] .one
(.df (.elem 1 0) [(.q 1), (.i 2)] .one
(.df (.bin .shl 70) [(.q 13), (.k (.int .u64 8))] .one
(.df (.conv .u32) [(.q 16)] .one
(.df (.bin .or 70) [(.q 17), (.q 18)] .one
(.df (.bin .lss 3) [(.i 3), (.q 2)] .one
(.br 20 []
(.df .bnd [(.q 1), (.i 3)] .one
(.df (.elem 1 0) [(.q 1), (.i 3)] .one
(.df (.bin .shl 70) [(.q 19), (.k (.int .u64 8))] .one
(.df (.conv .u32) [(.q 22)] .one
(.df (.bin .or 70) [(.q 23), (.q 24)] .one
(.df (.bin .lss 3) [(.i 4), (.q 2)] .one
(.br 26 [] (.bad 70 [])
(.ret (.q 25) [] [])))))))) (.bad 70 [])))))))) (.bad 70 [])))))))) (.bad 70 []))))))) (.bad 70 [])))))
def args_word : List SX.V := [.x 0 []]
set_option maxRecDepth 100000 in
theorem run_word (K A : Value → Nat → List Value → Prop) : (SX.run (cxW K A) ⟨fun _ => false, [], 0, 100⟩ 100000 0 (SX.door 53 Tryd.f53 args_word [.any]) [.code (Tryd.f53.body.getD .skip), .top Tryd.f53]).strip = tree_word := by kernel_rfl
set_option maxRecDepth 100000 in
theorem word_any (l : List W8) (b0 b1 b2 b3 : W8) (hl : l.take 4 = [b0, b1, b2, b3]) (A : Option Addr) (n c : Nat) (w : World) (hr : Rd w 1 A n (l.flatMap c8)) (hn : n ≤ 9223372036854775807) (hc : n ≤ c) : Calls Tryd.prog 53 #[.slice A n c] w fun e w' => e = .returned (w32 (wordOf b0 b1 b2 b3)) ∧ Below w.heap.size w w' := by
  have hln : l.length = n := by have := hr.1; rw [SX.flat_len c8_len] at this; omega
  have h4 : 4 ≤ n := by
    have := congrArg List.length hl
    simp only [List.length_take, List.length_cons, List.length_nil] at this
    omega
  refine SX.calls_of_run (C := cxW (SX.SubK A n c 1 (l.flatMap c8)) (fun _ _ _ => False)) (G := ⟨fun _ => false, [], 0, 100⟩) (args := args_word) (sh := [.any]) (ρ := [.slice A n c]) 100000 tree_word (cxW_ok _ _) Tryd.func53 rfl (run_word _ _) (by kernel_rfl) (by kernel_rfl) (by kernel_rfl) (fun W hW s z xs h => SX.SubK.rd (hr.same0 hW) h) ?_
  have hA := SX.rd_some hr
  have hA' : 0 < 4 → (if c = 0 then A else A.map (·.add (0 * 1))).isSome = true := fun _ => by
    rw [if_neg (by omega)]
    have := hA (by omega)
    cases A with
    | none => cases this
    | some a => rfl
  have hK : SX.SubK A n c 1 (l.flatMap c8) (.slice (if c = 0 then A else A.map (·.add (0 * 1))) 4 c) 1 ([b0, b1, b2, b3].flatMap c8) := by
    have := SX.SubK.part c8_len (A := A) (n := n) (c := c) (L := l) (l := 0) (h := 4) (m := c) (by omega) h4 (by omega) (by omega)
    rw [show ((l.drop 0).take (4 - 0)) = [b0, b1, b2, b3] from hl] at this
    exact this
  unfold tree_word
  refine SX.E (SX.subS A 1 0 4 c) (fun α => SX.slc_hi (n := n) (k := 4) (by kernel_rfl) (by kernel_rfl) (by omega)) ?_
  refine SX.D (.int .i64 4) ?_
  refine SX.D (.bool true) ?_
  refine SX.B true (fun _ => ?_) (fun h => absurd h (by simp))
  refine SX.E (.bool true) (fun α => SX.extBnd (A := if c = 0 then A else A.map (·.add (0 * 1))) (n := 4) (c := c) (j := 0) hA' (by kernel_rfl) (by kernel_rfl) (by omega)) ?_
  refine SX.E (w8 b0) (fun α => SX.extElem (f := c8) (l := [b0, b1, b2, b3]) (A := if c = 0 then A else A.map (·.add (0 * 1))) (n := 4) (c := c) (j := 0) (z := b0) c8_len hA' (by kernel_rfl) (by kernel_rfl) (by omega) (cast (by kernel_rfl) hK) rfl (by omega) rfl) ?_
  refine SX.E (w32 (b0.setWidth 32)) (fun α => cast (by kernel_rfl) (w_conv8 b0)) ?_
  refine SX.E (w32 (0 ||| b0.setWidth 32 : W32)) (fun α => cast (by kernel_rfl) (w_or 0 (b0.setWidth 32))) ?_
  refine SX.D (.bool true) ?_
  refine SX.B true (fun _ => ?_) (fun h => absurd h (by simp))
  refine SX.E (.bool true) (fun α => SX.extBnd (A := if c = 0 then A else A.map (·.add (0 * 1))) (n := 4) (c := c) (j := 1) hA' (by kernel_rfl) (by kernel_rfl) (by omega)) ?_
  refine SX.E (w8 b1) (fun α => SX.extElem (f := c8) (l := [b0, b1, b2, b3]) (A := if c = 0 then A else A.map (·.add (0 * 1))) (n := 4) (c := c) (j := 1) (z := b1) c8_len hA' (by kernel_rfl) (by kernel_rfl) (by omega) (cast (by kernel_rfl) hK) rfl (by omega) rfl) ?_
  refine SX.E (w32 ((0 ||| b0.setWidth 32 : W32) <<< 8)) (fun α => cast (by kernel_rfl) (w_shl (0 ||| b0.setWidth 32 : W32) .u64 8 (by omega))) ?_
  refine SX.E (w32 (b1.setWidth 32)) (fun α => cast (by kernel_rfl) (w_conv8 b1)) ?_
  refine SX.E (w32 ((0 ||| b0.setWidth 32 : W32) <<< 8 ||| b1.setWidth 32 : W32)) (fun α => cast (by kernel_rfl) (w_or ((0 ||| b0.setWidth 32 : W32) <<< 8) (b1.setWidth 32))) ?_
  refine SX.D (.bool true) ?_
  refine SX.B true (fun _ => ?_) (fun h => absurd h (by simp))
  refine SX.E (.bool true) (fun α => SX.extBnd (A := if c = 0 then A else A.map (·.add (0 * 1))) (n := 4) (c := c) (j := 2) hA' (by kernel_rfl) (by kernel_rfl) (by omega)) ?_
  refine SX.E (w8 b2) (fun α => SX.extElem (f := c8) (l := [b0, b1, b2, b3]) (A := if c = 0 then A else A.map (·.add (0 * 1))) (n := 4) (c := c) (j := 2) (z := b2) c8_len hA' (by kernel_rfl) (by kernel_rfl) (by omega) (cast (by kernel_rfl) hK) rfl (by omega) rfl) ?_
  refine SX.E (w32 (((0 ||| b0.setWidth 32 : W32) <<< 8 ||| b1.setWidth 32 : W32) <<< 8)) (fun α => cast (by kernel_rfl) (w_shl ((0 ||| b0.setWidth 32 : W32) <<< 8 ||| b1.setWidth 32 : W32) .u64 8 (by omega))) ?_
  refine SX.E (w32 (b2.setWidth 32)) (fun α => cast (by kernel_rfl) (w_conv8 b2)) ?_
  refine SX.E (w32 (((0 ||| b0.setWidth 32 : W32) <<< 8 ||| b1.setWidth 32 : W32) <<< 8 ||| b2.setWidth 32 : W32)) (fun α => cast (by kernel_rfl) (w_or (((0 ||| b0.setWidth 32 : W32) <<< 8 ||| b1.setWidth 32 : W32) <<< 8) (b2.setWidth 32))) ?_
  refine SX.D (.bool true) ?_
  refine SX.B true (fun _ => ?_) (fun h => absurd h (by simp))
  refine SX.E (.bool true) (fun α => SX.extBnd (A := if c = 0 then A else A.map (·.add (0 * 1))) (n := 4) (c := c) (j := 3) hA' (by kernel_rfl) (by kernel_rfl) (by omega)) ?_
  refine SX.E (w8 b3) (fun α => SX.extElem (f := c8) (l := [b0, b1, b2, b3]) (A := if c = 0 then A else A.map (·.add (0 * 1))) (n := 4) (c := c) (j := 3) (z := b3) c8_len hA' (by kernel_rfl) (by kernel_rfl) (by omega) (cast (by kernel_rfl) hK) rfl (by omega) rfl) ?_
  refine SX.E (w32 ((((0 ||| b0.setWidth 32 : W32) <<< 8 ||| b1.setWidth 32 : W32) <<< 8 ||| b2.setWidth 32 : W32) <<< 8)) (fun α => cast (by kernel_rfl) (w_shl (((0 ||| b0.setWidth 32 : W32) <<< 8 ||| b1.setWidth 32 : W32) <<< 8 ||| b2.setWidth 32 : W32) .u64 8 (by omega))) ?_
  refine SX.E (w32 (b3.setWidth 32)) (fun α => cast (by kernel_rfl) (w_conv8 b3)) ?_
  refine SX.E (w32 ((((0 ||| b0.setWidth 32 : W32) <<< 8 ||| b1.setWidth 32 : W32) <<< 8 ||| b2.setWidth 32 : W32) <<< 8 ||| b3.setWidth 32 : W32)) (fun α => cast (by kernel_rfl) (w_or ((((0 ||| b0.setWidth 32 : W32) <<< 8 ||| b1.setWidth 32 : W32) <<< 8 ||| b2.setWidth 32 : W32) <<< 8) (b3.setWidth 32))) ?_
  refine SX.D (.bool false) ?_
  refine SX.B false (fun h => absurd h (by simp)) (fun _ => ?_)
  exact SX.VC_ret fun α W _ _ hS => SX.ret_of hS (x := w32 (wordOf b0 b1 b2 b3)) (by kernel_rfl) rfl
def c32 (x : W32) : List Value := [w32 x]
theorem c32_len (x : W32) : (c32 x).length = 1 := rfl
theorem flat_c32 : ∀ l : List W32, l.flatMap c32 = l.map w32
  | [] => rfl
  | x :: l => by simp [c32, flat_c32 l]
def wordAt (l : List W8) (t : Nat) : W32 := wordOf (l.getD (4 * t) 0) (l.getD (4 * t + 1) 0) (l.getD (4 * t + 2) 0) (l.getD (4 * t + 3) 0)
theorem take4 (l : List W8) (h : 4 ≤ l.length) : l.take 4 = [l.getD 0 0, l.getD 1 0, l.getD 2 0, l.getD 3 0] := by
  match l, h with
  | a :: b :: c :: d :: l, _ => rfl
def ws0 (l : List W8) : List W32 := ((List.range 16).map fun t => wordAt l t) ++ List.replicate 48 0
theorem ws0_len (l : List W8) : (ws0 l).length = 64 := by simp [ws0]
def nextW (u : List W32) (t : Nat) : W32 := u.getD (t - 16) 0 + (rotL (u.getD (t - 15) 0) (turnOf (-7)) ^^^ rotL (u.getD (t - 15) 0) (turnOf (-18)) ^^^ u.getD (t - 15) 0 >>> 3) + u.getD (t - 7) 0 + (rotL (u.getD (t - 2) 0) (turnOf (-17)) ^^^ rotL (u.getD (t - 2) 0) (turnOf (-19)) ^^^ u.getD (t - 2) 0 >>> 10)
def expd (l : List W8) : Nat → List W32
  | 0 => ws0 l
  | k + 1 => (expd l k).set (16 + k) (nextW (expd l k) (16 + k))
theorem expd_len (l : List W8) : ∀ k, (expd l k).length = 64
  | 0 => ws0_len l
  | k + 1 => by simp [expd, expd_len l k]
structure S8 where
  a : W32
  b : W32
  c : W32
  d : W32
  e : W32
  f : W32
  g : W32
  h : W32
def S8.cells (s : S8) : List Value := [w32 s.a, w32 s.b, w32 s.c, w32 s.d, w32 s.e, w32 s.f, w32 s.g, w32 s.h]
def sig (x : W32) (a b c : Int) : W32 := rotL x (turnOf (-a)) ^^^ rotL x (turnOf (-b)) ^^^ rotL x (turnOf (-c))
def S8.p (s : S8) (k w : W32) : W32 := s.h + sig s.e 6 11 25 + (s.g ^^^ (s.e &&& (s.f ^^^ s.g))) + k + w
def S8.q (s : S8) : W32 := sig s.a 2 13 22 + ((s.a &&& s.b) ||| (s.c &&& (s.a ||| s.b)))
def S8.rnd (s : S8) (k w : W32) : S8 := ⟨s.p k w + s.q, s.a, s.b, s.c, s.d + s.p k w, s.e, s.f, s.g⟩
def numbersK : List W32 := [0x428a2f98, 0x71374491, 0xb5c0fbcf, 0xe9b5dba5, 0x3956c25b, 0x59f111f1, 0x923f82a4, 0xab1c5ed5, 0xd807aa98, 0x12835b01, 0x243185be, 0x550c7dc3, 0x72be5d74, 0x80deb1fe, 0x9bdc06a7, 0xc19bf174, 0xe49b69c1, 0xefbe4786, 0x0fc19dc6, 0x240ca1cc, 0x2de92c6f, 0x4a7484aa, 0x5cb0a9dc, 0x76f988da, 0x983e5152, 0xa831c66d, 0xb00327c8, 0xbf597fc7, 0xc6e00bf3, 0xd5a79147, 0x06ca6351, 0x14292967, 0x27b70a85, 0x2e1b2138, 0x4d2c6dfc, 0x53380d13, 0x650a7354, 0x766a0abb, 0x81c2c92e, 0x92722c85, 0xa2bfe8a1, 0xa81a664b, 0xc24b8b70, 0xc76c51a3, 0xd192e819, 0xd6990624, 0xf40e3585, 0x106aa070, 0x19a4c116, 0x1e376c08, 0x2748774c, 0x34b0bcb5, 0x391c0cb3, 0x4ed8aa4a, 0x5b9cca4f, 0x682e6ff3, 0x748f82ee, 0x78a5636f, 0x84c87814, 0x8cc70208, 0x90befffa, 0xa4506ceb, 0xbef9a3f7, 0xc67178f2]
def rnds (ws : List W32) (s : S8) : Nat → S8
  | 0 => s
  | k + 1 => (rnds ws s k).rnd (numbersK.getD k 0) (ws.getD k 0)
def absorbE (s : S8) (l : List W8) : S8 := let v := rnds (expd l 48) s 64; ⟨s.a + v.a, s.b + v.b, s.c + v.c, s.d + v.d, s.e + v.e, s.f + v.f, s.g + v.g, s.h + v.h⟩
section
variable {C : SX.Cx} {ρ : List Value} {α : Nat → SX.AV}
theorem relemW {c i : SX.V} {u : List W32} {k : Nat} (hc : SX.cellsV (c.den ρ α) = u.map w32) (hi : i.den ρ α = .int .i64 (k : Int)) (hk : k < u.length) : SX.Opq.rel C ρ α (.relem 1 0) [c, i] (w32 (u.getD k 0)) := by
  refine ⟨?_, ?_⟩
  · rw [hc, hi]
    refine ⟨by omega, ?_⟩
    simp only [List.length_map, Nat.div_one]
    omega
  rw [hc, hi]
  simp [SX.idxOf, List.getD_eq_getElem?_getD, List.getElem?_eq_getElem hk]
theorem rsetW {c i x : SX.V} {u : List W32} {k : Nat} {y : W32} (hc : SX.cellsV (c.den ρ α) = u.map w32) (hi : i.den ρ α = .int .i64 (k : Int)) (hx : x.den ρ α = w32 y) (hk : k < u.length) : SX.Opq.rel C ρ α (.rset 1 0) [c, i, x] (.agg ((u.set k y).map w32).toArray) := by
  refine ⟨?_, by simp, ?_⟩
  · rw [hc, hi]
    refine ⟨by omega, ?_⟩
    simp only [List.length_map, Nat.div_one]
    omega
  rw [hc, hi]
  simp only [SX.idxOf, Int.toNat_natCast, Nat.mul_one, Nat.add_zero, SX.denL, hx, List.length_cons, List.length_nil, Nat.zero_add]
  congr 2
  rw [List.map_set, List.set_eq_take_append_cons_drop, if_pos (by simpa using hk)]
  simp
theorem again_den {vals : List SX.V} {v0 : SX.V} {m N : Nat} {t : Value} {cs : List Value} (hv : vals = v0 :: (List.range N).map fun j => SX.V.x m [j]) (h0 : v0.den ρ α = t) (hm : ρ.getD m undef = .agg cs.toArray) (hl : cs.length = N) : SX.denL ρ α vals = t :: cs := by
  subst hv
  have := SX.xs_den (ρ := ρ) (α := α) (u := undef) (path := []) (m := m) (N := N) (cs := cs) (by rw [List.foldl_nil]; exact hm) hl
  simp only [List.nil_append] at this
  simp only [SX.denL, h0, this]
end
theorem VC_again2 {C : SX.Cx} {w0 : Org} {ps : List (World → Prop)} {T0 : List SX.TF} {R : Ending → World → Prop} {L : List (SX.Cx → List Value → Prop)} {ρ : List Value} {l : Nat} {vals : List SX.V} {I : List Value → Prop} {μ : List Value → Nat} {m0 : Nat} (hL : L.getD l (fun (_ : SX.Cx) (_ : List Value) => False) = fun (_ : SX.Cx) (ys : List Value) => I ys ∧ μ ys < m0) (h : ∀ α, I (SX.denL ρ α vals)) (hm : ∀ α, μ (SX.denL ρ α vals) < m0) : SX.VC C w0 ps T0 R L ρ (.again l vals) :=
  SX.VC_again fun α => by rw [hL]; exact ⟨h α, hm α⟩
theorem fitW {n : Nat} (l : List W32) (h : l.length = n) : (SX.Sh.ag n).fit (.agg (l.map w32).toArray) = true := by
  simp only [SX.Sh.fit, List.length_map, h, beq_self_eq_true, Bool.true_and, List.all_eq_true]
  intro x hx
  obtain ⟨y, -, rfl⟩ := List.mem_map.1 hx
  rfl
theorem list64 (l : List W32) (h : l.length = 64) : ∃ g : Nat → W32, l = (List.range 64).map g := by
  refine ⟨fun j => l.getD j 0, ?_⟩
  apply List.ext_getElem
  · simp [h]
  intro j h1 h2
  simp [List.getD_eq_getElem?_getD, h1]
namespace SX
def rowD (t0 : TypeId) (sz : Nat) : Blk := ⟨[.x 0 []], t0, .row sz⟩
def doorR (f : FuncId) (fn : Func) (args : List V) (sh : List Sh) (t0 : TypeId) (sz : Nat) : S := { fr := args.map some ++ List.replicate (fn.ntmps - args.length) (some (.k undef)), stk := [], hp := [some (rowD t0 sz)], ln := [some (rowD t0 sz)], sh := sh, kn := [], lps := [], cur := f }
theorem calls_of_runR {C : Cx} {G : Cfg} {R : Ending → World → Prop} {f : FuncId} {fn : Func} {body : Code} {args : List V} {sh : List Sh} {ρ : List Value} {w : World} {vals : Array Value} {h : Value} {b : Nat} {t0 : TypeId} {old tl : List Value} {sz : Nat} (n : Nat) (t : Tree) (hC : C.Ok) (hf : C.P.funcs[f]? = some fn) (hb : fn.body = some body)
    (ht : (run C G n 0 (doorR f fn args sh t0 sz) [.code body, .top fn]).strip = t)
    (hd : (decide (args.length ≤ fn.ntmps) && wfL [some (rowD t0 sz)] sh.length args && decide (0 < sz) && decide (0 < sh.length)) = true) (hfit : Sh.fitL sh ρ = true) (hρ : ρ.getD 0 undef = .agg old.toArray) (hvals : (denL ρ (fun _ => ⟨b, h, tl⟩) args).toArray = vals) (hrow : RowAt sz h b t0 old tl w) (hK : ∀ W', Same (ownB h) w W' → Kf C W')
    (h12 : G.keep ≠ 12) (hv : VC C ⟨w, ownB h, Af C, Bf C⟩ [Kf C] [] R [] ρ t) (hN : C.N = [] ∧ C.nb ≤ w.heap.size := by exact ⟨rfl, Nat.zero_le _⟩) : Calls C.P f vals w R := by
  subst ht
  subst hvals
  replace hv := VC_strip _ _ _ hv
  refine calls_of_endR hf hb ?_
  simp only [Bool.and_eq_true, decide_eq_true_eq] at hd
  obtain ⟨⟨⟨hle, hwa⟩, hsz⟩, hsh⟩ := hd
  obtain ⟨hl, hg⟩ := fitL_get hfit
  have hxs : (rowD t0 sz).xs ρ (fun _ => ⟨b, h, tl⟩) = old := by
    show [ρ.getD 0 undef].flatMap cellsV = old
    rw [hρ]; simp [cellsV]
  have hok : (rowD t0 sz).rowOk ρ (fun _ => ⟨b, h, tl⟩) 0 := by
    show 0 < sz ∧ _
    rw [hxs]
    rcases hrow with ⟨h1, h2⟩ | ⟨len, cap, h1, h2, h3, h4, h5, h6⟩
    · exact ⟨hsz, .inl ⟨h2, h1⟩⟩
    exact ⟨hsz, .inr ⟨len, cap, h1, h2, h3, h4, h5⟩⟩
  have hone : ∀ {i : Nat} {B : Blk}, ([some (rowD t0 sz)] : List (Option Blk))[i]? = some (some B) → i = 0 ∧ B = rowD t0 sz := fun {i B} hi => by
    cases i with
    | zero => simp at hi; exact ⟨rfl, hi.symm⟩
    | succ i => simp at hi
  have hch : chs ρ (fun _ => ⟨b, h, tl⟩) 0 [some (rowD t0 sz)] = (ownB h).map fun _ => (⟨b, (old ++ tl).toArray, t0⟩ : Ch) := by
    rcases hrow with ⟨rfl, h2⟩ | ⟨len, cap, rfl, h2⟩
    · rfl
    show ([⟨b, ((rowD t0 sz).xs ρ (fun _ => ⟨b, _, tl⟩) ++ tl).toArray, t0⟩] : List Ch) = _
    rw [hxs]
    rfl
  have hob : ∀ i ∈ ownB h, i = b := fun i hi => by
    rcases hrow with ⟨rfl, h2⟩ | ⟨len, cap, rfl, h2⟩
    · cases hi
    simpa [ownB] using hi
  have hmu : muts (chs ρ (fun _ => ⟨b, h, tl⟩) 0 [some (rowD t0 sz)]) [] = ownB h := by
    rw [hch]
    rcases hrow with ⟨rfl, h2⟩ | ⟨len, cap, rfl, h2⟩
    · rfl
    rfl
  have hI : Inv ⟨w, ownB h, Af C, Bf C⟩ [Kf C] [] ρ (doorR f fn args sh t0 sz) { tmps := (denL ρ (fun _ => ⟨b, h, tl⟩) args).toArray ++ Array.replicate (fn.ntmps - (denL ρ (fun _ => ⟨b, h, tl⟩) args).toArray.size) undef, defers := [] } w := by
    refine ⟨fun _ => ⟨b, h, tl⟩, ⟨nofun, rfl⟩, ⟨hl, hg, fun e he => nomatch he⟩, ⟨fun v hv' => ?_, fun f hf => (nomatch hf), (fun b hb => ?_), (fun b hb => ?_)⟩, ⟨by simp [doorR, denL_len], fun d v hd' => ?_⟩, trivial, ?_, ?_, ?_⟩
    · rcases List.mem_append.1 hv' with h | h
      · obtain ⟨u, hu, e⟩ := List.mem_map.1 h
        obtain rfl : u = v := by simpa using e
        rw [← hl]
        exact wfL_mem hwa u hu
      · have := List.eq_of_mem_replicate h
        cases this
        rfl
    · obtain rfl : b = rowD t0 sz := by simpa [doorR] using hb
      rw [← hl]; simp [rowD, wfL, V.wf, hsh]
    · obtain rfl : b = rowD t0 sz := by simpa [doorR] using hb
      rw [← hl]; simp [rowD, wfL, V.wf, hsh]
    · rw [Array.getElem?_append]
      simp only [List.size_toArray, denL_len]
      simp only [doorR] at hd'
      by_cases hlt : d < args.length
      · rw [List.getElem?_append_left (by simpa using hlt), List.getElem?_map, List.getElem?_eq_getElem hlt] at hd'
        simp only [Option.map_some, Option.some.injEq] at hd'
        rw [if_pos hlt]
        simpa using denL_at (ρ := ρ) (α := fun _ => ⟨b, h, tl⟩) (by rw [List.getElem?_eq_getElem hlt, hd'])
      rw [List.getElem?_append_right (by simpa using hlt), List.getElem?_replicate] at hd'
      rw [if_neg hlt, Array.getElem?_replicate]
      simp only [List.length_map] at hd'
      split at hd'
      · rename_i h9
        rw [if_pos h9]
        cases hd'
        rfl
      cases hd'
    · refine ⟨⟨rfl, rfl, rfl, Nat.le_refl _, fun _ _ _ => rfl⟩, fun e he => ?_, (fun _ h => nomatch h), ?_, fun p hp W' hW => ?_⟩
      · have he : e ∈ chs ρ (fun _ => ⟨b, h, tl⟩) 0 [some (rowD t0 sz)] := he
        rw [hch] at he
        obtain ⟨i, hi, rfl⟩ := List.mem_map.1 he
        have hib := hob i hi
        subst hib
        refine ⟨.inr hi, ?_⟩
        rcases hrow with ⟨rfl, h2⟩ | ⟨len, cap, rfl, h2, h3, h4, h5, h6⟩
        · cases hi
        exact h6
      · show (muts (chs ρ (fun _ => ⟨b, h, tl⟩) 0 [some (rowD t0 sz)]) []).Nodup
        rw [hmu]
        rcases hrow with ⟨rfl, h2⟩ | ⟨len, cap, rfl, h2⟩
        · exact List.nodup_nil
        simp [ownB]
      have hp : p = Kf C := by
        rcases List.mem_append.1 hp with hp | hp
        · obtain ⟨i, B, h1, h2⟩ := exs_mem.1 hp
          obtain ⟨rfl, rfl⟩ := hone h1
          rw [Blk.own_ex rfl] at h2
          cases h2
        simpa using hp
      subst hp
      refine hK W' ?_
      rw [← hmu]
      exact hW
    · intro i B hi
      obtain ⟨rfl, rfl⟩ := hone hi
      exact ⟨lv_iff.2 ⟨rowD t0 sz, rfl⟩, hok⟩
    intro i B hi
    obtain ⟨rfl, rfl⟩ := hone hi
    exact hok.len
  have := run_ok hC n ⟨w, ownB h, Af C, Bf C⟩ [] R G 0 (doorR f fn args sh t0 sz) [.code body, .top fn] [] [] [] ρ _ w (fun h => absurd h h12) ⟨List.mem_cons_self .., fun _ h => h, fun _ h => h, hN.2, .inl hN.1⟩ hv rfl rfl hI
  exact this
theorem calls_of_runX {C : Cx} {G : Cfg} {R : Ending → World → Prop} {f : FuncId} {fn : Func} {body : Code} {args : List V} {sh : List Sh} {ρ : List Value} {w : World} {vals : Array Value} {bs : List Nat} {bl : List Blk} (n : Nat) (t : Tree) (hC : C.Ok) (hf : C.P.funcs[f]? = some fn) (hb : fn.body = some body)
    (ht : (run C G n 0 { fr := args.map some ++ List.replicate (fn.ntmps - args.length) (some (.k undef)), stk := [(List.range bl.length).map fun n => some (.p n 0)], hp := bl.map some, ln := bl.map some, sh := sh, kn := [], lps := [], cur := f } [.code body, .top fn]).strip = t)
    (hd : (decide (args.length ≤ fn.ntmps) && wfL (bl.map some) sh.length args && bl.all fun b => wfL (bl.map some) sh.length b.c && decide (b.k = .cells)) = true) (hfit : Sh.fitL sh ρ = true) (hvals : (denL ρ (fun n => ⟨bs.getD n 0, undef, []⟩) args).toArray = vals) (hK : ∀ W', Same bs w W' → Kf C W')
    (hnd : bs.Nodup) (hl : bs.length = bl.length) (hbl : ∀ (i b : Nat) (B : Blk), bs[i]? = some b → bl[i]? = some B → w.heap[b]? = some (.cells (denL ρ (fun n => ⟨bs.getD n 0, undef, []⟩) B.c).toArray B.t (0, 0)))
    (h12 : G.keep ≠ 12) (hv : VC C ⟨w, bs, Af C, Bf C⟩ [Kf C] [⟨(bs.map fun b => Value.pointer (some ⟨b, 0, none⟩)).toArray, [], none⟩] R [] ρ t) (hN : C.N = [] ∧ C.nb ≤ w.heap.size := by exact ⟨rfl, Nat.zero_le _⟩) : Calls C.P f vals w R := by
  subst ht
  subst hvals
  replace hv := VC_strip _ _ _ hv
  refine calls_of_endR hf hb ?_
  simp only [Bool.and_eq_true, decide_eq_true_eq] at hd
  obtain ⟨⟨hle, hwa⟩, hwb⟩ := hd
  obtain ⟨hlg, hg⟩ := fitL_get hfit
  have hb1 : ∀ B ∈ bl, wfL (bl.map some) ρ.length B.c = true ∧ B.k = .cells := fun B hB => by
    have := List.all_eq_true.1 hwb B hB
    simp only [Bool.and_eq_true, decide_eq_true_eq] at this
    rw [← hlg]; exact this
  have hat : ∀ (i : Nat) (B : Blk), (bl.map some)[i]? = some (some B) → bl[i]? = some B := fun i B h => by simpa using h
  have hgd : ∀ i, i < bl.length → bs[i]? = some (bs.getD i 0) := fun i hi => by
    rw [List.getD_eq_getElem?_getD, List.getElem?_eq_getElem (by omega)]; rfl
  have hch : ∀ (i : Nat) (B : Blk), bl[i]? = some B → B.ch ρ (fun n => ⟨bs.getD n 0, undef, []⟩) i = some ⟨bs.getD i 0, (denL ρ (fun n => ⟨bs.getD n 0, undef, []⟩) B.c).toArray, B.t⟩ := fun i B h => by simp only [Blk.ch, (hb1 B (List.mem_of_getElem? h)).2]
  have hlvb : ∀ i, i < bl.length → SX.lv (bl.map some) i = true := fun i hi => lv_iff.2 ⟨bl[i], by simp [hi]⟩
  have hids : ∀ {l : List Blk} {k : Nat} {α : Nat → AV}, (∀ (i : Nat) (B : Blk), l[i]? = some B → B.k = .cells) → (chs ρ α k (l.map some)).map (·.id) = (List.range' k l.length).map fun i => (α i).b := by
    intro l
    induction l with
    | nil => intro k α _; simp [chs]
    | cons B l ih =>
      intro k α hk
      simp only [List.map_cons, chs, Blk.ch, hk 0 B rfl, Option.toList_some, List.cons_append, List.nil_append, List.length_cons, List.range'_succ]
      rw [ih fun i B' h => hk (i + 1) B' (by simpa using h)]
  have hI : Inv ⟨w, bs, Af C, Bf C⟩ [Kf C] [⟨(bs.map fun b => Value.pointer (some ⟨b, 0, none⟩)).toArray, [], none⟩] ρ { fr := args.map some ++ List.replicate (fn.ntmps - args.length) (some (.k undef)), stk := [(List.range bl.length).map fun n => some (.p n 0)], hp := bl.map some, ln := bl.map some, sh := sh, kn := [], lps := [], cur := f } { tmps := (denL ρ (fun n => ⟨bs.getD n 0, undef, []⟩) args).toArray ++ Array.replicate (fn.ntmps - (denL ρ (fun n => ⟨bs.getD n 0, undef, []⟩) args).toArray.size) undef, defers := [] } w := by
    refine ⟨fun n => ⟨bs.getD n 0, undef, []⟩, ⟨nofun, nofun, rfl⟩, ⟨hlg, hg, fun e he => nomatch he⟩, ⟨fun v hv' => ?_, fun fr hfr => ?_, fun b hb => ?_, fun b hb => ?_⟩, ⟨by simp [denL_len], fun d v hd' => ?_⟩, ⟨⟨by simp [hl], fun d v hd' => ?_⟩, trivial⟩, ?_, ?_, ?_⟩
    · rcases List.mem_append.1 hv' with h | h
      · obtain ⟨u, hu, e⟩ := List.mem_map.1 h
        obtain rfl : u = v := by simpa using e
        rw [← hlg]
        exact wfL_mem hwa u hu
      · have := List.eq_of_mem_replicate h
        cases this
        rfl
    · obtain rfl := List.mem_singleton.1 hfr
      intro v hv'
      obtain ⟨i, hi, e⟩ := List.mem_map.1 hv'
      cases e
      exact hlvb i (List.mem_range.1 hi)
    · obtain ⟨B, hB, e⟩ := List.mem_map.1 hb
      cases e
      exact (hb1 _ hB).1
    · obtain ⟨B, hB, e⟩ := List.mem_map.1 hb
      cases e
      exact (hb1 _ hB).1
    · rw [Array.getElem?_append]
      simp only [List.size_toArray, denL_len]
      simp only at hd'
      by_cases hlt : d < args.length
      · rw [List.getElem?_append_left (by simpa using hlt), List.getElem?_map, List.getElem?_eq_getElem hlt] at hd'
        simp only [Option.map_some, Option.some.injEq] at hd'
        rw [if_pos hlt]
        simpa using denL_at (ρ := ρ) (α := fun n => ⟨bs.getD n 0, undef, []⟩) (by rw [List.getElem?_eq_getElem hlt, hd'])
      rw [List.getElem?_append_right (by simpa using hlt), List.getElem?_replicate] at hd'
      rw [if_neg hlt, Array.getElem?_replicate]
      simp only [List.length_map] at hd'
      split at hd'
      · rename_i h9
        rw [if_pos h9]
        cases hd'
        rfl
      cases hd'
    · simp only [List.getElem?_map, Option.map_eq_some_iff] at hd'
      obtain ⟨i, hi, e⟩ := hd'
      cases e
      have hil : d < bl.length := by have := (List.getElem?_eq_some_iff.1 hi).1; simpa using this
      obtain rfl : d = i := by simpa [hil] using hi
      simp only [List.getElem?_toArray, List.getElem?_map, hgd d hil, Option.map_some, V.den]
    · refine ⟨⟨rfl, rfl, rfl, Nat.le_refl _, fun _ _ _ => rfl⟩, fun e he => ?_, (fun _ h => nomatch h), ?_, fun p hp W' hW => ?_⟩
      · obtain ⟨i, B, h1, h2⟩ := chs_inv he
        rw [Nat.zero_add] at h2
        have hB := hat i B h1
        rw [hch i B hB] at h2
        cases h2
        have hil := (List.getElem?_eq_some_iff.1 hB).1
        refine ⟨.inr (List.mem_of_getElem? (hgd i hil)), ?_⟩
        have := hbl i _ B (hgd i hil) hB
        exact this
      · show ((chs ρ (fun n => ⟨bs.getD n 0, undef, []⟩) 0 (bl.map some)).map Ch.id ++ []).Nodup
        rw [List.append_nil, hids fun i B h => (hb1 B (List.mem_of_getElem? h)).2]
        have : (List.range' 0 bl.length).map (fun i => bs.getD i 0) = bs := by
          apply List.ext_getElem?
          intro i
          by_cases hi : i < bl.length
          · rw [List.getElem?_map, List.getElem?_range' hi, hgd i hi]; simp
          rw [List.getElem?_eq_none (by simpa using hi), List.getElem?_eq_none (by omega)]
        rw [this]
        exact hnd
      have hmu : muts (chs ρ (fun n => ⟨bs.getD n 0, undef, []⟩) 0 (bl.map some)) [] = bs := by
        show (chs ρ (fun n => ⟨bs.getD n 0, undef, []⟩) 0 (bl.map some)).map Ch.id ++ [] = bs
        rw [List.append_nil, hids fun i B h => (hb1 B (List.mem_of_getElem? h)).2]
        apply List.ext_getElem?
        intro i
        by_cases hi : i < bl.length
        · rw [List.getElem?_map, List.getElem?_range' hi, hgd i hi]; simp
        rw [List.getElem?_eq_none (by simpa using hi), List.getElem?_eq_none (by omega)]
      have hp : p = Kf C := by
        rcases List.mem_append.1 hp with hp | hp
        · obtain ⟨i, B, h1, h2⟩ := exs_mem.1 hp
          rw [Blk.own_ex (by simp [Blk.own, (hb1 B (List.mem_of_getElem? (hat i B h1))).2])] at h2
          cases h2
        simpa using hp
      subst hp
      exact hK W' (by rw [← hmu]; exact hW)
    · intro i B h
      have hB := hat i B h
      exact ⟨hlvb i (List.getElem?_eq_some_iff.1 hB).1, by simp only [Blk.rowOk, (hb1 B (List.mem_of_getElem? hB)).2]⟩
    intro i B h
    have hB := hat i B h
    simp only [Blk.lenOk, (hb1 B (List.mem_of_getElem? hB)).2]
  have := run_ok hC n ⟨w, bs, Af C, Bf C⟩ [⟨(bs.map fun b => Value.pointer (some ⟨b, 0, none⟩)).toArray, [], none⟩] R G 0 _ [.code body, .top fn] _ [] [] ρ _ w (fun h => absurd h h12) ⟨List.mem_cons_self .., fun _ h => h, fun _ h => h, hN.2, .inl hN.1⟩ hv rfl rfl hI
  exact this
theorem rret {w W : World} {rt : World → Prop} {rf : Nat → Prop} {hp : List (Option Blk)} {ps : List (World → Prop)} {ρ : List Value} {α : Nat → AV} {sz : Nat} {ms : List Nat} (hS : St ⟨w, ms, rt, rf⟩ (chs ρ α 0 hp) [] ps W) {n : Nat} {b : Blk} (hb : hp[n]? = some (some b)) (hk : b.k = .row sz) (hr : b.rowOk ρ α n) {cells : List Value} (hc : b.xs ρ α = cells) :
    ∃ h' b' tl', Ending.returned ((V.row n).den ρ α) = .returned h' ∧ W.os = w.os ∧ W.tape = w.tape ∧ W.output = w.output ∧ Same ms w W ∧ RowAt sz h' b' b.t cells tl' W ∧ (b' ∈ ms ∨ w.heap.size ≤ b') := by
  subst hc
  have hsame : Same ms w W := ⟨hS.old.size, fun k hk hn => hS.old.block k hk hn⟩
  unfold Blk.rowOk at hr
  rw [hk] at hr
  obtain ⟨h0, ⟨h1, h2⟩ | ⟨len, cap, h1, h2, h3, h4, h5⟩⟩ := hr
  · exact ⟨(α n).h, w.heap.size, [], rfl, hS.old.os, hS.old.tape, hS.old.output, hsame, .inl ⟨h2, h1⟩, .inr (Nat.le_refl _)⟩
  have hm : (⟨(α n).b, (b.xs ρ α ++ (α n).tl).toArray, b.t⟩ : Ch) ∈ chs ρ α 0 hp := chs_mem (k := 0) hb (by simp only [Blk.ch, hk, Nat.zero_add, h1])
  exact ⟨(α n).h, (α n).b, (α n).tl, rfl, hS.old.os, hS.old.tape, hS.old.output, hsame, .inr ⟨len, cap, h1, h2, h3, h4, h5, hS.at_ hm⟩, (hS.ge_ hm).symm.imp id id⟩
end SX
theorem w8_or (x y : W8) : SX.binV .or (w8 x) (w8 y) = some (w8 (x ||| y)) := by
  have h : (BitVec.ofInt 8 (x.toNat : Int)) = x := by apply BitVec.eq_of_toNat_eq; simp
  have h' : (BitVec.ofInt 8 (y.toNat : Int)) = y := by apply BitVec.eq_of_toNat_eq; simp
  simp only [SX.binV, w8, if_true, IntKind.bits, h, h', wrap_u8, BitVec.ofNat_toNat, BitVec.setWidth_eq]
  rfl
theorem u_shrN (x n : Nat) (hn : n < 64) : SX.binV .shr (.int .u64 (x : Int)) (.int .u64 (n : Int)) = some (.int .u64 ((x / 2 ^ n : Nat) : Int)) := by
  have h1 : ¬ ((n : Int) < 0) := by omega
  have h2 : min n 64 = n := by omega
  simp only [SX.binV, h1, if_false, Int.toNat_natCast, IntKind.bits, h2]
  congr 2
  rw [show ((2 : Int) ^ n) = ((2 ^ n : Nat) : Int) by simp, Int.fdiv_eq_ediv_of_nonneg _ (Int.natCast_nonneg _)]
  exact (Int.natCast_ediv _ _).symm
def numB (u : Nat) : List W8 := if u < 128 then [BitVec.ofNat 8 u] else (BitVec.ofNat 8 u ||| 128#8) :: numB (u / 128)
theorem numB_lt {u : Nat} (h : u < 128) : numB u = [BitVec.ofNat 8 u] := by rw [numB, if_pos h]
theorem numB_ge {u : Nat} (h : ¬ u < 128) : numB u = (BitVec.ofNat 8 u ||| 128#8) :: numB (u / 128) := by rw [numB, if_neg h]
theorem numB_len : ∀ (k u : Nat), u < 128 ^ (k + 1) → (numB u).length ≤ k + 1
  | 0, u, h => by rw [numB_lt (by simpa using h)]; simp
  | k + 1, u, h => by
    by_cases h1 : u < 128
    · rw [numB_lt h1]; simp
    rw [numB_ge h1, List.length_cons]
    have := numB_len k (u / 128) (by rw [Nat.pow_succ] at h; omega)
    omega
theorem c8o (b : W8) : ∀ u ∈ c8 b, u.oneCell' = true := by
  intro u hu
  obtain rfl : u = w8 b := by simpa [c8] using hu
  rfl
def args_num : List SX.V := [.row 0, .x 1 []]
def tree_num : SX.Tree :=
(.loop [(.q 1), (.cat [(.q 0)])] [.one, .any]
(.df (.bin .geq 75) [(.q 2), (.k (.int .u64 128))] .one
(.br 4 []
(.df (.conv .u8) [(.q 2)] .one
(.df (.bin .or 5) [(.q 5), (.k (.int .u8 128))] .one
(.df (.app 1 1 (.own 1 [(.q 6)])) [(.cat [(.q 3)]), (.sl 3 0 1 1)] .any
(.df (.bin .shr 75) [(.q 2), (.k (.int .u64 7))] .one
(.again 0 [(.q 8), (.cat [(.q 3), (.q 7)])])))))
(.df (.conv .u8) [(.q 2)] .one
(.df (.app 1 1 (.own 1 [(.q 5)])) [(.cat [(.q 3)]), (.sl 3 0 1 1)] .any
(.ret (.row 4) [none, none, none, none, (some ⟨[(.q 3), (.q 6)], 5, (.row 1)⟩)] []))))))
set_option maxRecDepth 100000 in
theorem run_num (K A : Value → Nat → List Value → Prop) : (SX.run (cx0 K A) ⟨fun f => true, [⟨47, 1, [(.s 1, .one), (.s 0, .row 1 5)]⟩], 2, 100⟩ 100000 0 (SX.doorR 47 Tryd.f47 args_num [.any, .one] 5 1) [.code (Tryd.f47.body.getD .skip), .top Tryd.f47]).strip = tree_num := by kernel_rfl
set_option maxRecDepth 100000 in
set_option maxHeartbeats 4000000 in
theorem numeral_any (old : List W8) (u : Nat) (w : World) (h : Value) (b : Nat) (tl : List Value) (hu : u < 18446744073709551616) (ho : old.length ≤ 70368744177664) (hrow : RowAt 1 h b 5 (old.flatMap c8) tl w) :
    Calls Tryd.prog 47 #[h, .int .u64 (u : Int)] w fun e w' => ∃ h' b' tl', e = .returned h' ∧ w'.os = w.os ∧ w'.tape = w.tape ∧ w'.output = w.output ∧ Same (ownB h) w w' ∧ RowAt 1 h' b' 5 ((old ++ numB u).flatMap c8) tl' w' ∧ (b' ∈ ownB h ∨ w.heap.size ≤ b') := by
  refine SX.calls_of_runR (C := cx0 (fun _ _ _ => False) (fun _ _ _ => False)) (G := ⟨fun f => true, [⟨47, 1, [(.s 1, .one), (.s 0, .row 1 5)]⟩], 2, 100⟩) (args := args_num) (sh := [.any, .one]) (ρ := [.agg (old.flatMap c8).toArray, .int .u64 (u : Int)]) 100000 tree_num (cx0_ok _ _) Tryd.func47 rfl (run_num _ _) (by kernel_rfl) (by kernel_rfl) rfl (by kernel_rfl) hrow (fun W _ => SX.Kf_none (fun _ _ _ h => h) W) (by decide) ?_
  unfold tree_num
  have hlen := numB_len 9 u (by omega)
  refine SX.VC_loop (fun xs => ∃ (v : Nat) (acc : List W8), xs = [.int .u64 (v : Int), .agg (acc.flatMap c8).toArray] ∧ v ≤ u ∧ acc ++ numB v = old ++ numB u) (fun xs => match xs with | .int _ v :: _ => v.toNat | _ => 0) (fun α => ⟨u, old, Eq.trans (b := [.int .u64 (u : Int), .agg ([Value.agg (old.flatMap c8).toArray].flatMap SX.cellsV).toArray]) (by kernel_rfl) (by simp [SX.cellsV]), Nat.le_refl _, rfl⟩) ?_
  rintro xs - ⟨v, acc, rfl, hv, hacc⟩
  have hal : acc.length ≤ old.length + 10 := by
    have := congrArg List.length hacc
    simp only [List.length_append] at this
    omega
  refine SX.D (.bool (decide ((v : Int) ≥ 128))) ?_
  refine SX.B (decide ((v : Int) ≥ 128)) (fun h4 => ?_) (fun h4 => ?_)
  · have h4 : ¬ v < 128 := by have := of_decide_eq_true h4; omega
    refine SX.E (w8 (BitVec.ofNat 8 v)) (fun α => cast (by kernel_rfl) (w_to8 v .u64)) ?_
    refine SX.E (w8 (BitVec.ofNat 8 v ||| 128#8)) (fun α => cast (by kernel_rfl) (w8_or (BitVec.ofNat 8 v) 128#8)) ?_
    refine SX.E (Value.agg (([BitVec.ofNat 8 v ||| 128#8]).flatMap c8).toArray) (fun α => SX.app_rel (f := c8) (l1 := acc) (l2 := [BitVec.ofNat 8 v ||| 128#8]) (fun _ => rfl) c8o (by decide) (SX.cat1 (by kernel_rfl)) (SX.src_own (by kernel_rfl)) (by simp only [LL]; omega) (by simp only [LL]; omega)) ?_
    refine SX.E (.int .u64 ((v / 128 : Nat) : Int)) (fun α => Eq.trans (b := SX.binV .shr (.int .u64 (v : Int)) (.int .u64 ((7 : Nat) : Int))) (by kernel_rfl) (u_shrN v 7 (by omega))) ?_
    exact SX.VC_again fun α => ⟨⟨v / 128, acc ++ [BitVec.ofNat 8 v ||| 128#8], Eq.trans (b := [.int .u64 ((v / 128 : Nat) : Int), .agg ([Value.agg (acc.flatMap c8).toArray, Value.agg (([BitVec.ofNat 8 v ||| 128#8]).flatMap c8).toArray].flatMap SX.cellsV).toArray]) (by kernel_rfl) (by simp [SX.cellsV]), by omega, by rw [← hacc, numB_ge h4]; simp⟩, cast (by kernel_rfl) (show ((v / 128 : Nat) : Int).toNat < (v : Int).toNat by omega)⟩
  have h4 : v < 128 := by have := of_decide_eq_false h4; omega
  refine SX.E (w8 (BitVec.ofNat 8 v)) (fun α => cast (by kernel_rfl) (w_to8 v .u64)) ?_
  refine SX.E (Value.agg (([BitVec.ofNat 8 v]).flatMap c8).toArray) (fun α => SX.app_rel (f := c8) (l1 := acc) (l2 := [BitVec.ofNat 8 v]) (fun _ => rfl) c8o (by decide) (SX.cat1 (by kernel_rfl)) (SX.src_own (by kernel_rfl)) (by simp only [LL]; omega) (by simp only [LL]; omega)) ?_
  exact SX.VC_ret fun α W _ hR hS => SX.rret hS (n := 4) (b := (⟨[(.x 3 []), (.x 6 [])], 5, (.row 1)⟩ : SX.Blk)) (by kernel_rfl) rfl (hR 4 _ (by kernel_rfl)) (Eq.trans (b := [Value.agg (acc.flatMap c8).toArray, Value.agg (([BitVec.ofNat 8 v]).flatMap c8).toArray].flatMap SX.cellsV) (by kernel_rfl) (by rw [← hacc, numB_lt h4]; simp [SX.cellsV]))
theorem numeral_rc {C : SX.Cx} (hP : C.P = Tryd.prog) {rw' : List SX.Rw} {old : List W8} {u : Nat} (hu : u < 18446744073709551616) (ho : old.length ≤ 70368744177664) : SX.RCall C 47 rw' [⟨.int .u64 (u : Int), 0, []⟩] (old.flatMap c8) 1 5 (.agg ((old ++ numB u).flatMap c8).toArray) := by
  intro W h b tl hrow hrd hK hpl
  rw [hP]
  exact numeral_any old u W h b tl hu ho hrow
inductive Fl where
  | n (k : Int)
  | s (b : ByteArray)
def cellsFl : Fl → List Value
  | .n k => [.int .i64 1, .int .i64 k, .string ⟨#[]⟩, .slice none 0 0]
  | .s b => [.int .i64 2, .int .i64 0, .string b, .slice none 0 0]
def valFl (z : Fl) : Value := .agg (cellsFl z).toArray
def Fl.fits : Fl → Prop
  | .n k => -9223372036854775808 ≤ k ∧ k ≤ 9223372036854775807
  | .s b => b.size ≤ 1048576
theorem cellsFl_len (z : Fl) : (cellsFl z).length = 4 := by cases z <;> rfl
def flL (l : List Fl) : List Value := l.flatMap cellsFl
theorem flL_len (l : List Fl) : (flL l).length = l.length * 4 := SX.flat_len (f := cellsFl) cellsFl_len l
def unsN (k : Int) : Nat := if 0 ≤ k then (2 * k).toNat else (-2 * k - 1).toNat
theorem unsN_lt {k : Int} (h1 : -9223372036854775808 ≤ k) (h2 : k ≤ 9223372036854775807) : unsN k < 18446744073709551616 := by
  unfold unsN; split <;> omega
theorem wrap_u (x : Int) : IntKind.u64.wrap x = x % 18446744073709551616 := by simp [IntKind.wrap, IntKind.signed, IntKind.bits]
theorem xor_zero (n : Nat) (h : n < 18446744073709551616) : SX.binV .xor (.int .u64 (n : Int)) (.int .u64 (0 : Int)) = some (.int .u64 (n : Int)) := by
  have e : (BitVec.ofInt 64 (n : Int)) = BitVec.ofNat 64 n := by apply BitVec.eq_of_toNat_eq; simp
  simp only [SX.binV, if_true, IntKind.bits, e]
  congr 2
  rw [wrap_u]
  have : (BitVec.ofNat 64 n ^^^ BitVec.ofInt 64 0).toNat = n := by simp; omega
  show ((BitVec.ofNat 64 n ^^^ BitVec.ofInt 64 0).toNat : Int) % 18446744073709551616 = (n : Int)
  rw [this]; omega
theorem xor_ones (n : Nat) (h : n < 18446744073709551616) : SX.binV .xor (.int .u64 (n : Int)) (.int .u64 (18446744073709551615 : Int)) = some (.int .u64 ((18446744073709551615 - n : Nat) : Int)) := by
  have e : (BitVec.ofInt 64 (n : Int)) = BitVec.ofNat 64 n := by apply BitVec.eq_of_toNat_eq; simp
  have e2 : (BitVec.ofInt 64 (18446744073709551615 : Int)) = BitVec.allOnes 64 := by decide
  simp only [SX.binV, if_true, IntKind.bits, e, e2]
  congr 2
  rw [wrap_u]
  have : (BitVec.ofNat 64 n ^^^ BitVec.allOnes 64).toNat = 18446744073709551615 - n := by
    rw [BitVec.xor_allOnes, BitVec.toNat_not, BitVec.toNat_ofNat]
    omega
  show ((BitVec.ofNat 64 n ^^^ BitVec.allOnes 64).toNat : Int) % 18446744073709551616 = ((18446744073709551615 - n : Nat) : Int)
  rw [this]; omega
theorem shl_one (n : Nat) : SX.binV .shl (.int .u64 (n : Int)) (.int .u64 (1 : Int)) = some (.int .u64 (((n * 2) % 18446744073709551616 : Nat) : Int)) := by
  have h1 : ¬ ((1 : Int) < 0) := by omega
  simp only [SX.binV, h1, if_false, IntKind.bits]
  congr 2
theorem shr_63 (k : Int) (h1 : -9223372036854775808 ≤ k) (h2 : k ≤ 9223372036854775807) : SX.binV .shr (.int .i64 k) (.int .u64 (63 : Int)) = some (.int .i64 (if 0 ≤ k then 0 else -1)) := by
  have h3 : ¬ ((63 : Int) < 0) := by omega
  have h4 : min (63 : Int).toNat 64 = 63 := by decide
  simp only [SX.binV, h3, if_false, IntKind.bits, h4]
  congr 2
  have e : ((2 : Int) ^ 63) = 9223372036854775808 := by decide
  rw [e, Int.fdiv_eq_ediv_of_nonneg _ (by decide)]
  split <;> omega
def args_unsg : List SX.V := [.x 0 []]
def tree_unsg : SX.Tree :=
(.df (.conv .u64) [(.q 0)] .one
(.df (.bin .shl 75) [(.q 1), (.k (.int .u64 1))] .one
(.df (.bin .shr 3) [(.q 0), (.k (.int .u64 63))] .one
(.df (.conv .u64) [(.q 3)] .one
(.df (.bin .xor 75) [(.q 2), (.q 4)] .one
(.ret (.q 5) [] []))))))
set_option maxRecDepth 100000 in
theorem run_unsg (K A : Value → Nat → List Value → Prop) : (SX.run (cx0 K A) ⟨fun f => true, [], 0, 100⟩ 100000 0 (SX.door 48 Tryd.f48 args_unsg [.one]) [.code (Tryd.f48.body.getD .skip), .top Tryd.f48]).strip = tree_unsg := by kernel_rfl
theorem unsigned_any (k : Int) (w : World) (h1 : -9223372036854775808 ≤ k) (h2 : k ≤ 9223372036854775807) : Calls Tryd.prog 48 #[.int .i64 k] w fun e w' => e = .returned (.int .u64 (unsN k : Int)) ∧ Below w.heap.size w w' := by
  refine SX.calls_of_run (C := cx0 (fun _ _ _ => False) (fun _ _ _ => False)) (G := ⟨fun f => true, [], 0, 100⟩) (args := args_unsg) (sh := [.one]) (ρ := [.int .i64 k]) 100000 tree_unsg (cx0_ok _ _) Tryd.func48 rfl (run_unsg _ _) (by kernel_rfl) (by kernel_rfl) (by kernel_rfl) (fun W _ => SX.Kf_none (fun _ _ _ h => h) W) ?_
  unfold tree_unsg
  obtain ⟨m, hm⟩ : ∃ m : Nat, k % 18446744073709551616 = (m : Int) := ⟨(k % 18446744073709551616).toNat, by omega⟩
  refine SX.E (.int .u64 (m : Int)) (fun α => Eq.trans (b := some (.int .u64 (IntKind.u64.wrap k))) (by kernel_rfl) (by rw [wrap_u, hm])) ?_
  refine SX.E (.int .u64 (((m * 2) % 18446744073709551616 : Nat) : Int)) (fun α => cast (by kernel_rfl) (shl_one m)) ?_
  refine SX.E (.int .i64 (if 0 ≤ k then 0 else -1)) (fun α => cast (by kernel_rfl) (shr_63 k h1 h2)) ?_
  by_cases h0 : 0 ≤ k
  · refine SX.E (.int .u64 (0 : Int)) (fun α => Eq.trans (b := some (.int .u64 (IntKind.u64.wrap (if 0 ≤ k then 0 else -1)))) (by kernel_rfl) (by rw [if_pos h0, wrap_u]; rfl)) ?_
    refine SX.E (.int .u64 (((m * 2) % 18446744073709551616 : Nat) : Int)) (fun α => cast (by kernel_rfl) (xor_zero ((m * 2) % 18446744073709551616) (by omega))) ?_
    exact SX.F (.int .u64 (((m * 2) % 18446744073709551616 : Nat) : Int)) (by congr 1; unfold unsN; rw [if_pos h0]; omega)
  refine SX.E (.int .u64 (18446744073709551615 : Int)) (fun α => Eq.trans (b := some (.int .u64 (IntKind.u64.wrap (if 0 ≤ k then 0 else -1)))) (by kernel_rfl) (by rw [if_neg h0, wrap_u]; rfl)) ?_
  refine SX.E (.int .u64 ((18446744073709551615 - (m * 2) % 18446744073709551616 : Nat) : Int)) (fun α => cast (by kernel_rfl) (xor_ones ((m * 2) % 18446744073709551616) (by omega))) ?_
  exact SX.F (.int .u64 ((18446744073709551615 - (m * 2) % 18446744073709551616 : Nat) : Int)) (by congr 1; unfold unsN; rw [if_neg h0]; omega)
noncomputable def cxA0 (K A : Value → Nat → List Value → Prop) : SX.Cx := { cx0 K A with arr := true }
theorem cxA0_ok (K A : Value → Nat → List Value → Prop) : (cxA0 K A).Ok := SX.Cx.ok_of (fun _ => rfl) fun _ f xs v W h => h.elim
def tree_form1 : SX.Tree :=
(.df (.bin .eql 3) [(.q 0), (.i 0)] .one
(.br 1 []
(.df (.bin .eql 3) [(.q 0), (.i 0)] .one
(.br 2 []
(.ret (.t [(.i 0), (.k (.bool true))]) [] [])
(.ret (.t [(.i 0), (.k (.bool true))]) [] [])))
(.df (.bin .eql 3) [(.q 0), (.i 0)] .one
(.br 2 []
(.ret (.t [(.i 0), (.k (.bool true))]) [] [])
(.ret (.t [(.i 0), (.k (.bool true))]) [] [])))))
def args_form1 : List SX.V := [.a [.k (.int .i64 1), .x 0 [], .k (.string ⟨#[]⟩), .k (.slice none 0 0)]]
set_option maxRecDepth 100000 in
theorem run_form1 (K A : Value → Nat → List Value → Prop) : (SX.run (cxA0 K A) ⟨fun f => true, [], 0, 100⟩ 100000 0 (SX.door 45 Tryd.f45 args_form1 [.one]) [.code (Tryd.f45.body.getD .skip), .top Tryd.f45]).strip = tree_form1 := by kernel_rfl
set_option maxRecDepth 100000 in
set_option maxHeartbeats 4000000 in
theorem form1_any (k : Int) (w : World)  : Calls Tryd.prog 45 #[.agg #[.int .i64 1, .int .i64 k, .string ⟨#[]⟩, .slice none 0 0]] w fun e w' => e = .returned (.tuple #[.int .i64 0, .bool true]) ∧ Below w.heap.size w w' := by
  refine SX.calls_of_run (C := cxA0 (fun _ _ _ => False) (fun _ _ _ => False)) (G := ⟨fun f => true, [], 0, 100⟩) (args := args_form1) (sh := [.one]) (ρ := [.int .i64 k]) 100000 tree_form1 (cxA0_ok _ _) Tryd.func45 rfl (run_form1 _ _) (by kernel_rfl) (by kernel_rfl) (by kernel_rfl) ?_ ?_
  · exact fun W _ => SX.Kf_none (fun _ _ _ h => h) W
  unfold tree_form1
  refine SX.D (.bool ((k : Int) == 0)) ?_
  refine SX.B ((k : Int) == 0) (fun h1 => ?_) (fun h1 => ?_)
  · try simp only [NRM] at h1
    refine SX.D (.bool ((k : Int) == 0)) ?_
    refine SX.B ((k : Int) == 0) (fun h2 => ?_) (fun h2 => ?_)
    · try simp only [NRM] at h2
      exact SX.F (.tuple #[.int .i64 0, .bool true]) (by rfl)
    try simp only [NRM] at h2
    exact SX.F (.tuple #[.int .i64 0, .bool true]) (by rfl)
  try simp only [NRM] at h1
  refine SX.D (.bool ((k : Int) == 0)) ?_
  refine SX.B ((k : Int) == 0) (fun h2 => ?_) (fun h2 => ?_)
  · try simp only [NRM] at h2
    exact SX.F (.tuple #[.int .i64 0, .bool true]) (by rfl)
  try simp only [NRM] at h2
  exact SX.F (.tuple #[.int .i64 0, .bool true]) (by rfl)
def tree_form2 : SX.Tree :=
(.df (.bin .eql 9) [(.q 0), (.k (.string ⟨#[]⟩))] .one
(.br 1 []
(.df (.bin .eql 9) [(.q 0), (.k (.string ⟨#[]⟩))] .one
(.ret (.t [(.i 0), (.k (.bool true))]) [] []))
(.df (.bin .eql 9) [(.q 0), (.k (.string ⟨#[]⟩))] .one
(.ret (.t [(.i 0), (.k (.bool true))]) [] []))))
def args_form2 : List SX.V := [.a [.k (.int .i64 2), .k (.int .i64 0), .x 0 [], .k (.slice none 0 0)]]
set_option maxRecDepth 100000 in
theorem run_form2 (K A : Value → Nat → List Value → Prop) : (SX.run (cxA0 K A) ⟨fun f => true, [], 0, 100⟩ 100000 0 (SX.door 45 Tryd.f45 args_form2 [.one]) [.code (Tryd.f45.body.getD .skip), .top Tryd.f45]).strip = tree_form2 := by kernel_rfl
set_option maxRecDepth 100000 in
set_option maxHeartbeats 4000000 in
theorem form2_any (b : ByteArray) (w : World)  : Calls Tryd.prog 45 #[.agg #[.int .i64 2, .int .i64 0, .string b, .slice none 0 0]] w fun e w' => e = .returned (.tuple #[.int .i64 0, .bool true]) ∧ Below w.heap.size w w' := by
  refine SX.calls_of_run (C := cxA0 (fun _ _ _ => False) (fun _ _ _ => False)) (G := ⟨fun f => true, [], 0, 100⟩) (args := args_form2) (sh := [.one]) (ρ := [.string b]) 100000 tree_form2 (cxA0_ok _ _) Tryd.func45 rfl (run_form2 _ _) (by kernel_rfl) (by kernel_rfl) (by kernel_rfl) ?_ ?_
  · exact fun W _ => SX.Kf_none (fun _ _ _ h => h) W
  unfold tree_form2
  refine SX.D (.bool (decide (b = ⟨#[]⟩))) ?_
  refine SX.B (decide (b = ⟨#[]⟩)) (fun h1 => ?_) (fun h1 => ?_)
  · try simp only [NRM] at h1
    refine SX.D (.bool (decide (b = ⟨#[]⟩))) ?_
    exact SX.F (.tuple #[.int .i64 0, .bool true]) (by rfl)
  try simp only [NRM] at h1
  refine SX.D (.bool (decide (b = ⟨#[]⟩))) ?_
  exact SX.F (.tuple #[.int .i64 0, .bool true]) (by rfl)
def RC2 (f : FuncId) (xs : List SX.Arg) (v : Value) : Prop :=
  (f = 45 ∧ ∃ z : Fl, xs = [⟨valFl z, 0, []⟩] ∧ v = .tuple #[.int .i64 0, .bool true])
def shpC2 : FuncId → Option SX.Sh := fun f => if f = 45 then some (.tp [.one, .one]) else none
noncomputable def cxC2 (K A : Value → Nat → List Value → Prop) : SX.Cx := { P := Tryd.prog, R := fun _ => RC2, shp := shpC2, K := K, A := A, arr := true }
theorem okC2 (K A : Value → Nat → List Value → Prop) : (cxC2 K A).Ok := by
  refine SX.Cx.ok_of (fun _ => rfl) ?_
  intro K f xs v W hR hrd hKf
  rcases hR with ⟨rfl, z, rfl, rfl⟩
  cases z with
  | n k => exact (form1_any k W).mono fun e w' h => SX.plainOk rfl h
  | s b => exact (form2_any b W).mono fun e w' h => SX.plainOk rfl h
def tree_form3 : SX.Tree :=
(.df (.len false) [(.q 0)] .one
(.df (.bin .eql 3) [(.q 1), (.i 0)] .one
(.df (.len false) [(.q 0)] .one
(.df (.bin .eql 3) [(.q 3), (.i 0)] .one
(.df (.len false) [(.q 0)] .one
(.loop [(.i 0), (.i 0)] [.one, .one]
(.df (.bin .lss 3) [(.q 6), (.q 5)] .one
(.br 8 []
(.df .bnd [(.q 0), (.q 6)] .one
(.df (.elems 4 0 4) [(.q 0), (.q 6)] (.ag 4)
(.df (.call 45 [.no]) [(.a (SX.Y 10 0 4))] (.tp [.one, .one])
(.df .not [(.x 11 [1])] .one
(.br 12 []
(.ret (.t [(.i 0), (.k (.bool false))]) [] [])
(.df .max [(.q 7), (.x 11 [0])] .one
(.df (.bin .add 3) [(.q 6), (.i 1)] .one
(.again 0 [(.q 14), (.q 13)]))))))))
(.df (.bin .add 3) [(.q 7), (.i 1)] .one
(.ret (.t [(.q 9), (.k (.bool true))]) [] []))))))))))
def args_form3 : List SX.V := [.a [.k (.int .i64 3), .k (.int .i64 0), .k (.string ⟨#[]⟩), .x 0 []]]
set_option maxRecDepth 100000 in
theorem run_form3 (K A : Value → Nat → List Value → Prop) : (SX.run (cxC2 K A) ⟨fun f => f != 45, [⟨45, 7, [(.s 57, .one), (.s 2, .one)]⟩], 0, 100⟩ 100000 0 (SX.door 45 Tryd.f45 args_form3 [.one]) [.code (Tryd.f45.body.getD .skip), .top Tryd.f45]).strip = tree_form3 := by kernel_rfl
set_option maxRecDepth 100000 in
set_option maxHeartbeats 4000000 in
theorem form3_any (fl : List Fl) (A : Option Addr) (n c : Nat) (w : World) (hr : Rd w 4 A n (flL fl)) (hn : n ≤ 9223372036854775807) (hc : n ≤ c) : Calls Tryd.prog 45 #[.agg #[.int .i64 3, .int .i64 0, .string ⟨#[]⟩, .slice A n c]] w fun e w' => e = .returned (.tuple #[.int .i64 1, .bool true]) ∧ Below w.heap.size w w' := by
  refine SX.calls_of_run (C := cxC2 (fun s sz cells => s = .slice A n c ∧ sz = 4 ∧ cells = flL fl) (fun _ _ _ => False)) (G := ⟨fun f => f != 45, [⟨45, 7, [(.s 57, .one), (.s 2, .one)]⟩], 0, 100⟩) (args := args_form3) (sh := [.one]) (ρ := [.slice A n c]) 100000 tree_form3 (okC2 _ _) Tryd.func45 rfl (run_form3 _ _) (by kernel_rfl) (by kernel_rfl) (by kernel_rfl) ?_ ?_
  · rintro W hW s sz cells ⟨rfl, rfl, rfl⟩; exact ⟨hr.same0 hW, hc⟩
  have hA := SX.rd_some hr
  have hln : fl.length = n := by have := hr.1; rw [flL_len] at this; omega
  unfold tree_form3
  refine SX.D (.int .i64 (((n : Nat) : Int))) ?_
  refine SX.D (.bool ((((n : Nat) : Int) : Int) == 0)) ?_
  refine SX.D (.int .i64 (((n : Nat) : Int))) ?_
  refine SX.D (.bool ((((n : Nat) : Int) : Int) == 0)) ?_
  refine SX.D (.int .i64 (((n : Nat) : Int))) ?_
  refine SX.VC_loop (fun xs => ∃ (i : Nat), xs = [.int .i64 (i : Int), .int .i64 0] ∧ i ≤ n) (fun xs => match xs with | .int _ i :: _ => n - i.toNat | _ => 0) (fun α => ⟨0, by kernel_rfl, by omega⟩) ?_
  rintro xs - ⟨i, rfl, hin⟩
  refine SX.D (.bool (decide (((i : Nat) : Int) < ((n : Nat) : Int)))) ?_
  refine SX.B (decide (((i : Nat) : Int) < ((n : Nat) : Int))) (fun h8 => ?_) (fun h8 => ?_)
  · try simp only [NRM] at h8
    obtain ⟨z, hz⟩ : ∃ z, fl[i]? = some z := ⟨_, List.getElem?_eq_getElem (by omega)⟩
    refine SX.E (.bool true) (fun α => SX.extBnd (A := A) (n := n) (c := c) (j := i) hA (by kernel_rfl) (by kernel_rfl) (by omega)) ?_
    refine SX.VC_df ((valFl z)) (fun α => SX.extElems (f := cellsFl) (l := fl) (A := A) (n := n) (c := c) (j := i) (z := z) cellsFl_len hA (by kernel_rfl) (by kernel_rfl) (by omega) ⟨rfl, rfl, rfl⟩ hz) ((by cases z <;> rfl)) ?_
    refine SX.E (.tuple #[.int .i64 0, .bool true]) (fun α => ⟨[⟨valFl z, 0, []⟩], ⟨(by cases z <;> kernel_rfl), by kernel_rfl, trivial⟩, ⟨rfl, z, rfl, rfl⟩, SX.noAli rfl⟩) ?_
    refine SX.D (.bool (!(true))) ?_
    refine SX.B (!(true)) (fun h12 => absurd h12 (by simp)) (fun h12 => ?_)
    try simp only [NRM] at h12
    refine SX.D (.int .i64 0) ?_
    refine SX.E (.int .i64 (((i + 1 : Nat) : Int))) (fun α => SX.W1 i) ?_
    exact SX.VC_again fun α => ⟨⟨i + 1, by kernel_rfl, by omega⟩, cast (by kernel_rfl) (show n - ((i + 1 : Nat) : Int).toNat < n - (i : Int).toNat by omega)⟩
  try simp only [NRM] at h8
  refine SX.D (.int .i64 1) ?_
  exact SX.F (.tuple #[.int .i64 1, .bool true]) (by rfl)
theorem fl_arg {W : World} {u : Value} {fl : List Fl} (h : SX.Arg.rd W ⟨u, 4, flL fl⟩) : ∃ A n c, u = .slice A n c ∧ Rd W 4 A n (flL fl) ∧ n ≤ c ∧ fl.length = n := by
  unfold SX.Arg.rd at h
  split at h
  · rename_i A n c hu
    have hu : u = .slice A n c := hu
    refine ⟨A, n, c, hu, h.1, h.2, ?_⟩
    have := h.1.1; simp only [flL_len] at this; omega
  cases h
def RC3 (K : Value → Nat → List Value → Prop) (f : FuncId) (xs : List SX.Arg) (v : Value) : Prop :=
  (f = 45 ∧ ∃ (u : Value) (fl : List Fl), xs = [⟨.agg #[.int .i64 3, .int .i64 0, .string ⟨#[]⟩, u], 0, []⟩] ∧ K u 4 (flL fl) ∧ fl.length ≤ 9223372036854775807 ∧ v = .tuple #[.int .i64 1, .bool true])
def shpC3 : FuncId → Option SX.Sh := fun f => if f = 45 then some (.tp [.one, .one]) else none
noncomputable def cxC3 (K A : Value → Nat → List Value → Prop) : SX.Cx := { P := Tryd.prog, R := RC3, shp := shpC3, K := K, A := A }
theorem okC3 (K A : Value → Nat → List Value → Prop) : (cxC3 K A).Ok := by
  refine SX.Cx.ok_of (fun _ => rfl) ?_
  intro K f xs v W hR hrd hKf
  rcases hR with ⟨rfl, u, fl, rfl, hku, hl, rfl⟩
  obtain ⟨A, n, c, rfl, h2, h3, h4⟩ := fl_arg (hKf u 4 (flL fl) hku)
  exact (form3_any fl A n c W h2 (by omega) h3).mono fun e w' h => SX.plainOk rfl h
def tree_fcheck : SX.Tree :=
(.df (.call 45 [.no]) [(.a [(.i 3), (.i 0), (.k (.string ⟨#[]⟩)), (.q 0)])] (.tp [.one, .one])
(.df .not [(.x 1 [1])] .one
(.br 2 []
(.ret (.i 1) [] [])
(.df (.bin .gtr 3) [(.x 1 [0]), (.i 16)] .one
(.br 3 []
(.ret (.i 2) [] [])
(.ret (.i 0) [] []))))))
def args_fcheck : List SX.V := [.a [.k (.int .i64 3), .k (.int .i64 0), .k (.string ⟨#[]⟩), .x 0 []]]
set_option maxRecDepth 100000 in
theorem run_fcheck (K A : Value → Nat → List Value → Prop) : (SX.run (cxC3 K A) ⟨fun f => true, [], 0, 100⟩ 100000 0 (SX.door 35 Tryd.f35 args_fcheck [.one]) [.code (Tryd.f35.body.getD .skip), .top Tryd.f35]).strip = tree_fcheck := by kernel_rfl
set_option maxRecDepth 100000 in
set_option maxHeartbeats 4000000 in
theorem fcheck_any (fl : List Fl) (A : Option Addr) (n c : Nat) (w : World) (hr : Rd w 4 A n (flL fl)) (hn : n ≤ 9223372036854775807) (hc : n ≤ c) : Calls Tryd.prog 35 #[.agg #[.int .i64 3, .int .i64 0, .string ⟨#[]⟩, .slice A n c]] w fun e w' => e = .returned (.int .i64 0) ∧ Below w.heap.size w w' := by
  refine SX.calls_of_run (C := cxC3 (fun s sz cells => s = .slice A n c ∧ sz = 4 ∧ cells = flL fl) (fun _ _ _ => False)) (G := ⟨fun f => true, [], 0, 100⟩) (args := args_fcheck) (sh := [.one]) (ρ := [.slice A n c]) 100000 tree_fcheck (okC3 _ _) Tryd.func35 rfl (run_fcheck _ _) (by kernel_rfl) (by kernel_rfl) (by kernel_rfl) ?_ ?_
  · rintro W hW s sz cells ⟨rfl, rfl, rfl⟩; exact ⟨hr.same0 hW, hc⟩
  have hln : fl.length = n := by have := hr.1; rw [flL_len] at this; omega
  unfold tree_fcheck
  refine SX.E (.tuple #[.int .i64 1, .bool true]) (fun α => ⟨[⟨.agg #[.int .i64 3, .int .i64 0, .string ⟨#[]⟩, .slice A n c], 0, []⟩], ⟨by kernel_rfl, by kernel_rfl, trivial⟩, ⟨rfl, .slice A n c, fl, rfl, ⟨rfl, rfl, rfl⟩, by omega, rfl⟩, SX.noAli rfl⟩) ?_
  refine SX.D (.bool (!(true))) ?_
  refine SX.B (!(true)) (fun h2 => absurd h2 (by simp)) (fun h2 => ?_)
  try simp only [NRM] at h2
  refine SX.D (.bool (decide (1 > 16))) ?_
  refine SX.B (decide (1 > 16)) (fun h3 => absurd h3 (by decide)) (fun h3 => ?_)
  try simp only [NRM] at h3
  exact SX.F (.int .i64 0) (by rfl)
def SigR (f : FuncId) (xs : List SX.Arg) (v : Value) : Prop := f = 55 ∧ ∃ (x : W32) (a b c : Int), -a ∈ turns ∧ -b ∈ turns ∧ -c ∈ turns ∧ xs = [⟨w32 x, 0, []⟩, ⟨.int .i64 a, 0, []⟩, ⟨.int .i64 b, 0, []⟩, ⟨.int .i64 c, 0, []⟩] ∧ v = w32 (sig x a b c)
def WordR (f : FuncId) (xs : List SX.Arg) (v : Value) : Prop := f = 53 ∧ ∃ (u : Value) (l : List W8), xs = [⟨u, 1, l.flatMap c8⟩] ∧ 4 ≤ l.length ∧ l.length ≤ 64 ∧ v = w32 (wordAt l 0)
noncomputable def cxA (K A : Value → Nat → List Value → Prop) : SX.Cx := { P := Tryd.prog, R := fun _ f xs v => RotR f xs v ∨ SigR f xs v ∨ WordR f xs v, shp := fun f => if f ∈ [54, 55, 53] then some .one else none, K := K, A := A, arr := true, trm := true }
theorem byte_arg {W : World} {u : Value} {l : List W8} (h : SX.Arg.rd W ⟨u, 1, l.flatMap c8⟩) : ∃ A n c, u = .slice A n c ∧ Rd W 1 A n (l.flatMap c8) ∧ n ≤ c ∧ l.length = n := by
  unfold SX.Arg.rd at h
  split at h
  · rename_i A n c hu
    have hu : u = .slice A n c := hu
    refine ⟨A, n, c, hu, h.1, h.2, ?_⟩
    have := h.1.1; rw [SX.flat_len c8_len] at this; simp only at this; omega
  cases h
theorem cxA_ok (K A : Value → Nat → List Value → Prop) : (cxA K A).Ok := SX.Cx.ok_of (fun _ => rfl) fun _ f xs v W h hrd hK => by
  rcases h with ⟨rfl, x, k, hk, rfl, rfl⟩ | ⟨rfl, x, a, b, c, ha, hb, hc, rfl, rfl⟩ | ⟨rfl, u, l, rfl, h4, h64, rfl⟩
  · exact (rotl_any x k hk W).mono fun e w' h => SX.plainOk rfl h
  · exact (rotated_any x a b c ha hb hc W).mono fun e w' h => SX.plainOk rfl h
  obtain ⟨A, n, c, rfl, hr, hc, hn⟩ := byte_arg (hrd ⟨u, 1, l.flatMap c8⟩ (by simp))
  exact (word_any l _ _ _ _ (take4 l h4) A n c W hr (by omega) hc).mono fun e w' h => SX.plainOk rfl h
theorem i_sub {a b d : Nat} (h : d + b = a) (ha : a ≤ 1000) : SX.binV .sub (.int .i64 (a : Int)) (.int .i64 (b : Int)) = some (.int .i64 (d : Int)) := by
  simp only [SX.binV, binI, if_true]
  rw [wrap_i64 (by omega) (by omega)]
  congr 2
  omega
theorem i_add {a b d : Nat} (h : a + b = d) (ha : d ≤ 1000) : SX.binV .add (.int .i64 (a : Int)) (.int .i64 (b : Int)) = some (.int .i64 (d : Int)) := by
  simp only [SX.binV, binI, if_true]
  rw [wrap_i64 (by omega) (by omega)]
  congr 2
  omega
def KA (A : Option Addr) (c : Nat) (l : List W8) (v : Value) (z : Nat) (xs : List Value) : Prop := SX.SubK A 64 c 1 (l.flatMap c8) v z xs ∨ (v = .slice (some ⟨1, 0, none⟩) 64 64 ∧ z = 1 ∧ xs = numbersK.flatMap c32)
theorem KA_part (A : Option Addr) (c : Nat) (l : List W8) (hl : l.length = 64) (hc : 64 ≤ c) (j : Nat) (hj : j ≤ 64) : KA A c l (SX.subS A 1 j 64 c) 1 ((l.drop j).flatMap c8) := by
  have := SX.SubK.part c8_len (A := A) (n := 64) (c := c) (L := l) (l := j) (h := 64) (m := c) hj (by omega) hc (by omega)
  rw [List.take_of_length_le (by rw [List.length_drop]; omega)] at this
  exact .inl this
theorem wordAt_drop (l : List W8) (t : Nat) : wordAt (l.drop (4 * t)) 0 = wordAt l t := by
  simp [wordAt, List.getD_eq_getElem?_getD]
theorem cellsV_agg (X : List Value) : SX.cellsV (.agg X.toArray) = X := rfl
theorem absorbE_eq {s v : S8} {l : List W8} (h : rnds (expd l 48) s 64 = v) : absorbE s l = ⟨s.a + v.a, s.b + v.b, s.c + v.c, s.d + v.d, s.e + v.e, s.f + v.f, s.g + v.g, s.h + v.h⟩ := by
  subst h; rfl
theorem rnds_succ {ws : List W32} {s v : S8} {j : Nat} {kn : W32} (h : rnds ws s j = v) (hk : numbersK.getD j 0 = kn) : rnds ws s (j + 1) = v.rnd kn (ws.getD j 0) := by
  subst h; subst hk; rfl
def args_absorb : List SX.V := [.p 0 0, .x 8 []]
def bl_absorb : List SX.Blk := [⟨(List.range 8).map fun j => .x j [], 72, .cells⟩]
def tree_absorb : SX.Tree :=
(.df (.slc false 1 true false false) [(.q 8), (.i 0)] .one
(.df (.call 53 [(.ext 1)]) [(.q 9)] .one
(.df (.slc false 1 true false false) [(.q 8), (.i 4)] .one
(.df (.call 53 [(.ext 1)]) [(.q 11)] .one
(.df (.slc false 1 true false false) [(.q 8), (.i 8)] .one
(.df (.call 53 [(.ext 1)]) [(.q 13)] .one
(.df (.slc false 1 true false false) [(.q 8), (.i 12)] .one
(.df (.call 53 [(.ext 1)]) [(.q 15)] .one
(.df (.slc false 1 true false false) [(.q 8), (.i 16)] .one
(.df (.call 53 [(.ext 1)]) [(.q 17)] .one
(.df (.slc false 1 true false false) [(.q 8), (.i 20)] .one
(.df (.call 53 [(.ext 1)]) [(.q 19)] .one
(.df (.slc false 1 true false false) [(.q 8), (.i 24)] .one
(.df (.call 53 [(.ext 1)]) [(.q 21)] .one
(.df (.slc false 1 true false false) [(.q 8), (.i 28)] .one
(.df (.call 53 [(.ext 1)]) [(.q 23)] .one
(.df (.slc false 1 true false false) [(.q 8), (.i 32)] .one
(.df (.call 53 [(.ext 1)]) [(.q 25)] .one
(.df (.slc false 1 true false false) [(.q 8), (.i 36)] .one
(.df (.call 53 [(.ext 1)]) [(.q 27)] .one
(.df (.slc false 1 true false false) [(.q 8), (.i 40)] .one
(.df (.call 53 [(.ext 1)]) [(.q 29)] .one
(.df (.slc false 1 true false false) [(.q 8), (.i 44)] .one
(.df (.call 53 [(.ext 1)]) [(.q 31)] .one
(.df (.slc false 1 true false false) [(.q 8), (.i 48)] .one
(.df (.call 53 [(.ext 1)]) [(.q 33)] .one
(.df (.slc false 1 true false false) [(.q 8), (.i 52)] .one
(.df (.call 53 [(.ext 1)]) [(.q 35)] .one
(.df (.slc false 1 true false false) [(.q 8), (.i 56)] .one
(.df (.call 53 [(.ext 1)]) [(.q 37)] .one
(.df (.slc false 1 true false false) [(.q 8), (.i 60)] .one
(.df (.call 53 [(.ext 1)]) [(.q 39)] .one
(.loop [(.i 16), (.q 10), (.q 12), (.q 14), (.q 16), (.q 18), (.q 20), (.q 22), (.q 24), (.q 26), (.q 28), (.q 30), (.q 32), (.q 34), (.q 36), (.q 38), (.q 40), (.k (.int .u32 0)), (.k (.int .u32 0)), (.k (.int .u32 0)), (.k (.int .u32 0)), (.k (.int .u32 0)), (.k (.int .u32 0)), (.k (.int .u32 0)), (.k (.int .u32 0)), (.k (.int .u32 0)), (.k (.int .u32 0)), (.k (.int .u32 0)), (.k (.int .u32 0)), (.k (.int .u32 0)), (.k (.int .u32 0)), (.k (.int .u32 0)), (.k (.int .u32 0)), (.k (.int .u32 0)), (.k (.int .u32 0)), (.k (.int .u32 0)), (.k (.int .u32 0)), (.k (.int .u32 0)), (.k (.int .u32 0)), (.k (.int .u32 0)), (.k (.int .u32 0)), (.k (.int .u32 0)), (.k (.int .u32 0)), (.k (.int .u32 0)), (.k (.int .u32 0)), (.k (.int .u32 0)), (.k (.int .u32 0)), (.k (.int .u32 0)), (.k (.int .u32 0)), (.k (.int .u32 0)), (.k (.int .u32 0)), (.k (.int .u32 0)), (.k (.int .u32 0)), (.k (.int .u32 0)), (.k (.int .u32 0)), (.k (.int .u32 0)), (.k (.int .u32 0)), (.k (.int .u32 0)), (.k (.int .u32 0)), (.k (.int .u32 0)), (.k (.int .u32 0)), (.k (.int .u32 0)), (.k (.int .u32 0)), (.k (.int .u32 0)), (.k (.int .u32 0))] [.one, .one, .one, .one, .one, .one, .one, .one, .one, .one, .one, .one, .one, .one, .one, .one, .one, .one, .one, .one, .one, .one, .one, .one, .one, .one, .one, .one, .one, .one, .one, .one, .one, .one, .one, .one, .one, .one, .one, .one, .one, .one, .one, .one, .one, .one, .one, .one, .one, .one, .one, .one, .one, .one, .one, .one, .one, .one, .one, .one, .one, .one, .one, .one, .one]
(.df (.bin .lss 3) [(.q 41), (.i 64)] .one
(.br 106 []
(.df (.bin .sub 3) [(.q 41), (.i 15)] .one
(.df .bnd [(.sl 1 0 64 64), (.q 107)] .one
(.df (.relem 1 0) [(.cat [(.a (SX.Z 42 64))]), (.q 107)] .one
(.df (.bin .sub 3) [(.q 41), (.i 2)] .one
(.df .bnd [(.sl 1 0 64 64), (.q 110)] .one
(.df (.relem 1 0) [(.cat [(.a (SX.Z 42 64))]), (.q 110)] .one
(.df (.bin .sub 3) [(.q 41), (.i 16)] .one
(.df .bnd [(.sl 1 0 64 64), (.q 113)] .one
(.df (.relem 1 0) [(.cat [(.a (SX.Z 42 64))]), (.q 113)] .one
(.df (.call 54 [.no, .no]) [(.q 109), (.i (-7))] .one
(.df (.call 54 [.no, .no]) [(.q 109), (.i (-18))] .one
(.df (.bin .xor 70) [(.q 116), (.q 117)] .one
(.df (.bin .shr 70) [(.q 109), (.k (.int .u64 3))] .one
(.df (.bin .xor 70) [(.q 118), (.q 119)] .one
(.df (.bin .add 70) [(.q 115), (.q 120)] .one
(.df (.bin .sub 3) [(.q 41), (.i 7)] .one
(.df .bnd [(.sl 1 0 64 64), (.q 122)] .one
(.df (.relem 1 0) [(.cat [(.a (SX.Z 42 64))]), (.q 122)] .one
(.df (.bin .add 70) [(.q 121), (.q 124)] .one
(.df (.call 54 [.no, .no]) [(.q 112), (.i (-17))] .one
(.df (.call 54 [.no, .no]) [(.q 112), (.i (-19))] .one
(.df (.bin .xor 70) [(.q 126), (.q 127)] .one
(.df (.bin .shr 70) [(.q 112), (.k (.int .u64 10))] .one
(.df (.bin .xor 70) [(.q 128), (.q 129)] .one
(.df (.bin .add 70) [(.q 125), (.q 130)] .one
(.df .bnd [(.sl 1 0 64 64), (.q 41)] .one
(.df (.rset 1 0) [(.cat [(.a (SX.Z 42 64))]), (.q 41), (.q 131)] (.ag 64)
(.df (.bin .add 3) [(.q 41), (.i 1)] .one
(.again 0 ([(.q 134)] ++ SX.Y 133 0 64))))))))))))))))))))))))))))))
(.loop ([(.i 0)] ++ SX.Z 0 8) [.one, .one, .one, .one, .one, .one, .one, .one, .one]
(.df (.bin .lss 3) [(.q 107), (.i 64)] .one
(.br 116 []
(.df (.call 55 [.no, .no, .no, .no]) [(.q 112), (.i 6), (.i 11), (.i 25)] .one
(.df (.bin .add 70) [(.q 115), (.q 117)] .one
(.df (.bin .xor 70) [(.q 113), (.q 114)] .one
(.df (.bin .and 70) [(.q 112), (.q 119)] .one
(.df (.bin .xor 70) [(.q 114), (.q 120)] .one
(.df (.bin .add 70) [(.q 118), (.q 121)] .one
(.df .bnd [(.k (.slice (some ⟨1, 0, none⟩) 64 64)), (.q 107)] .one
(.df (.elem 1 0) [(.k (.slice (some ⟨1, 0, none⟩) 64 64)), (.q 107)] .one
(.df (.bin .add 70) [(.q 122), (.q 124)] .one
(.df .bnd [(.sl 1 0 64 64), (.q 107)] .one
(.df (.relem 1 0) [(.cat [(.a (SX.Z 42 64))]), (.q 107)] .one
(.df (.bin .add 70) [(.q 125), (.q 127)] .one
(.df (.call 55 [.no, .no, .no, .no]) [(.q 108), (.i 2), (.i 13), (.i 22)] .one
(.df (.bin .and 70) [(.q 108), (.q 109)] .one
(.df (.bin .or 70) [(.q 108), (.q 109)] .one
(.df (.bin .and 70) [(.q 110), (.q 131)] .one
(.df (.bin .or 70) [(.q 130), (.q 132)] .one
(.df (.bin .add 70) [(.q 129), (.q 133)] .one
(.df (.bin .add 70) [(.q 111), (.q 128)] .one
(.df (.bin .add 70) [(.q 128), (.q 134)] .one
(.df (.bin .add 3) [(.q 107), (.i 1)] .one
(.again 1 ([(.q 137), (.q 136)] ++ SX.Z 108 3 ++ [(.q 135)] ++ SX.Z 112 3)))))))))))))))))))))))
(.df (.bin .add 70) [(.q 0), (.q 108)] .one
(.df (.bin .add 70) [(.q 1), (.q 109)] .one
(.df (.bin .add 70) [(.q 2), (.q 110)] .one
(.df (.bin .add 70) [(.q 3), (.q 111)] .one
(.df (.bin .add 70) [(.q 4), (.q 112)] .one
(.df (.bin .add 70) [(.q 5), (.q 113)] .one
(.df (.bin .add 70) [(.q 6), (.q 114)] .one
(.df (.bin .add 70) [(.q 7), (.q 115)] .one
(.ret (.t []) [(some ⟨(SX.Z 117 8), 72, .cells⟩), (some ⟨(SX.Z 42 64), 84, .cells⟩), none, none, none, none, none, none, none, none, none, none, none, none, none, none, none, none, none, none, none, none, none, none, none, none, none, none, none, none, none, none, none, none, none, none, none, none, none, none, none, none, none, none, none, none, none, none, none, none, none, none, none, none, none, none, none, none, none, none, none, none, none, none, none, none, none, (some ⟨(SX.Z 108 8), 72, .cells⟩), none, none, none, none, none, none, none, none, none] [[(some (.p 0 0))]])))))))))))))))))))))))))))))))))))))))))))))))
set_option maxRecDepth 100000 in
theorem run_absorb (K A : Value → Nat → List Value → Prop) : (SX.run (cxA K A) ⟨fun _ => false, [⟨41, 7, ((.s 6, .one) :: (List.range 64).map fun j => (.c 1 j, .one))⟩, ⟨41, 13, ((.s 69, .one) :: (List.range 8).map fun j => (.c 67 j, .one))⟩], 1, 100⟩ 100000 0 { fr := args_absorb.map some ++ List.replicate (Tryd.f41.ntmps - args_absorb.length) (some (.k undef)), stk := [(List.range (bl_absorb).length).map fun n => some (.p n 0)], hp := (bl_absorb).map some, ln := (bl_absorb).map some, sh := (List.replicate 8 .one ++ [.any]), kn := [], lps := [], cur := 41 } [.code (Tryd.f41.body.getD .skip), .top Tryd.f41]).strip = tree_absorb := by kernel_rfl
set_option maxRecDepth 100000 in
set_option maxHeartbeats 4000000 in
theorem absorb_any (C : SX.Cx) (hP : C.P = Tryd.prog) (hnum : C.K (.slice (some ⟨1, 0, none⟩) 64 64) 1 (numbersK.flatMap c32)) (s : S8) (l : List W8) (hl : l.length = 64) (u : Value) : SX.PCall C 41 [⟨u, 1, l.flatMap c8⟩] s.cells 72 (.agg (absorbE s l).cells.toArray) := by
  intro w b hrd hK hb
  rw [hP]
  have hrd' : ∀ W', Same [b] w W' → SX.Arg.rd W' ⟨u, 1, l.flatMap c8⟩ := fun W' h => hrd _ (by simp) W' h
  obtain ⟨A, n, c, rfl, hr, hc, hn⟩ := byte_arg (hrd' w (.refl _ _))
  obtain rfl : n = 64 := by omega
  refine SX.calls_of_runW (C := cxA (KA A c l) (fun _ _ _ => False)) (G := ⟨fun _ => false, [⟨41, 7, ((.s 6, .one) :: (List.range 64).map fun j => (.c 1 j, .one))⟩, ⟨41, 13, ((.s 69, .one) :: (List.range 8).map fun j => (.c 67 j, .one))⟩], 1, 100⟩) (args := args_absorb) (sh := (List.replicate 8 .one ++ [.any])) (ρ := [w32 s.a, w32 s.b, w32 s.c, w32 s.d, w32 s.e, w32 s.f, w32 s.g, w32 s.h, .slice A 64 c]) (bs := [b]) (bl := bl_absorb) 100000 tree_absorb (cxA_ok _ _) Tryd.func41 rfl (cast (by kernel_rfl) (run_absorb (KA A c l) (fun _ _ _ => False))) (by kernel_rfl) (by kernel_rfl) (by kernel_rfl) ?_ (by simp) rfl ?_ (by decide) ?_
  · rintro W hW v z xs (h | ⟨rfl, rfl, rfl⟩)
    · obtain ⟨A', n', c', h1, h2, h3, h4⟩ := byte_arg (hrd' W hW)
      cases h1
      exact SX.SubK.rd h2 h
    exact hK _ _ _ hnum W hW
  · intro i b0 B h2 h3
    match i, h2, h3 with
    | 0, h2, h3 => cases h2; cases h3; exact cast (by kernel_rfl) hb
    | i + 1, h2, _ => simp at h2
  have hA := SX.rd_some hr
  have fin : ∀ (α : Nat → SX.AV) (W : World) (hp : List (Option SX.Blk)) (cs : List SX.V) (ρ : List Value) (os : List Ow) (ps : List (World → Prop)), hp[0]? = some (some ⟨cs, 72, .cells⟩) → SX.denL ρ α cs = (absorbE s l).cells → SX.Fms ρ α [[some (.p 0 0)]] [⟨([b].map fun b => Value.pointer (some ⟨b, 0, none⟩)).toArray, [], none⟩] → St ⟨w, [b], SX.Af (cxA (KA A c l) (fun _ _ _ => False)), SX.Bf (cxA (KA A c l) (fun _ _ _ => False))⟩ (SX.chs ρ α 0 hp) os ps W →
      Ending.returned (.tuple #[]) = .returned (.tuple #[]) ∧ W.os = w.os ∧ W.tape = w.tape ∧ W.output = w.output ∧ Same [b] w W ∧ W.heap[b]? = some (.cells (SX.cellsV (.agg (absorbE s l).cells.toArray)).toArray 72 (0, 0)) := by
    intro α W hp cs ρ os ps hhp hcs hF hS
    have e0 : b = (α 0).b := by
      have := hF.1.2 0 (.p 0 0) rfl
      simpa [SX.V.den] using this
    have g0 := hS.at_ (k := (α 0).b) (c := (absorbE s l).cells.toArray) (t := 72) (SX.chs_mem (k := 0) (n := 0) (b := ⟨cs, 72, .cells⟩) hhp (by simp only [SX.Blk.ch, hcs]))
    refine ⟨rfl, hS.old.os, hS.old.tape, hS.old.output, ⟨hS.old.size, fun b' hb' hm => hS.old.block b' hb' hm⟩, ?_⟩
    rw [e0, cellsV_agg]
    exact g0
  unfold tree_absorb
  refine SX.E (SX.subS A 1 0 64 c) (fun α => SX.slc_lo (n := 64) (k := 0) (by kernel_rfl) (by kernel_rfl) (by omega)) ?_
  refine SX.E (w32 (wordAt (l.drop 0) 0)) (fun α => ⟨[⟨SX.subS A 1 0 64 c, 1, (l.drop 0).flatMap c8⟩], ⟨by kernel_rfl, rfl, cast (by kernel_rfl) (KA_part A c l hl hc 0 (by omega)), trivial⟩, .inr (.inr ⟨rfl, _, _, rfl, by rw [List.length_drop]; omega, by rw [List.length_drop]; omega, rfl⟩), SX.noAli rfl⟩) ?_
  refine SX.E (SX.subS A 1 4 64 c) (fun α => SX.slc_lo (n := 64) (k := 4) (by kernel_rfl) (by kernel_rfl) (by omega)) ?_
  refine SX.E (w32 (wordAt (l.drop 4) 0)) (fun α => ⟨[⟨SX.subS A 1 4 64 c, 1, (l.drop 4).flatMap c8⟩], ⟨by kernel_rfl, rfl, cast (by kernel_rfl) (KA_part A c l hl hc 4 (by omega)), trivial⟩, .inr (.inr ⟨rfl, _, _, rfl, by rw [List.length_drop]; omega, by rw [List.length_drop]; omega, rfl⟩), SX.noAli rfl⟩) ?_
  refine SX.E (SX.subS A 1 8 64 c) (fun α => SX.slc_lo (n := 64) (k := 8) (by kernel_rfl) (by kernel_rfl) (by omega)) ?_
  refine SX.E (w32 (wordAt (l.drop 8) 0)) (fun α => ⟨[⟨SX.subS A 1 8 64 c, 1, (l.drop 8).flatMap c8⟩], ⟨by kernel_rfl, rfl, cast (by kernel_rfl) (KA_part A c l hl hc 8 (by omega)), trivial⟩, .inr (.inr ⟨rfl, _, _, rfl, by rw [List.length_drop]; omega, by rw [List.length_drop]; omega, rfl⟩), SX.noAli rfl⟩) ?_
  refine SX.E (SX.subS A 1 12 64 c) (fun α => SX.slc_lo (n := 64) (k := 12) (by kernel_rfl) (by kernel_rfl) (by omega)) ?_
  refine SX.E (w32 (wordAt (l.drop 12) 0)) (fun α => ⟨[⟨SX.subS A 1 12 64 c, 1, (l.drop 12).flatMap c8⟩], ⟨by kernel_rfl, rfl, cast (by kernel_rfl) (KA_part A c l hl hc 12 (by omega)), trivial⟩, .inr (.inr ⟨rfl, _, _, rfl, by rw [List.length_drop]; omega, by rw [List.length_drop]; omega, rfl⟩), SX.noAli rfl⟩) ?_
  refine SX.E (SX.subS A 1 16 64 c) (fun α => SX.slc_lo (n := 64) (k := 16) (by kernel_rfl) (by kernel_rfl) (by omega)) ?_
  refine SX.E (w32 (wordAt (l.drop 16) 0)) (fun α => ⟨[⟨SX.subS A 1 16 64 c, 1, (l.drop 16).flatMap c8⟩], ⟨by kernel_rfl, rfl, cast (by kernel_rfl) (KA_part A c l hl hc 16 (by omega)), trivial⟩, .inr (.inr ⟨rfl, _, _, rfl, by rw [List.length_drop]; omega, by rw [List.length_drop]; omega, rfl⟩), SX.noAli rfl⟩) ?_
  refine SX.E (SX.subS A 1 20 64 c) (fun α => SX.slc_lo (n := 64) (k := 20) (by kernel_rfl) (by kernel_rfl) (by omega)) ?_
  refine SX.E (w32 (wordAt (l.drop 20) 0)) (fun α => ⟨[⟨SX.subS A 1 20 64 c, 1, (l.drop 20).flatMap c8⟩], ⟨by kernel_rfl, rfl, cast (by kernel_rfl) (KA_part A c l hl hc 20 (by omega)), trivial⟩, .inr (.inr ⟨rfl, _, _, rfl, by rw [List.length_drop]; omega, by rw [List.length_drop]; omega, rfl⟩), SX.noAli rfl⟩) ?_
  refine SX.E (SX.subS A 1 24 64 c) (fun α => SX.slc_lo (n := 64) (k := 24) (by kernel_rfl) (by kernel_rfl) (by omega)) ?_
  refine SX.E (w32 (wordAt (l.drop 24) 0)) (fun α => ⟨[⟨SX.subS A 1 24 64 c, 1, (l.drop 24).flatMap c8⟩], ⟨by kernel_rfl, rfl, cast (by kernel_rfl) (KA_part A c l hl hc 24 (by omega)), trivial⟩, .inr (.inr ⟨rfl, _, _, rfl, by rw [List.length_drop]; omega, by rw [List.length_drop]; omega, rfl⟩), SX.noAli rfl⟩) ?_
  refine SX.E (SX.subS A 1 28 64 c) (fun α => SX.slc_lo (n := 64) (k := 28) (by kernel_rfl) (by kernel_rfl) (by omega)) ?_
  refine SX.E (w32 (wordAt (l.drop 28) 0)) (fun α => ⟨[⟨SX.subS A 1 28 64 c, 1, (l.drop 28).flatMap c8⟩], ⟨by kernel_rfl, rfl, cast (by kernel_rfl) (KA_part A c l hl hc 28 (by omega)), trivial⟩, .inr (.inr ⟨rfl, _, _, rfl, by rw [List.length_drop]; omega, by rw [List.length_drop]; omega, rfl⟩), SX.noAli rfl⟩) ?_
  refine SX.E (SX.subS A 1 32 64 c) (fun α => SX.slc_lo (n := 64) (k := 32) (by kernel_rfl) (by kernel_rfl) (by omega)) ?_
  refine SX.E (w32 (wordAt (l.drop 32) 0)) (fun α => ⟨[⟨SX.subS A 1 32 64 c, 1, (l.drop 32).flatMap c8⟩], ⟨by kernel_rfl, rfl, cast (by kernel_rfl) (KA_part A c l hl hc 32 (by omega)), trivial⟩, .inr (.inr ⟨rfl, _, _, rfl, by rw [List.length_drop]; omega, by rw [List.length_drop]; omega, rfl⟩), SX.noAli rfl⟩) ?_
  refine SX.E (SX.subS A 1 36 64 c) (fun α => SX.slc_lo (n := 64) (k := 36) (by kernel_rfl) (by kernel_rfl) (by omega)) ?_
  refine SX.E (w32 (wordAt (l.drop 36) 0)) (fun α => ⟨[⟨SX.subS A 1 36 64 c, 1, (l.drop 36).flatMap c8⟩], ⟨by kernel_rfl, rfl, cast (by kernel_rfl) (KA_part A c l hl hc 36 (by omega)), trivial⟩, .inr (.inr ⟨rfl, _, _, rfl, by rw [List.length_drop]; omega, by rw [List.length_drop]; omega, rfl⟩), SX.noAli rfl⟩) ?_
  refine SX.E (SX.subS A 1 40 64 c) (fun α => SX.slc_lo (n := 64) (k := 40) (by kernel_rfl) (by kernel_rfl) (by omega)) ?_
  refine SX.E (w32 (wordAt (l.drop 40) 0)) (fun α => ⟨[⟨SX.subS A 1 40 64 c, 1, (l.drop 40).flatMap c8⟩], ⟨by kernel_rfl, rfl, cast (by kernel_rfl) (KA_part A c l hl hc 40 (by omega)), trivial⟩, .inr (.inr ⟨rfl, _, _, rfl, by rw [List.length_drop]; omega, by rw [List.length_drop]; omega, rfl⟩), SX.noAli rfl⟩) ?_
  refine SX.E (SX.subS A 1 44 64 c) (fun α => SX.slc_lo (n := 64) (k := 44) (by kernel_rfl) (by kernel_rfl) (by omega)) ?_
  refine SX.E (w32 (wordAt (l.drop 44) 0)) (fun α => ⟨[⟨SX.subS A 1 44 64 c, 1, (l.drop 44).flatMap c8⟩], ⟨by kernel_rfl, rfl, cast (by kernel_rfl) (KA_part A c l hl hc 44 (by omega)), trivial⟩, .inr (.inr ⟨rfl, _, _, rfl, by rw [List.length_drop]; omega, by rw [List.length_drop]; omega, rfl⟩), SX.noAli rfl⟩) ?_
  refine SX.E (SX.subS A 1 48 64 c) (fun α => SX.slc_lo (n := 64) (k := 48) (by kernel_rfl) (by kernel_rfl) (by omega)) ?_
  refine SX.E (w32 (wordAt (l.drop 48) 0)) (fun α => ⟨[⟨SX.subS A 1 48 64 c, 1, (l.drop 48).flatMap c8⟩], ⟨by kernel_rfl, rfl, cast (by kernel_rfl) (KA_part A c l hl hc 48 (by omega)), trivial⟩, .inr (.inr ⟨rfl, _, _, rfl, by rw [List.length_drop]; omega, by rw [List.length_drop]; omega, rfl⟩), SX.noAli rfl⟩) ?_
  refine SX.E (SX.subS A 1 52 64 c) (fun α => SX.slc_lo (n := 64) (k := 52) (by kernel_rfl) (by kernel_rfl) (by omega)) ?_
  refine SX.E (w32 (wordAt (l.drop 52) 0)) (fun α => ⟨[⟨SX.subS A 1 52 64 c, 1, (l.drop 52).flatMap c8⟩], ⟨by kernel_rfl, rfl, cast (by kernel_rfl) (KA_part A c l hl hc 52 (by omega)), trivial⟩, .inr (.inr ⟨rfl, _, _, rfl, by rw [List.length_drop]; omega, by rw [List.length_drop]; omega, rfl⟩), SX.noAli rfl⟩) ?_
  refine SX.E (SX.subS A 1 56 64 c) (fun α => SX.slc_lo (n := 64) (k := 56) (by kernel_rfl) (by kernel_rfl) (by omega)) ?_
  refine SX.E (w32 (wordAt (l.drop 56) 0)) (fun α => ⟨[⟨SX.subS A 1 56 64 c, 1, (l.drop 56).flatMap c8⟩], ⟨by kernel_rfl, rfl, cast (by kernel_rfl) (KA_part A c l hl hc 56 (by omega)), trivial⟩, .inr (.inr ⟨rfl, _, _, rfl, by rw [List.length_drop]; omega, by rw [List.length_drop]; omega, rfl⟩), SX.noAli rfl⟩) ?_
  refine SX.E (SX.subS A 1 60 64 c) (fun α => SX.slc_lo (n := 64) (k := 60) (by kernel_rfl) (by kernel_rfl) (by omega)) ?_
  refine SX.E (w32 (wordAt (l.drop 60) 0)) (fun α => ⟨[⟨SX.subS A 1 60 64 c, 1, (l.drop 60).flatMap c8⟩], ⟨by kernel_rfl, rfl, cast (by kernel_rfl) (KA_part A c l hl hc 60 (by omega)), trivial⟩, .inr (.inr ⟨rfl, _, _, rfl, by rw [List.length_drop]; omega, by rw [List.length_drop]; omega, rfl⟩), SX.noAli rfl⟩) ?_
  have hw0 : ([wordAt (l.drop 0) 0, wordAt (l.drop 4) 0, wordAt (l.drop 8) 0, wordAt (l.drop 12) 0, wordAt (l.drop 16) 0, wordAt (l.drop 20) 0, wordAt (l.drop 24) 0, wordAt (l.drop 28) 0, wordAt (l.drop 32) 0, wordAt (l.drop 36) 0, wordAt (l.drop 40) 0, wordAt (l.drop 44) 0, wordAt (l.drop 48) 0, wordAt (l.drop 52) 0, wordAt (l.drop 56) 0, wordAt (l.drop 60) 0, 0, 0, 0, 0, 0, 0, 0, 0, 0, 0, 0, 0, 0, 0, 0, 0, 0, 0, 0, 0, 0, 0, 0, 0, 0, 0, 0, 0, 0, 0, 0, 0, 0, 0, 0, 0, 0, 0, 0, 0, 0, 0, 0, 0, 0, 0, 0, 0] : List W32) = ws0 l := by
    have := fun t => wordAt_drop l t
    rw [show ws0 l = [wordAt l 0, wordAt l 1, wordAt l 2, wordAt l 3, wordAt l 4, wordAt l 5, wordAt l 6, wordAt l 7, wordAt l 8, wordAt l 9, wordAt l 10, wordAt l 11, wordAt l 12, wordAt l 13, wordAt l 14, wordAt l 15, 0, 0, 0, 0, 0, 0, 0, 0, 0, 0, 0, 0, 0, 0, 0, 0, 0, 0, 0, 0, 0, 0, 0, 0, 0, 0, 0, 0, 0, 0, 0, 0, 0, 0, 0, 0, 0, 0, 0, 0, 0, 0, 0, 0, 0, 0, 0, 0] from rfl]
    rw [← wordAt_drop l 0, ← wordAt_drop l 1, ← wordAt_drop l 2, ← wordAt_drop l 3, ← wordAt_drop l 4, ← wordAt_drop l 5, ← wordAt_drop l 6, ← wordAt_drop l 7, ← wordAt_drop l 8, ← wordAt_drop l 9, ← wordAt_drop l 10, ← wordAt_drop l 11, ← wordAt_drop l 12, ← wordAt_drop l 13, ← wordAt_drop l 14, ← wordAt_drop l 15]
  refine SX.VC_loop (fun xs => ∃ k : Nat, xs = .int .i64 ((16 + k : Nat) : Int) :: (expd l k).map w32 ∧ k ≤ 48) (fun xs => match xs with | .int _ i :: _ => 64 - i.toNat | _ => 0) (fun α => ⟨0, Eq.trans (b := .int .i64 16 :: ([wordAt (l.drop 0) 0, wordAt (l.drop 4) 0, wordAt (l.drop 8) 0, wordAt (l.drop 12) 0, wordAt (l.drop 16) 0, wordAt (l.drop 20) 0, wordAt (l.drop 24) 0, wordAt (l.drop 28) 0, wordAt (l.drop 32) 0, wordAt (l.drop 36) 0, wordAt (l.drop 40) 0, wordAt (l.drop 44) 0, wordAt (l.drop 48) 0, wordAt (l.drop 52) 0, wordAt (l.drop 56) 0, wordAt (l.drop 60) 0, 0, 0, 0, 0, 0, 0, 0, 0, 0, 0, 0, 0, 0, 0, 0, 0, 0, 0, 0, 0, 0, 0, 0, 0, 0, 0, 0, 0, 0, 0, 0, 0, 0, 0, 0, 0, 0, 0, 0, 0, 0, 0, 0, 0, 0, 0, 0, 0] : List W32).map w32) (by kernel_rfl) (by rw [hw0]; rfl), by omega⟩) ?_
  rintro xs - ⟨k, rfl, hk⟩
  obtain ⟨g, hu⟩ := list64 (expd l k) (expd_len l k)
  have hL := expd_len l k
  rw [hu]
  refine SX.D (.bool (decide (((16 + k : Nat) : Int) < 64))) ?_
  refine SX.B (decide (((16 + k : Nat) : Int) < 64)) (fun hlt => ?_) (fun hge => ?_)
  · have hk2 : k < 48 := by simp only [decide_eq_true_eq] at hlt; omega
    refine SX.E (.int .i64 ((16 + k - 15 : Nat) : Int)) (fun α => cast (by kernel_rfl) (i_sub (a := 16 + k) (b := 15) (d := 16 + k - 15) (by omega) (by omega))) ?_
    refine SX.E (.bool true) (fun α => SX.extBnd (A := some ⟨(α 1).b, 0, none⟩) (n := 64) (c := 64) (j := (16 + k - 15)) (fun _ => rfl) rfl (by kernel_rfl) (by omega)) ?_
    refine SX.E (w32 ((expd l k).getD (16 + k - 15) 0)) (fun α => relemW (u := (expd l k)) (k := (16 + k - 15)) (by rw [hu]; kernel_rfl) (by kernel_rfl) (by rw [hL]; omega)) ?_
    refine SX.E (.int .i64 ((16 + k - 2 : Nat) : Int)) (fun α => cast (by kernel_rfl) (i_sub (a := 16 + k) (b := 2) (d := 16 + k - 2) (by omega) (by omega))) ?_
    refine SX.E (.bool true) (fun α => SX.extBnd (A := some ⟨(α 1).b, 0, none⟩) (n := 64) (c := 64) (j := (16 + k - 2)) (fun _ => rfl) rfl (by kernel_rfl) (by omega)) ?_
    refine SX.E (w32 ((expd l k).getD (16 + k - 2) 0)) (fun α => relemW (u := (expd l k)) (k := (16 + k - 2)) (by rw [hu]; kernel_rfl) (by kernel_rfl) (by rw [hL]; omega)) ?_
    refine SX.E (.int .i64 ((16 + k - 16 : Nat) : Int)) (fun α => cast (by kernel_rfl) (i_sub (a := 16 + k) (b := 16) (d := 16 + k - 16) (by omega) (by omega))) ?_
    refine SX.E (.bool true) (fun α => SX.extBnd (A := some ⟨(α 1).b, 0, none⟩) (n := 64) (c := 64) (j := (16 + k - 16)) (fun _ => rfl) rfl (by kernel_rfl) (by omega)) ?_
    refine SX.E (w32 ((expd l k).getD (16 + k - 16) 0)) (fun α => relemW (u := (expd l k)) (k := (16 + k - 16)) (by rw [hu]; kernel_rfl) (by kernel_rfl) (by rw [hL]; omega)) ?_
    refine SX.E (w32 (rotL ((expd l k).getD (16 + k - 15) 0) (turnOf (-7)))) (fun α => ⟨[⟨w32 ((expd l k).getD (16 + k - 15) 0), 0, []⟩, ⟨.int .i64 (-7), 0, []⟩], ⟨by kernel_rfl, by kernel_rfl, by kernel_rfl, by kernel_rfl, trivial⟩, .inl ⟨rfl, ((expd l k).getD (16 + k - 15) 0), -7, by decide, rfl, rfl⟩, SX.noAli rfl⟩) ?_
    refine SX.E (w32 (rotL ((expd l k).getD (16 + k - 15) 0) (turnOf (-18)))) (fun α => ⟨[⟨w32 ((expd l k).getD (16 + k - 15) 0), 0, []⟩, ⟨.int .i64 (-18), 0, []⟩], ⟨by kernel_rfl, by kernel_rfl, by kernel_rfl, by kernel_rfl, trivial⟩, .inl ⟨rfl, ((expd l k).getD (16 + k - 15) 0), -18, by decide, rfl, rfl⟩, SX.noAli rfl⟩) ?_
    refine SX.E (w32 ((rotL ((expd l k).getD (16 + k - 15) 0) (turnOf (-7))) ^^^ (rotL ((expd l k).getD (16 + k - 15) 0) (turnOf (-18))))) (fun α => cast (by kernel_rfl) (w_xor (rotL ((expd l k).getD (16 + k - 15) 0) (turnOf (-7))) (rotL ((expd l k).getD (16 + k - 15) 0) (turnOf (-18))))) ?_
    refine SX.E (w32 (((expd l k).getD (16 + k - 15) 0) >>> 3)) (fun α => cast (by kernel_rfl) (w_shr ((expd l k).getD (16 + k - 15) 0) .u64 3 (by omega))) ?_
    refine SX.E (w32 (((rotL ((expd l k).getD (16 + k - 15) 0) (turnOf (-7))) ^^^ (rotL ((expd l k).getD (16 + k - 15) 0) (turnOf (-18)))) ^^^ (((expd l k).getD (16 + k - 15) 0) >>> 3))) (fun α => cast (by kernel_rfl) (w_xor ((rotL ((expd l k).getD (16 + k - 15) 0) (turnOf (-7))) ^^^ (rotL ((expd l k).getD (16 + k - 15) 0) (turnOf (-18)))) (((expd l k).getD (16 + k - 15) 0) >>> 3))) ?_
    refine SX.E (w32 (((expd l k).getD (16 + k - 16) 0) + (((rotL ((expd l k).getD (16 + k - 15) 0) (turnOf (-7))) ^^^ (rotL ((expd l k).getD (16 + k - 15) 0) (turnOf (-18)))) ^^^ (((expd l k).getD (16 + k - 15) 0) >>> 3)))) (fun α => cast (by kernel_rfl) (w_add ((expd l k).getD (16 + k - 16) 0) (((rotL ((expd l k).getD (16 + k - 15) 0) (turnOf (-7))) ^^^ (rotL ((expd l k).getD (16 + k - 15) 0) (turnOf (-18)))) ^^^ (((expd l k).getD (16 + k - 15) 0) >>> 3)))) ?_
    refine SX.E (.int .i64 ((16 + k - 7 : Nat) : Int)) (fun α => cast (by kernel_rfl) (i_sub (a := 16 + k) (b := 7) (d := 16 + k - 7) (by omega) (by omega))) ?_
    refine SX.E (.bool true) (fun α => SX.extBnd (A := some ⟨(α 1).b, 0, none⟩) (n := 64) (c := 64) (j := (16 + k - 7)) (fun _ => rfl) rfl (by kernel_rfl) (by omega)) ?_
    refine SX.E (w32 ((expd l k).getD (16 + k - 7) 0)) (fun α => relemW (u := (expd l k)) (k := (16 + k - 7)) (by rw [hu]; kernel_rfl) (by kernel_rfl) (by rw [hL]; omega)) ?_
    refine SX.E (w32 ((((expd l k).getD (16 + k - 16) 0) + (((rotL ((expd l k).getD (16 + k - 15) 0) (turnOf (-7))) ^^^ (rotL ((expd l k).getD (16 + k - 15) 0) (turnOf (-18)))) ^^^ (((expd l k).getD (16 + k - 15) 0) >>> 3))) + ((expd l k).getD (16 + k - 7) 0))) (fun α => cast (by kernel_rfl) (w_add (((expd l k).getD (16 + k - 16) 0) + (((rotL ((expd l k).getD (16 + k - 15) 0) (turnOf (-7))) ^^^ (rotL ((expd l k).getD (16 + k - 15) 0) (turnOf (-18)))) ^^^ (((expd l k).getD (16 + k - 15) 0) >>> 3))) ((expd l k).getD (16 + k - 7) 0))) ?_
    refine SX.E (w32 (rotL ((expd l k).getD (16 + k - 2) 0) (turnOf (-17)))) (fun α => ⟨[⟨w32 ((expd l k).getD (16 + k - 2) 0), 0, []⟩, ⟨.int .i64 (-17), 0, []⟩], ⟨by kernel_rfl, by kernel_rfl, by kernel_rfl, by kernel_rfl, trivial⟩, .inl ⟨rfl, ((expd l k).getD (16 + k - 2) 0), -17, by decide, rfl, rfl⟩, SX.noAli rfl⟩) ?_
    refine SX.E (w32 (rotL ((expd l k).getD (16 + k - 2) 0) (turnOf (-19)))) (fun α => ⟨[⟨w32 ((expd l k).getD (16 + k - 2) 0), 0, []⟩, ⟨.int .i64 (-19), 0, []⟩], ⟨by kernel_rfl, by kernel_rfl, by kernel_rfl, by kernel_rfl, trivial⟩, .inl ⟨rfl, ((expd l k).getD (16 + k - 2) 0), -19, by decide, rfl, rfl⟩, SX.noAli rfl⟩) ?_
    refine SX.E (w32 ((rotL ((expd l k).getD (16 + k - 2) 0) (turnOf (-17))) ^^^ (rotL ((expd l k).getD (16 + k - 2) 0) (turnOf (-19))))) (fun α => cast (by kernel_rfl) (w_xor (rotL ((expd l k).getD (16 + k - 2) 0) (turnOf (-17))) (rotL ((expd l k).getD (16 + k - 2) 0) (turnOf (-19))))) ?_
    refine SX.E (w32 (((expd l k).getD (16 + k - 2) 0) >>> 10)) (fun α => cast (by kernel_rfl) (w_shr ((expd l k).getD (16 + k - 2) 0) .u64 10 (by omega))) ?_
    refine SX.E (w32 (((rotL ((expd l k).getD (16 + k - 2) 0) (turnOf (-17))) ^^^ (rotL ((expd l k).getD (16 + k - 2) 0) (turnOf (-19)))) ^^^ (((expd l k).getD (16 + k - 2) 0) >>> 10))) (fun α => cast (by kernel_rfl) (w_xor ((rotL ((expd l k).getD (16 + k - 2) 0) (turnOf (-17))) ^^^ (rotL ((expd l k).getD (16 + k - 2) 0) (turnOf (-19)))) (((expd l k).getD (16 + k - 2) 0) >>> 10))) ?_
    refine SX.E (w32 (((((expd l k).getD (16 + k - 16) 0) + (((rotL ((expd l k).getD (16 + k - 15) 0) (turnOf (-7))) ^^^ (rotL ((expd l k).getD (16 + k - 15) 0) (turnOf (-18)))) ^^^ (((expd l k).getD (16 + k - 15) 0) >>> 3))) + ((expd l k).getD (16 + k - 7) 0)) + (((rotL ((expd l k).getD (16 + k - 2) 0) (turnOf (-17))) ^^^ (rotL ((expd l k).getD (16 + k - 2) 0) (turnOf (-19)))) ^^^ (((expd l k).getD (16 + k - 2) 0) >>> 10)))) (fun α => cast (by kernel_rfl) (w_add ((((expd l k).getD (16 + k - 16) 0) + (((rotL ((expd l k).getD (16 + k - 15) 0) (turnOf (-7))) ^^^ (rotL ((expd l k).getD (16 + k - 15) 0) (turnOf (-18)))) ^^^ (((expd l k).getD (16 + k - 15) 0) >>> 3))) + ((expd l k).getD (16 + k - 7) 0)) (((rotL ((expd l k).getD (16 + k - 2) 0) (turnOf (-17))) ^^^ (rotL ((expd l k).getD (16 + k - 2) 0) (turnOf (-19)))) ^^^ (((expd l k).getD (16 + k - 2) 0) >>> 10)))) ?_
    refine SX.E (.bool true) (fun α => SX.extBnd (A := some ⟨(α 1).b, 0, none⟩) (n := 64) (c := 64) (j := (16 + k)) (fun _ => rfl) rfl (by kernel_rfl) (by omega)) ?_
    refine SX.VC_df (.agg (((expd l k).set (16 + k) (nextW (expd l k) (16 + k))).map w32).toArray) (fun α => rsetW (u := (expd l k)) (k := 16 + k) (y := nextW (expd l k) (16 + k)) (by rw [hu]; kernel_rfl) (by kernel_rfl) (by kernel_rfl) (by rw [hL]; omega)) (fitW _ (by simp [expd_len])) ?_
    refine SX.E (.int .i64 ((16 + (k + 1) : Nat) : Int)) (fun α => cast (by kernel_rfl) (i_add (a := 16 + k) (b := 1) (d := 16 + (k + 1)) (by omega) (by omega))) ?_
    exact VC_again2 rfl (fun α => ⟨k + 1, again_den (v0 := .x 134 []) (m := 133) (N := 64) (by kernel_rfl) (by kernel_rfl) (by kernel_rfl) (by simp [expd_len]), by omega⟩) (fun α => cast (by kernel_rfl) (show 64 - (16 + (k + 1)) < 64 - (16 + k) by omega))
  obtain rfl : k = 48 := by simp only [decide_eq_false_iff_not] at hge; omega
  refine SX.VC_loop (fun xs => ∃ j : Nat, xs = .int .i64 (j : Int) :: (rnds (expd l 48) s j).cells ∧ j ≤ 64) (fun xs => match xs with | .int _ i :: _ => 64 - i.toNat | _ => 0) (fun α => ⟨0, by kernel_rfl, by omega⟩) ?_
  rintro xs - ⟨j, rfl, hj⟩
  generalize hv : rnds (expd l 48) s j = v
  refine SX.D (.bool (decide ((j : Int) < 64))) ?_
  refine SX.B (decide ((j : Int) < 64)) (fun hlt => ?_) (fun hge => ?_)
  · have hj2 : j < 64 := by simp only [decide_eq_true_eq] at hlt; omega
    obtain ⟨kn, hkn⟩ : ∃ z, numbersK[j]? = some z := ⟨_, List.getElem?_eq_getElem (show j < 64 from hj2)⟩
    have hkn2 : numbersK.getD j 0 = kn := by rw [List.getD_eq_getElem?_getD, hkn]; rfl
    refine SX.E (w32 (sig v.e 6 11 25)) (fun α => ⟨[⟨w32 v.e, 0, []⟩, ⟨.int .i64 6, 0, []⟩, ⟨.int .i64 11, 0, []⟩, ⟨.int .i64 25, 0, []⟩], ⟨by kernel_rfl, by kernel_rfl, by kernel_rfl, by kernel_rfl, by kernel_rfl, by kernel_rfl, by kernel_rfl, by kernel_rfl, trivial⟩, .inr (.inl ⟨rfl, v.e, 6, 11, 25, by decide, by decide, by decide, rfl, rfl⟩), SX.noAli rfl⟩) ?_
    refine SX.E (w32 (v.h + (sig v.e 6 11 25))) (fun α => cast (by kernel_rfl) (w_add v.h (sig v.e 6 11 25))) ?_
    refine SX.E (w32 (v.f ^^^ v.g)) (fun α => cast (by kernel_rfl) (w_xor v.f v.g)) ?_
    refine SX.E (w32 (v.e &&& (v.f ^^^ v.g))) (fun α => cast (by kernel_rfl) (w_and v.e (v.f ^^^ v.g))) ?_
    refine SX.E (w32 (v.g ^^^ (v.e &&& (v.f ^^^ v.g)))) (fun α => cast (by kernel_rfl) (w_xor v.g (v.e &&& (v.f ^^^ v.g)))) ?_
    refine SX.E (w32 ((v.h + (sig v.e 6 11 25)) + (v.g ^^^ (v.e &&& (v.f ^^^ v.g))))) (fun α => cast (by kernel_rfl) (w_add (v.h + (sig v.e 6 11 25)) (v.g ^^^ (v.e &&& (v.f ^^^ v.g))))) ?_
    refine SX.E (.bool true) (fun α => SX.extBnd (A := some ⟨1, 0, none⟩) (n := 64) (c := 64) (j := j) (fun _ => rfl) rfl (by kernel_rfl) (by omega)) ?_
    refine SX.E (w32 kn) (fun α => SX.extElem (f := c32) (l := numbersK) (A := some ⟨1, 0, none⟩) (n := 64) (c := 64) (j := j) (z := kn) c32_len (fun _ => rfl) rfl (by kernel_rfl) (by omega) (.inr ⟨rfl, rfl, rfl⟩) hkn (by omega) rfl) ?_
    refine SX.E (w32 (((v.h + (sig v.e 6 11 25)) + (v.g ^^^ (v.e &&& (v.f ^^^ v.g)))) + kn)) (fun α => cast (by kernel_rfl) (w_add ((v.h + (sig v.e 6 11 25)) + (v.g ^^^ (v.e &&& (v.f ^^^ v.g)))) kn)) ?_
    refine SX.E (.bool true) (fun α => SX.extBnd (A := some ⟨(α 1).b, 0, none⟩) (n := 64) (c := 64) (j := j) (fun _ => rfl) rfl (by kernel_rfl) (by omega)) ?_
    refine SX.E (w32 ((expd l 48).getD j 0)) (fun α => relemW (u := (expd l 48)) (k := j) (by rw [hu]; kernel_rfl) (by kernel_rfl) (by rw [hL]; omega)) ?_
    refine SX.E (w32 ((((v.h + (sig v.e 6 11 25)) + (v.g ^^^ (v.e &&& (v.f ^^^ v.g)))) + kn) + ((expd l 48).getD j 0))) (fun α => cast (by kernel_rfl) (w_add (((v.h + (sig v.e 6 11 25)) + (v.g ^^^ (v.e &&& (v.f ^^^ v.g)))) + kn) ((expd l 48).getD j 0))) ?_
    refine SX.E (w32 (sig v.a 2 13 22)) (fun α => ⟨[⟨w32 v.a, 0, []⟩, ⟨.int .i64 2, 0, []⟩, ⟨.int .i64 13, 0, []⟩, ⟨.int .i64 22, 0, []⟩], ⟨by kernel_rfl, by kernel_rfl, by kernel_rfl, by kernel_rfl, by kernel_rfl, by kernel_rfl, by kernel_rfl, by kernel_rfl, trivial⟩, .inr (.inl ⟨rfl, v.a, 2, 13, 22, by decide, by decide, by decide, rfl, rfl⟩), SX.noAli rfl⟩) ?_
    refine SX.E (w32 (v.a &&& v.b)) (fun α => cast (by kernel_rfl) (w_and v.a v.b)) ?_
    refine SX.E (w32 (v.a ||| v.b)) (fun α => cast (by kernel_rfl) (w_or v.a v.b)) ?_
    refine SX.E (w32 (v.c &&& (v.a ||| v.b))) (fun α => cast (by kernel_rfl) (w_and v.c (v.a ||| v.b))) ?_
    refine SX.E (w32 ((v.a &&& v.b) ||| (v.c &&& (v.a ||| v.b)))) (fun α => cast (by kernel_rfl) (w_or (v.a &&& v.b) (v.c &&& (v.a ||| v.b)))) ?_
    refine SX.E (w32 ((sig v.a 2 13 22) + ((v.a &&& v.b) ||| (v.c &&& (v.a ||| v.b))))) (fun α => cast (by kernel_rfl) (w_add (sig v.a 2 13 22) ((v.a &&& v.b) ||| (v.c &&& (v.a ||| v.b))))) ?_
    refine SX.E (w32 (v.d + ((((v.h + (sig v.e 6 11 25)) + (v.g ^^^ (v.e &&& (v.f ^^^ v.g)))) + kn) + ((expd l 48).getD j 0)))) (fun α => cast (by kernel_rfl) (w_add v.d ((((v.h + (sig v.e 6 11 25)) + (v.g ^^^ (v.e &&& (v.f ^^^ v.g)))) + kn) + ((expd l 48).getD j 0)))) ?_
    refine SX.E (w32 (((((v.h + (sig v.e 6 11 25)) + (v.g ^^^ (v.e &&& (v.f ^^^ v.g)))) + kn) + ((expd l 48).getD j 0)) + ((sig v.a 2 13 22) + ((v.a &&& v.b) ||| (v.c &&& (v.a ||| v.b)))))) (fun α => cast (by kernel_rfl) (w_add ((((v.h + (sig v.e 6 11 25)) + (v.g ^^^ (v.e &&& (v.f ^^^ v.g)))) + kn) + ((expd l 48).getD j 0)) ((sig v.a 2 13 22) + ((v.a &&& v.b) ||| (v.c &&& (v.a ||| v.b)))))) ?_
    refine SX.E (.int .i64 ((j + 1 : Nat) : Int)) (fun α => cast (by kernel_rfl) (i_add (a := j) (b := 1) (d := j + 1) rfl (by omega))) ?_
    exact VC_again2 rfl (fun α => ⟨j + 1, Eq.trans (b := .int .i64 ((j + 1 : Nat) : Int) :: (v.rnd kn ((expd l 48).getD j 0)).cells) (by kernel_rfl) (by rw [rnds_succ hv hkn2]), by omega⟩) (fun α => cast (by kernel_rfl) (show 64 - (j + 1) < 64 - j by omega))
  obtain rfl : j = 64 := by simp only [decide_eq_false_iff_not] at hge; omega
  refine SX.E (w32 (s.a + v.a)) (fun α => cast (by kernel_rfl) (w_add s.a v.a)) ?_
  refine SX.E (w32 (s.b + v.b)) (fun α => cast (by kernel_rfl) (w_add s.b v.b)) ?_
  refine SX.E (w32 (s.c + v.c)) (fun α => cast (by kernel_rfl) (w_add s.c v.c)) ?_
  refine SX.E (w32 (s.d + v.d)) (fun α => cast (by kernel_rfl) (w_add s.d v.d)) ?_
  refine SX.E (w32 (s.e + v.e)) (fun α => cast (by kernel_rfl) (w_add s.e v.e)) ?_
  refine SX.E (w32 (s.f + v.f)) (fun α => cast (by kernel_rfl) (w_add s.f v.f)) ?_
  refine SX.E (w32 (s.g + v.g)) (fun α => cast (by kernel_rfl) (w_add s.g v.g)) ?_
  refine SX.E (w32 (s.h + v.h)) (fun α => cast (by kernel_rfl) (w_add s.h v.h)) ?_
  exact SX.VC_ret fun α W hF _ hS => fin α W _ _ _ _ _ rfl (Eq.trans (b := (⟨s.a + v.a, s.b + v.b, s.c + v.c, s.d + v.d, s.e + v.e, s.f + v.f, s.g + v.g, s.h + v.h⟩ : S8).cells) (by kernel_rfl) (by rw [absorbE_eq hv])) hF hS
def startS : S8 := ⟨0x6a09e667, 0xbb67ae85, 0x3c6ef372, 0xa54ff53a, 0x510e527f, 0x9b05688c, 0x1f83d9ab, 0x5be0cd19⟩
def absAll (s : S8) (l : List W8) : S8 × List W8 := if 64 ≤ l.length then absAll (absorbE s (l.take 64)) (l.drop 64) else (s, l)
termination_by l.length
decreasing_by simp only [List.length_drop]; omega
theorem absAll_ge {s : S8} {l : List W8} (h : 64 ≤ l.length) : absAll s l = absAll (absorbE s (l.take 64)) (l.drop 64) := by rw [absAll, if_pos h]
theorem absAll_lt {s : S8} {l : List W8} (h : ¬ 64 ≤ l.length) : absAll s l = (s, l) := by rw [absAll, if_neg h]
def byteAt (n k : Nat) : W8 := BitVec.ofNat 8 (n / 2 ^ k)
def be64 (n : Nat) : List W8 := [byteAt n 56, byteAt n 48, byteAt n 40, byteAt n 32, byteAt n 24, byteAt n 16, byteAt n 8, byteAt n 0]
def be32 (x : W32) : List W8 := [byteAt x.toNat 24, byteAt x.toNat 16, byteAt x.toNat 8, byteAt x.toNat 0]
def marked (r : List W8) : List W8 := (r ++ List.replicate (64 - r.length) 0).set r.length 128
def outS (s : S8) : List W8 := be32 s.a ++ be32 s.b ++ be32 s.c ++ be32 s.d ++ be32 s.e ++ be32 s.f ++ be32 s.g ++ be32 s.h
def endS (s : S8) (r : List W8) (n : Nat) : S8 :=
  if 55 < r.length then absorbE (absorbE s (marked r)) (List.replicate 56 0 ++ be64 (8 * n)) else absorbE s ((marked r).take 56 ++ be64 (8 * n))
def sumE (l : List W8) : List W8 := outS (endS (absAll startS l).1 (absAll startS l).2 l.length)
theorem sumE_len (l : List W8) : (sumE l).length = 32 := rfl
theorem list64b (l : List W8) (h : l.length = 64) : ∃ g : Nat → W8, l = (List.range 64).map g := by
  refine ⟨fun j => l.getD j 0, ?_⟩
  apply List.ext_getElem
  · simp [h]
  intro j h1 h2
  simp [List.getD_eq_getElem?_getD, h1]
theorem u_shr (N k : Nat) (hk : k < 64) : SX.binV .shr (.int .u64 (N : Int)) (.int .i64 (k : Int)) = some (.int .u64 ((N / 2 ^ k : Nat) : Int)) := by
  have h1 : ¬ ((k : Int) < 0) := by omega
  have h2 : min k 64 = k := by omega
  simp only [SX.binV, h1, if_false, Int.toNat_natCast, IntKind.bits, h2]
  congr 2
  rw [show ((2 : Int) ^ k) = ((2 ^ k : Nat) : Int) by simp, Int.fdiv_eq_ediv_of_nonneg _ (Int.natCast_nonneg _)]
  exact (Int.natCast_ediv _ _).symm
theorem u_conv (n : Nat) (k : IntKind) (h : n < 2 ^ 60) : SX.convV .u64 (.int k (n : Int)) = some (.int .u64 (n : Int)) := by
  simp only [SX.convV]
  rw [wrap_u64 (by omega) (by omega)]
theorem u_conv32 (x : W32) : SX.convV .u64 (w32 x) = some (.int .u64 (x.toNat : Int)) := u_conv _ _ (by have := x.isLt; omega)
theorem u_mul8 (n : Nat) (h : n < 2 ^ 60) : SX.binV .mul (.int .u64 (n : Int)) (.int .u64 8) = some (.int .u64 ((8 * n : Nat) : Int)) := by
  simp only [SX.binV, binI, if_true]
  rw [wrap_u64 (by omega) (by omega)]
  congr 2
  omega
theorem w_byte (N k : Nat) : SX.convV .u8 (.int .u64 ((N / 2 ^ k : Nat) : Int)) = some (w8 (byteAt N k)) := w_to8 _ _
theorem geq_nat (a b : Nat) : SX.binV .geq (.int .i64 (a : Int)) (.int .i64 (b : Int)) = some (.bool (decide (b ≤ a))) := by
  have e : decide ((b : Int) ≤ (a : Int)) = decide (b ≤ a) := by simp only [decide_eq_decide]; omega
  rw [← e]; rfl
theorem gtr_nat (a b : Nat) : SX.binV .gtr (.int .i64 (a : Int)) (.int .i64 (b : Int)) = some (.bool (decide (b < a))) := by
  have e : decide ((b : Int) < (a : Int)) = decide (b < a) := by simp only [decide_eq_decide]; omega
  rw [← e]; rfl
def LaidK (K : Value → Nat → List Value → Prop) : Prop := K (.slice (some ⟨0, 0, none⟩) 1 1) 8 startS.cells ∧ K (.slice (some ⟨1, 0, none⟩) 64 64) 1 (numbersK.flatMap c32)
section
variable {C : SX.Cx} {ρ : List Value} {α : Nat → SX.AV}
theorem absorb_row (hP : C.P = Tryd.prog) (hK : LaidK C.K) {j m : Nat} {l : List W8} {s : S8} {st : List SX.V} (hc : ρ.getD j undef = .agg (l.flatMap c8).toArray) (hl : l.length = 64) (hs : SX.denL ρ α st = s.cells) : SX.Opq.rel C ρ α (.callp 41 [.row 1 [.x j []]] 72) (.row m :: st) (.agg (absorbE s l).cells.toArray) := by
  refine ⟨[⟨(α m).h, 1, l.flatMap c8⟩], ⟨?_, trivial⟩, ?_⟩
  · simp only [SX.denL, SX.V.den, List.foldl_nil, hc, List.flatMap_cons, List.flatMap_nil, List.append_nil, SX.cellsV]
  show SX.PCall C _ _ (SX.denL ρ α st) _ _
  rw [hs]
  exact absorb_any C hP hK.2 s l hl _
theorem absorb_own (hP : C.P = Tryd.prog) (hK : LaidK C.K) {cs : List SX.V} {v : SX.V} {l : List W8} {s : S8} {st : List SX.V} (hc : SX.denL ρ α cs = l.flatMap c8) (hl : l.length = 64) (hs : SX.denL ρ α st = s.cells) : SX.Opq.rel C ρ α (.callp 41 [.own 1 cs] 72) (v :: st) (.agg (absorbE s l).cells.toArray) := by
  refine ⟨[⟨v.den ρ α, 1, l.flatMap c8⟩], ⟨by rw [hc], trivial⟩, ?_⟩
  show SX.PCall C _ _ (SX.denL ρ α st) _ _
  rw [hs]
  exact absorb_any C hP hK.2 s l hl _
theorem row_len8 {c : SX.V} {l : List W8} (hc : SX.cellsV (c.den ρ α) = l.flatMap c8) : SX.Opq.rel C ρ α (.rlen 1) [c] (.int .i64 (l.length : Int)) := by
  show _ = _
  rw [hc, SX.flat_len c8_len, Nat.mul_one, Nat.div_one]
theorem slcx_take {c i : SX.V} {l : List W8} {k : Nat} (hc : SX.cellsV (c.den ρ α) = l.flatMap c8) (hi : i.den ρ α = .int .i64 (k : Int)) (hk : k ≤ l.length) : SX.Opq.rel C ρ α (.slcx 1 false true) [c, i] (.agg ((l.take k).flatMap c8).toArray) := by
  refine ⟨0, k, l.length, none, some (.int .i64 (k : Int)), ?_, ?_, ?_⟩
  · simp [SX.denL, hi, SX.optsV]
  · rw [hc, SX.flat_len c8_len]
    simp only [SX.boundsV, Nat.mul_one, Nat.div_one, Option.bind_some, SX.bndV]
    rw [if_pos (by omega)]
    simp
  rw [hc, ← SX.flat_take c8_len]; simp
theorem slcx_drop {c i : SX.V} {l : List W8} {k : Nat} (hc : SX.cellsV (c.den ρ α) = l.flatMap c8) (hi : i.den ρ α = .int .i64 (k : Int)) (hk : k ≤ l.length) : SX.Opq.rel C ρ α (.slcx 1 true false) [c, i] (.agg ((l.drop k).flatMap c8).toArray) := by
  refine ⟨k, l.length, l.length, some (.int .i64 (k : Int)), none, ?_, ?_, ?_⟩
  · simp [SX.denL, hi, SX.optsV]
  · rw [hc, SX.flat_len c8_len]
    simp only [SX.boundsV, Nat.mul_one, Nat.div_one, Option.bind_some, SX.bndV]
    rw [if_pos (by omega)]
    simp
  rw [hc, ← SX.flat_drop c8_len, List.take_of_length_le]
  rw [List.length_drop, SX.flat_len c8_len]; omega
theorem c8_one (l : List W8) : ∀ u ∈ l.flatMap c8, u.oneCell' = true := fun u hu => by
  obtain ⟨a, _, h⟩ := List.mem_flatMap.1 hu
  obtain rfl : u = w8 a := by simpa [c8] using h
  rfl
theorem cpyx8 {c y : SX.V} {l z : List W8} {k : Nat} (hc : SX.cellsV (c.den ρ α) = z.flatMap c8) (hy : SX.cellsV (y.den ρ α) = l.flatMap c8) (hl : l.length ≤ k) : SX.Opq.rel C ρ α (.cpyx k) [c, y] (.tuple #[.int .i64 (l.length : Int), .agg ((l ++ z.drop l.length).flatMap c8).toArray]) := by
  refine ⟨by rw [hy]; exact c8_one l, ?_⟩
  rw [hy, hc]
  have e : Nat.min (l.flatMap c8).length k = l.length := by rw [SX.flat_len c8_len]; show min _ _ = _; omega
  rw [e]
  have e2 : (z.flatMap c8).drop l.length = (z.drop l.length).flatMap c8 := by rw [← SX.flat_drop c8_len, Nat.mul_one]
  rw [e2, List.take_of_length_le (by rw [SX.flat_len c8_len]; omega), List.flatMap_append]
theorem rset8 {c i x : SX.V} {u : List W8} {k : Nat} {y : W8} (hc : SX.cellsV (c.den ρ α) = u.flatMap c8) (hi : i.den ρ α = .int .i64 (k : Int)) (hx : x.den ρ α = w8 y) (hk : k < u.length) : SX.Opq.rel C ρ α (.rset 1 0) [c, i, x] (.agg ((u.set k y).flatMap c8).toArray) :=
  SX.row_set c8_len (by omega) hc hi hk (by simp [SX.denL, hx, c8])
end
theorem fit8 {n : Nat} (l : List W8) (h : l.length = n) : (SX.Sh.ag n).fit (.agg (l.flatMap c8).toArray) = true := by
  simp only [SX.Sh.fit, SX.flat_len c8_len, Nat.mul_one, h, beq_self_eq_true, Bool.true_and, List.all_eq_true]
  exact c8_one l
noncomputable def cxS (K A : Value → Nat → List Value → Prop) : SX.Cx := { P := Tryd.prog, R := fun _ f xs v => False, shp := fun f => none, K := K, A := A, arr := true, trm := true, cp := fun f => if f = 41 then some 8 else none }
theorem cxS_ok (K A : Value → Nat → List Value → Prop) : (cxS K A).Ok := SX.Cx.ok_of (fun _ => rfl) fun _ f xs v W h => h.elim
def args_sum : List SX.V := [.x 0 []]
def tree_sum : SX.Tree :=
(.df (.elems 8 0 8) [(.k (.slice (some ⟨0, 0, none⟩) 1 1)), (.i 0)] (.ag 8)
(.df (.kext 1) [(.q 0)] .any
(.loop [(.cat [(.q 2)]), (.x 1 [0]), (.x 1 [1]), (.x 1 [2]), (.x 1 [3]), (.x 1 [4]), (.x 1 [5]), (.x 1 [6]), (.x 1 [7])] [.any, .one, .one, .one, .one, .one, .one, .one, .one]
(.df (.rlen 1) [(.cat [(.q 3)])] .one
(.df (.bin .geq 3) [(.q 12), (.i 64)] .one
(.br 13 []
(.df (.slcx 1 false true) [(.cat [(.q 3)]), (.i 64)] .any
(.df (.callp 41 [(.row 1 [(.q 14)])] 72) [(.row 12), (.q 4), (.q 5), (.q 6), (.q 7), (.q 8), (.q 9), (.q 10), (.q 11)] (.ag 8)
(.df (.slcx 1 true false) [(.cat [(.q 3)]), (.i 64)] .any
(.again 0 [(.cat [(.q 16)]), (.x 15 [0]), (.x 15 [1]), (.x 15 [2]), (.x 15 [3]), (.x 15 [4]), (.x 15 [5]), (.x 15 [6]), (.x 15 [7])]))))
(.df (.cpyx 64) [(.a [(.k (.int .u8 0)), (.k (.int .u8 0)), (.k (.int .u8 0)), (.k (.int .u8 0)), (.k (.int .u8 0)), (.k (.int .u8 0)), (.k (.int .u8 0)), (.k (.int .u8 0)), (.k (.int .u8 0)), (.k (.int .u8 0)), (.k (.int .u8 0)), (.k (.int .u8 0)), (.k (.int .u8 0)), (.k (.int .u8 0)), (.k (.int .u8 0)), (.k (.int .u8 0)), (.k (.int .u8 0)), (.k (.int .u8 0)), (.k (.int .u8 0)), (.k (.int .u8 0)), (.k (.int .u8 0)), (.k (.int .u8 0)), (.k (.int .u8 0)), (.k (.int .u8 0)), (.k (.int .u8 0)), (.k (.int .u8 0)), (.k (.int .u8 0)), (.k (.int .u8 0)), (.k (.int .u8 0)), (.k (.int .u8 0)), (.k (.int .u8 0)), (.k (.int .u8 0)), (.k (.int .u8 0)), (.k (.int .u8 0)), (.k (.int .u8 0)), (.k (.int .u8 0)), (.k (.int .u8 0)), (.k (.int .u8 0)), (.k (.int .u8 0)), (.k (.int .u8 0)), (.k (.int .u8 0)), (.k (.int .u8 0)), (.k (.int .u8 0)), (.k (.int .u8 0)), (.k (.int .u8 0)), (.k (.int .u8 0)), (.k (.int .u8 0)), (.k (.int .u8 0)), (.k (.int .u8 0)), (.k (.int .u8 0)), (.k (.int .u8 0)), (.k (.int .u8 0)), (.k (.int .u8 0)), (.k (.int .u8 0)), (.k (.int .u8 0)), (.k (.int .u8 0)), (.k (.int .u8 0)), (.k (.int .u8 0)), (.k (.int .u8 0)), (.k (.int .u8 0)), (.k (.int .u8 0)), (.k (.int .u8 0)), (.k (.int .u8 0)), (.k (.int .u8 0))]), (.cat [(.q 3)])] (.tp [.one, (.ag 64)])
(.df (.rlen 1) [(.cat [(.q 3)])] .one
(.df .bnd [(.sl 12 0 64 128), (.q 15)] .one
(.df (.rset 1 0) [(.cat [(.a [(.x 14 [1, 0]), (.x 14 [1, 1]), (.x 14 [1, 2]), (.x 14 [1, 3]), (.x 14 [1, 4]), (.x 14 [1, 5]), (.x 14 [1, 6]), (.x 14 [1, 7]), (.x 14 [1, 8]), (.x 14 [1, 9]), (.x 14 [1, 10]), (.x 14 [1, 11]), (.x 14 [1, 12]), (.x 14 [1, 13]), (.x 14 [1, 14]), (.x 14 [1, 15]), (.x 14 [1, 16]), (.x 14 [1, 17]), (.x 14 [1, 18]), (.x 14 [1, 19]), (.x 14 [1, 20]), (.x 14 [1, 21]), (.x 14 [1, 22]), (.x 14 [1, 23]), (.x 14 [1, 24]), (.x 14 [1, 25]), (.x 14 [1, 26]), (.x 14 [1, 27]), (.x 14 [1, 28]), (.x 14 [1, 29]), (.x 14 [1, 30]), (.x 14 [1, 31]), (.x 14 [1, 32]), (.x 14 [1, 33]), (.x 14 [1, 34]), (.x 14 [1, 35]), (.x 14 [1, 36]), (.x 14 [1, 37]), (.x 14 [1, 38]), (.x 14 [1, 39]), (.x 14 [1, 40]), (.x 14 [1, 41]), (.x 14 [1, 42]), (.x 14 [1, 43]), (.x 14 [1, 44]), (.x 14 [1, 45]), (.x 14 [1, 46]), (.x 14 [1, 47]), (.x 14 [1, 48]), (.x 14 [1, 49]), (.x 14 [1, 50]), (.x 14 [1, 51]), (.x 14 [1, 52]), (.x 14 [1, 53]), (.x 14 [1, 54]), (.x 14 [1, 55]), (.x 14 [1, 56]), (.x 14 [1, 57]), (.x 14 [1, 58]), (.x 14 [1, 59]), (.x 14 [1, 60]), (.x 14 [1, 61]), (.x 14 [1, 62]), (.x 14 [1, 63])])]), (.q 15), (.k (.int .u8 128))] (.ag 64)
(.df (.rlen 1) [(.cat [(.q 3)])] .one
(.df (.bin .gtr 3) [(.q 18), (.i 55)] .one
(.br 19 []
(.df (.len false) [(.q 0)] .one
(.df (.conv .u64) [(.q 20)] .one
(.df (.bin .mul 75) [(.q 21), (.k (.int .u64 8))] .one
(.df (.bin .shr 75) [(.q 22), (.i 0)] .one
(.df (.conv .u8) [(.q 23)] .one
(.df (.bin .shr 75) [(.q 22), (.i 8)] .one
(.df (.conv .u8) [(.q 25)] .one
(.df (.bin .shr 75) [(.q 22), (.i 16)] .one
(.df (.conv .u8) [(.q 27)] .one
(.df (.bin .shr 75) [(.q 22), (.i 24)] .one
(.df (.conv .u8) [(.q 29)] .one
(.df (.bin .shr 75) [(.q 22), (.i 32)] .one
(.df (.conv .u8) [(.q 31)] .one
(.df (.bin .shr 75) [(.q 22), (.i 40)] .one
(.df (.conv .u8) [(.q 33)] .one
(.df (.bin .shr 75) [(.q 22), (.i 48)] .one
(.df (.conv .u8) [(.q 35)] .one
(.df (.bin .shr 75) [(.q 22), (.i 56)] .one
(.df (.conv .u8) [(.q 37)] .one
(.df (.callp 41 [(.own 1 (SX.Y 17 0 64))] 72) [(.sl 12 0 64 128), (.q 4), (.q 5), (.q 6), (.q 7), (.q 8), (.q 9), (.q 10), (.q 11)] (.ag 8)
(.df (.callp 41 [(.own 1 [(.k (.int .u8 0)), (.k (.int .u8 0)), (.k (.int .u8 0)), (.k (.int .u8 0)), (.k (.int .u8 0)), (.k (.int .u8 0)), (.k (.int .u8 0)), (.k (.int .u8 0)), (.k (.int .u8 0)), (.k (.int .u8 0)), (.k (.int .u8 0)), (.k (.int .u8 0)), (.k (.int .u8 0)), (.k (.int .u8 0)), (.k (.int .u8 0)), (.k (.int .u8 0)), (.k (.int .u8 0)), (.k (.int .u8 0)), (.k (.int .u8 0)), (.k (.int .u8 0)), (.k (.int .u8 0)), (.k (.int .u8 0)), (.k (.int .u8 0)), (.k (.int .u8 0)), (.k (.int .u8 0)), (.k (.int .u8 0)), (.k (.int .u8 0)), (.k (.int .u8 0)), (.k (.int .u8 0)), (.k (.int .u8 0)), (.k (.int .u8 0)), (.k (.int .u8 0)), (.k (.int .u8 0)), (.k (.int .u8 0)), (.k (.int .u8 0)), (.k (.int .u8 0)), (.k (.int .u8 0)), (.k (.int .u8 0)), (.k (.int .u8 0)), (.k (.int .u8 0)), (.k (.int .u8 0)), (.k (.int .u8 0)), (.k (.int .u8 0)), (.k (.int .u8 0)), (.k (.int .u8 0)), (.k (.int .u8 0)), (.k (.int .u8 0)), (.k (.int .u8 0)), (.k (.int .u8 0)), (.k (.int .u8 0)), (.k (.int .u8 0)), (.k (.int .u8 0)), (.k (.int .u8 0)), (.k (.int .u8 0)), (.k (.int .u8 0)), (.k (.int .u8 0)), (.q 38), (.q 36), (.q 34), (.q 32), (.q 30), (.q 28), (.q 26), (.q 24)])] 72) [(.sl 12 64 64 64), (.x 39 [0]), (.x 39 [1]), (.x 39 [2]), (.x 39 [3]), (.x 39 [4]), (.x 39 [5]), (.x 39 [6]), (.x 39 [7])] (.ag 8)
(.df (.conv .u64) [(.x 40 [0])] .one
(.df (.bin .shr 75) [(.q 41), (.i 0)] .one
(.df (.conv .u8) [(.q 42)] .one
(.df (.bin .shr 75) [(.q 41), (.i 8)] .one
(.df (.conv .u8) [(.q 44)] .one
(.df (.bin .shr 75) [(.q 41), (.i 16)] .one
(.df (.conv .u8) [(.q 46)] .one
(.df (.bin .shr 75) [(.q 41), (.i 24)] .one
(.df (.conv .u8) [(.q 48)] .one
(.df (.conv .u64) [(.x 40 [1])] .one
(.df (.bin .shr 75) [(.q 50), (.i 0)] .one
(.df (.conv .u8) [(.q 51)] .one
(.df (.bin .shr 75) [(.q 50), (.i 8)] .one
(.df (.conv .u8) [(.q 53)] .one
(.df (.bin .shr 75) [(.q 50), (.i 16)] .one
(.df (.conv .u8) [(.q 55)] .one
(.df (.bin .shr 75) [(.q 50), (.i 24)] .one
(.df (.conv .u8) [(.q 57)] .one
(.df (.conv .u64) [(.x 40 [2])] .one
(.df (.bin .shr 75) [(.q 59), (.i 0)] .one
(.df (.conv .u8) [(.q 60)] .one
(.df (.bin .shr 75) [(.q 59), (.i 8)] .one
(.df (.conv .u8) [(.q 62)] .one
(.df (.bin .shr 75) [(.q 59), (.i 16)] .one
(.df (.conv .u8) [(.q 64)] .one
(.df (.bin .shr 75) [(.q 59), (.i 24)] .one
(.df (.conv .u8) [(.q 66)] .one
(.df (.conv .u64) [(.x 40 [3])] .one
(.df (.bin .shr 75) [(.q 68), (.i 0)] .one
(.df (.conv .u8) [(.q 69)] .one
(.df (.bin .shr 75) [(.q 68), (.i 8)] .one
(.df (.conv .u8) [(.q 71)] .one
(.df (.bin .shr 75) [(.q 68), (.i 16)] .one
(.df (.conv .u8) [(.q 73)] .one
(.df (.bin .shr 75) [(.q 68), (.i 24)] .one
(.df (.conv .u8) [(.q 75)] .one
(.df (.conv .u64) [(.x 40 [4])] .one
(.df (.bin .shr 75) [(.q 77), (.i 0)] .one
(.df (.conv .u8) [(.q 78)] .one
(.df (.bin .shr 75) [(.q 77), (.i 8)] .one
(.df (.conv .u8) [(.q 80)] .one
(.df (.bin .shr 75) [(.q 77), (.i 16)] .one
(.df (.conv .u8) [(.q 82)] .one
(.df (.bin .shr 75) [(.q 77), (.i 24)] .one
(.df (.conv .u8) [(.q 84)] .one
(.df (.conv .u64) [(.x 40 [5])] .one
(.df (.bin .shr 75) [(.q 86), (.i 0)] .one
(.df (.conv .u8) [(.q 87)] .one
(.df (.bin .shr 75) [(.q 86), (.i 8)] .one
(.df (.conv .u8) [(.q 89)] .one
(.df (.bin .shr 75) [(.q 86), (.i 16)] .one
(.df (.conv .u8) [(.q 91)] .one
(.df (.bin .shr 75) [(.q 86), (.i 24)] .one
(.df (.conv .u8) [(.q 93)] .one
(.df (.conv .u64) [(.x 40 [6])] .one
(.df (.bin .shr 75) [(.q 95), (.i 0)] .one
(.df (.conv .u8) [(.q 96)] .one
(.df (.bin .shr 75) [(.q 95), (.i 8)] .one
(.df (.conv .u8) [(.q 98)] .one
(.df (.bin .shr 75) [(.q 95), (.i 16)] .one
(.df (.conv .u8) [(.q 100)] .one
(.df (.bin .shr 75) [(.q 95), (.i 24)] .one
(.df (.conv .u8) [(.q 102)] .one
(.df (.conv .u64) [(.x 40 [7])] .one
(.df (.bin .shr 75) [(.q 104), (.i 0)] .one
(.df (.conv .u8) [(.q 105)] .one
(.df (.bin .shr 75) [(.q 104), (.i 8)] .one
(.df (.conv .u8) [(.q 107)] .one
(.df (.bin .shr 75) [(.q 104), (.i 16)] .one
(.df (.conv .u8) [(.q 109)] .one
(.df (.bin .shr 75) [(.q 104), (.i 24)] .one
(.df (.conv .u8) [(.q 111)] .one
(.ret (.a [(.q 49), (.q 47), (.q 45), (.q 43), (.q 58), (.q 56), (.q 54), (.q 52), (.q 67), (.q 65), (.q 63), (.q 61), (.q 76), (.q 74), (.q 72), (.q 70), (.q 85), (.q 83), (.q 81), (.q 79), (.q 94), (.q 92), (.q 90), (.q 88), (.q 103), (.q 101), (.q 99), (.q 97), (.q 112), (.q 110), (.q 108), (.q 106)]) [] []))))))))))))))))))))))))))))))))))))))))))))))))))))))))))))))))))))))))))))))))))))))))))))))
(.df (.len false) [(.q 0)] .one
(.df (.conv .u64) [(.q 20)] .one
(.df (.bin .mul 75) [(.q 21), (.k (.int .u64 8))] .one
(.df (.bin .shr 75) [(.q 22), (.i 0)] .one
(.df (.conv .u8) [(.q 23)] .one
(.df (.bin .shr 75) [(.q 22), (.i 8)] .one
(.df (.conv .u8) [(.q 25)] .one
(.df (.bin .shr 75) [(.q 22), (.i 16)] .one
(.df (.conv .u8) [(.q 27)] .one
(.df (.bin .shr 75) [(.q 22), (.i 24)] .one
(.df (.conv .u8) [(.q 29)] .one
(.df (.bin .shr 75) [(.q 22), (.i 32)] .one
(.df (.conv .u8) [(.q 31)] .one
(.df (.bin .shr 75) [(.q 22), (.i 40)] .one
(.df (.conv .u8) [(.q 33)] .one
(.df (.bin .shr 75) [(.q 22), (.i 48)] .one
(.df (.conv .u8) [(.q 35)] .one
(.df (.bin .shr 75) [(.q 22), (.i 56)] .one
(.df (.conv .u8) [(.q 37)] .one
(.df (.callp 41 [(.own 1 (SX.Y 17 0 56 ++ [(.q 38), (.q 36), (.q 34), (.q 32), (.q 30), (.q 28), (.q 26), (.q 24)]))] 72) [(.sl 12 0 64 128), (.q 4), (.q 5), (.q 6), (.q 7), (.q 8), (.q 9), (.q 10), (.q 11)] (.ag 8)
(.df (.conv .u64) [(.x 39 [0])] .one
(.df (.bin .shr 75) [(.q 40), (.i 0)] .one
(.df (.conv .u8) [(.q 41)] .one
(.df (.bin .shr 75) [(.q 40), (.i 8)] .one
(.df (.conv .u8) [(.q 43)] .one
(.df (.bin .shr 75) [(.q 40), (.i 16)] .one
(.df (.conv .u8) [(.q 45)] .one
(.df (.bin .shr 75) [(.q 40), (.i 24)] .one
(.df (.conv .u8) [(.q 47)] .one
(.df (.conv .u64) [(.x 39 [1])] .one
(.df (.bin .shr 75) [(.q 49), (.i 0)] .one
(.df (.conv .u8) [(.q 50)] .one
(.df (.bin .shr 75) [(.q 49), (.i 8)] .one
(.df (.conv .u8) [(.q 52)] .one
(.df (.bin .shr 75) [(.q 49), (.i 16)] .one
(.df (.conv .u8) [(.q 54)] .one
(.df (.bin .shr 75) [(.q 49), (.i 24)] .one
(.df (.conv .u8) [(.q 56)] .one
(.df (.conv .u64) [(.x 39 [2])] .one
(.df (.bin .shr 75) [(.q 58), (.i 0)] .one
(.df (.conv .u8) [(.q 59)] .one
(.df (.bin .shr 75) [(.q 58), (.i 8)] .one
(.df (.conv .u8) [(.q 61)] .one
(.df (.bin .shr 75) [(.q 58), (.i 16)] .one
(.df (.conv .u8) [(.q 63)] .one
(.df (.bin .shr 75) [(.q 58), (.i 24)] .one
(.df (.conv .u8) [(.q 65)] .one
(.df (.conv .u64) [(.x 39 [3])] .one
(.df (.bin .shr 75) [(.q 67), (.i 0)] .one
(.df (.conv .u8) [(.q 68)] .one
(.df (.bin .shr 75) [(.q 67), (.i 8)] .one
(.df (.conv .u8) [(.q 70)] .one
(.df (.bin .shr 75) [(.q 67), (.i 16)] .one
(.df (.conv .u8) [(.q 72)] .one
(.df (.bin .shr 75) [(.q 67), (.i 24)] .one
(.df (.conv .u8) [(.q 74)] .one
(.df (.conv .u64) [(.x 39 [4])] .one
(.df (.bin .shr 75) [(.q 76), (.i 0)] .one
(.df (.conv .u8) [(.q 77)] .one
(.df (.bin .shr 75) [(.q 76), (.i 8)] .one
(.df (.conv .u8) [(.q 79)] .one
(.df (.bin .shr 75) [(.q 76), (.i 16)] .one
(.df (.conv .u8) [(.q 81)] .one
(.df (.bin .shr 75) [(.q 76), (.i 24)] .one
(.df (.conv .u8) [(.q 83)] .one
(.df (.conv .u64) [(.x 39 [5])] .one
(.df (.bin .shr 75) [(.q 85), (.i 0)] .one
(.df (.conv .u8) [(.q 86)] .one
(.df (.bin .shr 75) [(.q 85), (.i 8)] .one
(.df (.conv .u8) [(.q 88)] .one
(.df (.bin .shr 75) [(.q 85), (.i 16)] .one
(.df (.conv .u8) [(.q 90)] .one
(.df (.bin .shr 75) [(.q 85), (.i 24)] .one
(.df (.conv .u8) [(.q 92)] .one
(.df (.conv .u64) [(.x 39 [6])] .one
(.df (.bin .shr 75) [(.q 94), (.i 0)] .one
(.df (.conv .u8) [(.q 95)] .one
(.df (.bin .shr 75) [(.q 94), (.i 8)] .one
(.df (.conv .u8) [(.q 97)] .one
(.df (.bin .shr 75) [(.q 94), (.i 16)] .one
(.df (.conv .u8) [(.q 99)] .one
(.df (.bin .shr 75) [(.q 94), (.i 24)] .one
(.df (.conv .u8) [(.q 101)] .one
(.df (.conv .u64) [(.x 39 [7])] .one
(.df (.bin .shr 75) [(.q 103), (.i 0)] .one
(.df (.conv .u8) [(.q 104)] .one
(.df (.bin .shr 75) [(.q 103), (.i 8)] .one
(.df (.conv .u8) [(.q 106)] .one
(.df (.bin .shr 75) [(.q 103), (.i 16)] .one
(.df (.conv .u8) [(.q 108)] .one
(.df (.bin .shr 75) [(.q 103), (.i 24)] .one
(.df (.conv .u8) [(.q 110)] .one
(.ret (.a [(.q 48), (.q 46), (.q 44), (.q 42), (.q 57), (.q 55), (.q 53), (.q 51), (.q 66), (.q 64), (.q 62), (.q 60), (.q 75), (.q 73), (.q 71), (.q 69), (.q 84), (.q 82), (.q 80), (.q 78), (.q 93), (.q 91), (.q 89), (.q 87), (.q 102), (.q 100), (.q 98), (.q 96), (.q 111), (.q 109), (.q 107), (.q 105)]) [] []))))))))))))))))))))))))))))))))))))))))))))))))))))))))))))))))))))))))))))))))))))))))))))))))))))))))))
set_option maxRecDepth 100000 in
theorem run_sum (K A : Value → Nat → List Value → Prop) : (SX.run (cxS K A) ⟨fun _ => true, [⟨32, 4, ((.s 5, .ext 1) :: (List.range 8).map fun j => (.c 1 j, .one))⟩], 0, 100⟩ 100000 0 (SX.door 32 Tryd.f32 args_sum [.any]) [.code (Tryd.f32.body.getD .skip), .top Tryd.f32]).strip = tree_sum := by kernel_rfl
def KS (A : Option Addr) (n c : Nat) (l : List W8) (v : Value) (z : Nat) (xs : List Value) : Prop := (v = .slice A n c ∧ z = 1 ∧ xs = l.flatMap c8) ∨ (v = .slice (some ⟨0, 0, none⟩) 1 1 ∧ z = 8 ∧ xs = startS.cells) ∨ (v = .slice (some ⟨1, 0, none⟩) 64 64 ∧ z = 1 ∧ xs = numbersK.flatMap c32)
def Laid (w : World) : Prop := Rd w 8 (some ⟨0, 0, none⟩) 1 startS.cells ∧ Rd w 1 (some ⟨1, 0, none⟩) 64 (numbersK.flatMap c32)
set_option maxRecDepth 100000 in
set_option maxHeartbeats 4000000 in
theorem sum_any (l : List W8) (hn60 : l.length < 2 ^ 60) (A : Option Addr) (n c : Nat) (w : World) (hr : Rd w 1 A n (l.flatMap c8)) (hc : n ≤ c) (hlaid : Laid w) : Calls Tryd.prog 32 #[.slice A n c] w fun e w' => e = .returned (.agg ((sumE l).flatMap c8).toArray) ∧ Below w.heap.size w w' := by
  have hln : l.length = n := by have := hr.1; rw [SX.flat_len c8_len] at this; omega
  refine SX.calls_of_run (C := cxS (KS A n c l) (KS A n c l)) (G := ⟨fun _ => true, [⟨32, 4, ((.s 5, .ext 1) :: (List.range 8).map fun j => (.c 1 j, .one))⟩], 0, 100⟩) (args := args_sum) (sh := [.any]) (ρ := [.slice A n c]) 100000 tree_sum (cxS_ok _ _) Tryd.func32 rfl (cast (by kernel_rfl) (run_sum (KS A n c l) (KS A n c l))) (by kernel_rfl) (by kernel_rfl) (by kernel_rfl) ?_ ?_
  · rintro W hW v z xs (⟨rfl, rfl, rfl⟩ | ⟨rfl, rfl, rfl⟩ | ⟨rfl, rfl, rfl⟩)
    · exact ⟨hr.same0 hW, hc⟩
    · exact ⟨hlaid.1.same0 hW, Nat.le_refl _⟩
    exact ⟨hlaid.2.same0 hW, Nat.le_refl _⟩
  have hL : LaidK (cxS (KS A n c l) (KS A n c l)).K := ⟨.inr (.inl ⟨rfl, rfl, rfl⟩), .inr (.inr ⟨rfl, rfl, rfl⟩)⟩
  have hPr : (cxS (KS A n c l) (KS A n c l)).P = Tryd.prog := rfl
  have hin : (KS A n c l) (.slice A n c) 1 (l.flatMap c8) := .inl ⟨rfl, rfl, rfl⟩
  unfold tree_sum
  refine SX.E (.agg startS.cells.toArray) (fun α => SX.extElems (f := S8.cells) (l := [startS]) (A := some ⟨0, 0, none⟩) (n := 1) (c := 1) (j := 0) (z := startS) (fun _ => rfl) (fun _ => rfl) rfl (by kernel_rfl) (by omega) (cast (by kernel_rfl) hL.1) rfl) ?_
  refine SX.E (.agg (l.flatMap c8).toArray) (fun α => ⟨l.flatMap c8, ⟨A, n, c, rfl, hc⟩, hin, hin, rfl⟩) ?_
  refine SX.VC_loop (fun xs => ∃ (s : S8) (r : List W8), xs = .agg (r.flatMap c8).toArray :: s.cells ∧ absAll s r = absAll startS l) (fun xs => match xs with | .agg cs :: _ => cs.toList.length | _ => 0) (fun α => ⟨startS, l, Eq.trans (b := (.agg (SX.cellsV (.agg (l.flatMap c8).toArray) ++ []).toArray) :: startS.cells) (by kernel_rfl) (by rw [List.append_nil]; rfl), rfl⟩) ?_
  rintro xs - ⟨s, r, rfl, hI⟩
  have hcat : ∀ (α : Nat → SX.AV) (t : List Value), SX.cellsV ((SX.V.cat [.x 3 []]).den ([.slice A n c] ++ [.agg startS.cells.toArray] ++ [.agg (l.flatMap c8).toArray] ++ (.agg (r.flatMap c8).toArray :: s.cells) ++ t) α) = r.flatMap c8 := fun α t => SX.cat1 (by kernel_rfl)
  refine SX.E (.int .i64 (r.length : Int)) (fun α => row_len8 (SX.cat1 (j := 3) (by kernel_rfl))) ?_
  refine SX.E (.bool (decide (64 ≤ r.length))) (fun α => cast (by kernel_rfl) (geq_nat r.length 64)) ?_
  refine SX.B (decide (64 ≤ r.length)) (fun h64 => ?_) (fun h64 => ?_)
  · have h64 : 64 ≤ r.length := by simpa using h64
    have ht : (r.take 64).length = 64 := by rw [List.length_take]; omega
    refine SX.E (.agg ((r.take 64).flatMap c8).toArray) (fun α => slcx_take (k := 64) (SX.cat1 (j := 3) (by kernel_rfl)) (by kernel_rfl) h64) ?_
    refine SX.E (.agg (absorbE s (r.take 64)).cells.toArray) (fun α => absorb_row hPr hL (l := r.take 64) (s := s) (by kernel_rfl) ht (by kernel_rfl)) ?_
    refine SX.E (.agg ((r.drop 64).flatMap c8).toArray) (fun α => slcx_drop (k := 64) (SX.cat1 (j := 3) (by kernel_rfl)) (by kernel_rfl) h64) ?_
    exact VC_again2 rfl (fun α => ⟨absorbE s (r.take 64), r.drop 64, Eq.trans (b := (.agg (SX.cellsV (.agg ((r.drop 64).flatMap c8).toArray) ++ []).toArray) :: (absorbE s (r.take 64)).cells) (by kernel_rfl) (by rw [List.append_nil]; rfl), by rw [← hI, absAll_ge h64]⟩) (fun α => cast (by kernel_rfl) (show (((r.drop 64).flatMap c8) ++ []).length < (r.flatMap c8).length by rw [List.append_nil, SX.flat_len c8_len, SX.flat_len c8_len, List.length_drop]; omega))
  have h64 : ¬ 64 ≤ r.length := by simpa using h64
  rw [absAll_lt h64] at hI
  have e1 : (absAll startS l).1 = s := by rw [← hI]
  have e2 : (absAll startS l).2 = r := by rw [← hI]
  have hp : (r ++ (List.replicate 64 (0 : W8)).drop r.length).length = 64 := by simp; omega
  obtain ⟨g1, hg1⟩ := list64b _ hp
  refine SX.E (.tuple #[.int .i64 (r.length : Int), .agg (((List.range 64).map g1).flatMap c8).toArray]) (fun α => by rw [← hg1]; exact cpyx8 (l := r) (z := List.replicate 64 0) (by kernel_rfl) (SX.cat1 (j := 3) (by kernel_rfl)) (by omega)) ?_
  refine SX.E (.int .i64 (r.length : Int)) (fun α => row_len8 (SX.cat1 (j := 3) (by kernel_rfl))) ?_
  refine SX.E (.bool true) (fun α => SX.extBnd (A := some ⟨(α 12).b, 0, none⟩) (n := 64) (c := 128) (j := r.length) (fun _ => rfl) rfl (by kernel_rfl) (by omega)) ?_
  have hm : (((List.range 64).map g1).set r.length 128 : List W8) = marked r := by rw [← hg1]; unfold marked; rw [List.drop_replicate]
  have hml : (marked r).length = 64 := by rw [← hm]; simp
  obtain ⟨g2, hg2⟩ := list64b _ hml
  refine SX.VC_df (.agg (((List.range 64).map g2).flatMap c8).toArray) (fun α => by rw [← hg2, ← hm]; exact rset8 (u := (List.range 64).map g1) (k := r.length) (y := 128) (Eq.trans (b := SX.cellsV (.agg (((List.range 64).map g1).flatMap c8).toArray) ++ []) (by kernel_rfl) (List.append_nil _)) (by kernel_rfl) (by kernel_rfl) (by simp; omega)) (fit8 _ (by simp)) ?_
  refine SX.E (.int .i64 (r.length : Int)) (fun α => row_len8 (SX.cat1 (j := 3) (by kernel_rfl))) ?_
  refine SX.E (.bool (decide (55 < r.length))) (fun α => cast (by kernel_rfl) (gtr_nat r.length 55)) ?_
  refine SX.B (decide (55 < r.length)) (fun h55 => ?_) (fun h55 => ?_)
  · have h55 : 55 < r.length := by simpa using h55
    refine SX.D (.int .i64 (n : Int)) ?_
    refine SX.E (.int .u64 (n : Int)) (fun α => cast (by kernel_rfl) (u_conv n .i64 (by omega))) ?_
    refine SX.E (.int .u64 ((8 * n : Nat) : Int)) (fun α => cast (by kernel_rfl) (u_mul8 n (by omega))) ?_
    refine SX.E (.int .u64 ((8 * n / 2 ^ 0 : Nat) : Int)) (fun α => cast (by kernel_rfl) (u_shr (8 * n) 0 (by omega))) ?_
    refine SX.E (w8 (byteAt (8 * n) 0)) (fun α => cast (by kernel_rfl) (w_byte (8 * n) 0)) ?_
    refine SX.E (.int .u64 ((8 * n / 2 ^ 8 : Nat) : Int)) (fun α => cast (by kernel_rfl) (u_shr (8 * n) 8 (by omega))) ?_
    refine SX.E (w8 (byteAt (8 * n) 8)) (fun α => cast (by kernel_rfl) (w_byte (8 * n) 8)) ?_
    refine SX.E (.int .u64 ((8 * n / 2 ^ 16 : Nat) : Int)) (fun α => cast (by kernel_rfl) (u_shr (8 * n) 16 (by omega))) ?_
    refine SX.E (w8 (byteAt (8 * n) 16)) (fun α => cast (by kernel_rfl) (w_byte (8 * n) 16)) ?_
    refine SX.E (.int .u64 ((8 * n / 2 ^ 24 : Nat) : Int)) (fun α => cast (by kernel_rfl) (u_shr (8 * n) 24 (by omega))) ?_
    refine SX.E (w8 (byteAt (8 * n) 24)) (fun α => cast (by kernel_rfl) (w_byte (8 * n) 24)) ?_
    refine SX.E (.int .u64 ((8 * n / 2 ^ 32 : Nat) : Int)) (fun α => cast (by kernel_rfl) (u_shr (8 * n) 32 (by omega))) ?_
    refine SX.E (w8 (byteAt (8 * n) 32)) (fun α => cast (by kernel_rfl) (w_byte (8 * n) 32)) ?_
    refine SX.E (.int .u64 ((8 * n / 2 ^ 40 : Nat) : Int)) (fun α => cast (by kernel_rfl) (u_shr (8 * n) 40 (by omega))) ?_
    refine SX.E (w8 (byteAt (8 * n) 40)) (fun α => cast (by kernel_rfl) (w_byte (8 * n) 40)) ?_
    refine SX.E (.int .u64 ((8 * n / 2 ^ 48 : Nat) : Int)) (fun α => cast (by kernel_rfl) (u_shr (8 * n) 48 (by omega))) ?_
    refine SX.E (w8 (byteAt (8 * n) 48)) (fun α => cast (by kernel_rfl) (w_byte (8 * n) 48)) ?_
    refine SX.E (.int .u64 ((8 * n / 2 ^ 56 : Nat) : Int)) (fun α => cast (by kernel_rfl) (u_shr (8 * n) 56 (by omega))) ?_
    refine SX.E (w8 (byteAt (8 * n) 56)) (fun α => cast (by kernel_rfl) (w_byte (8 * n) 56)) ?_
    refine SX.E (.agg (absorbE s (marked r)).cells.toArray) (fun α => absorb_own hPr hL (l := marked r) (s := s) (by rw [hg2]; kernel_rfl) hml (by kernel_rfl)) ?_
    generalize hs1 : absorbE s (marked r) = s1
    refine SX.E (.agg (absorbE s1 (List.replicate 56 0 ++ be64 (8 * n))).cells.toArray) (fun α => absorb_own hPr hL (l := List.replicate 56 0 ++ be64 (8 * n)) (s := s1) (by kernel_rfl) (by kernel_rfl) (by kernel_rfl)) ?_
    generalize hs2 : absorbE s1 (List.replicate 56 0 ++ be64 (8 * n)) = s2
    refine SX.E (.int .u64 (s2.a.toNat : Int)) (fun α => cast (by kernel_rfl) (u_conv32 s2.a)) ?_
    refine SX.E (.int .u64 ((s2.a.toNat / 2 ^ 0 : Nat) : Int)) (fun α => cast (by kernel_rfl) (u_shr s2.a.toNat 0 (by omega))) ?_
    refine SX.E (w8 (byteAt s2.a.toNat 0)) (fun α => cast (by kernel_rfl) (w_byte s2.a.toNat 0)) ?_
    refine SX.E (.int .u64 ((s2.a.toNat / 2 ^ 8 : Nat) : Int)) (fun α => cast (by kernel_rfl) (u_shr s2.a.toNat 8 (by omega))) ?_
    refine SX.E (w8 (byteAt s2.a.toNat 8)) (fun α => cast (by kernel_rfl) (w_byte s2.a.toNat 8)) ?_
    refine SX.E (.int .u64 ((s2.a.toNat / 2 ^ 16 : Nat) : Int)) (fun α => cast (by kernel_rfl) (u_shr s2.a.toNat 16 (by omega))) ?_
    refine SX.E (w8 (byteAt s2.a.toNat 16)) (fun α => cast (by kernel_rfl) (w_byte s2.a.toNat 16)) ?_
    refine SX.E (.int .u64 ((s2.a.toNat / 2 ^ 24 : Nat) : Int)) (fun α => cast (by kernel_rfl) (u_shr s2.a.toNat 24 (by omega))) ?_
    refine SX.E (w8 (byteAt s2.a.toNat 24)) (fun α => cast (by kernel_rfl) (w_byte s2.a.toNat 24)) ?_
    refine SX.E (.int .u64 (s2.b.toNat : Int)) (fun α => cast (by kernel_rfl) (u_conv32 s2.b)) ?_
    refine SX.E (.int .u64 ((s2.b.toNat / 2 ^ 0 : Nat) : Int)) (fun α => cast (by kernel_rfl) (u_shr s2.b.toNat 0 (by omega))) ?_
    refine SX.E (w8 (byteAt s2.b.toNat 0)) (fun α => cast (by kernel_rfl) (w_byte s2.b.toNat 0)) ?_
    refine SX.E (.int .u64 ((s2.b.toNat / 2 ^ 8 : Nat) : Int)) (fun α => cast (by kernel_rfl) (u_shr s2.b.toNat 8 (by omega))) ?_
    refine SX.E (w8 (byteAt s2.b.toNat 8)) (fun α => cast (by kernel_rfl) (w_byte s2.b.toNat 8)) ?_
    refine SX.E (.int .u64 ((s2.b.toNat / 2 ^ 16 : Nat) : Int)) (fun α => cast (by kernel_rfl) (u_shr s2.b.toNat 16 (by omega))) ?_
    refine SX.E (w8 (byteAt s2.b.toNat 16)) (fun α => cast (by kernel_rfl) (w_byte s2.b.toNat 16)) ?_
    refine SX.E (.int .u64 ((s2.b.toNat / 2 ^ 24 : Nat) : Int)) (fun α => cast (by kernel_rfl) (u_shr s2.b.toNat 24 (by omega))) ?_
    refine SX.E (w8 (byteAt s2.b.toNat 24)) (fun α => cast (by kernel_rfl) (w_byte s2.b.toNat 24)) ?_
    refine SX.E (.int .u64 (s2.c.toNat : Int)) (fun α => cast (by kernel_rfl) (u_conv32 s2.c)) ?_
    refine SX.E (.int .u64 ((s2.c.toNat / 2 ^ 0 : Nat) : Int)) (fun α => cast (by kernel_rfl) (u_shr s2.c.toNat 0 (by omega))) ?_
    refine SX.E (w8 (byteAt s2.c.toNat 0)) (fun α => cast (by kernel_rfl) (w_byte s2.c.toNat 0)) ?_
    refine SX.E (.int .u64 ((s2.c.toNat / 2 ^ 8 : Nat) : Int)) (fun α => cast (by kernel_rfl) (u_shr s2.c.toNat 8 (by omega))) ?_
    refine SX.E (w8 (byteAt s2.c.toNat 8)) (fun α => cast (by kernel_rfl) (w_byte s2.c.toNat 8)) ?_
    refine SX.E (.int .u64 ((s2.c.toNat / 2 ^ 16 : Nat) : Int)) (fun α => cast (by kernel_rfl) (u_shr s2.c.toNat 16 (by omega))) ?_
    refine SX.E (w8 (byteAt s2.c.toNat 16)) (fun α => cast (by kernel_rfl) (w_byte s2.c.toNat 16)) ?_
    refine SX.E (.int .u64 ((s2.c.toNat / 2 ^ 24 : Nat) : Int)) (fun α => cast (by kernel_rfl) (u_shr s2.c.toNat 24 (by omega))) ?_
    refine SX.E (w8 (byteAt s2.c.toNat 24)) (fun α => cast (by kernel_rfl) (w_byte s2.c.toNat 24)) ?_
    refine SX.E (.int .u64 (s2.d.toNat : Int)) (fun α => cast (by kernel_rfl) (u_conv32 s2.d)) ?_
    refine SX.E (.int .u64 ((s2.d.toNat / 2 ^ 0 : Nat) : Int)) (fun α => cast (by kernel_rfl) (u_shr s2.d.toNat 0 (by omega))) ?_
    refine SX.E (w8 (byteAt s2.d.toNat 0)) (fun α => cast (by kernel_rfl) (w_byte s2.d.toNat 0)) ?_
    refine SX.E (.int .u64 ((s2.d.toNat / 2 ^ 8 : Nat) : Int)) (fun α => cast (by kernel_rfl) (u_shr s2.d.toNat 8 (by omega))) ?_
    refine SX.E (w8 (byteAt s2.d.toNat 8)) (fun α => cast (by kernel_rfl) (w_byte s2.d.toNat 8)) ?_
    refine SX.E (.int .u64 ((s2.d.toNat / 2 ^ 16 : Nat) : Int)) (fun α => cast (by kernel_rfl) (u_shr s2.d.toNat 16 (by omega))) ?_
    refine SX.E (w8 (byteAt s2.d.toNat 16)) (fun α => cast (by kernel_rfl) (w_byte s2.d.toNat 16)) ?_
    refine SX.E (.int .u64 ((s2.d.toNat / 2 ^ 24 : Nat) : Int)) (fun α => cast (by kernel_rfl) (u_shr s2.d.toNat 24 (by omega))) ?_
    refine SX.E (w8 (byteAt s2.d.toNat 24)) (fun α => cast (by kernel_rfl) (w_byte s2.d.toNat 24)) ?_
    refine SX.E (.int .u64 (s2.e.toNat : Int)) (fun α => cast (by kernel_rfl) (u_conv32 s2.e)) ?_
    refine SX.E (.int .u64 ((s2.e.toNat / 2 ^ 0 : Nat) : Int)) (fun α => cast (by kernel_rfl) (u_shr s2.e.toNat 0 (by omega))) ?_
    refine SX.E (w8 (byteAt s2.e.toNat 0)) (fun α => cast (by kernel_rfl) (w_byte s2.e.toNat 0)) ?_
    refine SX.E (.int .u64 ((s2.e.toNat / 2 ^ 8 : Nat) : Int)) (fun α => cast (by kernel_rfl) (u_shr s2.e.toNat 8 (by omega))) ?_
    refine SX.E (w8 (byteAt s2.e.toNat 8)) (fun α => cast (by kernel_rfl) (w_byte s2.e.toNat 8)) ?_
    refine SX.E (.int .u64 ((s2.e.toNat / 2 ^ 16 : Nat) : Int)) (fun α => cast (by kernel_rfl) (u_shr s2.e.toNat 16 (by omega))) ?_
    refine SX.E (w8 (byteAt s2.e.toNat 16)) (fun α => cast (by kernel_rfl) (w_byte s2.e.toNat 16)) ?_
    refine SX.E (.int .u64 ((s2.e.toNat / 2 ^ 24 : Nat) : Int)) (fun α => cast (by kernel_rfl) (u_shr s2.e.toNat 24 (by omega))) ?_
    refine SX.E (w8 (byteAt s2.e.toNat 24)) (fun α => cast (by kernel_rfl) (w_byte s2.e.toNat 24)) ?_
    refine SX.E (.int .u64 (s2.f.toNat : Int)) (fun α => cast (by kernel_rfl) (u_conv32 s2.f)) ?_
    refine SX.E (.int .u64 ((s2.f.toNat / 2 ^ 0 : Nat) : Int)) (fun α => cast (by kernel_rfl) (u_shr s2.f.toNat 0 (by omega))) ?_
    refine SX.E (w8 (byteAt s2.f.toNat 0)) (fun α => cast (by kernel_rfl) (w_byte s2.f.toNat 0)) ?_
    refine SX.E (.int .u64 ((s2.f.toNat / 2 ^ 8 : Nat) : Int)) (fun α => cast (by kernel_rfl) (u_shr s2.f.toNat 8 (by omega))) ?_
    refine SX.E (w8 (byteAt s2.f.toNat 8)) (fun α => cast (by kernel_rfl) (w_byte s2.f.toNat 8)) ?_
    refine SX.E (.int .u64 ((s2.f.toNat / 2 ^ 16 : Nat) : Int)) (fun α => cast (by kernel_rfl) (u_shr s2.f.toNat 16 (by omega))) ?_
    refine SX.E (w8 (byteAt s2.f.toNat 16)) (fun α => cast (by kernel_rfl) (w_byte s2.f.toNat 16)) ?_
    refine SX.E (.int .u64 ((s2.f.toNat / 2 ^ 24 : Nat) : Int)) (fun α => cast (by kernel_rfl) (u_shr s2.f.toNat 24 (by omega))) ?_
    refine SX.E (w8 (byteAt s2.f.toNat 24)) (fun α => cast (by kernel_rfl) (w_byte s2.f.toNat 24)) ?_
    refine SX.E (.int .u64 (s2.g.toNat : Int)) (fun α => cast (by kernel_rfl) (u_conv32 s2.g)) ?_
    refine SX.E (.int .u64 ((s2.g.toNat / 2 ^ 0 : Nat) : Int)) (fun α => cast (by kernel_rfl) (u_shr s2.g.toNat 0 (by omega))) ?_
    refine SX.E (w8 (byteAt s2.g.toNat 0)) (fun α => cast (by kernel_rfl) (w_byte s2.g.toNat 0)) ?_
    refine SX.E (.int .u64 ((s2.g.toNat / 2 ^ 8 : Nat) : Int)) (fun α => cast (by kernel_rfl) (u_shr s2.g.toNat 8 (by omega))) ?_
    refine SX.E (w8 (byteAt s2.g.toNat 8)) (fun α => cast (by kernel_rfl) (w_byte s2.g.toNat 8)) ?_
    refine SX.E (.int .u64 ((s2.g.toNat / 2 ^ 16 : Nat) : Int)) (fun α => cast (by kernel_rfl) (u_shr s2.g.toNat 16 (by omega))) ?_
    refine SX.E (w8 (byteAt s2.g.toNat 16)) (fun α => cast (by kernel_rfl) (w_byte s2.g.toNat 16)) ?_
    refine SX.E (.int .u64 ((s2.g.toNat / 2 ^ 24 : Nat) : Int)) (fun α => cast (by kernel_rfl) (u_shr s2.g.toNat 24 (by omega))) ?_
    refine SX.E (w8 (byteAt s2.g.toNat 24)) (fun α => cast (by kernel_rfl) (w_byte s2.g.toNat 24)) ?_
    refine SX.E (.int .u64 (s2.h.toNat : Int)) (fun α => cast (by kernel_rfl) (u_conv32 s2.h)) ?_
    refine SX.E (.int .u64 ((s2.h.toNat / 2 ^ 0 : Nat) : Int)) (fun α => cast (by kernel_rfl) (u_shr s2.h.toNat 0 (by omega))) ?_
    refine SX.E (w8 (byteAt s2.h.toNat 0)) (fun α => cast (by kernel_rfl) (w_byte s2.h.toNat 0)) ?_
    refine SX.E (.int .u64 ((s2.h.toNat / 2 ^ 8 : Nat) : Int)) (fun α => cast (by kernel_rfl) (u_shr s2.h.toNat 8 (by omega))) ?_
    refine SX.E (w8 (byteAt s2.h.toNat 8)) (fun α => cast (by kernel_rfl) (w_byte s2.h.toNat 8)) ?_
    refine SX.E (.int .u64 ((s2.h.toNat / 2 ^ 16 : Nat) : Int)) (fun α => cast (by kernel_rfl) (u_shr s2.h.toNat 16 (by omega))) ?_
    refine SX.E (w8 (byteAt s2.h.toNat 16)) (fun α => cast (by kernel_rfl) (w_byte s2.h.toNat 16)) ?_
    refine SX.E (.int .u64 ((s2.h.toNat / 2 ^ 24 : Nat) : Int)) (fun α => cast (by kernel_rfl) (u_shr s2.h.toNat 24 (by omega))) ?_
    refine SX.E (w8 (byteAt s2.h.toNat 24)) (fun α => cast (by kernel_rfl) (w_byte s2.h.toNat 24)) ?_
    exact SX.VC_ret fun α W _ _ hS => SX.ret_of (x := .agg ((outS s2).flatMap c8).toArray) hS (by kernel_rfl) (by unfold sumE endS; rw [e1, e2, hln, if_pos h55, hs1, hs2])
  have h55 : ¬ 55 < r.length := by simpa using h55
  refine SX.D (.int .i64 (n : Int)) ?_
  refine SX.E (.int .u64 (n : Int)) (fun α => cast (by kernel_rfl) (u_conv n .i64 (by omega))) ?_
  refine SX.E (.int .u64 ((8 * n : Nat) : Int)) (fun α => cast (by kernel_rfl) (u_mul8 n (by omega))) ?_
  refine SX.E (.int .u64 ((8 * n / 2 ^ 0 : Nat) : Int)) (fun α => cast (by kernel_rfl) (u_shr (8 * n) 0 (by omega))) ?_
  refine SX.E (w8 (byteAt (8 * n) 0)) (fun α => cast (by kernel_rfl) (w_byte (8 * n) 0)) ?_
  refine SX.E (.int .u64 ((8 * n / 2 ^ 8 : Nat) : Int)) (fun α => cast (by kernel_rfl) (u_shr (8 * n) 8 (by omega))) ?_
  refine SX.E (w8 (byteAt (8 * n) 8)) (fun α => cast (by kernel_rfl) (w_byte (8 * n) 8)) ?_
  refine SX.E (.int .u64 ((8 * n / 2 ^ 16 : Nat) : Int)) (fun α => cast (by kernel_rfl) (u_shr (8 * n) 16 (by omega))) ?_
  refine SX.E (w8 (byteAt (8 * n) 16)) (fun α => cast (by kernel_rfl) (w_byte (8 * n) 16)) ?_
  refine SX.E (.int .u64 ((8 * n / 2 ^ 24 : Nat) : Int)) (fun α => cast (by kernel_rfl) (u_shr (8 * n) 24 (by omega))) ?_
  refine SX.E (w8 (byteAt (8 * n) 24)) (fun α => cast (by kernel_rfl) (w_byte (8 * n) 24)) ?_
  refine SX.E (.int .u64 ((8 * n / 2 ^ 32 : Nat) : Int)) (fun α => cast (by kernel_rfl) (u_shr (8 * n) 32 (by omega))) ?_
  refine SX.E (w8 (byteAt (8 * n) 32)) (fun α => cast (by kernel_rfl) (w_byte (8 * n) 32)) ?_
  refine SX.E (.int .u64 ((8 * n / 2 ^ 40 : Nat) : Int)) (fun α => cast (by kernel_rfl) (u_shr (8 * n) 40 (by omega))) ?_
  refine SX.E (w8 (byteAt (8 * n) 40)) (fun α => cast (by kernel_rfl) (w_byte (8 * n) 40)) ?_
  refine SX.E (.int .u64 ((8 * n / 2 ^ 48 : Nat) : Int)) (fun α => cast (by kernel_rfl) (u_shr (8 * n) 48 (by omega))) ?_
  refine SX.E (w8 (byteAt (8 * n) 48)) (fun α => cast (by kernel_rfl) (w_byte (8 * n) 48)) ?_
  refine SX.E (.int .u64 ((8 * n / 2 ^ 56 : Nat) : Int)) (fun α => cast (by kernel_rfl) (u_shr (8 * n) 56 (by omega))) ?_
  refine SX.E (w8 (byteAt (8 * n) 56)) (fun α => cast (by kernel_rfl) (w_byte (8 * n) 56)) ?_
  refine SX.E (.agg (absorbE s ((marked r).take 56 ++ be64 (8 * n))).cells.toArray) (fun α => absorb_own hPr hL (l := (marked r).take 56 ++ be64 (8 * n)) (s := s) (by rw [hg2]; kernel_rfl) (by rw [List.length_append, List.length_take, hml]; rfl) (by kernel_rfl)) ?_
  generalize hs2 : absorbE s ((marked r).take 56 ++ be64 (8 * n)) = s2
  refine SX.E (.int .u64 (s2.a.toNat : Int)) (fun α => cast (by kernel_rfl) (u_conv32 s2.a)) ?_
  refine SX.E (.int .u64 ((s2.a.toNat / 2 ^ 0 : Nat) : Int)) (fun α => cast (by kernel_rfl) (u_shr s2.a.toNat 0 (by omega))) ?_
  refine SX.E (w8 (byteAt s2.a.toNat 0)) (fun α => cast (by kernel_rfl) (w_byte s2.a.toNat 0)) ?_
  refine SX.E (.int .u64 ((s2.a.toNat / 2 ^ 8 : Nat) : Int)) (fun α => cast (by kernel_rfl) (u_shr s2.a.toNat 8 (by omega))) ?_
  refine SX.E (w8 (byteAt s2.a.toNat 8)) (fun α => cast (by kernel_rfl) (w_byte s2.a.toNat 8)) ?_
  refine SX.E (.int .u64 ((s2.a.toNat / 2 ^ 16 : Nat) : Int)) (fun α => cast (by kernel_rfl) (u_shr s2.a.toNat 16 (by omega))) ?_
  refine SX.E (w8 (byteAt s2.a.toNat 16)) (fun α => cast (by kernel_rfl) (w_byte s2.a.toNat 16)) ?_
  refine SX.E (.int .u64 ((s2.a.toNat / 2 ^ 24 : Nat) : Int)) (fun α => cast (by kernel_rfl) (u_shr s2.a.toNat 24 (by omega))) ?_
  refine SX.E (w8 (byteAt s2.a.toNat 24)) (fun α => cast (by kernel_rfl) (w_byte s2.a.toNat 24)) ?_
  refine SX.E (.int .u64 (s2.b.toNat : Int)) (fun α => cast (by kernel_rfl) (u_conv32 s2.b)) ?_
  refine SX.E (.int .u64 ((s2.b.toNat / 2 ^ 0 : Nat) : Int)) (fun α => cast (by kernel_rfl) (u_shr s2.b.toNat 0 (by omega))) ?_
  refine SX.E (w8 (byteAt s2.b.toNat 0)) (fun α => cast (by kernel_rfl) (w_byte s2.b.toNat 0)) ?_
  refine SX.E (.int .u64 ((s2.b.toNat / 2 ^ 8 : Nat) : Int)) (fun α => cast (by kernel_rfl) (u_shr s2.b.toNat 8 (by omega))) ?_
  refine SX.E (w8 (byteAt s2.b.toNat 8)) (fun α => cast (by kernel_rfl) (w_byte s2.b.toNat 8)) ?_
  refine SX.E (.int .u64 ((s2.b.toNat / 2 ^ 16 : Nat) : Int)) (fun α => cast (by kernel_rfl) (u_shr s2.b.toNat 16 (by omega))) ?_
  refine SX.E (w8 (byteAt s2.b.toNat 16)) (fun α => cast (by kernel_rfl) (w_byte s2.b.toNat 16)) ?_
  refine SX.E (.int .u64 ((s2.b.toNat / 2 ^ 24 : Nat) : Int)) (fun α => cast (by kernel_rfl) (u_shr s2.b.toNat 24 (by omega))) ?_
  refine SX.E (w8 (byteAt s2.b.toNat 24)) (fun α => cast (by kernel_rfl) (w_byte s2.b.toNat 24)) ?_
  refine SX.E (.int .u64 (s2.c.toNat : Int)) (fun α => cast (by kernel_rfl) (u_conv32 s2.c)) ?_
  refine SX.E (.int .u64 ((s2.c.toNat / 2 ^ 0 : Nat) : Int)) (fun α => cast (by kernel_rfl) (u_shr s2.c.toNat 0 (by omega))) ?_
  refine SX.E (w8 (byteAt s2.c.toNat 0)) (fun α => cast (by kernel_rfl) (w_byte s2.c.toNat 0)) ?_
  refine SX.E (.int .u64 ((s2.c.toNat / 2 ^ 8 : Nat) : Int)) (fun α => cast (by kernel_rfl) (u_shr s2.c.toNat 8 (by omega))) ?_
  refine SX.E (w8 (byteAt s2.c.toNat 8)) (fun α => cast (by kernel_rfl) (w_byte s2.c.toNat 8)) ?_
  refine SX.E (.int .u64 ((s2.c.toNat / 2 ^ 16 : Nat) : Int)) (fun α => cast (by kernel_rfl) (u_shr s2.c.toNat 16 (by omega))) ?_
  refine SX.E (w8 (byteAt s2.c.toNat 16)) (fun α => cast (by kernel_rfl) (w_byte s2.c.toNat 16)) ?_
  refine SX.E (.int .u64 ((s2.c.toNat / 2 ^ 24 : Nat) : Int)) (fun α => cast (by kernel_rfl) (u_shr s2.c.toNat 24 (by omega))) ?_
  refine SX.E (w8 (byteAt s2.c.toNat 24)) (fun α => cast (by kernel_rfl) (w_byte s2.c.toNat 24)) ?_
  refine SX.E (.int .u64 (s2.d.toNat : Int)) (fun α => cast (by kernel_rfl) (u_conv32 s2.d)) ?_
  refine SX.E (.int .u64 ((s2.d.toNat / 2 ^ 0 : Nat) : Int)) (fun α => cast (by kernel_rfl) (u_shr s2.d.toNat 0 (by omega))) ?_
  refine SX.E (w8 (byteAt s2.d.toNat 0)) (fun α => cast (by kernel_rfl) (w_byte s2.d.toNat 0)) ?_
  refine SX.E (.int .u64 ((s2.d.toNat / 2 ^ 8 : Nat) : Int)) (fun α => cast (by kernel_rfl) (u_shr s2.d.toNat 8 (by omega))) ?_
  refine SX.E (w8 (byteAt s2.d.toNat 8)) (fun α => cast (by kernel_rfl) (w_byte s2.d.toNat 8)) ?_
  refine SX.E (.int .u64 ((s2.d.toNat / 2 ^ 16 : Nat) : Int)) (fun α => cast (by kernel_rfl) (u_shr s2.d.toNat 16 (by omega))) ?_
  refine SX.E (w8 (byteAt s2.d.toNat 16)) (fun α => cast (by kernel_rfl) (w_byte s2.d.toNat 16)) ?_
  refine SX.E (.int .u64 ((s2.d.toNat / 2 ^ 24 : Nat) : Int)) (fun α => cast (by kernel_rfl) (u_shr s2.d.toNat 24 (by omega))) ?_
  refine SX.E (w8 (byteAt s2.d.toNat 24)) (fun α => cast (by kernel_rfl) (w_byte s2.d.toNat 24)) ?_
  refine SX.E (.int .u64 (s2.e.toNat : Int)) (fun α => cast (by kernel_rfl) (u_conv32 s2.e)) ?_
  refine SX.E (.int .u64 ((s2.e.toNat / 2 ^ 0 : Nat) : Int)) (fun α => cast (by kernel_rfl) (u_shr s2.e.toNat 0 (by omega))) ?_
  refine SX.E (w8 (byteAt s2.e.toNat 0)) (fun α => cast (by kernel_rfl) (w_byte s2.e.toNat 0)) ?_
  refine SX.E (.int .u64 ((s2.e.toNat / 2 ^ 8 : Nat) : Int)) (fun α => cast (by kernel_rfl) (u_shr s2.e.toNat 8 (by omega))) ?_
  refine SX.E (w8 (byteAt s2.e.toNat 8)) (fun α => cast (by kernel_rfl) (w_byte s2.e.toNat 8)) ?_
  refine SX.E (.int .u64 ((s2.e.toNat / 2 ^ 16 : Nat) : Int)) (fun α => cast (by kernel_rfl) (u_shr s2.e.toNat 16 (by omega))) ?_
  refine SX.E (w8 (byteAt s2.e.toNat 16)) (fun α => cast (by kernel_rfl) (w_byte s2.e.toNat 16)) ?_
  refine SX.E (.int .u64 ((s2.e.toNat / 2 ^ 24 : Nat) : Int)) (fun α => cast (by kernel_rfl) (u_shr s2.e.toNat 24 (by omega))) ?_
  refine SX.E (w8 (byteAt s2.e.toNat 24)) (fun α => cast (by kernel_rfl) (w_byte s2.e.toNat 24)) ?_
  refine SX.E (.int .u64 (s2.f.toNat : Int)) (fun α => cast (by kernel_rfl) (u_conv32 s2.f)) ?_
  refine SX.E (.int .u64 ((s2.f.toNat / 2 ^ 0 : Nat) : Int)) (fun α => cast (by kernel_rfl) (u_shr s2.f.toNat 0 (by omega))) ?_
  refine SX.E (w8 (byteAt s2.f.toNat 0)) (fun α => cast (by kernel_rfl) (w_byte s2.f.toNat 0)) ?_
  refine SX.E (.int .u64 ((s2.f.toNat / 2 ^ 8 : Nat) : Int)) (fun α => cast (by kernel_rfl) (u_shr s2.f.toNat 8 (by omega))) ?_
  refine SX.E (w8 (byteAt s2.f.toNat 8)) (fun α => cast (by kernel_rfl) (w_byte s2.f.toNat 8)) ?_
  refine SX.E (.int .u64 ((s2.f.toNat / 2 ^ 16 : Nat) : Int)) (fun α => cast (by kernel_rfl) (u_shr s2.f.toNat 16 (by omega))) ?_
  refine SX.E (w8 (byteAt s2.f.toNat 16)) (fun α => cast (by kernel_rfl) (w_byte s2.f.toNat 16)) ?_
  refine SX.E (.int .u64 ((s2.f.toNat / 2 ^ 24 : Nat) : Int)) (fun α => cast (by kernel_rfl) (u_shr s2.f.toNat 24 (by omega))) ?_
  refine SX.E (w8 (byteAt s2.f.toNat 24)) (fun α => cast (by kernel_rfl) (w_byte s2.f.toNat 24)) ?_
  refine SX.E (.int .u64 (s2.g.toNat : Int)) (fun α => cast (by kernel_rfl) (u_conv32 s2.g)) ?_
  refine SX.E (.int .u64 ((s2.g.toNat / 2 ^ 0 : Nat) : Int)) (fun α => cast (by kernel_rfl) (u_shr s2.g.toNat 0 (by omega))) ?_
  refine SX.E (w8 (byteAt s2.g.toNat 0)) (fun α => cast (by kernel_rfl) (w_byte s2.g.toNat 0)) ?_
  refine SX.E (.int .u64 ((s2.g.toNat / 2 ^ 8 : Nat) : Int)) (fun α => cast (by kernel_rfl) (u_shr s2.g.toNat 8 (by omega))) ?_
  refine SX.E (w8 (byteAt s2.g.toNat 8)) (fun α => cast (by kernel_rfl) (w_byte s2.g.toNat 8)) ?_
  refine SX.E (.int .u64 ((s2.g.toNat / 2 ^ 16 : Nat) : Int)) (fun α => cast (by kernel_rfl) (u_shr s2.g.toNat 16 (by omega))) ?_
  refine SX.E (w8 (byteAt s2.g.toNat 16)) (fun α => cast (by kernel_rfl) (w_byte s2.g.toNat 16)) ?_
  refine SX.E (.int .u64 ((s2.g.toNat / 2 ^ 24 : Nat) : Int)) (fun α => cast (by kernel_rfl) (u_shr s2.g.toNat 24 (by omega))) ?_
  refine SX.E (w8 (byteAt s2.g.toNat 24)) (fun α => cast (by kernel_rfl) (w_byte s2.g.toNat 24)) ?_
  refine SX.E (.int .u64 (s2.h.toNat : Int)) (fun α => cast (by kernel_rfl) (u_conv32 s2.h)) ?_
  refine SX.E (.int .u64 ((s2.h.toNat / 2 ^ 0 : Nat) : Int)) (fun α => cast (by kernel_rfl) (u_shr s2.h.toNat 0 (by omega))) ?_
  refine SX.E (w8 (byteAt s2.h.toNat 0)) (fun α => cast (by kernel_rfl) (w_byte s2.h.toNat 0)) ?_
  refine SX.E (.int .u64 ((s2.h.toNat / 2 ^ 8 : Nat) : Int)) (fun α => cast (by kernel_rfl) (u_shr s2.h.toNat 8 (by omega))) ?_
  refine SX.E (w8 (byteAt s2.h.toNat 8)) (fun α => cast (by kernel_rfl) (w_byte s2.h.toNat 8)) ?_
  refine SX.E (.int .u64 ((s2.h.toNat / 2 ^ 16 : Nat) : Int)) (fun α => cast (by kernel_rfl) (u_shr s2.h.toNat 16 (by omega))) ?_
  refine SX.E (w8 (byteAt s2.h.toNat 16)) (fun α => cast (by kernel_rfl) (w_byte s2.h.toNat 16)) ?_
  refine SX.E (.int .u64 ((s2.h.toNat / 2 ^ 24 : Nat) : Int)) (fun α => cast (by kernel_rfl) (u_shr s2.h.toNat 24 (by omega))) ?_
  refine SX.E (w8 (byteAt s2.h.toNat 24)) (fun α => cast (by kernel_rfl) (w_byte s2.h.toNat 24)) ?_
  exact SX.VC_ret fun α W _ _ hS => SX.ret_of (x := .agg ((outS s2).flatMap c8).toArray) hS (by kernel_rfl) (by unfold sumE endS; rw [e1, e2, hln, if_neg h55, hs2])
theorem listN {n : Nat} (l : List W8) (h : l.length = n) : ∃ g : Nat → W8, l = (List.range n).map g := by
  refine ⟨fun j => l.getD j 0, ?_⟩
  apply List.ext_getElem
  · simp [h]
  intro j h1 h2
  simp [List.getD_eq_getElem?_getD, h1]
def SumR (K : Value → Nat → List Value → Prop) (f : FuncId) (xs : List SX.Arg) (v : Value) : Prop := f = 32 ∧ LaidK K ∧ ∃ (u : Value) (l : List W8), xs = [⟨u, 1, l.flatMap c8⟩] ∧ l.length < 2 ^ 60 ∧ v = .agg ((sumE l).flatMap c8).toArray
theorem laid_of {K : Value → Nat → List Value → Prop} {W : World} (h : LaidK K) (hK : ∀ s sz cells, K s sz cells → SX.Arg.rd W ⟨s, sz, cells⟩) : Laid W := ⟨(hK _ _ _ h.1).1, (hK _ _ _ h.2).1⟩
theorem sumR_calls {K : Value → Nat → List Value → Prop} {f : FuncId} {xs : List SX.Arg} {v : Value} {W : World} (h : SumR K f xs v) (hrd : ∀ x ∈ xs, x.rd W) (hK : ∀ s sz cells, K s sz cells → SX.Arg.rd W ⟨s, sz, cells⟩) : Calls Tryd.prog f (xs.map SX.Arg.v).toArray W fun e w' => e = .returned v ∧ Below W.heap.size W w' := by
  obtain ⟨rfl, hL, u, l, rfl, h60, rfl⟩ := h
  obtain ⟨A, n, c, rfl, hr, hc, hn⟩ := byte_arg (hrd ⟨u, 1, l.flatMap c8⟩ (List.mem_singleton_self _))
  exact sum_any l h60 A n c W hr hc (laid_of hL hK)
def sb (s : ByteArray) : List W8 := s.data.toList.map UInt8.toBitVec
theorem sb_len (s : ByteArray) : (sb s).length = s.size := by
  unfold sb
  rw [List.length_map]
  rfl
theorem sb_cells (s : ByteArray) : (s.data.toList.map fun x => Value.int .u8 (x.toNat : Int)) = (sb s).flatMap c8 := by
  unfold sb
  generalize s.data.toList = l
  induction l with
  | nil => rfl
  | cons a l ih => simp only [List.map_cons, List.flatMap_cons, ← ih]; rfl
def tagE (t l : List W8) : List W8 := sumE (sumE t ++ l)
theorem tagE_len (t l : List W8) : (tagE t l).length = 32 := rfl
theorem s2b_rel {C : SX.Cx} {ρ : List Value} {α : Nat → SX.AV} {x : SX.V} {s : ByteArray} (hx : x.den ρ α = .string s) : SX.Opq.rel C ρ α .s2b [x] (.agg ((sb s).flatMap c8).toArray) := ⟨s, hx, by rw [sb_cells]⟩
theorem i_add' {a b d : Nat} (h : a + b = d) (ha : d < 2 ^ 62) : SX.binV .add (.int .i64 (a : Int)) (.int .i64 (b : Int)) = some (.int .i64 (d : Int)) := by
  simp only [SX.binV, binI, if_true]
  rw [wrap_i64 (by omega) (by omega)]
  congr 2
  omega
theorem i_sub' {a b d : Nat} (h : d + b = a) (ha : a < 2 ^ 62) : SX.binV .sub (.int .i64 (a : Int)) (.int .i64 (b : Int)) = some (.int .i64 (d : Int)) := by
  simp only [SX.binV, binI, if_true]
  rw [wrap_i64 (by omega) (by omega)]
  congr 2
  omega
theorem lss_nat (a b : Nat) : SX.binV .lss (.int .i64 (a : Int)) (.int .i64 (b : Int)) = some (.bool (decide (a < b))) := by
  have e : decide ((a : Int) < (b : Int)) = decide (a < b) := by simp only [decide_eq_decide]; omega
  rw [← e]; rfl
noncomputable def cxT (K A : Value → Nat → List Value → Prop) : SX.Cx := { P := Tryd.prog, R := SumR, shp := fun f => if f = 32 then some (.ag 32) else none, K := K, A := A, arr := true, trm := true, cut := [(6,0,true),(7,1,true)] }
theorem cxT_ok (K A : Value → Nat → List Value → Prop) : (cxT K A).Ok := SX.Cx.ok_of (fun _ => rfl) fun _ f xs v W h hrd hK => by
  have hf := h.1
  exact (sumR_calls h hrd hK).mono fun e w' h => SX.plainOk (by subst hf; rfl) h
def args_tagged : List SX.V := [.x 0 [], .x 1 []]
def tree_tagged : SX.Tree :=
(.df .s2b [(.q 0)] .any
(.df (.call 32 [(.row 1 [(.q 2)])]) [(.row 1)] (.ag 32)
(.df (.len false) [(.q 1)] .one
(.df (.bin .add 3) [(.i 32), (.q 4)] .one
(.df (.bin .lss 3) [(.q 5), (.i 0)] .one
(.br 6 [] (.bad 70 [])
(.df (.bin .lss 3) [(.q 5), (.i 0)] .one
(.br 7 [] (.bad 70 [])
(.df (.bin .sub 3) [(.q 5), (.i 0)] .one
(.df (.bin .gtr 3) [(.q 8), (.i 0)] .one
(.br 9 []
(.df (.apz (.int .u8 0) 1 1) [(.q 8)] .any
(.df (.app 1 1 (.own 1 (SX.Y 3 0 32))) [(.cat []), (.sl 2 0 32 32)] .any
(.df (.app 1 1 (.ext 1)) [(.cat [(.q 11)]), (.q 1)] .any
(.df (.call 32 [(.row 1 [(.q 11), (.q 12)])]) [(.row 7)] (.ag 32)
(.ret (.a (SX.Y 13 0 32)) [] [])))))
(.df (.app 1 1 (.own 1 (SX.Y 3 0 32))) [(.cat []), (.sl 2 0 32 32)] .any
(.df (.app 1 1 (.ext 1)) [(.cat [(.q 10)]), (.q 1)] .any
(.df (.call 32 [(.row 1 [(.q 10), (.q 11)])]) [(.row 5)] (.ag 32)
(.ret (.a (SX.Y 12 0 32)) [] [])))))))))))))))
set_option maxRecDepth 100000 in
theorem run_tagged (K A : Value → Nat → List Value → Prop) : (SX.run (cxT K A) ⟨fun _ => true, [], 0, 100⟩ 100000 0 (SX.door 19 Tryd.f19 args_tagged [.one, .one]) [.code (Tryd.f19.body.getD .skip), .top Tryd.f19]).strip = tree_tagged := by kernel_rfl
set_option maxRecDepth 100000 in
set_option maxHeartbeats 4000000 in
theorem tagged_any (s : ByteArray) (l : List W8) (hs : s.size < 2 ^ 60) (hl : l.length < 2 ^ 44) (A : Option Addr) (n c : Nat) (w : World) (hr : Rd w 1 A n (l.flatMap c8)) (hc : n ≤ c) (hlaid : Laid w) : Calls Tryd.prog 19 #[.string s, .slice A n c] w fun e w' => e = .returned (.agg ((tagE (sb s) l).flatMap c8).toArray) ∧ Below w.heap.size w w' := by
  have hln : l.length = n := by have := hr.1; rw [SX.flat_len c8_len] at this; omega
  refine SX.calls_of_run (C := cxT (KS A n c l) (KS A n c l)) (G := ⟨fun _ => true, [], 0, 100⟩) (args := args_tagged) (sh := [.one, .one]) (ρ := [.string s, .slice A n c]) 100000 tree_tagged (cxT_ok _ _) Tryd.func19 rfl (cast (by kernel_rfl) (run_tagged (KS A n c l) (KS A n c l))) (by kernel_rfl) (by kernel_rfl) (by kernel_rfl) ?_ ?_
  · rintro W hW v z xs (⟨rfl, rfl, rfl⟩ | ⟨rfl, rfl, rfl⟩ | ⟨rfl, rfl, rfl⟩)
    · exact ⟨hr.same0 hW, hc⟩
    · exact ⟨hlaid.1.same0 hW, Nat.le_refl _⟩
    exact ⟨hlaid.2.same0 hW, Nat.le_refl _⟩
  have hL : LaidK (KS A n c l) := ⟨.inr (.inl ⟨rfl, rfl, rfl⟩), .inr (.inr ⟨rfl, rfl, rfl⟩)⟩
  have hin : (KS A n c l) (.slice A n c) 1 (l.flatMap c8) := .inl ⟨rfl, rfl, rfl⟩
  have one : ∀ a, ∀ u ∈ c8 a, u.oneCell' = true := fun a u hu => by obtain rfl : u = w8 a := by simpa [c8] using hu
                                                                    rfl
  unfold tree_tagged
  refine SX.E (.agg ((sb s).flatMap c8).toArray) (fun α => s2b_rel (by kernel_rfl)) ?_
  obtain ⟨g, hg⟩ := listN (n := 32) (sumE (sb s)) rfl
  refine SX.E (.agg (((List.range 32).map g).flatMap c8).toArray) (fun α => by rw [← hg]; exact ⟨[⟨(α 1).h, 1, (sb s).flatMap c8⟩], ⟨Eq.trans (b := ⟨(α 1).h, 1, (sb s).flatMap c8 ++ []⟩) (by rw [List.append_nil]) (by kernel_rfl), trivial⟩, ⟨rfl, hL, _, _, rfl, by rw [sb_len]; omega, rfl⟩, SX.noAli rfl⟩) ?_
  refine SX.D (.int .i64 (n : Int)) ?_
  refine SX.E (.int .i64 ((32 + n : Nat) : Int)) (fun α => cast (by kernel_rfl) (i_add' (a := 32) (b := n) (d := 32 + n) rfl (by omega))) ?_
  refine SX.E (.bool false) (fun α => cast (by kernel_rfl) (show SX.binV .lss (.int .i64 ((32 + n : Nat) : Int)) (.int .i64 ((0 : Nat) : Int)) = some (.bool false) from by rw [lss_nat, decide_eq_false (by omega)])) ?_
  refine SX.B false (fun h => absurd h (by simp)) (fun _ => ?_)
  refine SX.E (.bool false) (fun α => cast (by kernel_rfl) (show SX.binV .lss (.int .i64 ((32 + n : Nat) : Int)) (.int .i64 ((0 : Nat) : Int)) = some (.bool false) from by rw [lss_nat, decide_eq_false (by omega)])) ?_
  refine SX.B false (fun h => absurd h (by simp)) (fun _ => ?_)
  refine SX.E (.int .i64 ((32 + n : Nat) : Int)) (fun α => cast (by kernel_rfl) (i_sub' (a := 32 + n) (b := 0) (d := 32 + n) rfl (by omega))) ?_
  refine SX.E (.bool true) (fun α => cast (by kernel_rfl) (show SX.binV .gtr (.int .i64 ((32 + n : Nat) : Int)) (.int .i64 ((0 : Nat) : Int)) = some (.bool true) from by rw [gtr_nat, decide_eq_true (by omega)])) ?_
  refine SX.B true (fun _ => ?_) (fun h => absurd h (by simp))
  refine SX.E (.agg (madeCells (Value.int .u8 0).cells (((32 + n : Nat) : Int).toNat * 1))) (fun α => ⟨.i64, ((32 + n : Nat) : Int), by kernel_rfl, by omega, by omega, by omega, rfl⟩) ?_
  refine SX.E (.agg (((List.range 32).map g).flatMap c8).toArray) (fun α => SX.app_rel c8_len one (by omega) (l1 := []) (l2 := ((List.range 32).map g)) (by kernel_rfl) (SX.src_own (by kernel_rfl)) (by simp) (by simp)) ?_
  refine SX.E (.agg (l.flatMap c8).toArray) (fun α => SX.app_rel c8_len one (by omega) (l1 := ((List.range 32).map g)) (l2 := l) (SX.cat1 (by kernel_rfl)) (SX.src_ext (cast (by kernel_rfl) hin)) (by simp; omega) (by simp; omega)) ?_
  obtain ⟨g2, hg2⟩ := listN (n := 32) (tagE (sb s) l) rfl
  refine SX.E (.agg (((List.range 32).map g2).flatMap c8).toArray) (fun α => by rw [← hg2]; exact ⟨[⟨(α 7).h, 1, (sumE (sb s) ++ l).flatMap c8⟩], ⟨Eq.trans (b := ⟨(α 7).h, 1, ((List.range 32).map g).flatMap c8 ++ (l.flatMap c8 ++ [])⟩) (by rw [hg, List.append_nil, List.flatMap_append]) (by kernel_rfl), trivial⟩, ⟨rfl, hL, _, _, rfl, by simp only [List.length_append, sumE_len]; omega, rfl⟩, SX.noAli rfl⟩) ?_
  exact SX.VC_ret fun α W _ _ hS => SX.ret_of (x := .agg (((List.range 32).map g2).flatMap c8).toArray) hS (by kernel_rfl) (by rw [hg2])
def encF : Fl → List W8
  | .n k => 1#8 :: numB (unsN k)
  | .s b => 2#8 :: (numB b.size ++ sb b)
def encL (l : List Fl) : List W8 := 3#8 :: (numB l.length ++ l.flatMap encF)
theorem encF_len {z : Fl} (h : z.fits) : (encF z).length ≤ 1048600 := by
  cases z with
  | n k =>
    have := numB_len 9 (unsN k) (by have := unsN_lt h.1 h.2; omega)
    simp only [encF, List.length_cons]; omega
  | s b =>
    have h : b.size ≤ 1048576 := h
    have := numB_len 9 b.size (by omega)
    simp only [encF, List.length_cons, List.length_append, sb_len]; omega
theorem encL_len {l : List Fl} (h : ∀ z ∈ l, z.fits) : (l.flatMap encF).length ≤ l.length * 1048600 := by
  induction l with
  | nil => simp
  | cons z l ih =>
    have h1 := encF_len (h z (by simp))
    have h2 := ih fun y hy => h y (by simp [hy])
    simp only [List.flatMap_cons, List.length_append, List.length_cons]
    omega
def RC4 (f : FuncId) (xs : List SX.Arg) (v : Value) : Prop := f = 48 ∧ ∃ k : Int, xs = [⟨.int .i64 k, 0, []⟩] ∧ (-9223372036854775808 ≤ k ∧ k ≤ 9223372036854775807) ∧ v = .int .u64 (unsN k : Int)
def shpC4 : FuncId → Option SX.Sh := fun f => if f = 48 then some .one else none
noncomputable def cxC4 (K A : Value → Nat → List Value → Prop) : SX.Cx := { P := Tryd.prog, R := fun _ => RC4, shp := shpC4, K := K, A := A, trm := true, tl := [46, 49], rc := fun f => if f = 47 then some true else none }
theorem okC4 (K A : Value → Nat → List Value → Prop) : (cxC4 K A).Ok := by
  refine SX.Cx.ok_of (fun _ => rfl) ?_
  intro K f xs v W hR hrd hKf
  obtain ⟨rfl, k, rfl, h1, rfl⟩ := hR
  exact (unsigned_any k W h1.1 h1.2).mono fun e w' h => SX.plainOk rfl h
def args_w3 : List SX.V := [.k (.slice none 0 0), .a [.k (.int .i64 3), .k (.int .i64 0), .k (.string ⟨#[]⟩), .x 0 []], .p 0 0]
def bl_w3 : List SX.Blk := [⟨[.p 1 0], 67, .cells⟩, ⟨[.k .nilFunc, .f (.func 46) [] [], .f (.func 49) [] [], .f (.func 50) [] [.p 0 0]], 79, .cells⟩]
def tree_w3 : SX.Tree :=
(.df (.app 1 1 (.own 1 [(.k (.int .u8 3))])) [(.cat []), (.sl 4 0 1 1)] .any 
(.df (.len false) [(.x 0 [])] .one 
(.df (.conv .u64) [(.x 2 [])] .one 
(.df (.callr 47 [.no] 1 5) [(.cat [(.x 1 [])]), (.x 3 [])] .any 
(.df (.len false) [(.x 0 [])] .one 
(.loop [(.k (.int .i64 0)), (.cat [(.x 4 [])])] [.one, .any] 
(.df (.bin .lss 3) [(.x 6 []), (.x 5 [])] .one 
(.br 8 [] 
(.df .bnd [(.x 0 []), (.x 6 [])] .one 
(.df (.elems 4 0 4) [(.x 0 []), (.x 6 [])] (.ag 4) 
(.sp 10 [0] [.bad 46 [], 
(.df (.app 1 1 (.own 1 [(.k (.int .u8 1))])) [(.cat [(.x 7 [])]), (.sl 16 0 1 1)] .any 
(.df (.call 48 [.no]) [(.x 10 [1])] .one 
(.df (.callr 47 [.no] 1 5) [(.cat [(.x 7 []), (.x 11 [])]), (.x 12 [])] .any 
(.df (.bin .add 3) [(.x 6 []), (.k (.int .i64 1))] .one 
(.again 0 [(.x 14 []), (.cat [(.x 13 [])])]))))), 
(.df (.app 1 1 (.own 1 [(.k (.int .u8 2))])) [(.cat [(.x 7 [])]), (.sl 16 0 1 1)] .any 
(.df (.len true) [(.x 10 [2])] .one 
(.df (.conv .u64) [(.x 12 [])] .one 
(.df (.callr 47 [.no] 1 5) [(.cat [(.x 7 []), (.x 11 [])]), (.x 13 [])] .any 
(.df (.aps 1) [(.cat [(.x 14 [])]), (.x 10 [2])] .any 
(.df (.bin .add 3) [(.x 6 []), (.k (.int .i64 1))] .one 
(.again 0 [(.x 16 []), (.cat [(.x 14 []), (.x 15 [])])]))))))), .bad 44 []]))) 
(.ret (.row 12) [none, none, none, none, none, none, none, none, none, none, none, none, (some ⟨[(.x 7 [])], 5, (.row 1)⟩)] [[(some (.p 0 0)), (some (.p 1 0))]])))))))))
set_option maxRecDepth 100000 in
theorem run_w3 (K A : Value → Nat → List Value → Prop) : (SX.run (cxC4 K A) ⟨fun f => true, [⟨50, 3, [(.s 19, .one), (.s 0, .row 1 5)]⟩], 2, 100⟩ 100000 0 { fr := args_w3.map some ++ List.replicate (Tryd.f50.ntmps - args_w3.length) (some (.k undef)), stk := [(List.range bl_w3.length).map fun n => some (.p n 0)], hp := bl_w3.map some, ln := bl_w3.map some, sh := [.one], kn := [], lps := [], cur := 50 } [.code (Tryd.f50.body.getD .skip), .top Tryd.f50]).strip = tree_w3 := by kernel_rfl
set_option maxRecDepth 100000 in
set_option maxHeartbeats 4000000 in
theorem write_any (fl : List Fl) (A : Option Addr) (n c b0 b1 : Nat) (w : World) (hr : ∀ W', Same [b0, b1] w W' → Rd W' 4 A n (flL fl)) (hn : n ≤ 1048576) (hc : n ≤ c) (hfit : ∀ z ∈ fl, z.fits) (hne : b0 ≠ b1)
    (h0 : w.heap[b0]? = some (.cells #[.pointer (some ⟨b1, 0, none⟩)] 67 (0, 0)))
    (h1 : w.heap[b1]? = some (.cells #[.nilFunc, .func (.func 46) #[] #[], .func (.func 49) #[] #[], .func (.func 50) #[] #[.pointer (some ⟨b0, 0, none⟩)]] 79 (0, 0))) :
    Calls Tryd.prog 50 #[.slice none 0 0, .agg #[.int .i64 3, .int .i64 0, .string ⟨#[]⟩, .slice A n c], .pointer (some ⟨b0, 0, none⟩)] w fun e w' => ∃ h' b' tl', e = .returned h' ∧ w'.os = w.os ∧ w'.tape = w.tape ∧ w'.output = w.output ∧ Same [b0, b1] w w' ∧ RowAt 1 h' b' 5 ((encL fl).flatMap c8) tl' w' ∧ (b' ∈ [b0, b1] ∨ w.heap.size ≤ b') := by
  refine SX.calls_of_runX (C := cxC4 (fun s sz cells => s = .slice A n c ∧ sz = 4 ∧ cells = flL fl) (fun _ _ _ => False)) (G := ⟨fun f => true, [⟨50, 3, [(.s 19, .one), (.s 0, .row 1 5)]⟩], 2, 100⟩) (args := args_w3) (sh := [.one]) (ρ := [.slice A n c]) (bs := [b0, b1]) (bl := bl_w3) 100000 tree_w3 (okC4 _ _) Tryd.func50 rfl (run_w3 _ _) (by kernel_rfl) (by kernel_rfl) rfl ?_ (by simp [hne]) rfl ?_ (by decide) ?_
  · rintro W hW s sz cells ⟨rfl, rfl, rfl⟩; exact ⟨hr W hW, hc⟩
  · intro i b B hi hB
    match i, hi, hB with
    | 0, hi, hB => cases hi; cases hB; exact h0
    | 1, hi, hB => cases hi; cases hB; exact h1
  have hA := SX.rd_some (hr w (.refl _ _))
  have hln : fl.length = n := by have := (hr w (.refl _ _)).1; rw [flL_len] at this; omega
  have hN := numB_len 9 n (by omega)
  unfold tree_w3
  refine SX.E (Value.agg (([3#8]).flatMap c8).toArray) (fun α => SX.app_rel (f := c8) (l1 := []) (l2 := [3#8]) (fun _ => rfl) c8o (by decide) (by kernel_rfl) (SX.src_own (by kernel_rfl)) (by decide) (by decide)) ?_
  refine SX.D (.int .i64 (n : Int)) ?_
  refine SX.E (.int .u64 (n : Int)) (fun α => Eq.trans (b := some (.int .u64 (IntKind.u64.wrap (n : Int)))) (by kernel_rfl) (by rw [wrap_u]; congr 2; omega)) ?_
  refine SX.VC_df (Value.agg (([3#8] ++ numB n).flatMap c8).toArray) (fun α => ⟨[⟨.int .u64 (n : Int), 0, []⟩], ⟨by kernel_rfl, by kernel_rfl, trivial⟩, SX.RCall.old (numeral_rc rfl (by omega) (by decide)) (SX.cat1 (by kernel_rfl))⟩) rfl ?_
  refine SX.D (.int .i64 (n : Int)) ?_
  refine SX.VC_loop (fun xs => ∃ (i : Nat), xs = [.int .i64 (i : Int), .agg (([3#8] ++ numB n ++ (fl.take i).flatMap encF).flatMap c8).toArray] ∧ i ≤ n) (fun xs => match xs with | .int _ i :: _ => n - i.toNat | _ => 0) (fun α => ⟨0, Eq.trans (b := [.int .i64 0, .agg ([Value.agg (([3#8] ++ numB n).flatMap c8).toArray].flatMap SX.cellsV).toArray]) (by kernel_rfl) (by simp [SX.cellsV]), by omega⟩) ?_
  rintro xs - ⟨i, rfl, hin⟩
  have hEl := encL_len (l := fl.take i) (fun z hz => hfit z (List.mem_of_mem_take hz))
  have hEi : (fl.take i).length ≤ n := by rw [List.length_take]; omega
  obtain ⟨acc, hacc⟩ : ∃ acc, [3#8] ++ numB n ++ (fl.take i).flatMap encF = acc := ⟨_, rfl⟩
  have hal : acc.length ≤ 1099600000000 := by
    rw [← hacc]; simp only [LL]; omega
  rw [hacc]
  refine SX.D (.bool (decide ((i : Int) < (n : Int)))) ?_
  refine SX.B (decide ((i : Int) < (n : Int))) (fun h8 => ?_) (fun h8 => ?_)
  · have h8 : i < n := by have := of_decide_eq_true h8; omega
    obtain ⟨z, hz⟩ : ∃ z, fl[i]? = some z := ⟨_, List.getElem?_eq_getElem (by omega)⟩
    have hzf := hfit z (List.mem_of_getElem? hz)
    have htk : [3#8] ++ numB n ++ (fl.take (i + 1)).flatMap encF = acc ++ encF z := by rw [List.take_add_one, hz, ← hacc]; simp
    refine SX.E (.bool true) (fun α => SX.extBnd (A := A) (n := n) (c := c) (j := i) hA (by kernel_rfl) (by kernel_rfl) h8) ?_
    refine SX.VC_df (valFl z) (fun α => SX.extElems (f := cellsFl) (l := fl) (A := A) (n := n) (c := c) (j := i) (z := z) cellsFl_len hA (by kernel_rfl) (by kernel_rfl) h8 ⟨rfl, rfl, rfl⟩ hz) (by cases z <;> rfl) ?_
    cases z with
    | n k =>
      have hu := unsN_lt hzf.1 hzf.2
      refine SX.VC_sp 1 (by decide) (by kernel_rfl) fun t ht => ?_
      cases (Option.some.inj ht)
      refine SX.E (Value.agg (([1#8]).flatMap c8).toArray) (fun α => SX.app_rel (f := c8) (l1 := acc) (l2 := [1#8]) (fun _ => rfl) c8o (by decide) (SX.cat1 (by kernel_rfl)) (SX.src_own (by kernel_rfl)) (by simp only [LL]; omega) (by simp only [LL]; omega)) ?_
      refine SX.E (.int .u64 (unsN k : Int)) (fun α => ⟨[⟨.int .i64 k, 0, []⟩], ⟨by kernel_rfl, by kernel_rfl, trivial⟩, ⟨rfl, k, rfl, hzf, rfl⟩, SX.noAli rfl⟩) ?_
      refine SX.VC_df (Value.agg (((acc ++ [1#8]) ++ numB (unsN k)).flatMap c8).toArray) (fun α => ⟨[⟨.int .u64 (unsN k : Int), 0, []⟩], ⟨by kernel_rfl, by kernel_rfl, trivial⟩, SX.RCall.old (numeral_rc rfl hu (by simp only [LL]; omega)) (Eq.trans (b := [Value.agg (acc.flatMap c8).toArray, Value.agg (([1#8]).flatMap c8).toArray].flatMap SX.cellsV) (by kernel_rfl) (by simp [SX.cellsV]))⟩) rfl ?_
      refine SX.E (.int .i64 ((i + 1 : Nat) : Int)) (fun α => SX.W1 i) ?_
      exact SX.VC_again fun α => ⟨⟨i + 1, Eq.trans (b := [.int .i64 ((i + 1 : Nat) : Int), .agg ([Value.agg (((acc ++ [1#8]) ++ numB (unsN k)).flatMap c8).toArray].flatMap SX.cellsV).toArray]) (by kernel_rfl) (by rw [htk]; simp [SX.cellsV, encF]), by omega⟩, cast (by kernel_rfl) (show n - ((i + 1 : Nat) : Int).toNat < n - (i : Int).toNat by omega)⟩
    | s b =>
      have hzs : b.size ≤ 1048576 := hzf
      have hBn := numB_len 9 b.size (by omega)
      refine SX.VC_sp 2 (by decide) (by kernel_rfl) fun t ht => ?_
      cases (Option.some.inj ht)
      refine SX.E (Value.agg (([2#8]).flatMap c8).toArray) (fun α => SX.app_rel (f := c8) (l1 := acc) (l2 := [2#8]) (fun _ => rfl) c8o (by decide) (SX.cat1 (by kernel_rfl)) (SX.src_own (by kernel_rfl)) (by simp only [LL]; omega) (by simp only [LL]; omega)) ?_
      refine SX.D (.int .i64 (b.size : Int)) ?_
      refine SX.E (.int .u64 (b.size : Int)) (fun α => Eq.trans (b := some (.int .u64 (IntKind.u64.wrap (b.size : Int)))) (by kernel_rfl) (by rw [wrap_u]; congr 2; omega)) ?_
      refine SX.VC_df (Value.agg (((acc ++ [2#8]) ++ numB b.size).flatMap c8).toArray) (fun α => ⟨[⟨.int .u64 (b.size : Int), 0, []⟩], ⟨by kernel_rfl, by kernel_rfl, trivial⟩, SX.RCall.old (numeral_rc rfl (by omega) (by simp only [LL]; omega)) (Eq.trans (b := [Value.agg (acc.flatMap c8).toArray, Value.agg (([2#8]).flatMap c8).toArray].flatMap SX.cellsV) (by kernel_rfl) (by simp [SX.cellsV]))⟩) rfl ?_
      have hcl : ∀ l : List W8, (l.flatMap c8).length = l.length := fun l => by induction l with
        | nil => rfl
        | cons a l ih => simp only [List.flatMap_cons, List.length_append, c8_len, List.length_cons, ih]; omega
      refine SX.VC_df (Value.agg ((sb b).flatMap c8).toArray) (fun α => ⟨b, by kernel_rfl, ?_, ?_, by rw [sb_cells]⟩) rfl ?_
      · rw [show SX.cellsV _ = (((acc ++ [2#8]) ++ numB b.size).flatMap c8) from SX.cat1 (by kernel_rfl), hcl]; simp only [LL]; omega
      · rw [show SX.cellsV _ = (((acc ++ [2#8]) ++ numB b.size).flatMap c8) from SX.cat1 (by kernel_rfl), hcl]; simp only [LL]; omega
      refine SX.E (.int .i64 ((i + 1 : Nat) : Int)) (fun α => SX.W1 i) ?_
      exact SX.VC_again fun α => ⟨⟨i + 1, Eq.trans (b := [.int .i64 ((i + 1 : Nat) : Int), .agg ([Value.agg (((acc ++ [2#8]) ++ numB b.size).flatMap c8).toArray, Value.agg ((sb b).flatMap c8).toArray].flatMap SX.cellsV).toArray]) (by kernel_rfl) (by rw [htk]; simp [SX.cellsV, encF]), by omega⟩, cast (by kernel_rfl) (show n - ((i + 1 : Nat) : Int).toNat < n - (i : Int).toNat by omega)⟩
  have h8 : i = n := by have := of_decide_eq_false h8; omega
  refine SX.VC_ret fun α W _ hR hS => ?_
  have he : acc = encL fl := by rw [← hacc, List.take_of_length_le (by omega)]; unfold encL; rw [hln]; simp
  rw [← he]
  exact SX.rret hS (n := 12) (b := (⟨[(.x 7 [])], 5, (.row 1)⟩ : SX.Blk)) (by kernel_rfl) rfl (hR 12 _ (by kernel_rfl)) (Eq.trans (b := [Value.agg (acc.flatMap c8).toArray].flatMap SX.cellsV) (by kernel_rfl) (by simp [SX.cellsV]))
def NW (w : World) (u : Nat → Nat → Value) (v : Value) (Y : World) : Prop := ∃ b0 b1, v = u b0 b1 ∧ b0 ≠ b1 ∧ w.heap.size ≤ b0 ∧ w.heap.size ≤ b1 ∧ Y.heap[b0]? = some (.cells #[.pointer (some ⟨b1, 0, none⟩)] 67 (0, 0)) ∧
  Y.heap[b1]? = some (.cells #[.nilFunc, .func (.func 46) #[] #[], .func (.func 49) #[] #[], .func (.func 50) #[] #[.pointer (some ⟨b0, 0, none⟩)]] 79 (0, 0))
theorem NW.step {w Y Y' : World} {u : Nat → Nat → Value} {v : Value} (h : NW w u v Y) (hb : Below Y.heap.size Y Y') : NW w u v Y' := by
  obtain ⟨b0, b1, h1, h2, h3, h4, h5, h6⟩ := h
  exact ⟨b0, b1, h1, h2, h3, h4, (hb.block b0 (Array.getElem?_eq_some_iff.1 h5).1).trans h5, (hb.block b1 (Array.getElem?_eq_some_iff.1 h6).1).trans h6⟩
def args_nw : List SX.V := []
def tree_nw : SX.Tree :=
(.ret (.p 0 0) [(some ⟨[(.k .nilFunc), (.f (.func 46) [] []), (.f (.func 49) [] []), (.f (.func 50) [] [(.p 1 0)])], 79, .cells⟩), (some ⟨[(.p 0 0)], 67, .cells⟩)] [])
set_option maxRecDepth 100000 in
theorem run_nw (K A : Value → Nat → List Value → Prop) : (SX.run (cx0 K A) ⟨fun f => true, [], 1, 100⟩ 100000 0 (SX.door 36 Tryd.f36 args_nw []) [.code (Tryd.f36.body.getD .skip), .top Tryd.f36]).strip = tree_nw := by kernel_rfl
theorem newWriter_any (w : World) : Calls Tryd.prog 36 #[] w fun e w' => ∃ v, e = .returned v ∧ NW w (fun _ b1 => .pointer (some ⟨b1, 0, none⟩)) v w' ∧ Below w.heap.size w w' := by
  refine SX.calls_of_run (C := cx0 (fun _ _ _ => False) (fun _ _ _ => False)) (G := ⟨fun f => true, [], 1, 100⟩) (args := args_nw) (sh := []) (ρ := []) 100000 tree_nw (cx0_ok _ _) Tryd.func36 rfl (run_nw _ _) (by kernel_rfl) (by kernel_rfl) (by kernel_rfl) (fun W _ => SX.Kf_none (fun _ _ _ h => h) W) ?_
  unfold tree_nw
  refine SX.VC_ret fun α W _ hR hS => ?_
  have m1 : (⟨(α 0).b, #[.nilFunc, .func (.func 46) #[] #[], .func (.func 49) #[] #[], .func (.func 50) #[] #[.pointer (some ⟨(α 1).b, 0, none⟩)]], .cells 79⟩ : Ch) ∈ SX.chs [] α 0 [(some ⟨[(.k .nilFunc), (.f (.func 46) [] []), (.f (.func 49) [] []), (.f (.func 50) [] [(.p 1 0)])], 79, .cells⟩), (some ⟨[(.p 0 0)], 67, .cells⟩)] := List.Mem.head _
  have m2 : (⟨(α 1).b, #[.pointer (some ⟨(α 0).b, 0, none⟩)], .cells 67⟩ : Ch) ∈ SX.chs [] α 0 [(some ⟨[(.k .nilFunc), (.f (.func 46) [] []), (.f (.func 49) [] []), (.f (.func 50) [] [(.p 1 0)])], 79, .cells⟩), (some ⟨[(.p 0 0)], 67, .cells⟩)] := List.Mem.tail _ (List.Mem.head _)
  refine ⟨_, rfl, ⟨(α 1).b, (α 0).b, rfl, fun he => ?_, (hS.ge_ m2).resolve_right nofun, (hS.ge_ m1).resolve_right nofun, hS.at_ m2, hS.at_ m1⟩, hS.below⟩
  have := hS.nodup
  have e : muts (SX.chs [] α 0 [(some ⟨[(.k .nilFunc), (.f (.func 46) [] []), (.f (.func 49) [] []), (.f (.func 50) [] [(.p 1 0)])], 79, .cells⟩), (some ⟨[(.p 0 0)], 67, .cells⟩)]) [] = [(α 0).b, (α 1).b] := rfl
  rw [e] at this
  simp [he] at this
theorem SX.SlRet.at_ {w W : World} {h : Value} {b : Nat} {t : TypeId} {cells tl : List Value} {sz : Nat} (hr : RowAt sz h b t cells tl W) (hb : w.heap.size ≤ b) : SX.SlRet w W [] h sz cells := by
  rcases hr with ⟨rfl, rfl⟩ | ⟨len, cap, rfl, h1, h2, h3, h4, h5⟩
  · exact .nil
  refine ⟨⟨_, _, _, rfl, h3⟩, ⟨?_, h3⟩, .inl fun ad k c e _ => ?_⟩
  · refine Rd.of_blk h5 h1 fun j u hu => ?_
    rw [Nat.zero_add]
    have : (cells ++ tl)[j]? = some u := by rw [List.getElem?_append_left (List.getElem?_eq_some_iff.1 hu).1]; exact hu
    simpa using this
  cases e
  exact hb
set_option maxRecDepth 100000 in
set_option maxHeartbeats 1000000 in
theorem encode_any (fl : List Fl) (A : Option Addr) (n c : Nat) (w : World) (hr : Rd w 4 A n (flL fl)) (hn : n ≤ 1048576) (hc : n ≤ c) (hfit : ∀ z ∈ fl, z.fits) :
    Calls Tryd.prog 26 #[.agg #[.int .i64 3, .int .i64 0, .string ⟨#[]⟩, .slice A n c]] w fun e w' => Below w.heap.size w w' ∧ ∃ hdr, e = .returned (.tuple #[hdr, .int .i64 0]) ∧ SX.SlRet w w' [] hdr 1 ((encL fl).flatMap c8) := by
  have hS := St.start w
  have h1 : ∀ u ∈ [Value.int .i64 3, .int .i64 0, .string ⟨#[]⟩, .slice A n c], u.oneCell' = true := by
    intro u hu
    simp only [List.mem_cons, List.not_mem_nil, or_false] at hu
    rcases hu with rfl | rfl | rfl | rfl <;> rfl
  go_enter Tryd.func26, Tryd.ntmps26
  go_wp2_with (first
      | ((first | (with_reducible refine wpList_plain (o := ⟨some 1, .box _ _, _, _, _, _⟩) rfl fun K hK => ?_) | ((with_reducible refine BigFrame.wpList_want (o := ⟨some 1, .box _ _, _, _, _, _⟩) ?_ fun K hK => ?_); · rfl)); (first | refine wp_box_row rfl (ev_eq rfl) hS ?_ | refine wp_box_one rfl (ev_eq rfl) rfl hS ?_); clear hS; intro k1 W hS hBw hk0; clear hBw hk0; refine hK _ _ ?_; clear hK K)
      | ((first | (with_reducible refine wpList_plain (o := ⟨_, .load _ _, _, _, _, _⟩) rfl fun K hK => ?_) | ((with_reducible refine BigFrame.wpList_want (o := ⟨_, .load _ _, _, _, _, _⟩) ?_ fun K hK => ?_); · rfl)); (first | refine wp_load_one rfl (ev_eq rfl) hS (by repeat (first | exact List.Mem.head _ | apply List.Mem.tail)) rfl (by first | rfl | assumption) ?_ | refine wp_load_row' rfl (ev_eq rfl) hS (by repeat (first | exact List.Mem.head _ | apply List.Mem.tail)) rfl (by first | assumption | rfl) ?_ | refine wp_load_sub rfl (ev_eq rfl) hS (by repeat (first | exact List.Mem.head _ | apply List.Mem.tail)) rfl rfl (by first | assumption | exact of_decide_eq_true rfl | (simp; omega)) (by assumption) ?_ | refine wp_load_at rfl (ev_eq rfl) rfl (by assumption) (by first | assumption | rfl) ?_ | refine wp_load_cell rfl (ev_eq rfl) rfl (by assumption) ?_); refine hK _ _ ?_; clear hK K))
  have hcon : (Calls Tryd.prog 35 #[.agg #[.int .i64 3, .int .i64 0, .string ⟨#[]⟩, .slice A n c]] W fun e w' => e = .returned (.int .i64 0) ∧ Below W.heap.size W w') := fcheck_any fl A n c W (hr.below hS.below) (by omega) hc
  refine hcon.mono ?_
  clear hcon
  rintro e w' ⟨rfl, hB⟩
  replace hS := hS.step hB
  clear hB
  go_wp2_with (first
      | ((first | (with_reducible refine wpList_plain (o := ⟨some 1, .box _ _, _, _, _, _⟩) rfl fun K hK => ?_) | ((with_reducible refine BigFrame.wpList_want (o := ⟨some 1, .box _ _, _, _, _, _⟩) ?_ fun K hK => ?_); · rfl)); (first | refine wp_box_row rfl (ev_eq rfl) hS ?_ | refine wp_box_one rfl (ev_eq rfl) rfl hS ?_); clear hS; intro k1 W hS hBw hk0; clear hBw hk0; refine hK _ _ ?_; clear hK K)
      | ((first | (with_reducible refine wpList_plain (o := ⟨_, .load _ _, _, _, _, _⟩) rfl fun K hK => ?_) | ((with_reducible refine BigFrame.wpList_want (o := ⟨_, .load _ _, _, _, _, _⟩) ?_ fun K hK => ?_); · rfl)); (first | refine wp_load_one rfl (ev_eq rfl) hS (by repeat (first | exact List.Mem.head _ | apply List.Mem.tail)) rfl (by first | rfl | assumption) ?_ | refine wp_load_row' rfl (ev_eq rfl) hS (by repeat (first | exact List.Mem.head _ | apply List.Mem.tail)) rfl (by first | assumption | rfl) ?_ | refine wp_load_sub rfl (ev_eq rfl) hS (by repeat (first | exact List.Mem.head _ | apply List.Mem.tail)) rfl rfl (by first | assumption | exact of_decide_eq_true rfl | (simp; omega)) (by assumption) ?_ | refine wp_load_at rfl (ev_eq rfl) rfl (by assumption) (by first | assumption | rfl) ?_ | refine wp_load_cell rfl (ev_eq rfl) rfl (by assumption) ?_); refine hK _ _ ?_; clear hK K))
  refine wp_region_tail 8 (by kernel_rfl) (by kernel_rfl) (by kernel_rfl) (fun i v Y => match i with | 0 => NW w (fun _ b1 => .pointer (some ⟨b1, 0, none⟩)) v Y | 1 => v = .pointer (some ⟨k1, 0, none⟩) | 2 => v = .int .i64 3 | 3 => NW w (fun _ b1 => .pointer (some ⟨b1, 0, none⟩)) v Y | 4 => NW w (fun _ b1 => .pointer (some ⟨b1, 3, none⟩)) v Y | 5 => NW w (fun _ b1 => .pointer (some ⟨b1, 3, none⟩)) v Y | 6 => NW w (fun b0 _ => .func (.func 50) #[] #[.pointer (some ⟨b0, 0, none⟩)]) v Y | 7 => v = .agg #[.int .i64 3, .int .i64 0, .string ⟨#[]⟩, .slice A n c] | _ => True)
    (fun Z => Below w'.heap.size w' Z) (fun Z Z' => Below Z.heap.size Z Z') ?_ (Below.refl _ _).drew ?_ ?_
  · intro i v Z Z' hb hv
    match i with
    | 0 =>
      exact hv.step hb
    | 3 =>
      exact hv.step hb
    | 4 =>
      exact hv.step hb
    | 5 =>
      exact hv.step hb
    | 6 =>
      exact hv.step hb
    | 1 | 2 | 7 | _ + 8 => exact hv
  · refine ⟨?_, ?_, ?_, ?_, ?_, ?_, ?_, ?_, trivial⟩
    all_goals refine opOb_plain rfl fun b' W' K hf hd hF hK => ?_
    all_goals have hS := hS.step hF
    · refine wp_callF (vs := #[]) rfl rfl (by simp) (Tryd.call36 _ _) (R := fun v W2 => NW W' (fun _ b1 => .pointer (some ⟨b1, 0, none⟩)) v W2 ∧ Below W'.heap.size W' W2) ((newWriter_any W').mono fun e W2 h => by obtain ⟨v, h1, h2, h3⟩ := h; exact ⟨v, h1, h2, h3⟩) ?_
      rintro v W2 ⟨hn2, hb2⟩
      exact hK _ _ (fun _ => by obtain ⟨b0, b1, g1, g2, g3, g4, g5⟩ := hn2; exact ⟨b0, b1, g1, g2, Nat.le_trans hS.below.size g3, Nat.le_trans hS.below.size g4, g5⟩) (hF.trans (hb2.mono hF.size)) hb2
    · have e1 := (hf 1 rfl).trans (ev_eq rfl)
      exact wp_fieldAddr rfl e1 rfl (hK _ _ (fun _ => rfl) hF (Below.refl _ _))
    · have e11 : b'.eval (.tmp 11) = .pointer (some ⟨k1, 0, none⟩) := hd ⟨1, .data⟩ (by simp) rfl 11 rfl
      first | exact wp_load_one rfl e11 hS (by repeat (first | exact List.Mem.head _ | apply List.Mem.tail)) rfl (by first | rfl | assumption) (hK _ _ (fun _ => rfl) hF (Below.refl _ _)) | exact wp_load_row' rfl e11 hS (by repeat (first | exact List.Mem.head _ | apply List.Mem.tail)) rfl (by first | assumption | rfl) (hK _ _ (fun _ => rfl) hF (Below.refl _ _)) | exact wp_load_sub rfl e11 hS (by repeat (first | exact List.Mem.head _ | apply List.Mem.tail)) rfl rfl (by first | assumption | exact of_decide_eq_true rfl | (simp; omega)) (by assumption) (hK _ _ (fun _ => rfl) hF (Below.refl _ _)) | exact wp_load_cell rfl e11 rfl (by assumption) (hK _ _ (fun _ => rfl) hF (Below.refl _ _))
    · have s10 := hd ⟨0, .data⟩ (by simp) rfl 10 rfl
      obtain ⟨b0, b1, g1, g2⟩ := s10
      exact wp_nil rfl g1 (hK _ _ (fun _ => ⟨b0, b1, rfl, g2⟩) hF (Below.refl _ _))
    · have s13 := hd ⟨3, .data⟩ (by simp) rfl 13 rfl
      have e12 : b'.eval (.tmp 12) = .int .i64 3 := hd ⟨2, .data⟩ (by simp) rfl 12 rfl
      obtain ⟨b0, b1, g1, g2⟩ := s13
      exact wp_indexAddr_arr rfl g1 e12 rfl (by omega) (by omega) rfl (by rfl) (hK _ _ (fun _ => ⟨b0, b1, rfl, g2⟩) hF (Below.refl _ _))
    · have s14 := hd ⟨4, .data⟩ (by simp) rfl 14 rfl
      obtain ⟨b0, b1, g1, g2⟩ := s14
      exact wp_fieldAddr rfl g1 rfl (hK _ _ (fun _ => ⟨b0, b1, rfl, g2⟩) hF (Below.refl _ _))
    · have s15 := hd ⟨5, .data⟩ (by simp) rfl 15 rfl
      obtain ⟨b0, b1, g1, g2⟩ := s15
      exact wp_load_cell rfl g1 rfl (by rw [cell_of_row _ _ _ _ _ (0, 0) g2.2.2.2.2]; rfl) (hK _ _ (fun _ => ⟨b0, b1, rfl, g2⟩) hF (Below.refl _ _))
    have e1 := (hf 1 rfl).trans (ev_eq rfl)
    first | exact wp_load_one rfl e1 hS (by repeat (first | exact List.Mem.head _ | apply List.Mem.tail)) rfl (by first | rfl | assumption) (hK _ _ (fun _ => rfl) hF (Below.refl _ _)) | exact wp_load_row' rfl e1 hS (by repeat (first | exact List.Mem.head _ | apply List.Mem.tail)) rfl (by first | assumption | rfl) (hK _ _ (fun _ => rfl) hF (Below.refl _ _)) | exact wp_load_sub rfl e1 hS (by repeat (first | exact List.Mem.head _ | apply List.Mem.tail)) rfl rfl (by first | assumption | exact of_decide_eq_true rfl | (simp; omega)) (by assumption) (hK _ _ (fun _ => rfl) hF (Below.refl _ _)) | exact wp_load_cell rfl e1 rfl (by assumption) (hK _ _ (fun _ => rfl) hF (Below.refl _ _))
  intro vs W3 hv hF
  have hSb := hS
  replace hS := hS.step hF
  obtain ⟨b0, b1, va, hne, hb0, hb1, hc0, hc1⟩ := hv 6 16 rfl
  have vb : vs 7 = .agg #[.int .i64 3, .int .i64 0, .string ⟨#[]⟩, .slice A n c] := hv 7 17 rfl
  clear hF hv
  simp only [putAll, Nat.reduceAdd, List.take_succ_cons, List.take_zero, List.drop_succ_cons, List.drop_zero, List.setIfInBounds_toArray, List.set_cons_zero, List.set_cons_succ, va, vb]
  clear va vb
  go_wp2_with (first
    | ((first | (with_reducible refine wpList_plain (o := ⟨some 1, .box _ _, _, _, _, _⟩) rfl fun K hK => ?_) | ((with_reducible refine BigFrame.wpList_want (o := ⟨some 1, .box _ _, _, _, _, _⟩) ?_ fun K hK => ?_); · rfl)); (first | refine wp_box_row rfl (ev_eq rfl) hS ?_ | refine wp_box_one rfl (ev_eq rfl) rfl hS ?_); clear hS; intro k1 W hS hBw hk0; clear hBw hk0; refine hK _ _ ?_; clear hK K)
    | ((first | (with_reducible refine wpList_plain (o := ⟨_, .load _ _, _, _, _, _⟩) rfl fun K hK => ?_) | ((with_reducible refine BigFrame.wpList_want (o := ⟨_, .load _ _, _, _, _, _⟩) ?_ fun K hK => ?_); · rfl)); (first | refine wp_load_one rfl (ev_eq rfl) hS (by repeat (first | exact List.Mem.head _ | apply List.Mem.tail)) rfl (by first | rfl | assumption) ?_ | refine wp_load_row' rfl (ev_eq rfl) hS (by repeat (first | exact List.Mem.head _ | apply List.Mem.tail)) rfl (by first | assumption | rfl) ?_ | refine wp_load_sub rfl (ev_eq rfl) hS (by repeat (first | exact List.Mem.head _ | apply List.Mem.tail)) rfl rfl (by first | assumption | exact of_decide_eq_true rfl | (simp; omega)) (by assumption) ?_ | refine wp_load_at rfl (ev_eq rfl) rfl (by assumption) (by first | assumption | rfl) ?_ | refine wp_load_cell rfl (ev_eq rfl) rfl (by assumption) ?_); refine hK _ _ ?_; clear hK K))
  have hcon := write_any fl A n c b0 b1 W3 (fun W' h => hr.same0 ⟨Nat.le_trans hS.below.size h.size, fun k hk _ => (h.block k (by have := hS.below.size; omega) (by simp; omega)).trans (hS.below.block k hk)⟩) hn hc hfit hne hc0 hc1
  refine hcon.mono ?_
  clear hcon
  rintro e w4 ⟨h', b', tl', rfl, o1, o2, o3, hsm, hrow, hb'⟩
  have hbw := hS.below
  have hbel : Below w.heap.size w w4 := ⟨o1.trans hbw.os, o2.trans hbw.tape, o3.trans hbw.output, Nat.le_trans hbw.size hsm.size, fun k hk => (hsm.block k (by have := hbw.size; omega) (by simp; omega)).trans (hbw.block k hk)⟩
  have hret := SX.SlRet.at_ (w := w) hrow (by have := hbw.size; rcases hb' with hb' | hb'; (simp at hb'; omega); omega)
  clear hS hSb hsm hrow hb' o1 o2 o3 hbw
  have hS := St.start w4
  go_wp2_with (first
    | ((first | (with_reducible refine wpList_plain (o := ⟨some 1, .box _ _, _, _, _, _⟩) rfl fun K hK => ?_) | ((with_reducible refine BigFrame.wpList_want (o := ⟨some 1, .box _ _, _, _, _, _⟩) ?_ fun K hK => ?_); · rfl)); (first | refine wp_box_row rfl (ev_eq rfl) hS ?_ | refine wp_box_one rfl (ev_eq rfl) rfl hS ?_); clear hS; intro k1 W hS hBw hk0; clear hBw hk0; refine hK _ _ ?_; clear hK K)
    | ((first | (with_reducible refine wpList_plain (o := ⟨_, .load _ _, _, _, _, _⟩) rfl fun K hK => ?_) | ((with_reducible refine BigFrame.wpList_want (o := ⟨_, .load _ _, _, _, _, _⟩) ?_ fun K hK => ?_); · rfl)); (first | refine wp_load_one rfl (ev_eq rfl) hS (by repeat (first | exact List.Mem.head _ | apply List.Mem.tail)) rfl (by first | rfl | assumption) ?_ | refine wp_load_row' rfl (ev_eq rfl) hS (by repeat (first | exact List.Mem.head _ | apply List.Mem.tail)) rfl (by first | assumption | rfl) ?_ | refine wp_load_sub rfl (ev_eq rfl) hS (by repeat (first | exact List.Mem.head _ | apply List.Mem.tail)) rfl rfl (by first | assumption | exact of_decide_eq_true rfl | (simp; omega)) (by assumption) ?_ | refine wp_load_at rfl (ev_eq rfl) rfl (by assumption) (by first | assumption | rfl) ?_ | refine wp_load_cell rfl (ev_eq rfl) rfl (by assumption) ?_); refine hK _ _ ?_; clear hK K))
  refine bodyPost_ret (results_2 rfl rfl rfl) rfl ⟨hbel, h', rfl, hret⟩
theorem SX.SlRet.ok0 {C : SX.Cx} {f : FuncId} {as' : List SX.Arg} {W W' : World} {e : Ending} {k : Int} {cells : List Value} {sz : Nat} (hs : C.sh f = .tp [.sl sz, .one]) (h : Below W.heap.size W W' ∧ ∃ hdr, e = .returned (.tuple #[hdr, .int .i64 k]) ∧ SX.SlRet W W' [] hdr sz cells) :
    Below W.heap.size W W' ∧ ∃ hdr, e = .returned ((C.sh f).fill hdr (.tuple #[.agg cells.toArray, .int .i64 k])) ∧ ∀ p z, (p, z) ∈ (C.sh f).sls [] → SX.HdrOk C f as' W W' hdr z (SX.cellsV (p.foldl SX.comp (.tuple #[.agg cells.toArray, .int .i64 k]))) := by
  obtain ⟨hb, hdr, he, h1, h2, h3⟩ := h
  refine ⟨hb, hdr, by rw [hs, he]; rfl, fun p z hp => ?_⟩
  rw [hs] at hp
  obtain ⟨rfl, rfl⟩ : p = [0] ∧ z = sz := by simpa [SX.Sh.sls, SX.Sh.slsL] using hp
  refine ⟨h1, h2, .inl (h3.resolve_right ?_)⟩
  rintro ⟨y, hy, _⟩
  cases hy
theorem SX.SlRet.ok1 {C : SX.Cx} {f : FuncId} {as' : List SX.Arg} {W W' : World} {e : Ending} {cells : List Value} {sz : Nat} (hs : C.sh f = .sl sz) (h : Below W.heap.size W W' ∧ ∃ hdr, e = .returned hdr ∧ SX.SlRet W W' [] hdr sz cells) :
    Below W.heap.size W W' ∧ ∃ hdr, e = .returned ((C.sh f).fill hdr (.agg cells.toArray)) ∧ ∀ p z, (p, z) ∈ (C.sh f).sls [] → SX.HdrOk C f as' W W' hdr z (SX.cellsV (p.foldl SX.comp (.agg cells.toArray))) := by
  obtain ⟨hb, hdr, he, h1, h2, h3⟩ := h
  refine ⟨hb, hdr, by rw [hs, he]; rfl, fun p z hp => ?_⟩
  rw [hs] at hp
  obtain ⟨rfl, rfl⟩ : p = [] ∧ z = sz := by simpa [SX.Sh.sls] using hp
  refine ⟨h1, h2, .inl (h3.resolve_right ?_)⟩
  rintro ⟨y, hy, _⟩
  cases hy
theorem SX.SlRet.ext0 {w W : World} {hp : List (Option SX.Blk)} {ps : List (World → Prop)} {ρ : List Value} {α : Nat → SX.AV} {sz : Nat} {C : SX.Cx} (hS : St ⟨w, [], SX.Af C, SX.Bf C⟩ (SX.chs ρ α 0 hp) [] (SX.exs ⟨w, [], SX.Af C, SX.Bf C⟩ ρ α 0 hp ++ ps) W) {n : Nat} {b : SX.Blk} (hb : hp[n]? = some (some b)) (hk : b.k = .ext sz) (hr : b.rowOk ρ α n) {cells : List Value} (hc : b.xs ρ α = cells) (hA : ∀ W2, SX.Af C W2) (hB : ∀ B, SX.Bf C B) : SX.SlRet w W [] ((α n).h) sz cells := by
  obtain ⟨h1, h2, h3⟩ := SX.SlRet.ext hS hb hk hr hc (roots := [⟨.slice none 0 0, 0, []⟩]) (x := ⟨.slice none 0 0, 0, []⟩) (by simp) (fun W2 _ => hA W2) (fun B _ => hB B)
  refine ⟨h1, h2, .inl ?_⟩
  rcases h3 with h3 | ⟨x, hx, _, h4⟩
  · exact h3
  obtain rfl : x = ⟨.slice none 0 0, 0, []⟩ := by simpa using hx
  exact h4 _ (fun ad n c e _ => by cases e)
theorem sb_l (tx : ByteArray) : (tx.data.toList.map fun b => Value.int .u8 (b.toNat : Int)) = (sb tx).flatMap c8 := sb_cells tx
theorem enc_fit (l : List W8) (k : Int) : SX.Sh.fit (.tp [.sl 1, .one]) (.tuple #[.agg (l.flatMap c8).toArray, .int .i64 k]) = true := by
  have h2 : (l.flatMap c8).all (·.oneCell') = true := by
    rw [List.all_eq_true]
    intro u hu
    obtain ⟨a, _, h⟩ := List.mem_flatMap.1 hu
    exact c8o a u h
  have h1 : (l.flatMap c8).length % 1 = 0 := Nat.mod_one _
  simp only [SX.Sh.fit, SX.Sh.fitL, h1, h2]
  rfl
structure Lk where
  node : Int
  no : Int
  prev : Nat → W8
  A : Option Addr
  n : Nat
  c : Nat
  tx : ByteArray
def Lk.hdr (z : Lk) : Value := .slice z.A z.n z.c
def dgL (f : Nat → W8) : List W8 := (List.range 32).map f
def dgV (f : Nat → W8) : Value := .agg ((List.range 32).map fun j => w8 (f j)).toArray
def dgF (d : List W8) (j : Nat) : W8 := d.getD j 0
def cellsLk (z : Lk) : List Value := [.int .i64 z.node, .int .i64 z.no] ++ (List.range 32).map (fun j => w8 (z.prev j)) ++ [z.hdr]
def valLk (z : Lk) : Value := .agg (cellsLk z).toArray
theorem cellsLk_len (z : Lk) : (cellsLk z).length = 35 := rfl
theorem cellsLk_one (z : Lk) : ∀ u ∈ cellsLk z, u.oneCell' = true := by
  intro u hu
  simp only [cellsLk, List.mem_append, List.mem_cons, List.not_mem_nil, or_false, List.mem_map] at hu
  rcases hu with ((rfl | rfl) | ⟨j, _, rfl⟩) | rfl <;> rfl
def lkL (l : List Lk) : List Value := l.flatMap cellsLk
theorem lkL_len (l : List Lk) : (lkL l).length = l.length * 35 := SX.flat_len (f := cellsLk) cellsLk_len l
theorem dgL_len (f : Nat → W8) : (dgL f).length = 32 := rfl
theorem dg_get {d : List W8} (h : d.length = 32) : dgL (dgF d) = d := by
  apply List.ext_getElem
  · rw [dgL_len, h]
  intro i h1 h2
  simp only [dgL, dgF, List.getElem_map, List.getElem_range, List.getD_eq_getElem?_getD, List.getElem?_eq_getElem h2, Option.getD_some]
theorem dg_val {d : List W8} (h : d.length = 32) : Value.agg (d.flatMap c8).toArray = dgV (dgF d) := by
  conv => lhs; rw [← dg_get h]
  rfl
theorem dgV_fit (f : Nat → W8) : SX.Sh.fit (.ag 32) (dgV f) = true := rfl
def bt (l : List W8) : ByteArray := ⟨(l.map UInt8.ofBitVec).toArray⟩
theorem sb_bt (l : List W8) : sb (bt l) = l := by
  unfold sb bt
  simp only [List.map_map]
  exact (List.map_congr_left fun x _ => rfl).trans (List.map_id l)
theorem bt_size (l : List W8) : (bt l).size = l.length := by rw [← sb_len, sb_bt]
theorem bt_sb (b : ByteArray) : bt (sb b) = b := by
  unfold bt sb
  rw [List.map_map]
  have : (UInt8.ofBitVec ∘ UInt8.toBitVec) = id := rfl
  rw [this, List.map_id, Array.toArray_toList]
def Lk.fit (z : Lk) : Prop := (-9223372036854775808 ≤ z.node ∧ z.node ≤ 9223372036854775807) ∧ (-9223372036854775808 ≤ z.no ∧ z.no ≤ 9223372036854775807) ∧ z.tx.size ≤ 1048576
def Lk.kn (K : Value → Nat → List Value → Prop) (z : Lk) : Prop := K z.hdr 1 ((sb z.tx).flatMap c8) ∨ (z.hdr = .slice none 0 0 ∧ z.tx = ⟨#[]⟩)
def Lk.rd (W : World) (z : Lk) : Prop := SX.Arg.rd W ⟨z.hdr, 1, (sb z.tx).flatMap c8⟩
theorem Lk.kn.rd {K : Value → Nat → List Value → Prop} {z : Lk} {W : World} (h : z.kn K) (hK : ∀ s sz cells, K s sz cells → SX.Arg.rd W ⟨s, sz, cells⟩) : z.rd W := by
  rcases h with h | ⟨h1, h2⟩
  · exact hK _ _ _ h
  unfold Lk.rd
  rw [h1, h2]
  exact SX.rd_empty
theorem lk_arg {W : World} {u : Value} {ls : List Lk} (h : SX.Arg.rd W ⟨u, 35, lkL ls⟩) : ∃ A n c, u = .slice A n c ∧ Rd W 35 A n (lkL ls) ∧ n ≤ c ∧ ls.length = n := by
  unfold SX.Arg.rd at h
  split at h
  · rename_i A n c hu
    have hu : u = .slice A n c := hu
    refine ⟨A, n, c, hu, h.1, h.2, ?_⟩
    have := h.1.1; simp only [lkL_len] at this; omega
  cases h
theorem lk_bytes {W : World} {z : Lk} (h : z.rd W) : Rd W 1 z.A z.n ((sb z.tx).flatMap c8) ∧ z.n ≤ z.c := h
def noneT : ByteArray := ⟨#[110, 111, 110, 101]⟩
def linkT : ByteArray := ⟨#[108, 105, 110, 107]⟩
def flLk (z : Lk) : List Fl := [.n z.node, .n z.no, .s (bt (dgL z.prev)), .s z.tx]
theorem flLk_fits {z : Lk} (h : z.fit) : ∀ y ∈ flLk z, y.fits := by
  obtain ⟨h1, h2, h3⟩ := h
  intro y hy
  simp only [flLk, List.mem_cons, List.not_mem_nil, or_false] at hy
  rcases hy with rfl | rfl | rfl | rfl
  · exact h1
  · exact h2
  · show (bt (dgL z.prev)).size ≤ _
    rw [bt_size, dgL_len]; decide
  exact h3
def headF (ls : List Lk) : Nat → W8 := match ls.getLast? with
  | none => dgF (tagE (sb noneT) [])
  | some z => dgF (tagE (sb linkT) (encL (flLk z)))
theorem headF_last {ls : List Lk} {z : Lk} (h : ls[ls.length - 1]? = some z) : headF ls = dgF (tagE (sb linkT) (encL (flLk z))) := by
  unfold headF
  rw [List.getLast?_eq_getElem?, h]
def tree_ctext : SX.Tree :=
(.df .b2sx [(.q 0)] .one
(.ret (.a [(.i 2), (.i 0), (.q 1), (.k (.slice none 0 0))]) [] []))
def args_ctext : List SX.V := [.x 0 []]
set_option maxRecDepth 100000 in
theorem run_ctext (K A : Value → Nat → List Value → Prop) : (SX.run (cx0 K A) ⟨fun f => true, [], 0, 100⟩ 100000 0 (SX.door 29 Tryd.f29 args_ctext [.one]) [.code (Tryd.f29.body.getD .skip), .top Tryd.f29]).strip = tree_ctext := by kernel_rfl
theorem ctext_any (l : List W8) (A : Option Addr) (n c : Nat) (w : World) (hr : Rd w 1 A n (l.flatMap c8)) (hc : n ≤ c) : Calls Tryd.prog 29 #[.slice A n c] w fun e w' => e = .returned (.agg #[.int .i64 2, .int .i64 0, .string (bt l), .slice none 0 0]) ∧ Below w.heap.size w w' := by
  refine SX.calls_of_run (C := cx0 (fun s sz cells => s = .slice A n c ∧ sz = 1 ∧ cells = l.flatMap c8) (fun _ _ _ => False)) (G := ⟨fun f => true, [], 0, 100⟩) (args := args_ctext) (sh := [.one]) (ρ := [.slice A n c]) 100000 tree_ctext (cx0_ok _ _) Tryd.func29 rfl (run_ctext _ _) (by kernel_rfl) (by kernel_rfl) (by kernel_rfl) ?_ ?_
  · rintro W hW s sz cells ⟨rfl, rfl, rfl⟩; exact ⟨hr.same0 hW, hc⟩
  unfold tree_ctext
  refine SX.E (.string (bt l)) (fun α => ⟨(bt l).data.toList, A, n, c, by rw [sb_l, sb_bt]; exact ⟨rfl, rfl, rfl⟩, by kernel_rfl, by simp⟩) ?_
  exact SX.VC_ret fun α W _ _ hS => SX.ret_of hS (x := .agg #[.int .i64 2, .int .i64 0, .string (bt l), .slice none 0 0]) (by kernel_rfl) rfl
def tree_rtxt : SX.Tree :=
(.df .b2sx [(.q 0)] .one
(.ret (.a [(.i 2), (.i 0), (.q 1), (.k (.slice none 0 0))]) [] []))
def args_rtxt : List SX.V := [.x 0 []]
set_option maxRecDepth 100000 in
theorem run_rtxt (K A : Value → Nat → List Value → Prop) : (SX.run (cx0 K A) ⟨fun f => true, [], 0, 100⟩ 100000 0 (SX.door 40 Tryd.f40 args_rtxt [.one]) [.code (Tryd.f40.body.getD .skip), .top Tryd.f40]).strip = tree_rtxt := by kernel_rfl
theorem rtxt_any (l : List W8) (A : Option Addr) (n c : Nat) (w : World) (hr : Rd w 1 A n (l.flatMap c8)) (hc : n ≤ c) : Calls Tryd.prog 40 #[.slice A n c] w fun e w' => e = .returned (.agg #[.int .i64 2, .int .i64 0, .string (bt l), .slice none 0 0]) ∧ Below w.heap.size w w' := by
  refine SX.calls_of_run (C := cx0 (fun s sz cells => s = .slice A n c ∧ sz = 1 ∧ cells = l.flatMap c8) (fun _ _ _ => False)) (G := ⟨fun f => true, [], 0, 100⟩) (args := args_rtxt) (sh := [.one]) (ρ := [.slice A n c]) 100000 tree_rtxt (cx0_ok _ _) Tryd.func40 rfl (run_rtxt _ _) (by kernel_rfl) (by kernel_rfl) (by kernel_rfl) ?_ ?_
  · rintro W hW s sz cells ⟨rfl, rfl, rfl⟩; exact ⟨hr.same0 hW, hc⟩
  unfold tree_rtxt
  refine SX.E (.string (bt l)) (fun α => ⟨(bt l).data.toList, A, n, c, by rw [sb_l, sb_bt]; exact ⟨rfl, rfl, rfl⟩, by kernel_rfl, by simp⟩) ?_
  exact SX.VC_ret fun α W _ _ hS => SX.ret_of hS (x := .agg #[.int .i64 2, .int .i64 0, .string (bt l), .slice none 0 0]) (by kernel_rfl) rfl
def RQ1 (K : Value → Nat → List Value → Prop) (f : FuncId) (xs : List SX.Arg) (v : Value) : Prop :=
  (f = 29 ∧ ∃ (u : Value) (l : List W8), xs = [⟨u, 1, l.flatMap c8⟩] ∧ v = .agg #[.int .i64 2, .int .i64 0, .string (bt l), .slice none 0 0]) ∨
  (f = 26 ∧ ∃ (hdr : Value) (fl : List Fl), xs = [⟨.agg #[.int .i64 3, .int .i64 0, .string ⟨#[]⟩, hdr], 0, []⟩] ∧ K hdr 4 (flL fl) ∧ fl.length ≤ 1048576 ∧ (∀ z ∈ fl, z.fits) ∧ v = .tuple #[.agg ((encL fl).flatMap c8).toArray, .int .i64 0]) ∨
  (f = 19 ∧ LaidK K ∧ ∃ (s : ByteArray) (u : Value) (l : List W8), xs = [⟨.string s, 0, []⟩, ⟨u, 1, l.flatMap c8⟩] ∧ s.size < 2 ^ 44 ∧ l.length < 2 ^ 44 ∧ v = dgV (dgF (tagE (sb s) l)))
def shpQ1 : FuncId → Option SX.Sh := fun f => if f = 29 then some (.ag 4) else if f = 26 then some (.tp [.sl 1, .one]) else if f = 19 then some (.ag 32) else none
noncomputable def cxQ1 (K A : Value → Nat → List Value → Prop) : SX.Cx := { P := Tryd.prog, R := RQ1, shp := shpQ1, K := K, A := A, trm := true }
theorem okQ1 (K A : Value → Nat → List Value → Prop) : (cxQ1 K A).Ok := by
  refine SX.Cx.ok_of (fun _ => rfl) ?_
  intro K f xs v W hR hrd hKf
  rcases hR with ⟨rfl, u, l, rfl, rfl⟩ | ⟨rfl, hdr, fl, rfl, hk, hl, hf, rfl⟩ | ⟨rfl, hL, s, u, l, rfl, hs, hl, rfl⟩
  · obtain ⟨A, n, c, rfl, hr, hc, -⟩ := byte_arg (hrd ⟨u, 1, l.flatMap c8⟩ (by simp))
    exact (ctext_any l A n c W hr hc).mono fun e w' h => SX.plainOk rfl h
  · obtain ⟨A, n, c, rfl, h2, h3, h4⟩ := fl_arg (hKf _ _ _ hk)
    exact (encode_any fl A n c W h2 (by omega) h3 hf).mono fun e w' h => SX.SlRet.ok0 rfl h
  obtain ⟨A, n, c, rfl, hr, hc, -⟩ := byte_arg (hrd ⟨u, 1, l.flatMap c8⟩ (by simp))
  rw [← dg_val (tagE_len _ _)]
  exact (tagged_any s l (Nat.lt_trans hs (by decide)) hl A n c W hr hc (laid_of hL hKf)).mono fun e w' h => SX.plainOk rfl h
def KL (A : Option Addr) (n c : Nat) (ls : List Lk) (v : Value) (z : Nat) (xs : List Value) : Prop :=
  SX.SubK A n c 35 (lkL ls) v z xs ∨ (∃ y ∈ ls, v = y.hdr ∧ z = 1 ∧ xs = (sb y.tx).flatMap c8) ∨ (v = .slice (some ⟨0, 0, none⟩) 1 1 ∧ z = 8 ∧ xs = startS.cells) ∨ (v = .slice (some ⟨1, 0, none⟩) 64 64 ∧ z = 1 ∧ xs = numbersK.flatMap c32)
theorem KL_laid (A : Option Addr) (n c : Nat) (ls : List Lk) : LaidK (KL A n c ls) := ⟨.inr (.inr (.inl ⟨rfl, rfl, rfl⟩)), .inr (.inr (.inr ⟨rfl, rfl, rfl⟩))⟩
theorem KL_rd {A : Option Addr} {n c : Nat} {ls : List Lk} {w W : World} (hW : Same [] w W) (hr : Rd w 35 A n (lkL ls)) (hd : ∀ z ∈ ls, z.rd w) (hlaid : Laid w) : ∀ s sz cells, KL A n c ls s sz cells → SX.Arg.rd W ⟨s, sz, cells⟩ := by
  rintro s sz cells (h | ⟨y, hy, rfl, rfl, rfl⟩ | ⟨rfl, rfl, rfl⟩ | ⟨rfl, rfl, rfl⟩)
  · exact SX.SubK.rd (hr.same0 hW) h
  · exact ⟨(hd y hy).1.same0 hW, (hd y hy).2⟩
  · exact ⟨hlaid.1.same0 hW, Nat.le_refl _⟩
  exact ⟨hlaid.2.same0 hW, Nat.le_refl _⟩
theorem KL_data {A : Option Addr} {n c : Nat} {ls : List Lk} {y : Lk} (h : y ∈ ls) : KL A n c ls y.hdr 1 ((sb y.tx).flatMap c8) := .inr (.inl ⟨y, h, rfl, rfl, rfl⟩)
theorem encLk_lt {z : Lk} (h : z.fit) : (encL (flLk z)).length < 2 ^ 44 := by
  have h1 := encL_len (flLk_fits h)
  have h2 : (flLk z).length = 4 := rfl
  have h3 := numB_len 9 (flLk z).length (by rw [h2]; omega)
  rw [h2] at h1
  simp only [encL, List.length_cons, List.length_append]
  omega
theorem headF_zero {ls : List Lk} (h : ls.length = 0) : headF ls = dgF (tagE (sb noneT) []) := by rw [List.length_eq_zero_iff.1 h]; rfl
def tree_head : SX.Tree :=
(.df (.len false) [(.q 0)] .one
(.df (.bin .eql 3) [(.q 1), (.i 0)] .one
(.br 2 []
(.df (.call 19 [.no, (.own 1 [])]) [(.k (.string ⟨#[110, 111, 110, 101]⟩)), (.k (.slice none 0 0))] (.ag 32)
(.ret (.a (SX.Y 3 0 32)) [] []))
(.df (.len false) [(.q 0)] .one
(.df (.bin .sub 3) [(.q 3), (.i 1)] .one
(.df .bnd [(.q 0), (.q 4)] .one
(.df (.elems 35 0 35) [(.q 0), (.q 4)] (.ag 35)
(.df (.call 29 [(.own 1 (SX.Y 6 2 32))]) [(.sl 1 2 32 32)] (.ag 4)
(.df (.call 29 [(.ext 1)]) [(.x 6 [34])] (.ag 4)
(.df (.callg 26 [.no] [(.own 4 [(.i 1), (.x 6 [0]), (.k (.string ⟨#[]⟩)), (.k (.slice none 0 0)), (.i 1), (.x 6 [1]), (.k (.string ⟨#[]⟩)), (.k (.slice none 0 0)), (.x 7 [0]), (.x 7 [1]), (.x 7 [2]), (.x 7 [3]), (.x 8 [0]), (.x 8 [1]), (.x 8 [2]), (.x 8 [3])])]) [(.a [(.i 3), (.i 0), (.k (.string ⟨#[]⟩)), (.sl 14 0 4 4)]), (.sl 14 0 4 4)] (.tp [(.sl 1), .one])
(.df (.call 19 [.no, (.row 1 [(.x 9 [0])])]) [(.k (.string ⟨#[108, 105, 110, 107]⟩)), (.row 16)] (.ag 32)
(.ret (.a (SX.Y 10 0 32)) [] []))))))))))))
def args_head : List SX.V := [.x 0 []]
set_option maxRecDepth 100000 in
theorem run_head (K A : Value → Nat → List Value → Prop) : (SX.run (cxQ1 K A) ⟨fun f => true, [], 0, 100⟩ 100000 0 (SX.door 15 Tryd.f15 args_head [.one]) [.code (Tryd.f15.body.getD .skip), .top Tryd.f15]).strip = tree_head := by kernel_rfl
set_option maxRecDepth 100000 in
set_option maxHeartbeats 4000000 in
theorem head_any (ls : List Lk) (A : Option Addr) (n c : Nat) (w : World) (hr : Rd w 35 A n (lkL ls)) (hc : n ≤ c) (hn : n ≤ 4611686018427387904) (hd : ∀ z ∈ ls, z.rd w) (hfit : ∀ z ∈ ls, z.fit) (hlaid : Laid w) : Calls Tryd.prog 15 #[.slice A n c] w fun e w' => e = .returned (dgV (headF ls)) ∧ Below w.heap.size w w' := by
  refine SX.calls_of_run (C := cxQ1 (KL A n c ls) (fun _ _ _ => False)) (G := ⟨fun f => true, [], 0, 100⟩) (args := args_head) (sh := [.one]) (ρ := [.slice A n c]) 100000 tree_head (okQ1 _ _) Tryd.func15 rfl (run_head _ _) (by kernel_rfl) (by kernel_rfl) (by kernel_rfl) ?_ ?_
  · exact fun W hW => KL_rd hW hr hd hlaid
  have hA := SX.rd_some hr
  have hlc : (lkL ls).length = n * 35 := hr.1
  have hln : ls.length = n := by rw [lkL_len] at hlc; omega
  unfold tree_head
  refine SX.D (.int .i64 (((n : Nat) : Int))) ?_
  refine SX.D (.bool ((((n : Nat) : Int) : Int) == 0)) ?_
  refine SX.B ((((n : Nat) : Int) : Int) == 0) (fun h2 => ?_) (fun h2 => ?_)
  · try simp only [NRM] at h2
    refine SX.VC_df (dgV (dgF (tagE (sb noneT) []))) (fun α => ⟨[⟨.string noneT, 0, []⟩, ⟨.slice none 0 0, 1, ([] : List W8).flatMap c8⟩], ⟨by kernel_rfl, by kernel_rfl, by kernel_rfl, trivial⟩, .inr (.inr (⟨rfl, KL_laid _ _ _ _, noneT, _, [], rfl, by decide, by decide, rfl⟩)), SX.noAli rfl⟩) (dgV_fit _) ?_
    exact SX.F (dgV (dgF (tagE (sb noneT) []))) (by rw [headF_zero (by (try simp at h2); omega)])
  try simp only [NRM] at h2
  refine SX.D (.int .i64 (((n : Nat) : Int))) ?_
  refine SX.E (.int .i64 (((n - 1 : Nat) : Int))) (fun α => Eq.trans (b := some (.int .i64 (IntKind.i64.wrap ((n : Nat) - 1)))) (by kernel_rfl) (by rw [show ((n - 1 : Nat) : Int) = ((n : Nat) : Int) - 1 by omega, wrap_i64 (by omega) (by omega)])) ?_
  have hpos : 0 < n := by (try simp at h2); omega
  obtain ⟨z, hz⟩ : ∃ z, ls[n - 1]? = some z := ⟨_, List.getElem?_eq_getElem (by omega)⟩
  have hzm := List.mem_of_getElem? hz
  refine SX.E (.bool true) (fun α => SX.extBnd (A := A) (n := n) (c := c) (j := n - 1) hA (by kernel_rfl) (by kernel_rfl) (by omega)) ?_
  refine SX.E (.agg (cellsLk z).toArray) (fun α => SX.extElems (f := cellsLk) (l := ls) (A := A) (n := n) (c := c) (j := n - 1) (z := z) (fun _ => rfl) hA (by kernel_rfl) (by kernel_rfl) (by omega) (.inl (SX.SubK.full hlc hc)) hz) ?_
  refine SX.E (.agg #[.int .i64 2, .int .i64 0, .string ((bt (dgL z.prev))), (.slice none 0 0)]) (fun α => ⟨[⟨.slice (some ⟨(α 1).b, 2, none⟩) 32 32, 1, (dgL z.prev).flatMap c8⟩], ⟨by kernel_rfl, trivial⟩, .inl ⟨rfl, _, dgL z.prev, rfl, rfl⟩, SX.noAli rfl⟩) ?_
  refine SX.E (.agg #[.int .i64 2, .int .i64 0, .string z.tx, (.slice none 0 0)]) (fun α => ⟨[⟨z.hdr, 1, (sb z.tx).flatMap c8⟩], ⟨by kernel_rfl, by kernel_rfl, KL_data hzm, trivial⟩, .inl ⟨rfl, _, sb z.tx, rfl, by rw [bt_sb]⟩, SX.noAli rfl⟩) ?_
  refine SX.VC_df (.tuple #[Value.agg ((encL (flLk z)).flatMap c8).toArray, .int .i64 0]) (fun α => ⟨[⟨.agg #[.int .i64 3, .int .i64 0, .string ⟨#[]⟩, .slice (some ⟨(α 14).b, 0, none⟩) 4 4], 0, []⟩], [⟨.slice (some ⟨(α 14).b, 0, none⟩) 4 4, 4, flL (flLk z)⟩], ⟨by kernel_rfl, by kernel_rfl, trivial⟩, ⟨by kernel_rfl, trivial⟩, .inr (.inl ⟨rfl, _, flLk z, rfl, .inr (by simp), (by show (4 : Nat) ≤ _; decide), flLk_fits (hfit z hzm), rfl⟩), SX.noAli rfl⟩) ((enc_fit _ _)) ?_
  refine SX.VC_df (dgV (dgF (tagE (sb linkT) (encL (flLk z))))) (fun α => ⟨[⟨.string linkT, 0, []⟩, ⟨(α 16).h, 1, (encL (flLk z)).flatMap c8⟩], ⟨by kernel_rfl, by kernel_rfl, Eq.trans (b := (⟨(α 16).h, 1, [Value.agg ((encL (flLk z)).flatMap c8).toArray].flatMap SX.cellsV⟩ : SX.Arg)) (by simp [SX.cellsV]) (by kernel_rfl), trivial⟩, .inr (.inr (⟨rfl, KL_laid _ _ _ _, linkT, _, encL (flLk z), rfl, by decide, encLk_lt (hfit z hzm), rfl⟩)), SX.noAli rfl⟩) (dgV_fit _) ?_
  exact SX.F (dgV (dgF (tagE (sb linkT) (encL (flLk z))))) (by rw [headF_last (by rw [hln]; exact hz)])
theorem w8_map_inj : ∀ a b : List W8, a.map w8 = b.map w8 → a = b := fun a b h => (List.map_inj_right fun x y e => by
  have : (x.toNat : Int) = (y.toNat : Int) := by simpa [w8] using e
  exact BitVec.eq_of_toNat_eq (by omega)).1 h
theorem KL_take {A : Option Addr} {n c i : Nat} {ls : List Lk} (hi : i ≤ n) (hc : n ≤ c) : KL A n c ls (SX.subS A 35 0 i c) 35 (lkL (ls.take i)) := .inl (by
  have := SX.SubK.part (f := cellsLk) (sz := 35) cellsLk_len (A := A) (n := n) (c := c) (L := ls) (l := 0) (h := i) (m := c) (by omega) hi (by omega) (by omega)
  exact (by simpa using this : SX.SubK A n c 35 (ls.flatMap cellsLk) (SX.subS A 35 0 i c) 35 ((ls.take i).flatMap cellsLk)))
def okAt (ls : List Lk) (i : Nat) (z : Lk) : Prop := (∃ z0, ls[0]? = some z0 ∧ z.node = z0.node) ∧ 0 ≤ z.node ∧ z.node < 24 ∧ z.no = (i : Int) ∧ z.n ≤ 65536 ∧ dgL z.prev = dgL (headF (ls.take i))
def okTo (ls : List Lk) (k : Nat) : Prop := ∀ (i : Nat) (z : Lk), i < k → ls[i]? = some z → okAt ls i z
noncomputable def chkE (ls : List Lk) : Int := if 1024 < ls.length then 2 else @ite Int (okTo ls ls.length) (Classical.propDecidable _) 0 80
theorem chkE_big {ls : List Lk} (h : 1024 < ls.length) : chkE ls = 2 := by unfold chkE; rw [if_pos h]
theorem chkE_ok {ls : List Lk} (h : ¬ 1024 < ls.length) (h2 : okTo ls ls.length) : chkE ls = 0 := by unfold chkE; rw [if_neg h, if_pos h2]
theorem chkE_no {ls : List Lk} (h : ¬ 1024 < ls.length) {i : Nat} {z : Lk} (hz : ls[i]? = some z) (h2 : ¬ okAt ls i z) : chkE ls = 80 := by
  unfold chkE
  rw [if_neg h, if_neg fun hk => h2 (hk i z (List.getElem?_eq_some_iff.1 hz).1 hz)]
theorem okTo_zero (ls : List Lk) : okTo ls 0 := fun i z h => absurd h (Nat.not_lt_zero _)
theorem okTo_succ {ls : List Lk} {i : Nat} {z : Lk} (h : okTo ls i) (hz : ls[i]? = some z) (h2 : okAt ls i z) : okTo ls (i + 1) := fun j y hj hy => by
  by_cases e : j = i
  · subst e; rw [hz] at hy; cases hy; exact h2
  exact h j y (by omega) hy
def RQ2 (K : Value → Nat → List Value → Prop) (f : FuncId) (xs : List SX.Arg) (v : Value) : Prop :=
  (f = 15 ∧ ∃ (u : Value) (ls : List Lk), xs = [⟨u, 35, lkL ls⟩] ∧ LaidK K ∧ ls.length ≤ 4611686018427387904 ∧ (∀ z ∈ ls, z.kn K ∧ z.fit) ∧ v = dgV (headF ls))
def shpQ2 : FuncId → Option SX.Sh := fun f => if f = 15 then some (.ag 32) else none
noncomputable def cxQ2 (K A : Value → Nat → List Value → Prop) : SX.Cx := { P := Tryd.prog, R := RQ2, shp := shpQ2, K := K, A := A, trm := true }
theorem okQ2 (K A : Value → Nat → List Value → Prop) : (cxQ2 K A).Ok := by
  refine SX.Cx.ok_of (fun _ => rfl) ?_
  intro K f xs v W hR hrd hKf
  rcases hR with ⟨rfl, u, ls, rfl, hL, hb, hk, rfl⟩
  obtain ⟨A, n, c, rfl, hr, hc, hln⟩ := lk_arg (hrd ⟨u, 35, lkL ls⟩ (by simp))
  exact (head_any ls A n c W hr hc (by omega) (fun z hz => (hk z hz).1.rd hKf) (fun z hz => (hk z hz).2) (laid_of hL hKf)).mono fun e w' h => SX.plainOk rfl h
def tree_check : SX.Tree :=
(.df (.len false) [(.q 0)] .one
(.df (.bin .gtr 3) [(.q 1), (.i 1024)] .one
(.br 2 []
(.ret (.i 2) [] [])
(.df (.len false) [(.q 0)] .one
(.loop [(.i 0), (.i 0)] [.one, .one]
(.df (.bin .lss 3) [(.q 4), (.q 3)] .one
(.br 6 []
(.df .bnd [(.q 0), (.q 4)] .one
(.df (.elems 35 0 35) [(.q 0), (.q 4)] (.ag 35)
(.df (.slc false 35 false true false) [(.q 0), (.q 4)] .one
(.df (.call 15 [(.ext 35)]) [(.q 9)] (.ag 32)
(.df .bnd [(.q 0), (.i 0)] .one
(.df .bnd [(.q 0), (.i 0)] .one
(.df (.elem 35 0) [(.q 0), (.i 0)] .one
(.df (.bin .neq 3) [(.x 8 [0]), (.q 13)] .one
(.br 14 []
(.ret (.i 80) [] [])
(.df (.bin .lss 3) [(.x 8 [0]), (.i 0)] .one
(.br 15 []
(.ret (.i 80) [] [])
(.df (.bin .geq 3) [(.x 8 [0]), (.i 24)] .one
(.br 16 []
(.ret (.i 80) [] [])
(.df (.bin .neq 3) [(.x 8 [1]), (.q 5)] .one
(.br 17 []
(.ret (.i 80) [] [])
(.df (.len false) [(.x 8 [34])] .one
(.df (.bin .gtr 3) [(.q 18), (.i 65536)] .one
(.br 19 []
(.ret (.i 80) [] [])
(.df (.eqr true 32 [(.i .u8), (.i .u8), (.i .u8), (.i .u8), (.i .u8), (.i .u8), (.i .u8), (.i .u8), (.i .u8), (.i .u8), (.i .u8), (.i .u8), (.i .u8), (.i .u8), (.i .u8), (.i .u8), (.i .u8), (.i .u8), (.i .u8), (.i .u8), (.i .u8), (.i .u8), (.i .u8), (.i .u8), (.i .u8), (.i .u8), (.i .u8), (.i .u8), (.i .u8), (.i .u8), (.i .u8), (.i .u8)]) (SX.Y 8 2 32 ++ SX.Y 10 0 32) .one
(.br 20 []
(.ret (.i 80) [] [])
(.df (.bin .add 3) [(.q 5), (.i 1)] .one
(.df (.bin .add 3) [(.q 4), (.i 1)] .one
(.again 0 [(.q 22), (.q 21)])))))))))))))))))))))))
(.ret (.i 0) [] []))))))))
def args_check : List SX.V := [.x 0 []]
set_option maxRecDepth 100000 in
theorem run_check (K A : Value → Nat → List Value → Prop) : (SX.run (cxQ2 K A) ⟨fun f => true, [⟨37, 1, [(.s 7, .one), (.c 2 0, .one)]⟩], 0, 100⟩ 100000 0 (SX.door 16 Tryd.f16 args_check [.one]) [.code (Tryd.f16.body.getD .skip), .top Tryd.f16]).strip = tree_check := by kernel_rfl
set_option maxRecDepth 100000 in
set_option maxHeartbeats 4000000 in
theorem check_any (ls : List Lk) (A : Option Addr) (n c : Nat) (w : World) (hr : Rd w 35 A n (lkL ls)) (hc : n ≤ c) (hn : n ≤ 4611686018427387904) (hd : ∀ z ∈ ls, z.rd w) (hfit : ∀ z ∈ ls, z.fit) (hlaid : Laid w) : Calls Tryd.prog 16 #[.slice A n c] w fun e w' => e = .returned (.int .i64 (chkE ls)) ∧ Below w.heap.size w w' := by
  refine SX.calls_of_run (C := cxQ2 (KL A n c ls) (fun _ _ _ => False)) (G := ⟨fun f => true, [⟨37, 1, [(.s 7, .one), (.c 2 0, .one)]⟩], 0, 100⟩) (args := args_check) (sh := [.one]) (ρ := [.slice A n c]) 100000 tree_check (okQ2 _ _) Tryd.func16 rfl (run_check _ _) (by kernel_rfl) (by kernel_rfl) (by kernel_rfl) ?_ ?_
  · exact fun W hW => KL_rd hW hr hd hlaid
  have hA := SX.rd_some hr
  have hlc : (lkL ls).length = n * 35 := hr.1
  have hln : ls.length = n := by rw [lkL_len] at hlc; omega
  unfold tree_check
  refine SX.D (.int .i64 (((n : Nat) : Int))) ?_
  refine SX.D (.bool (decide (((n : Nat) : Int) > 1024))) ?_
  refine SX.B (decide (((n : Nat) : Int) > 1024)) (fun h2 => ?_) (fun h2 => ?_)
  · try simp only [NRM] at h2
    exact SX.F (.int .i64 2) (by rw [chkE_big (by (try simp at h2); omega)])
  try simp only [NRM] at h2
  refine SX.D (.int .i64 (((n : Nat) : Int))) ?_
  refine SX.VC_loop (fun xs => ∃ (i : Nat), xs = [.int .i64 (i : Int), .int .i64 (i : Int)] ∧ i ≤ n ∧ okTo ls i) (fun xs => match xs with | .int _ i :: _ => n - i.toNat | _ => 0) (fun α => ⟨0, by kernel_rfl, by omega, okTo_zero ls⟩) ?_
  rintro xs - ⟨i, rfl, hin, hok⟩
  refine SX.D (.bool (decide (((i : Nat) : Int) < ((n : Nat) : Int)))) ?_
  refine SX.B (decide (((i : Nat) : Int) < ((n : Nat) : Int))) (fun h6 => ?_) (fun h6 => ?_)
  · try simp only [NRM] at h6
    obtain ⟨z, hz⟩ : ∃ z, ls[i]? = some z := ⟨_, List.getElem?_eq_getElem (by (try simp at h6); omega)⟩
    have hzm := List.mem_of_getElem? hz
    have hin2 : i < n := by (try simp at h6); omega
    refine SX.E (.bool true) (fun α => SX.extBnd (A := A) (n := n) (c := c) (j := i) hA (by kernel_rfl) (by kernel_rfl) (by omega)) ?_
    refine SX.E (.agg (cellsLk z).toArray) (fun α => SX.extElems (f := cellsLk) (l := ls) (A := A) (n := n) (c := c) (j := i) (z := z) (fun _ => rfl) hA (by kernel_rfl) (by kernel_rfl) (by omega) (.inl (SX.SubK.full hlc hc)) hz) ?_
    refine SX.E ((SX.subS A 35 0 i c)) (fun α => SX.slc_hi (A := A) (n := n) (c := c) (k := i) (by kernel_rfl) (by kernel_rfl) (by omega)) ?_
    refine SX.VC_df (dgV (headF (ls.take i))) (fun α => ⟨[⟨(SX.subS A 35 0 i c), 35, lkL (ls.take i)⟩], ⟨by kernel_rfl, by kernel_rfl, KL_take (by omega) hc, trivial⟩, ⟨rfl, _, ls.take i, rfl, KL_laid _ _ _ _, by rw [List.length_take]; omega, fun y hy => ⟨.inl (KL_data (List.mem_of_mem_take hy)), hfit y (List.mem_of_mem_take hy)⟩, rfl⟩, SX.noAli rfl⟩) (dgV_fit _) ?_
    obtain ⟨z0, hz0⟩ : ∃ z0, ls[0]? = some z0 := ⟨_, List.getElem?_eq_getElem (by omega)⟩
    refine SX.E (.bool true) (fun α => SX.extBnd (A := A) (n := n) (c := c) (j := 0) hA (by kernel_rfl) (by kernel_rfl) (by omega)) ?_
    refine SX.E (.bool true) (fun α => SX.extBnd (A := A) (n := n) (c := c) (j := 0) hA (by kernel_rfl) (by kernel_rfl) (by omega)) ?_
    refine SX.E (.int .i64 z0.node) (fun α => SX.extElem (o := 0) (v := .int .i64 z0.node) (f := cellsLk) (l := ls) (A := A) (n := n) (c := c) (j := 0) (z := z0) (fun _ => rfl) hA (by kernel_rfl) (by kernel_rfl) (by omega) (.inl (SX.SubK.full hlc hc)) hz0 (by decide) (by kernel_rfl)) ?_
    refine SX.D (.bool ((z.node : Int) != z0.node)) ?_
    refine SX.B ((z.node : Int) != z0.node) (fun h14 => ?_) (fun h14 => ?_)
    · try simp only [NRM] at h14
      exact SX.F (.int .i64 80) (by rw [chkE_no (by (try simp at h2); omega) hz fun hk => by obtain ⟨⟨y, hy, k1⟩, k2, k3, k4, k5, k6⟩ := hk; rw [hz0] at hy; cases hy; (try simp at h14); first | omega | exact h14 k1 | exact h14 k4 | exact h14 k6 | simp_all])
    try simp only [NRM] at h14
    refine SX.D (.bool (decide (z.node < 0))) ?_
    refine SX.B (decide (z.node < 0)) (fun h15 => ?_) (fun h15 => ?_)
    · try simp only [NRM] at h15
      exact SX.F (.int .i64 80) (by rw [chkE_no (by (try simp at h2); omega) hz fun hk => by obtain ⟨⟨y, hy, k1⟩, k2, k3, k4, k5, k6⟩ := hk; rw [hz0] at hy; cases hy; (try simp at h15); first | omega | exact h15 k1 | exact h15 k4 | exact h15 k6 | simp_all])
    try simp only [NRM] at h15
    refine SX.D (.bool (decide (z.node ≥ 24))) ?_
    refine SX.B (decide (z.node ≥ 24)) (fun h16 => ?_) (fun h16 => ?_)
    · try simp only [NRM] at h16
      exact SX.F (.int .i64 80) (by rw [chkE_no (by (try simp at h2); omega) hz fun hk => by obtain ⟨⟨y, hy, k1⟩, k2, k3, k4, k5, k6⟩ := hk; rw [hz0] at hy; cases hy; (try simp at h16); first | omega | exact h16 k1 | exact h16 k4 | exact h16 k6 | simp_all])
    try simp only [NRM] at h16
    refine SX.D (.bool ((z.no : Int) != ((i : Nat) : Int))) ?_
    refine SX.B ((z.no : Int) != ((i : Nat) : Int)) (fun h17 => ?_) (fun h17 => ?_)
    · try simp only [NRM] at h17
      exact SX.F (.int .i64 80) (by rw [chkE_no (by (try simp at h2); omega) hz fun hk => by obtain ⟨⟨y, hy, k1⟩, k2, k3, k4, k5, k6⟩ := hk; rw [hz0] at hy; cases hy; (try simp at h17); first | omega | exact h17 k1 | exact h17 k4 | exact h17 k6 | simp_all])
    try simp only [NRM] at h17
    refine SX.D (.int .i64 (((z.n : Nat) : Int))) ?_
    refine SX.D (.bool (decide (((z.n : Nat) : Int) > 65536))) ?_
    refine SX.B (decide (((z.n : Nat) : Int) > 65536)) (fun h19 => ?_) (fun h19 => ?_)
    · try simp only [NRM] at h19
      exact SX.F (.int .i64 80) (by rw [chkE_no (by (try simp at h2); omega) hz fun hk => by obtain ⟨⟨y, hy, k1⟩, k2, k3, k4, k5, k6⟩ := hk; rw [hz0] at hy; cases hy; (try simp at h19); first | omega | exact h19 k1 | exact h19 k4 | exact h19 k6 | simp_all])
    try simp only [NRM] at h19
    refine SX.E (.bool (true ^^ decide (dgL z.prev = dgL (headF (ls.take i))))) (fun α => SX.eqr_rel (f := (fun l : List W8 => l.map w8)) w8_map_inj (y := dgL z.prev) (z := dgL (headF (ls.take i))) (by kernel_rfl) (by kernel_rfl) (by kernel_rfl)) ?_
    refine SX.B (true ^^ decide (dgL z.prev = dgL (headF (ls.take i)))) (fun h20 => ?_) (fun h20 => ?_)
    · try simp only [NRM] at h20
      exact SX.F (.int .i64 80) (by rw [chkE_no (by (try simp at h2); omega) hz fun hk => by obtain ⟨⟨y, hy, k1⟩, k2, k3, k4, k5, k6⟩ := hk; rw [hz0] at hy; cases hy; (try simp at h20); first | omega | exact h20 k1 | exact h20 k4 | exact h20 k6 | simp_all])
    try simp only [NRM] at h20
    refine SX.E (.int .i64 (((i + 1 : Nat) : Int))) (fun α => SX.W1 i) ?_
    refine SX.E (.int .i64 (((i + 1 : Nat) : Int))) (fun α => SX.W1 i) ?_
    exact SX.VC_again fun α => ⟨⟨i + 1, by kernel_rfl, by omega, okTo_succ hok hz ⟨⟨z0, hz0, by (try simp at h14); first | exact h14 | omega⟩, by (try simp at h15); omega, by (try simp at h16); omega, by (try simp at h17); first | exact h17 | omega, by (try simp at h19); omega, by simpa using h20⟩⟩, cast (by kernel_rfl) (show n - ((i + 1 : Nat) : Int).toNat < n - (i : Int).toNat by omega)⟩
  try simp only [NRM] at h6
  exact SX.F (.int .i64 0) (by rw [chkE_ok (by (try simp at h2); omega) (by rw [hln, show n = i by (try simp at h6); omega]; exact hok)])
def slE (y z : Lk) : Prop := y.node = z.node ∧ y.no = z.no ∧ dgL y.prev = dgL z.prev ∧ y.tx = z.tx
instance (y z : Lk) : Decidable (slE y z) := by unfold slE; infer_instance
def KY (y z : Lk) (s : Value) (sz : Nat) (xs : List Value) : Prop := (s = y.hdr ∧ sz = 1 ∧ xs = (sb y.tx).flatMap c8) ∨ (s = z.hdr ∧ sz = 1 ∧ xs = (sb z.tx).flatMap c8)
def tree_psl : SX.Tree :=
(.df (.bin .eql 3) [(.x 0 [0]), (.x 1 [0])] .one
(.br 2 []
(.df (.bin .eql 3) [(.x 0 [1]), (.x 1 [1])] .one
(.br 3 []
(.df (.eqr false 32 [(.i .u8), (.i .u8), (.i .u8), (.i .u8), (.i .u8), (.i .u8), (.i .u8), (.i .u8), (.i .u8), (.i .u8), (.i .u8), (.i .u8), (.i .u8), (.i .u8), (.i .u8), (.i .u8), (.i .u8), (.i .u8), (.i .u8), (.i .u8), (.i .u8), (.i .u8), (.i .u8), (.i .u8), (.i .u8), (.i .u8), (.i .u8), (.i .u8), (.i .u8), (.i .u8), (.i .u8), (.i .u8)]) (SX.Y 0 2 32 ++ SX.Y 1 2 32) .one
(.br 4 []
(.df .b2sx [(.x 0 [34])] .one
(.df .b2sx [(.x 1 [34])] .one
(.df (.bin .eql 9) [(.q 5), (.q 6)] .one
(.ret (.q 7) [] []))))
(.ret (.k (.bool false)) [] [])))
(.ret (.k (.bool false)) [] [])))
(.ret (.k (.bool false)) [] [])))
def args_psl : List SX.V := [.a ((List.range 35).map fun j => .x 0 [j]), .a ((List.range 35).map fun j => .x 1 [j])]
set_option maxRecDepth 100000 in
theorem run_psl (K A : Value → Nat → List Value → Prop) : (SX.run (cx0 K A) ⟨fun f => true, [], 0, 100⟩ 100000 0 (SX.door 24 Tryd.f24 args_psl [.ag 35, .ag 35]) [.code (Tryd.f24.body.getD .skip), .top Tryd.f24]).strip = tree_psl := by kernel_rfl
set_option maxRecDepth 100000 in
set_option maxHeartbeats 4000000 in
theorem psl_any (y z : Lk) (w : World) (hy : y.rd w) (hz : z.rd w) : Calls Tryd.prog 24 #[valLk y, valLk z] w fun e w' => e = .returned (.bool (decide (slE y z))) ∧ Below w.heap.size w w' := by
  refine SX.calls_of_run (C := cx0 (KY y z) (fun _ _ _ => False)) (G := ⟨fun f => true, [], 0, 100⟩) (args := args_psl) (sh := [.ag 35, .ag 35]) (ρ := [valLk y, valLk z]) 100000 tree_psl (cx0_ok _ _) Tryd.func24 rfl (run_psl _ _) (by kernel_rfl) (by kernel_rfl) (by kernel_rfl) ?_ ?_
  · rintro W hW s sz cells (⟨rfl, rfl, rfl⟩ | ⟨rfl, rfl, rfl⟩)
    · exact ⟨hy.1.same0 hW, hy.2⟩
    exact ⟨hz.1.same0 hW, hz.2⟩
  unfold tree_psl
  refine SX.D (.bool ((y.node : Int) == z.node)) ?_
  refine SX.B ((y.node : Int) == z.node) (fun h2 => ?_) (fun h2 => ?_)
  · try simp only [NRM] at h2
    refine SX.D (.bool ((y.no : Int) == z.no)) ?_
    refine SX.B ((y.no : Int) == z.no) (fun h3 => ?_) (fun h3 => ?_)
    · try simp only [NRM] at h3
      refine SX.E (.bool (false ^^ decide (dgL y.prev = dgL z.prev))) (fun α => SX.eqr_rel (f := (fun l : List W8 => l.map w8)) w8_map_inj (y := dgL y.prev) (z := dgL z.prev) (by kernel_rfl) (by kernel_rfl) (by kernel_rfl)) ?_
      refine SX.B (false ^^ decide (dgL y.prev = dgL z.prev)) (fun h4 => ?_) (fun h4 => ?_)
      · try simp only [NRM] at h4
        refine SX.E (.string y.tx) (fun α => ⟨y.tx.data.toList, y.A, y.n, y.c, by rw [sb_l]; exact .inl ⟨rfl, rfl, rfl⟩, by kernel_rfl, by simp⟩) ?_
        refine SX.E (.string z.tx) (fun α => ⟨z.tx.data.toList, z.A, z.n, z.c, by rw [sb_l]; exact .inr ⟨rfl, rfl, rfl⟩, by kernel_rfl, by simp⟩) ?_
        refine SX.D (.bool (decide (y.tx = z.tx))) ?_
        exact SX.F (.bool (decide (y.tx = z.tx))) (by rw [show decide (slE y z) = decide (y.tx = z.tx) from by by_cases hq : y.tx = z.tx <;> simp_all [slE]])
      try simp only [NRM] at h4
      exact SX.F (.bool false) (by rw [decide_eq_false fun hk => by obtain ⟨k1, k2, k3, k4⟩ := hk; (try simp at h4); first | omega | exact h4 k1 | exact h4 k2 | exact h4 k3 | simp_all])
    try simp only [NRM] at h3
    exact SX.F (.bool false) (by rw [decide_eq_false fun hk => by obtain ⟨k1, k2, k3, k4⟩ := hk; (try simp at h3); first | omega | exact h3 k1 | exact h3 k2 | exact h3 k3 | simp_all])
  try simp only [NRM] at h2
  exact SX.F (.bool false) (by rw [decide_eq_false fun hk => by obtain ⟨k1, k2, k3, k4⟩ := hk; (try simp at h2); first | omega | exact h2 k1 | exact h2 k2 | exact h2 k3 | simp_all])
def tree_rsl : SX.Tree :=
(.df (.bin .eql 3) [(.x 0 [0]), (.x 1 [0])] .one
(.br 2 []
(.df (.bin .eql 3) [(.x 0 [1]), (.x 1 [1])] .one
(.br 3 []
(.df (.eqr false 32 [(.i .u8), (.i .u8), (.i .u8), (.i .u8), (.i .u8), (.i .u8), (.i .u8), (.i .u8), (.i .u8), (.i .u8), (.i .u8), (.i .u8), (.i .u8), (.i .u8), (.i .u8), (.i .u8), (.i .u8), (.i .u8), (.i .u8), (.i .u8), (.i .u8), (.i .u8), (.i .u8), (.i .u8), (.i .u8), (.i .u8), (.i .u8), (.i .u8), (.i .u8), (.i .u8), (.i .u8), (.i .u8)]) (SX.Y 0 2 32 ++ SX.Y 1 2 32) .one
(.br 4 []
(.df .b2sx [(.x 0 [34])] .one
(.df .b2sx [(.x 1 [34])] .one
(.df (.bin .eql 9) [(.q 5), (.q 6)] .one
(.ret (.q 7) [] []))))
(.ret (.k (.bool false)) [] [])))
(.ret (.k (.bool false)) [] [])))
(.ret (.k (.bool false)) [] [])))
def args_rsl : List SX.V := [.a ((List.range 35).map fun j => .x 0 [j]), .a ((List.range 35).map fun j => .x 1 [j])]
set_option maxRecDepth 100000 in
theorem run_rsl (K A : Value → Nat → List Value → Prop) : (SX.run (cx0 K A) ⟨fun f => true, [], 0, 100⟩ 100000 0 (SX.door 18 Tryd.f18 args_rsl [.ag 35, .ag 35]) [.code (Tryd.f18.body.getD .skip), .top Tryd.f18]).strip = tree_rsl := by kernel_rfl
set_option maxRecDepth 100000 in
set_option maxHeartbeats 4000000 in
theorem rsl_any (y z : Lk) (w : World) (hy : y.rd w) (hz : z.rd w) : Calls Tryd.prog 18 #[valLk y, valLk z] w fun e w' => e = .returned (.bool (decide (slE y z))) ∧ Below w.heap.size w w' := by
  refine SX.calls_of_run (C := cx0 (KY y z) (fun _ _ _ => False)) (G := ⟨fun f => true, [], 0, 100⟩) (args := args_rsl) (sh := [.ag 35, .ag 35]) (ρ := [valLk y, valLk z]) 100000 tree_rsl (cx0_ok _ _) Tryd.func18 rfl (run_rsl _ _) (by kernel_rfl) (by kernel_rfl) (by kernel_rfl) ?_ ?_
  · rintro W hW s sz cells (⟨rfl, rfl, rfl⟩ | ⟨rfl, rfl, rfl⟩)
    · exact ⟨hy.1.same0 hW, hy.2⟩
    exact ⟨hz.1.same0 hW, hz.2⟩
  unfold tree_rsl
  refine SX.D (.bool ((y.node : Int) == z.node)) ?_
  refine SX.B ((y.node : Int) == z.node) (fun h2 => ?_) (fun h2 => ?_)
  · try simp only [NRM] at h2
    refine SX.D (.bool ((y.no : Int) == z.no)) ?_
    refine SX.B ((y.no : Int) == z.no) (fun h3 => ?_) (fun h3 => ?_)
    · try simp only [NRM] at h3
      refine SX.E (.bool (false ^^ decide (dgL y.prev = dgL z.prev))) (fun α => SX.eqr_rel (f := (fun l : List W8 => l.map w8)) w8_map_inj (y := dgL y.prev) (z := dgL z.prev) (by kernel_rfl) (by kernel_rfl) (by kernel_rfl)) ?_
      refine SX.B (false ^^ decide (dgL y.prev = dgL z.prev)) (fun h4 => ?_) (fun h4 => ?_)
      · try simp only [NRM] at h4
        refine SX.E (.string y.tx) (fun α => ⟨y.tx.data.toList, y.A, y.n, y.c, by rw [sb_l]; exact .inl ⟨rfl, rfl, rfl⟩, by kernel_rfl, by simp⟩) ?_
        refine SX.E (.string z.tx) (fun α => ⟨z.tx.data.toList, z.A, z.n, z.c, by rw [sb_l]; exact .inr ⟨rfl, rfl, rfl⟩, by kernel_rfl, by simp⟩) ?_
        refine SX.D (.bool (decide (y.tx = z.tx))) ?_
        exact SX.F (.bool (decide (y.tx = z.tx))) (by rw [show decide (slE y z) = decide (y.tx = z.tx) from by by_cases hq : y.tx = z.tx <;> simp_all [slE]])
      try simp only [NRM] at h4
      exact SX.F (.bool false) (by rw [decide_eq_false fun hk => by obtain ⟨k1, k2, k3, k4⟩ := hk; (try simp at h4); first | omega | exact h4 k1 | exact h4 k2 | exact h4 k3 | simp_all])
    try simp only [NRM] at h3
    exact SX.F (.bool false) (by rw [decide_eq_false fun hk => by obtain ⟨k1, k2, k3, k4⟩ := hk; (try simp at h3); first | omega | exact h3 k1 | exact h3 k2 | exact h3 k3 | simp_all])
  try simp only [NRM] at h2
  exact SX.F (.bool false) (by rw [decide_eq_false fun hk => by obtain ⟨k1, k2, k3, k4⟩ := hk; (try simp at h2); first | omega | exact h2 k1 | exact h2 k2 | exact h2 k3 | simp_all])
def tree_clone : SX.Tree :=
(.df (.snil false) [(.q 0)] .one
(.br 1 []
(.ret (.k (.slice none 0 0)) [] [])
(.df (.app 1 1 (.ext 1)) [(.cat []), (.q 0)] .any
(.ret (.row 1) [none, (some ⟨[(.q 2)], 5, (.row 1)⟩)] []))))
def args_clone : List SX.V := [.x 0 []]
set_option maxRecDepth 100000 in
theorem run_clone (K A : Value → Nat → List Value → Prop) : (SX.run (cx0 K A) ⟨fun f => true, [], 2, 100⟩ 100000 0 (SX.door 20 Tryd.f20 args_clone [.one]) [.code (Tryd.f20.body.getD .skip), .top Tryd.f20]).strip = tree_clone := by kernel_rfl
set_option maxRecDepth 100000 in
set_option maxHeartbeats 4000000 in
theorem clone_any (l : List W8) (A : Option Addr) (n c : Nat) (w : World) (hr : Rd w 1 A n (l.flatMap c8)) (hc : n ≤ c) (hn : n ≤ 70368744177664) : Calls Tryd.prog 20 #[.slice A n c] w fun e w' => Below w.heap.size w w' ∧ ∃ hdr, e = .returned hdr ∧ SX.SlRet w w' [] hdr 1 (l.flatMap c8) := by
  refine SX.calls_of_run (C := cx0 (fun s sz cells => s = .slice A n c ∧ sz = 1 ∧ cells = l.flatMap c8) (fun _ _ _ => False)) (G := ⟨fun f => true, [], 2, 100⟩) (args := args_clone) (sh := [.one]) (ρ := [.slice A n c]) 100000 tree_clone (cx0_ok _ _) Tryd.func20 rfl (run_clone _ _) (by kernel_rfl) (by kernel_rfl) (by kernel_rfl) ?_ ?_
  · rintro W hW s sz cells ⟨rfl, rfl, rfl⟩; exact ⟨hr.same0 hW, hc⟩
  have hA := SX.rd_some hr
  have hln : l.length = n := by have := hr.1; rw [SX.flat_len c8_len] at this; omega
  unfold tree_clone
  refine SX.E (.bool (false ^^ A.isNone)) (fun α => ⟨A, n, c, by kernel_rfl, rfl⟩) ?_
  refine SX.B (false ^^ A.isNone) (fun h1 => ?_) (fun h1 => ?_)
  · have hA0 : A = none := by cases A <;> simp_all
    have hn0 : n = 0 := by
      rcases Nat.eq_zero_or_pos n with h | h
      · exact h
      · have := hA h; rw [hA0] at this; cases this
    have hl0 : l = [] := List.length_eq_zero_iff.1 (by omega)
    subst hl0
    exact SX.VC_ret fun α W _ _ hS => ⟨hS.below, _, rfl, SX.SlRet.nil⟩
  refine SX.VC_df (.agg (l.flatMap c8).toArray) (fun α => SX.app_rel (f := c8) (l1 := []) (l2 := l) c8_len c8o (by decide) (by kernel_rfl) (SX.src_ext ⟨rfl, rfl, rfl⟩) (by simp; omega) (by simp; omega)) rfl ?_
  exact SX.VC_ret fun α W _ hrow hS => ⟨hS.below, _, by kernel_rfl, SX.SlRet.row hS (n := 1) (b := (⟨[(.x 2 [])], 5, (.row 1)⟩ : SX.Blk)) (by kernel_rfl) rfl (hrow 1 _ (by kernel_rfl)) (Eq.trans (b := [Value.agg (l.flatMap c8).toArray].flatMap SX.cellsV) (by kernel_rfl) (by simp [SX.cellsV]))⟩
def badArg (ls : List Lk) (node : Int) (m : Nat) : Prop := node < 0 ∨ 24 ≤ node ∨ (∃ z0, ls[0]? = some z0 ∧ node ≠ z0.node) ∨ 65536 < m
noncomputable def addE (ls : List Lk) (node : Int) (m : Nat) : Int := if chkE ls ≠ 0 then chkE ls else @ite Int (badArg ls node m) (Classical.propDecidable _) 1 (if ls.length = 1024 then 2 else 0)
theorem addE_chk {ls : List Lk} {node : Int} {m : Nat} (h : chkE ls ≠ 0) : addE ls node m = chkE ls := by unfold addE; rw [if_pos h]
theorem addE_arg {ls : List Lk} {node : Int} {m : Nat} (h : chkE ls = 0) (h2 : badArg ls node m) : addE ls node m = 1 := by unfold addE; rw [if_neg (by rw [h]; simp), if_pos h2]
theorem addE_full {ls : List Lk} {node : Int} {m : Nat} (h : chkE ls = 0) (h2 : ¬ badArg ls node m) (h3 : ls.length = 1024) : addE ls node m = 2 := by unfold addE; rw [if_neg (by rw [h]; simp), if_neg h2, if_pos h3]
theorem addE_ok {ls : List Lk} {node : Int} {m : Nat} (h : chkE ls = 0) (h2 : ¬ badArg ls node m) (h3 : ls.length ≠ 1024) : addE ls node m = 0 := by unfold addE; rw [if_neg (by rw [h]; simp), if_neg h2, if_neg h3]
theorem chkE_len {ls : List Lk} (h : chkE ls = 0) : ls.length ≤ 1024 := by
  rcases Nat.lt_or_ge 1024 ls.length with h1 | h1
  · rw [chkE_big h1] at h; cases h
  exact h1
theorem not_bad {ls : List Lk} {node : Int} {m : Nat} (h1 : ¬ node < 0) (h2 : ¬ 24 ≤ node) (h3 : ∀ z0, ls[0]? = some z0 → node = z0.node) (h4 : ¬ 65536 < m) : ¬ badArg ls node m := by
  rintro (k | k | ⟨y, hy, k⟩ | k)
  · exact h1 k
  · exact h2 k
  · exact k (h3 y hy)
  exact h4 k
def KAd (A : Option Addr) (n c : Nat) (ls : List Lk) (B : Option Addr) (m d : Nat) (tx : ByteArray) (s : Value) (z : Nat) (xs : List Value) : Prop := KL A n c ls s z xs ∨ (s = .slice B m d ∧ z = 1 ∧ xs = (sb tx).flatMap c8)
theorem KAd_laid (A : Option Addr) (n c : Nat) (ls : List Lk) (B : Option Addr) (m d : Nat) (tx : ByteArray) : LaidK (KAd A n c ls B m d tx) := ⟨.inl (KL_laid A n c ls).1, .inl (KL_laid A n c ls).2⟩
theorem KP_full {A : Option Addr} {n c : Nat} {ls : List Lk} (hln : ls.length = n) (hc : n ≤ c) : SX.SubK A n c 35 (lkL ls) (SX.subS A 35 0 n n) 35 (ls.flatMap cellsLk) := by
  have := SX.SubK.part (f := cellsLk) (sz := 35) cellsLk_len (A := A) (n := n) (c := c) (L := ls) (l := 0) (h := n) (m := n) (by omega) (by omega) (by omega) (by omega)
  rw [List.drop_zero, Nat.sub_zero, List.take_of_length_le (by omega)] at this
  exact this
def RQ4 (K : Value → Nat → List Value → Prop) (f : FuncId) (xs : List SX.Arg) (v : Value) : Prop :=
  (f = 16 ∧ ∃ (u : Value) (ls : List Lk), xs = [⟨u, 35, lkL ls⟩] ∧ LaidK K ∧ ls.length ≤ 4611686018427387904 ∧ (∀ z ∈ ls, z.kn K ∧ z.fit) ∧ v = .int .i64 (chkE ls)) ∨
  (f = 15 ∧ ∃ (u : Value) (ls : List Lk), xs = [⟨u, 35, lkL ls⟩] ∧ LaidK K ∧ ls.length ≤ 4611686018427387904 ∧ (∀ z ∈ ls, z.kn K ∧ z.fit) ∧ v = dgV (headF ls))
def shpQ4 : FuncId → Option SX.Sh := fun f => if f = 16 then some .one else if f = 15 then some (.ag 32) else none
def RnC (K : Value → Nat → List Value → Prop) (f : FuncId) (xs : List SX.Arg) (Q : Value → List SX.Arg → Prop) : Prop := f = 20 ∧ ∃ (u : Value) (l : List W8), xs = [⟨u, 1, l.flatMap c8⟩] ∧ l.length ≤ 1048576 ∧ ∀ A n c, Q (.slice A n c) [⟨.slice A n c, 1, l.flatMap c8⟩]
noncomputable def cxQ4 (nb : Nat) (K A : Value → Nat → List Value → Prop) : SX.Cx := { nsh := fun f => if f = 20 then some .one else none, Rn := RnC, fr := [54], nb := nb, P := Tryd.prog, R := RQ4, shp := shpQ4, K := K, A := A }
theorem okQ4 (nb : Nat) (K A : Value → Nat → List Value → Prop) : (cxQ4 nb K A).Ok := by
  refine SX.Cx.ok_nd (fun _ => rfl) ?_ fun f sh hs K xs Q W h hrd hK => ?_
  case refine_2 =>
    obtain ⟨rfl, u, l, rfl, hl, hQ⟩ := h
    have hs : some SX.Sh.one = some sh := hs
    cases hs
    obtain ⟨A, n, c, rfl, hr, hc, hn⟩ := byte_arg (hrd ⟨u, 1, l.flatMap c8⟩ (by simp))
    refine (clone_any l A n c W hr hc (by omega)).mono fun e w' ⟨h1, hdr, h2, ⟨A2, n2, c2, h3, _⟩, h4, h5⟩ => ?_
    subst h3
    refine ⟨h1, _, _, h2, rfl, hQ A2 n2 c2, fun y hy => ?_⟩
    obtain rfl : y = ⟨.slice A2 n2 c2, 1, l.flatMap c8⟩ := by simpa using hy
    exact ⟨h4, h5.resolve_right fun ⟨y, hy, _⟩ => nomatch hy⟩
  intro K f xs v W hR hrd hKf
  rcases hR with ⟨rfl, u, ls, rfl, hL, hb, hk, rfl⟩ | ⟨rfl, u, ls, rfl, hL, hb, hk, rfl⟩
  · obtain ⟨A, n, c, rfl, hr, hc, hln⟩ := lk_arg (hrd ⟨u, 35, lkL ls⟩ (by simp))
    exact (check_any ls A n c W hr hc (by omega) (fun z hz => (hk z hz).1.rd hKf) (fun z hz => (hk z hz).2) (laid_of hL hKf)).mono fun e w' h => SX.plainOk rfl h
  obtain ⟨A, n, c, rfl, hr, hc, hln⟩ := lk_arg (hrd ⟨u, 35, lkL ls⟩ (by simp))
  exact (head_any ls A n c W hr hc (by omega) (fun z hz => (hk z hz).1.rd hKf) (fun z hz => (hk z hz).2) (laid_of hL hKf)).mono fun e w' h => SX.plainOk rfl h
def tree_add : SX.Tree :=
(.df (.call 16 [(.ext 35)]) [(.q 0)] .one
(.df (.bin .neq 26) [(.q 3), (.i 0)] .one
(.br 4 []
(.ret (.t [(.k (.slice none 0 0)), (.q 3)]) [] [])
(.df (.bin .lss 3) [(.q 1), (.i 0)] .one
(.br 5 []
(.ret (.t [(.k (.slice none 0 0)), (.i 1)]) [] [])
(.df (.bin .geq 3) [(.q 1), (.i 24)] .one
(.br 6 []
(.ret (.t [(.k (.slice none 0 0)), (.i 1)]) [] [])
(.df (.len false) [(.q 0)] .one
(.df (.bin .gtr 3) [(.q 7), (.i 0)] .one
(.br 8 []
(.df .bnd [(.q 0), (.i 0)] .one
(.df .bnd [(.q 0), (.i 0)] .one
(.df (.elem 35 0) [(.q 0), (.i 0)] .one
(.df (.bin .neq 3) [(.q 1), (.q 11)] .one
(.br 12 []
(.ret (.t [(.k (.slice none 0 0)), (.i 1)]) [] [])
(.df (.len false) [(.q 2)] .one
(.df (.bin .gtr 3) [(.q 13), (.i 65536)] .one
(.br 14 []
(.ret (.t [(.k (.slice none 0 0)), (.i 1)]) [] [])
(.df (.len false) [(.q 0)] .one
(.df (.bin .eql 3) [(.q 15), (.i 1024)] .one
(.br 16 []
(.ret (.t [(.k (.slice none 0 0)), (.i 2)]) [] [])
(.df (.len false) [(.q 0)] .one
(.df (.call 15 [(.ext 35)]) [(.q 0)] (.ag 32)
(.df (.callq 20 [(.ext 1)]) [(.q 2)] .one
(.df (.len false) [(.q 0)] .one
(.df (.len false) [(.q 0)] .one
(.df (.slc false 35 false true true) [(.q 0), (.q 20), (.q 21)] .one
(.df (.appx 35 72 true (.own 35 ([(.q 1), (.q 17)] ++ SX.Y 18 0 32 ++ [(.q 19)]))) [(.q 22), (.sl 8 0 1 1)] .any
(.ret (.t [(.row 9), (.i 0)]) (List.replicate 9 none ++ [(some ⟨[(.q 23)], 37, (.row 35)⟩), none, none]) [])))))))))))))))))))
(.df (.len false) [(.q 2)] .one
(.df (.bin .gtr 3) [(.q 9), (.i 65536)] .one
(.br 10 []
(.ret (.t [(.k (.slice none 0 0)), (.i 1)]) [] [])
(.df (.len false) [(.q 0)] .one
(.df (.bin .eql 3) [(.q 11), (.i 1024)] .one
(.br 12 []
(.ret (.t [(.k (.slice none 0 0)), (.i 2)]) [] [])
(.df (.len false) [(.q 0)] .one
(.df (.call 15 [(.ext 35)]) [(.q 0)] (.ag 32)
(.df (.callq 20 [(.ext 1)]) [(.q 2)] .one
(.df (.len false) [(.q 0)] .one
(.df (.len false) [(.q 0)] .one
(.df (.slc false 35 false true true) [(.q 0), (.q 16), (.q 17)] .one
(.df (.appx 35 72 true (.own 35 ([(.q 1), (.q 13)] ++ SX.Y 14 0 32 ++ [(.q 15)]))) [(.q 18), (.sl 8 0 1 1)] .any
(.ret (.t [(.row 9), (.i 0)]) (List.replicate 9 none ++ [(some ⟨[(.q 19)], 37, (.row 35)⟩), none, none]) []))))))))))))))))))))))))
def args_add : List SX.V := [.x 0 [], .x 1 [], .x 2 []]
set_option maxRecDepth 100000 in
theorem run_add (nb : Nat) (K A : Value → Nat → List Value → Prop) : (SX.run (cxQ4 nb K A) ⟨fun f => f != 20, [], 2, 100⟩ 100000 0 (SX.door 10 Tryd.f10 args_add [.one, .one, .one]) [.code (Tryd.f10.body.getD .skip), .top Tryd.f10]).strip = tree_add := by kernel_rfl
set_option maxRecDepth 100000 in
set_option maxHeartbeats 4000000 in
theorem add_any (ls : List Lk) (A : Option Addr) (n c : Nat) (node : Int) (tx : ByteArray) (B : Option Addr) (m d : Nat) (w : World) (hr : Rd w 35 A n (lkL ls)) (hc : n ≤ c) (hn : n ≤ 4611686018427387904) (hd : ∀ z ∈ ls, z.rd w) (hfit : ∀ z ∈ ls, z.fit) (hlaid : Laid w) (hrb : Rd w 1 B m ((sb tx).flatMap c8)) (hmd : m ≤ d) (htx : tx.size ≤ 9223372036854775807) (hnode : -9223372036854775808 ≤ node ∧ node ≤ 9223372036854775807) : Calls Tryd.prog 10 #[.slice A n c, .int .i64 node, .slice B m d] w fun e w' => Below w.heap.size w w' ∧ ((addE ls node m ≠ 0 ∧ e = .returned (.tuple #[.slice none 0 0, .int .i64 (addE ls node m)])) ∨ (addE ls node m = 0 ∧ ∃ hdr A2 n2 c2, e = .returned (.tuple #[hdr, .int .i64 0]) ∧ SX.SlRet w w' [] hdr 35 (lkL (ls ++ [⟨node, (ls.length : Int), headF ls, A2, n2, c2, tx⟩])) ∧ SX.SlRet w w' [] (.slice A2 n2 c2) 1 ((sb tx).flatMap c8))) := by
  refine SX.calls_of_run (C := cxQ4 w.heap.size (KAd A n c ls B m d tx) (KAd A n c ls B m d tx)) (G := ⟨fun f => f != 20, [], 2, 100⟩) (args := args_add) (sh := [.one, .one, .one]) (ρ := [.slice A n c, .int .i64 node, .slice B m d]) 100000 tree_add (okQ4 w.heap.size _ _) Tryd.func10 rfl (run_add _ _ _) (by kernel_rfl) (by kernel_rfl) (by kernel_rfl) ?_ ?_ (hN := ⟨rfl, Nat.le_refl _⟩)
  · rintro W hW s sz cells (h | ⟨rfl, rfl, rfl⟩)
    · exact KL_rd hW hr hd hlaid s sz cells h
    exact ⟨hrb.same0 hW, hmd⟩
  have hA := SX.rd_some hr
  have hlc : (lkL ls).length = n * 35 := hr.1
  have hln : ls.length = n := by rw [lkL_len] at hlc; omega
  have htm : tx.size = m := by have h : ((sb tx).flatMap c8).length = m * 1 := hrb.1; rw [SX.flat_len c8_len, sb_len] at h; omega
  unfold tree_add
  refine SX.VC_df (.int .i64 ((chkE ls))) (fun α => ⟨[⟨.slice A n c, 35, lkL ls⟩], ⟨by kernel_rfl, by kernel_rfl, .inl (.inl (SX.SubK.full hlc hc)), trivial⟩, .inl ⟨rfl, _, ls, rfl, KAd_laid _ _ _ _ _ _ _ _, by omega, fun y hy => ⟨.inl (.inl (KL_data hy)), hfit y hy⟩, rfl⟩, SX.noAli rfl⟩) ((by kernel_rfl)) ?_
  refine SX.D (.bool (((chkE ls) : Int) != 0)) ?_
  refine SX.B (((chkE ls) : Int) != 0) (fun h4 => ?_) (fun h4 => ?_)
  · try simp only [NRM] at h4
    have hq : addE ls node m = (chkE ls) := addE_chk (by simpa using h4)
    exact SX.VC_ret fun α W _ hrow hS => ⟨hS.below, .inl ⟨by rw [hq]; simpa using h4, Eq.trans (b := Ending.returned (.tuple #[.slice none 0 0, .int .i64 ((chkE ls))])) (by kernel_rfl) (by rw [hq])⟩⟩
  try simp only [NRM] at h4
  refine SX.D (.bool (decide (node < 0))) ?_
  refine SX.B (decide (node < 0)) (fun h5 => ?_) (fun h5 => ?_)
  · try simp only [NRM] at h5
    have c4 : chkE ls = 0 := by simpa using h4
    have hq : addE ls node m = 1 := addE_arg c4 (.inl (by simpa using h5))
    exact SX.VC_ret fun α W _ hrow hS => ⟨hS.below, .inl ⟨by rw [hq]; decide, Eq.trans (b := Ending.returned (.tuple #[.slice none 0 0, .int .i64 (1)])) (by kernel_rfl) (by rw [hq])⟩⟩
  try simp only [NRM] at h5
  refine SX.D (.bool (decide (node ≥ 24))) ?_
  refine SX.B (decide (node ≥ 24)) (fun h6 => ?_) (fun h6 => ?_)
  · try simp only [NRM] at h6
    have c4 : chkE ls = 0 := by simpa using h4
    have hq : addE ls node m = 1 := addE_arg c4 (.inr (.inl (by simpa using h6)))
    exact SX.VC_ret fun α W _ hrow hS => ⟨hS.below, .inl ⟨by rw [hq]; decide, Eq.trans (b := Ending.returned (.tuple #[.slice none 0 0, .int .i64 (1)])) (by kernel_rfl) (by rw [hq])⟩⟩
  try simp only [NRM] at h6
  refine SX.D (.int .i64 (((n : Nat) : Int))) ?_
  refine SX.D (.bool (decide (((n : Nat) : Int) > 0))) ?_
  refine SX.B (decide (((n : Nat) : Int) > 0)) (fun h8 => ?_) (fun h8 => ?_)
  · try simp only [NRM] at h8
    have hpos : 0 < n := by omega
    obtain ⟨z0, hz0⟩ : ∃ z0, ls[0]? = some z0 := ⟨_, List.getElem?_eq_getElem (by omega)⟩
    refine SX.E (.bool true) (fun α => SX.extBnd (A := A) (n := n) (c := c) (j := 0) hA (by kernel_rfl) (by kernel_rfl) (by omega)) ?_
    refine SX.E (.bool true) (fun α => SX.extBnd (A := A) (n := n) (c := c) (j := 0) hA (by kernel_rfl) (by kernel_rfl) (by omega)) ?_
    refine SX.E (.int .i64 z0.node) (fun α => SX.extElem (o := 0) (v := .int .i64 z0.node) (f := cellsLk) (l := ls) (A := A) (n := n) (c := c) (j := 0) (z := z0) (fun _ => rfl) hA (by kernel_rfl) (by kernel_rfl) (by omega) (.inl (.inl (SX.SubK.full hlc hc))) hz0 (by decide) (by kernel_rfl)) ?_
    refine SX.D (.bool ((node : Int) != z0.node)) ?_
    refine SX.B ((node : Int) != z0.node) (fun h12 => ?_) (fun h12 => ?_)
    · try simp only [NRM] at h12
      have c4 : chkE ls = 0 := by simpa using h4
      have hq : addE ls node m = 1 := addE_arg c4 (.inr (.inr (.inl ⟨z0, hz0, by simpa using h12⟩)))
      exact SX.VC_ret fun α W _ hrow hS => ⟨hS.below, .inl ⟨by rw [hq]; decide, Eq.trans (b := Ending.returned (.tuple #[.slice none 0 0, .int .i64 (1)])) (by kernel_rfl) (by rw [hq])⟩⟩
    try simp only [NRM] at h12
    refine SX.D (.int .i64 (((m : Nat) : Int))) ?_
    refine SX.D (.bool (decide (((m : Nat) : Int) > 65536))) ?_
    refine SX.B (decide (((m : Nat) : Int) > 65536)) (fun h14 => ?_) (fun h14 => ?_)
    · try simp only [NRM] at h14
      have c4 : chkE ls = 0 := by simpa using h4
      have hq : addE ls node m = 1 := addE_arg c4 (.inr (.inr (.inr (by omega))))
      exact SX.VC_ret fun α W _ hrow hS => ⟨hS.below, .inl ⟨by rw [hq]; decide, Eq.trans (b := Ending.returned (.tuple #[.slice none 0 0, .int .i64 (1)])) (by kernel_rfl) (by rw [hq])⟩⟩
    try simp only [NRM] at h14
    refine SX.D (.int .i64 (((n : Nat) : Int))) ?_
    refine SX.D (.bool ((((n : Nat) : Int) : Int) == 1024)) ?_
    refine SX.B ((((n : Nat) : Int) : Int) == 1024) (fun h16 => ?_) (fun h16 => ?_)
    · try simp only [NRM] at h16
      have c4 : chkE ls = 0 := by simpa using h4
      have hq : addE ls node m = 2 := addE_full c4 (not_bad (by omega) (by omega) (fun y hy => by rw [hz0] at hy; cases hy; simpa using h12) (by omega)) (by rw [hln]; (try simp at h16); omega)
      exact SX.VC_ret fun α W _ hrow hS => ⟨hS.below, .inl ⟨by rw [hq]; decide, Eq.trans (b := Ending.returned (.tuple #[.slice none 0 0, .int .i64 (2)])) (by kernel_rfl) (by rw [hq])⟩⟩
    try simp only [NRM] at h16
    refine SX.D (.int .i64 (((n : Nat) : Int))) ?_
    refine SX.VC_df (dgV (headF ls)) (fun α => ⟨[⟨.slice A n c, 35, lkL ls⟩], ⟨by kernel_rfl, by kernel_rfl, .inl (.inl (SX.SubK.full hlc hc)), trivial⟩, .inr (⟨rfl, _, ls, rfl, KAd_laid _ _ _ _ _ _ _ _, by omega, fun y hy => ⟨.inl (.inl (KL_data hy)), hfit y hy⟩, rfl⟩), SX.noAli rfl⟩) ((dgV_fit _)) ?_
    refine SX.VC_dn (fun v N => ∃ A2 n2 c2, v = .slice A2 n2 c2 ∧ N = [⟨.slice A2 n2 c2, 1, (sb tx).flatMap c8⟩]) (fun _ => rfl) (fun α => ⟨[⟨.slice B m d, 1, (sb tx).flatMap c8⟩], ⟨by kernel_rfl, by kernel_rfl, .inr ⟨rfl, rfl, rfl⟩, trivial⟩, rfl, _, sb tx, rfl, by rw [sb_len]; omega, fun A2 n2 c2 => ⟨A2, n2, c2, rfl, rfl⟩⟩) ?_
    rintro _ _ - ⟨A2, n2, c2, rfl, rfl⟩
    refine SX.D (.int .i64 (((n : Nat) : Int))) ?_
    refine SX.D (.int .i64 (((n : Nat) : Int))) ?_
    refine SX.E ((SX.subS A 35 0 n n)) (fun α => SX.slc_hm (A := A) (n := n) (c := c) (k := n) (by kernel_rfl) (by kernel_rfl) (by kernel_rfl) (by omega)) ?_
    have hsm := chkE_len (ls := ls) (by simpa using h4)
    refine SX.VC_df (Value.agg ((ls ++ [(⟨node, (n : Int), headF ls, A2, n2, c2, tx⟩ : Lk)]).flatMap cellsLk).toArray) (fun α => SX.appx_rel (f := cellsLk) (l1 := ls) (l2 := [(⟨node, (n : Int), headF ls, A2, n2, c2, tx⟩ : Lk)]) (A := if n = 0 then A else A.map (·.add (0 * 35))) (m := n - 0) cellsLk_len cellsLk_one (by decide) (by kernel_rfl) (.inl (.inl (.inl (KP_full hln hc)))) (.inl (.inl (KP_full hln hc))) (SX.src_own (by kernel_rfl)) (fun _ => by simp) (by simp only [LL]; omega) (by simp only [LL]; omega)) (rfl) ?_
    have c4 : chkE ls = 0 := by simpa using h4
    have hq : addE ls node m = 0 := addE_ok c4 (not_bad (by omega) (by omega) (fun y hy => by rw [hz0] at hy; cases hy; simpa using h12) (by omega)) (by rw [hln]; (try simp at h16); omega)
    refine SX.VC_ret fun α W _ hrow hS => ⟨hS.below, .inr ⟨hq, _, A2, n2, c2, by kernel_rfl, SX.SlRet.row hS (n := 9) (b := (⟨[(.x 23 [])], 37, (.row 35)⟩ : SX.Blk)) (by kernel_rfl) rfl (hrow 9 _ (by kernel_rfl)) (Eq.trans (b := [Value.agg ((ls ++ [(⟨node, (n : Int), headF ls, A2, n2, c2, tx⟩ : Lk)]).flatMap cellsLk).toArray].flatMap SX.cellsV) (by kernel_rfl) (by simp [SX.cellsV, lkL, hln])), ?_⟩⟩
    have hN := hS.fact (p := SX.NF _) (List.mem_append.2 (.inr (List.mem_cons_of_mem _ (List.mem_cons_self ..)))) ⟨.slice A2 n2 c2, 1, (sb tx).flatMap c8⟩ (List.mem_cons_self ..)
    exact ⟨⟨A2, n2, c2, rfl, hN.1.2⟩, hN.1, .inl hN.2⟩
  try simp only [NRM] at h8
  refine SX.D (.int .i64 (((m : Nat) : Int))) ?_
  refine SX.D (.bool (decide (((m : Nat) : Int) > 65536))) ?_
  refine SX.B (decide (((m : Nat) : Int) > 65536)) (fun h10 => ?_) (fun h10 => ?_)
  · try simp only [NRM] at h10
    have c4 : chkE ls = 0 := by simpa using h4
    have hq : addE ls node m = 1 := addE_arg c4 (.inr (.inr (.inr (by omega))))
    exact SX.VC_ret fun α W _ hrow hS => ⟨hS.below, .inl ⟨by rw [hq]; decide, Eq.trans (b := Ending.returned (.tuple #[.slice none 0 0, .int .i64 (1)])) (by kernel_rfl) (by rw [hq])⟩⟩
  try simp only [NRM] at h10
  refine SX.D (.int .i64 (((n : Nat) : Int))) ?_
  refine SX.D (.bool ((((n : Nat) : Int) : Int) == 1024)) ?_
  refine SX.B ((((n : Nat) : Int) : Int) == 1024) (fun h12 => ?_) (fun h12 => ?_)
  · try simp only [NRM] at h12
    have c4 : chkE ls = 0 := by simpa using h4
    have hq : addE ls node m = 2 := addE_full c4 (not_bad (by omega) (by omega) (fun y hy => absurd (List.getElem?_eq_some_iff.1 hy).1 (by omega)) (by omega)) (by rw [hln]; (try simp at h12); omega)
    exact SX.VC_ret fun α W _ hrow hS => ⟨hS.below, .inl ⟨by rw [hq]; decide, Eq.trans (b := Ending.returned (.tuple #[.slice none 0 0, .int .i64 (2)])) (by kernel_rfl) (by rw [hq])⟩⟩
  try simp only [NRM] at h12
  refine SX.D (.int .i64 (((n : Nat) : Int))) ?_
  refine SX.VC_df (dgV (headF ls)) (fun α => ⟨[⟨.slice A n c, 35, lkL ls⟩], ⟨by kernel_rfl, by kernel_rfl, .inl (.inl (SX.SubK.full hlc hc)), trivial⟩, .inr (⟨rfl, _, ls, rfl, KAd_laid _ _ _ _ _ _ _ _, by omega, fun y hy => ⟨.inl (.inl (KL_data hy)), hfit y hy⟩, rfl⟩), SX.noAli rfl⟩) ((dgV_fit _)) ?_
  refine SX.VC_dn (fun v N => ∃ A2 n2 c2, v = .slice A2 n2 c2 ∧ N = [⟨.slice A2 n2 c2, 1, (sb tx).flatMap c8⟩]) (fun _ => rfl) (fun α => ⟨[⟨.slice B m d, 1, (sb tx).flatMap c8⟩], ⟨by kernel_rfl, by kernel_rfl, .inr ⟨rfl, rfl, rfl⟩, trivial⟩, rfl, _, sb tx, rfl, by rw [sb_len]; omega, fun A2 n2 c2 => ⟨A2, n2, c2, rfl, rfl⟩⟩) ?_
  rintro _ _ - ⟨A2, n2, c2, rfl, rfl⟩
  refine SX.D (.int .i64 (((n : Nat) : Int))) ?_
  refine SX.D (.int .i64 (((n : Nat) : Int))) ?_
  refine SX.E ((SX.subS A 35 0 n n)) (fun α => SX.slc_hm (A := A) (n := n) (c := c) (k := n) (by kernel_rfl) (by kernel_rfl) (by kernel_rfl) (by omega)) ?_
  have hsm := chkE_len (ls := ls) (by simpa using h4)
  refine SX.VC_df (Value.agg ((ls ++ [(⟨node, (n : Int), headF ls, A2, n2, c2, tx⟩ : Lk)]).flatMap cellsLk).toArray) (fun α => SX.appx_rel (f := cellsLk) (l1 := ls) (l2 := [(⟨node, (n : Int), headF ls, A2, n2, c2, tx⟩ : Lk)]) (A := if n = 0 then A else A.map (·.add (0 * 35))) (m := n - 0) cellsLk_len cellsLk_one (by decide) (by kernel_rfl) (.inl (.inl (.inl (KP_full hln hc)))) (.inl (.inl (KP_full hln hc))) (SX.src_own (by kernel_rfl)) (fun _ => by simp) (by simp only [LL]; omega) (by simp only [LL]; omega)) (rfl) ?_
  have c4 : chkE ls = 0 := by simpa using h4
  have hq : addE ls node m = 0 := addE_ok c4 (not_bad (by omega) (by omega) (fun y hy => absurd (List.getElem?_eq_some_iff.1 hy).1 (by omega)) (by omega)) (by rw [hln]; (try simp at h12); omega)
  refine SX.VC_ret fun α W _ hrow hS => ⟨hS.below, .inr ⟨hq, _, A2, n2, c2, by kernel_rfl, SX.SlRet.row hS (n := 9) (b := (⟨[(.x 19 [])], 37, (.row 35)⟩ : SX.Blk)) (by kernel_rfl) rfl (hrow 9 _ (by kernel_rfl)) (Eq.trans (b := [Value.agg ((ls ++ [(⟨node, (n : Int), headF ls, A2, n2, c2, tx⟩ : Lk)]).flatMap cellsLk).toArray].flatMap SX.cellsV) (by kernel_rfl) (by simp [SX.cellsV, lkL, hln])), ?_⟩⟩
  have hN := hS.fact (p := SX.NF _) (List.mem_append.2 (.inr (List.mem_cons_of_mem _ (List.mem_cons_self ..)))) ⟨.slice A2 n2 c2, 1, (sb tx).flatMap c8⟩ (List.mem_cons_self ..)
  exact ⟨⟨A2, n2, c2, rfl, hN.1.2⟩, hN.1, .inl hN.2⟩
end Go.Proofs.YtdamlaegboiokaaDoor
