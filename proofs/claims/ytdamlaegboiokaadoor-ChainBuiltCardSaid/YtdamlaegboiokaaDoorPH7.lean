/-
  The statement 'ChainBuilt' as its tied card: for every input the law returns true, and each argument reads as it read before; the listed variables are as the program's text lays them. No other condition.
-/
import Derived.Test.YtdamlaegboiokaaDoorPH6
import Derived.Test.YtdamlaegboiokaaDoorCards
import Derived.Test.YtdamlaegboiokaaDoorTie
import Derived.SevenTiedAt
set_option linter.unusedSimpArgs false
set_option linter.unusedVariables false
namespace Go.Proofs.YtdamlaegboiokaaDoor
open Go Go.RowKit
def RQF (K : Value → Nat → List Value → Prop) (f : FuncId) (xs : List SX.Arg) (v : Value) : Prop :=
  (f = 8 ∧ LaidK K ∧ xs = [] ∧ v = .bool true) ∨
  (f = 14 ∧ ∃ (u1 u2 : Value) (la lb : List Lk), xs = [⟨u1, 35, lkL la⟩, ⟨u2, 35, lkL lb⟩] ∧ LaidK K ∧ la.length ≤ 4611686018427387904 ∧ lb.length ≤ 4611686018427387904 ∧ (∀ z ∈ la, z.kn K ∧ z.fit) ∧ (∀ z ∈ lb, z.kn K ∧ z.fit) ∧ v = .bool (sameB la lb)) ∨
  (f = 15 ∧ ∃ (u : Value) (ls : List Lk), xs = [⟨u, 35, lkL ls⟩] ∧ LaidK K ∧ ls.length ≤ 4611686018427387904 ∧ (∀ z ∈ ls, z.kn K ∧ z.fit) ∧ v = dgV (headF ls)) ∨
  (f = 16 ∧ ∃ (u : Value) (ls : List Lk), xs = [⟨u, 35, lkL ls⟩] ∧ LaidK K ∧ ls.length ≤ 4611686018427387904 ∧ (∀ z ∈ ls, z.kn K ∧ z.fit) ∧ v = .int .i64 (chkE ls))
def shpQF : FuncId → Option SX.Sh := fun f => if f = 8 then some .one else if f = 14 then some .one else if f = 15 then some (.ag 32) else if f = 16 then some .one else none
noncomputable def cxQF (K A : Value → Nat → List Value → Prop) : SX.Cx := { nsh := nshA, Rn := RnA, P := Tryd.prog, R := RQF, shp := shpQF, K := K, A := A }
theorem okQF (K A : Value → Nat → List Value → Prop) : (cxQF K A).Ok := by
  refine SX.Cx.ok_nd (fun _ => rfl) ?_ (rnA_ok _ rfl rfl rfl)
  intro K f xs v W hR hrd hKf
  rcases hR with ⟨rfl, hL, rfl, rfl⟩ | ⟨rfl, u1, u2, la, lb, rfl, hL, hb, hb2, hk, hk2, rfl⟩ | ⟨rfl, u, ls, rfl, hL, hb, hk, rfl⟩ | ⟨rfl, u, ls, rfl, hL, hb, hk, rfl⟩
  · exact (sane_any W (laid_of hL hKf)).mono fun e w' h => SX.plainOk rfl h
  · obtain ⟨A, n, c, rfl, hr, hc, hln⟩ := lk_arg (hrd ⟨u1, 35, lkL la⟩ (by simp))
    obtain ⟨B, m, d, rfl, hr2, hc2, hlm⟩ := lk_arg (hrd ⟨u2, 35, lkL lb⟩ (by simp))
    exact (rsame_any la A n c lb B m d W hr hc (by omega) (fun z hz => (hk z hz).1.rd hKf) (fun z hz => (hk z hz).2) hr2 hc2 (by omega) (fun z hz => (hk2 z hz).1.rd hKf) (fun z hz => (hk2 z hz).2) (laid_of hL hKf)).mono fun e w' h => SX.plainOk rfl h
  · obtain ⟨A, n, c, rfl, hr, hc, hln⟩ := lk_arg (hrd ⟨u, 35, lkL ls⟩ (by simp))
    exact (head_any ls A n c W hr hc (by omega) (fun z hz => (hk z hz).1.rd hKf) (fun z hz => (hk z hz).2) (laid_of hL hKf)).mono fun e w' h => SX.plainOk rfl h
  obtain ⟨A, n, c, rfl, hr, hc, hln⟩ := lk_arg (hrd ⟨u, 35, lkL ls⟩ (by simp))
  exact (check_any ls A n c W hr hc (by omega) (fun z hz => (hk z hz).1.rd hKf) (fun z hz => (hk z hz).2) (laid_of hL hKf)).mono fun e w' h => SX.plainOk rfl h
structure Tx where
  A : Option Addr
  n : Nat
  c : Nat
  tx : ByteArray
def Tx.hdr (z : Tx) : Value := .slice z.A z.n z.c
def cellsTx (z : Tx) : List Value := [z.hdr]
def Tx.rd (W : World) (z : Tx) : Prop := SX.Arg.rd W ⟨z.hdr, 1, (sb z.tx).flatMap c8⟩
theorem Tx.size {W : World} {z : Tx} (h : z.rd W) : z.tx.size = z.n := by
  have h : Rd W 1 z.A z.n ((sb z.tx).flatMap c8) ∧ z.n ≤ z.c := h
  have h1 : ((sb z.tx).flatMap c8).length = z.n * 1 := h.1.1
  rw [SX.flat_len c8_len, sb_len] at h1
  omega
def KB (A : Option Addr) (n c : Nat) (bs : List Tx) (s : Value) (z : Nat) (xs : List Value) : Prop :=
  (s = .slice A n c ∧ z = 1 ∧ xs = bs.flatMap cellsTx) ∨ (∃ y ∈ bs, s = y.hdr ∧ z = 1 ∧ xs = (sb y.tx).flatMap c8) ∨ KS0 s z xs ∨ (s = .slice none 0 0 ∧ z = 35 ∧ xs = [])
theorem KB_laid (A : Option Addr) (n c : Nat) (bs : List Tx) : LaidK (KB A n c bs) := ⟨.inr (.inr (.inl ks0_1)), .inr (.inr (.inl ks0_2))⟩
theorem laid_plus {C : SX.Cx} {N : List SX.Arg} (h : LaidK C.K) : LaidK (C.plus N).K := ⟨.inl h.1, .inl h.2⟩
theorem KB_data {A : Option Addr} {n c : Nat} {bs : List Tx} {y : Tx} (h : y ∈ bs) : KB A n c bs y.hdr 1 ((sb y.tx).flatMap c8) := .inr (.inl ⟨y, h, rfl, rfl, rfl⟩)
def XOk (K : Value → Nat → List Value → Prop) (X : List Lk) (A : Option Addr) (c i : Nat) (node : Int) : Prop :=
  X.length = i ∧ i ≤ c ∧ (0 < i → A.isSome = true) ∧ chkE X = 0 ∧ (∀ z0, X[0]? = some z0 → node = z0.node) ∧ K (.slice A i c) 35 (lkL X) ∧ (∀ j, j ≤ i → K (SX.subS A 35 0 j c) 35 (lkL (X.take j))) ∧ ∀ z ∈ X, z.kn K ∧ z.fit
theorem XOk.nil {K : Value → Nat → List Value → Prop} {node : Int} (h : K (.slice none 0 0) 35 []) : XOk K [] none 0 0 node :=
  ⟨rfl, Nat.le_refl _, fun h => absurd h (by omega), chk_nil, (fun z0 h => nomatch h), h, fun j hj => by
    obtain rfl : j = 0 := by omega
    exact h, fun z hz => nomatch hz⟩
theorem XOk.add {K : Value → Nat → List Value → Prop} {X : List Lk} {A : Option Addr} {c i : Nat} {node : Int} (h : XOk K X A c i node) (hi : i ≤ 12) (h1 : 0 ≤ node) (h2 : node < 24) {m : Nat} (h3 : m ≤ 300) : addE X node m = 0 :=
  addE_ok h.2.2.2.1 (not_bad (by omega) (by omega) h.2.2.2.2.1 (by omega)) (by rw [h.1]; omega)
theorem kn_mono {K K' : Value → Nat → List Value → Prop} (hK : ∀ s z xs, K s z xs → K' s z xs) {z : Lk} (h : z.kn K) : z.kn K' := h.elim (fun h => .inl (hK _ _ _ h)) .inr
theorem XOk.step {K K' : Value → Nat → List Value → Prop} {X : List Lk} {A A3 A4 : Option Addr} {c c3 c4 i : Nat} {node : Int} {tx : ByteArray} (h : XOk K X A c i node) (hK : ∀ s z xs, K s z xs → K' s z xs) (hi : i ≤ 12) (h1 : 0 ≤ node) (h2 : node < 24) (ht : tx.size ≤ 300) (g : A3.isSome = true) (gc : i + 1 ≤ c3) {N : List SX.Arg}
    (hN : N = ⟨.slice A3 (X.length + 1) c3, 35, lkL (addL X node A4 c4 tx)⟩ :: ⟨.slice A4 tx.size c4, 1, (sb tx).flatMap c8⟩ :: ⟨SX.subS A3 35 1 (X.length + 1) c3, 35, lkL ((addL X node A4 c4 tx).drop 1)⟩ :: ⟨SX.subS A3 35 0 X.length c3, 35, lkL X⟩ :: (List.range (X.length + 2)).map fun j => (⟨SX.subS A3 35 0 j c3, 35, lkL ((addL X node A4 c4 tx).take j)⟩ : SX.Arg)) (hk : ∀ y ∈ N, K' y.v y.sz y.cells) : XOk K' (addL X node A4 c4 tx) A3 c3 (i + 1) node := by
  have he := h.add hi h1 h2 ht
  obtain ⟨hl, hc, hA, hx, hn, hw, hp, hz⟩ := h
  subst hN
  refine ⟨by rw [addL_len, hl], gc, fun _ => g, chk_add he, fun z0 h0 => ?_, ?_, fun j hj => ?_, addL_all (fun z h => ⟨kn_mono hK (hz z h).1, (hz z h).2⟩) ⟨.inl ?_, ?_⟩⟩
  · cases X with
    | nil => cases h0; rfl
    | cons y l => exact hn z0 h0
  · have := hk _ (List.mem_cons_self ..)
    rw [hl] at this
    exact this
  · exact hk _ (List.mem_cons_of_mem _ (List.mem_cons_of_mem _ (List.mem_cons_of_mem _ (List.mem_cons_of_mem _ (List.mem_map.2 ⟨j, List.mem_range.2 (by omega), rfl⟩)))))
  · exact hk _ (List.mem_cons_of_mem _ (List.mem_cons_self ..))
  exact ⟨⟨by show -9223372036854775808 ≤ node; omega, by show node ≤ 9223372036854775807; omega⟩, ⟨by show -9223372036854775808 ≤ ((X.length : Nat) : Int); omega, by show ((X.length : Nat) : Int) ≤ 9223372036854775807; omega⟩, by show tx.size ≤ 1048576; omega⟩
theorem chk_take {X : List Lk} (h : chkE X = 0) (k : Nat) : chkE (X.take k) = 0 := by
  have hl := chkE_len h
  have ht := chkE_to h
  refine chkE_ok (by rw [List.length_take]; omega) fun j z hj hz => ?_
  rw [List.length_take] at hj
  rw [List.getElem?_take_of_lt (by omega)] at hz
  obtain ⟨⟨z0, h0, h1⟩, h2, h3, h4, h5, h6⟩ := ht j z (by omega) hz
  exact ⟨⟨z0, by rw [List.getElem?_take_of_lt (by omega)]; exact h0, h1⟩, h2, h3, h4, h5, by rw [List.take_take, Nat.min_eq_left (by omega)]; exact h6⟩
theorem same_refl (X : List Lk) : sameB X X = true := sameB_yes ⟨rfl, fun j y z _ h1 h2 => by rw [h1] at h2; cases h2; exact slE_refl _⟩
theorem prev_cells {X : List Lk} {i : Nat} {z : Lk} (hz : X[i]? = some z) : dgV z.prev = .agg (((lkL X).drop (i * 35 + 2)).take 32).toArray := by
  have h := SX.flat_elem (f := cellsLk) (sz := 35) cellsLk_len hz
  unfold lkL
  rw [← List.drop_drop, h]
  rfl
def tree_built : SX.Tree :=
(.df (.call 8 []) [] .one
(.df .not [(.q 2)] .one
(.br 3 []
(.ret (.k (.bool false)) [] [])
(.df (.len false) [(.q 1)] .one
(.df (.bin .gtr 3) [(.q 4), (.i 12)] .one
(.br 5 []
(.ret (.k (.bool true)) [] [])
(.df (.bin .lss 3) [(.q 0), (.i 0)] .one
(.br 6 []
(.ret (.k (.bool true)) [] [])
(.df (.bin .geq 3) [(.q 0), (.i 24)] .one
(.br 7 []
(.ret (.k (.bool true)) [] [])
(.loop [(.i 0), (.k (.slice none 0 0))] [.one, .one]
(.df (.len false) [(.q 1)] .one
(.df (.bin .lss 3) [(.q 8), (.q 10)] .one
(.br 11 []
(.df .bnd [(.q 1), (.q 8)] .one
(.df (.elem 1 0) [(.q 1), (.q 8)] .one
(.df (.len false) [(.q 13)] .one
(.df (.bin .gtr 3) [(.q 14), (.i 300)] .one
(.br 15 []
(.ret (.k (.bool true)) [] [])
(.df .bnd [(.q 1), (.q 8)] .one
(.df (.elem 1 0) [(.q 1), (.q 8)] .one
(.df (.callq 10 [(.ext 35), .no, (.ext 1)]) [(.q 9), (.q 0), (.q 17)] (.tp [.one, .one])
(.df (.bin .neq 26) [(.x 18 [1]), (.i 0)] .one
(.br 19 []
(.ret (.k (.bool false)) [] [])
(.df (.len false) [(.x 18 [0])] .one
(.df (.bin .add 3) [(.q 8), (.i 1)] .one
(.df (.bin .neq 3) [(.q 20), (.q 21)] .one
(.br 22 []
(.ret (.k (.bool false)) [] [])
(.df (.slc false 35 false true false) [(.x 18 [0]), (.q 8)] .one
(.df (.call 14 [(.ext 35), (.ext 35)]) [(.q 23), (.q 9)] .one
(.df .not [(.q 24)] .one
(.br 25 []
(.ret (.k (.bool false)) [] [])
(.df .bnd [(.x 18 [0]), (.q 8)] .one
(.df .bnd [(.x 18 [0]), (.q 8)] .one
(.df (.elems 35 2 32) [(.x 18 [0]), (.q 8)] (.ag 32)
(.df (.call 15 [(.ext 35)]) [(.q 9)] (.ag 32)
(.df (.eqr true 32 [(.i .u8), (.i .u8), (.i .u8), (.i .u8), (.i .u8), (.i .u8), (.i .u8), (.i .u8), (.i .u8), (.i .u8), (.i .u8), (.i .u8), (.i .u8), (.i .u8), (.i .u8), (.i .u8), (.i .u8), (.i .u8), (.i .u8), (.i .u8), (.i .u8), (.i .u8), (.i .u8), (.i .u8), (.i .u8), (.i .u8), (.i .u8), (.i .u8), (.i .u8), (.i .u8), (.i .u8), (.i .u8)]) (SX.Y 28 0 32 ++ SX.Y 29 0 32) .one
(.br 30 []
(.ret (.k (.bool false)) [] [])
(.df .bnd [(.x 18 [0]), (.q 8)] .one
(.df .bnd [(.x 18 [0]), (.q 8)] .one
(.df (.elem 35 1) [(.x 18 [0]), (.q 8)] .one
(.df (.bin .neq 3) [(.q 33), (.q 8)] .one
(.br 34 []
(.ret (.k (.bool false)) [] [])
(.df .bnd [(.x 18 [0]), (.q 8)] .one
(.df .bnd [(.x 18 [0]), (.q 8)] .one
(.df (.elem 35 0) [(.x 18 [0]), (.q 8)] .one
(.df (.bin .neq 3) [(.q 37), (.q 0)] .one
(.br 38 []
(.ret (.k (.bool false)) [] [])
(.df .bnd [(.x 18 [0]), (.q 8)] .one
(.df .bnd [(.x 18 [0]), (.q 8)] .one
(.df (.elem 35 34) [(.x 18 [0]), (.q 8)] .one
(.df .b2sx [(.q 41)] .one
(.df .bnd [(.q 1), (.q 8)] .one
(.df (.elem 1 0) [(.q 1), (.q 8)] .one
(.df .b2sx [(.q 44)] .one
(.df (.bin .neq 9) [(.q 42), (.q 45)] .one
(.br 46 []
(.ret (.k (.bool false)) [] [])
(.df (.bin .add 3) [(.q 8), (.i 1)] .one
(.again 0 [(.q 47), (.x 18 [0])])))))))))))))))))))))))))))))))))))))))))))))
(.loop [(.i 0)] [.one]
(.df (.len false) [(.q 9)] .one
(.df (.bin .leq 3) [(.q 12), (.q 13)] .one
(.br 14 []
(.df (.slc false 35 false true false) [(.q 9), (.q 12)] .one
(.df (.call 16 [(.ext 35)]) [(.q 15)] .one
(.df (.bin .neq 26) [(.q 16), (.i 0)] .one
(.br 17 []
(.ret (.k (.bool false)) [] [])
(.df (.bin .add 3) [(.q 12), (.i 1)] .one
(.again 1 [(.q 18)]))))))
(.ret (.k (.bool true)) [] [])))))))))))))))))))
def args_built : List SX.V := [.x 0 [], .x 1 []]
set_option maxRecDepth 100000 in
theorem run_built (K A : Value → Nat → List Value → Prop) : (SX.run (cxQF K A) ⟨fun f => true, [⟨4, 7, [(.s 6, .one), (.s 5, .one)]⟩, ⟨4, 16, [(.s 9, .one)]⟩], 0, 100⟩ 100000 0 (SX.door 4 Tryd.f4 args_built [.one, .one]) [.code (Tryd.f4.body.getD .skip), .top Tryd.f4]).strip = tree_built := by kernel_rfl
set_option maxRecDepth 100000 in
set_option maxHeartbeats 4000000 in
theorem built_any (node : Int) (bs : List Tx) (A : Option Addr) (n c : Nat) (w : World) (hr : Rd w 1 A n (bs.flatMap cellsTx)) (hc : n ≤ c) (hd : ∀ z ∈ bs, z.rd w) (hlaid : Laid w) : Calls Tryd.prog 4 #[.int .i64 node, .slice A n c] w fun e w' => e = .returned (.bool true) ∧ Below w.heap.size w w' := by
  refine SX.calls_of_run (C := cxQF (KB A n c bs) (fun _ _ _ => False)) (G := ⟨fun f => true, [⟨4, 7, [(.s 6, .one), (.s 5, .one)]⟩, ⟨4, 16, [(.s 9, .one)]⟩], 0, 100⟩) (args := args_built) (sh := [.one, .one]) (ρ := [.int .i64 node, .slice A n c]) 100000 tree_built (okQF _ _) Tryd.func4 rfl (run_built _ _) (by kernel_rfl) (by kernel_rfl) (by kernel_rfl) ?_ ?_
  · rintro W hW s sz cells (⟨rfl, rfl, rfl⟩ | ⟨y, hy, rfl, rfl, rfl⟩ | (⟨rfl, rfl, rfl⟩ | ⟨rfl, rfl, rfl⟩) | ⟨rfl, rfl, rfl⟩)
    · exact ⟨hr.same0 hW, hc⟩
    · exact ⟨(hd y hy).1.same0 hW, (hd y hy).2⟩
    · exact ⟨hlaid.1.same0 hW, Nat.le_refl _⟩
    · exact ⟨hlaid.2.same0 hW, Nat.le_refl _⟩
    exact SX.rd_empty
  have hA := SX.rd_some hr
  have hln : bs.length = n := by have h : (bs.flatMap cellsTx).length = n * 1 := hr.1; rw [SX.flat_len (f := cellsTx) (sz := 1) (fun _ => rfl)] at h; omega
  unfold tree_built
  refine SX.E (.bool true) (fun α => ⟨[], trivial, .inl ⟨rfl, KB_laid _ _ _ _, rfl, rfl⟩, SX.noAli rfl⟩) ?_
  refine SX.D (.bool (!(true))) ?_
  refine SX.B (!(true)) (fun h3 => absurd h3 (by decide)) (fun h3 => ?_)
  try simp only [NRM] at h3
  refine SX.D (.int .i64 (((n : Nat) : Int))) ?_
  refine SX.D (.bool (decide (((n : Nat) : Int) > 12))) ?_
  refine SX.B (decide (((n : Nat) : Int) > 12)) (fun h5 => ?_) (fun h5 => ?_)
  · try simp only [NRM] at h5
    exact SX.F (.bool true) (rfl)
  try simp only [NRM] at h5
  refine SX.D (.bool (decide (node < 0))) ?_
  refine SX.B (decide (node < 0)) (fun h6 => ?_) (fun h6 => ?_)
  · try simp only [NRM] at h6
    exact SX.F (.bool true) (rfl)
  try simp only [NRM] at h6
  refine SX.D (.bool (decide (node ≥ 24))) ?_
  refine SX.B (decide (node ≥ 24)) (fun h7 => ?_) (fun h7 => ?_)
  · try simp only [NRM] at h7
    exact SX.F (.bool true) (rfl)
  try simp only [NRM] at h7
  refine SX.VC_loopN (fun xs N => ∃ (i : Nat) (A1 : Option Addr) (c1 : Nat) (X : List Lk), xs = [.int .i64 (i : Int), .slice A1 i c1] ∧ i ≤ n ∧ XOk ((cxQF (KB A n c bs) (fun _ _ _ => False)).plus N).K X A1 c1 i node) (fun xs => match xs with | .int _ i :: _ => n - i.toNat | _ => 0) (fun _ => rfl) (fun α => ⟨[], (fun y hy => nomatch hy), 0, none, 0, [], by kernel_rfl, by omega, XOk.nil (.inl (.inr (.inr (.inr ⟨rfl, rfl, rfl⟩))))⟩) ?_
  rintro xs N - ⟨i, A1, c1, X, rfl, hin, hX⟩
  have h12 : n ≤ 12 := by (try simp at h5); omega
  refine SX.D (.int .i64 (((n : Nat) : Int))) ?_
  refine SX.D (.bool (decide (((i : Nat) : Int) < ((n : Nat) : Int)))) ?_
  refine SX.B (decide (((i : Nat) : Int) < ((n : Nat) : Int))) (fun h11 => ?_) (fun h11 => ?_)
  · try simp only [NRM] at h11
    have hin0 : i < n := by (try simp at h11); omega
    obtain ⟨b, hb⟩ : ∃ b, bs[i]? = some b := ⟨_, List.getElem?_eq_getElem (by omega)⟩
    have hbm := List.mem_of_getElem? hb
    refine SX.E (.bool true) (fun α => SX.extBnd (A := A) (n := n) (c := c) (j := i) hA (by kernel_rfl) (by kernel_rfl) (by omega)) ?_
    refine SX.E (b.hdr) (fun α => SX.extElem (o := 0) (v := b.hdr) (f := cellsTx) (l := bs) (A := A) (n := n) (c := c) (j := i) (z := b) (fun _ => rfl) hA (by kernel_rfl) (by kernel_rfl) (by omega) (.inl (.inl ⟨rfl, rfl, rfl⟩)) hb (by decide) rfl) ?_
    refine SX.D (.int .i64 (((b.n : Nat) : Int))) ?_
    refine SX.D (.bool (decide (((b.n : Nat) : Int) > 300))) ?_
    refine SX.B (decide (((b.n : Nat) : Int) > 300)) (fun h15 => ?_) (fun h15 => ?_)
    · try simp only [NRM] at h15
      exact SX.F (.bool true) (rfl)
    try simp only [NRM] at h15
    refine SX.E (.bool true) (fun α => SX.extBnd (A := A) (n := n) (c := c) (j := i) hA (by kernel_rfl) (by kernel_rfl) (by omega)) ?_
    refine SX.E (b.hdr) (fun α => SX.extElem (o := 0) (v := b.hdr) (f := cellsTx) (l := bs) (A := A) (n := n) (c := c) (j := i) (z := b) (fun _ => rfl) hA (by kernel_rfl) (by kernel_rfl) (by omega) (.inl (.inl ⟨rfl, rfl, rfl⟩)) hb (by decide) rfl) ?_
    have hts := Tx.size (hd b hbm)
    have hbn : b.n ≤ 300 := by (try simp at h15); omega
    have hnd : 0 ≤ node ∧ node < 24 := by (try simp at h6); (try simp at h7); omega
    have hX2 := hX
    obtain ⟨hXl, hXc, hXA, hXx, hXn, hXw, hXp, hXk⟩ := hX2
    have hin2 : i < n := by (try simp at h11); omega
    have hE : addE X node b.tx.size = 0 := hX.add (by omega) hnd.1 hnd.2 (by omega)
    refine SX.VC_dn (fun v N3 => ∃ A3 c3 A4 c4, A3.isSome = true ∧ i + 1 ≤ c3 ∧ v = .tuple #[.slice A3 (i + 1) c3, .int .i64 0] ∧ N3 = (⟨.slice A3 (X.length + 1) c3, 35, lkL (addL X node A4 c4 b.tx)⟩ :: ⟨.slice A4 b.tx.size c4, 1, (sb b.tx).flatMap c8⟩ :: ⟨SX.subS A3 35 1 (X.length + 1) c3, 35, lkL ((addL X node A4 c4 b.tx).drop 1)⟩ :: ⟨SX.subS A3 35 0 X.length c3, 35, lkL X⟩ :: (List.range (X.length + 2)).map fun j => (⟨SX.subS A3 35 0 j c3, 35, lkL ((addL X node A4 c4 b.tx).take j)⟩ : SX.Arg))) (fun _ => rfl) (fun α => ⟨[⟨.slice A1 i c1, 35, lkL X⟩, ⟨.int .i64 node, 0, []⟩, ⟨b.hdr, 1, (sb b.tx).flatMap c8⟩], ⟨by kernel_rfl, by kernel_rfl, K_of (y := ⟨.slice A1 i c1, 35, lkL X⟩) (by kernel_rfl) hXw, by kernel_rfl, by kernel_rfl, by kernel_rfl, by kernel_rfl, K_of (y := ⟨b.hdr, 1, (sb b.tx).flatMap c8⟩) (by kernel_rfl) (.inl (KB_data hbm)), trivial⟩, rfl, _, X, node, _, b.tx, rfl, (laid_plus (KB_laid _ _ _ _)), by omega, hXk, by omega, by omega, (fun hne => absurd hE hne), (fun _ A3 c3 A4 c4 g1 g2 g3 => ⟨A3, c3, A4, c4, g1, by omega, by rw [hXl], rfl⟩)⟩) ?_
    rintro _ N3 - ⟨A3, c3, A4, c4, g3, gc3, rfl, hN3⟩
    have hY : (addL X node A4 c4 b.tx)[i]? = some (mkLk X node A4 c4 b.tx) := by rw [← hXl]; exact addL_new
    have hm3 : ∀ y ∈ N3, (((cxQF (KB A n c bs) (fun _ _ _ => False)).plus N).plus (N3 ++ ((cxQF (KB A n c bs) (fun _ _ _ => False)).plus N).N)).K y.v y.sz y.cells := fun y hy => .inr (List.mem_append_left _ hy)
    have hYw : (((cxQF (KB A n c bs) (fun _ _ _ => False)).plus N).plus (N3 ++ ((cxQF (KB A n c bs) (fun _ _ _ => False)).plus N).N)).K (.slice A3 (i + 1) c3) 35 (lkL (addL X node A4 c4 b.tx)) := by rw [← hXl]; exact hm3 ⟨.slice A3 (X.length + 1) c3, 35, lkL (addL X node A4 c4 b.tx)⟩ (by rw [hN3]; exact List.mem_cons_self ..)
    have hYd : (((cxQF (KB A n c bs) (fun _ _ _ => False)).plus N).plus (N3 ++ ((cxQF (KB A n c bs) (fun _ _ _ => False)).plus N).N)).K (.slice A4 b.tx.size c4) 1 ((sb b.tx).flatMap c8) := hm3 ⟨.slice A4 b.tx.size c4, 1, (sb b.tx).flatMap c8⟩ (by rw [hN3]; exact List.mem_cons_of_mem _ (List.mem_cons_self ..))
    have hYi : (((cxQF (KB A n c bs) (fun _ _ _ => False)).plus N).plus (N3 ++ ((cxQF (KB A n c bs) (fun _ _ _ => False)).plus N).N)).K (SX.subS A3 35 0 i c3) 35 (lkL X) := by rw [← hXl]; exact hm3 ⟨SX.subS A3 35 0 X.length c3, 35, lkL X⟩ (by rw [hN3]; exact List.mem_cons_of_mem _ (List.mem_cons_of_mem _ (List.mem_cons_of_mem _ (List.mem_cons_self ..))))
    have hXk2 : ∀ z ∈ X, z.kn (((cxQF (KB A n c bs) (fun _ _ _ => False)).plus N).plus (N3 ++ ((cxQF (KB A n c bs) (fun _ _ _ => False)).plus N).N)).K ∧ z.fit := fun z hz => ⟨kn_mono (fun _ _ _ h => .inl h) (hXk z hz).1, (hXk z hz).2⟩
    refine SX.D (.bool ((0 : Int) != 0)) ?_
    refine SX.B ((0 : Int) != 0) (fun h19 => absurd h19 (by decide)) (fun h19 => ?_)
    try simp only [NRM] at h19
    refine SX.D (.int .i64 (((i + 1 : Nat) : Int))) ?_
    refine SX.E (.int .i64 (((i + 1 : Nat) : Int))) (fun α => SX.W1 i) ?_
    refine SX.D (.bool ((((i + 1 : Nat) : Int) : Int) != ((i + 1 : Nat) : Int))) ?_
    refine SX.B ((((i + 1 : Nat) : Int) : Int) != ((i + 1 : Nat) : Int)) (fun h22 => absurd h22 (by simp)) (fun h22 => ?_)
    try simp only [NRM] at h22
    refine SX.E ((SX.subS A3 35 0 i c3)) (fun α => SX.slc_hi (A := A3) (n := i + 1) (c := c3) (k := i) (by kernel_rfl) (by kernel_rfl) (by omega)) ?_
    refine SX.E (.bool (sameB X X)) (fun α => ⟨[⟨SX.subS A3 35 0 i c3, 35, lkL X⟩, ⟨.slice A1 i c1, 35, lkL X⟩], ⟨by kernel_rfl, by kernel_rfl, K_of (y := ⟨SX.subS A3 35 0 i c3, 35, lkL X⟩) (by kernel_rfl) hYi, by kernel_rfl, by kernel_rfl, K_of (y := ⟨.slice A1 i c1, 35, lkL X⟩) (by kernel_rfl) (.inl hXw), trivial⟩, .inr (.inl ⟨rfl, _, _, X, X, rfl, (laid_plus (laid_plus (KB_laid _ _ _ _))), by omega, by omega, hXk2, hXk2, rfl⟩), SX.noAli rfl⟩) ?_
    refine SX.D (.bool (!(sameB X X))) ?_
    refine SX.B (!(sameB X X)) (fun h25 => absurd h25 (by rw [same_refl]; decide)) (fun h25 => ?_)
    try simp only [NRM] at h25
    refine SX.E (.bool true) (fun α => SX.extBnd (A := A3) (n := i + 1) (c := c3) (j := i) (fun _ => g3) (by kernel_rfl) (by kernel_rfl) (by omega)) ?_
    refine SX.E (.bool true) (fun α => SX.extBnd (A := A3) (n := i + 1) (c := c3) (j := i) (fun _ => g3) (by kernel_rfl) (by kernel_rfl) (by omega)) ?_
    refine SX.VC_df (dgV (headF X)) (fun α => partElems (o := 2) (k := 32) (cells := lkL (addL X node A4 c4 b.tx)) (A := A3) (n := i + 1) (c := c3) (j := i) g3 (by kernel_rfl) (by kernel_rfl) (by omega) (K_of (y := ⟨.slice A3 (i + 1) c3, 35, lkL (addL X node A4 c4 b.tx)⟩) rfl hYw) (by rw [lkL_len, addL_len]; omega) (prev_cells hY)) ((dgV_fit _)) ?_
    refine SX.VC_df (dgV (headF X)) (fun α => ⟨[⟨.slice A1 i c1, 35, lkL X⟩], ⟨by kernel_rfl, by kernel_rfl, K_of (y := ⟨.slice A1 i c1, 35, lkL X⟩) (by kernel_rfl) (.inl hXw), trivial⟩, .inr (.inr (.inl ⟨rfl, _, X, rfl, (laid_plus (laid_plus (KB_laid _ _ _ _))), by omega, hXk2, rfl⟩)), SX.noAli rfl⟩) ((dgV_fit _)) ?_
    refine SX.E (.bool (true ^^ decide (dgL (headF X) = dgL (headF X)))) (fun α => SX.eqr_rel (f := (fun l : List W8 => l.map w8)) w8_map_inj (y := dgL (headF X)) (z := dgL (headF X)) (by kernel_rfl) (by kernel_rfl) (by kernel_rfl)) ?_
    refine SX.B (true ^^ decide (dgL (headF X) = dgL (headF X))) (fun h30 => absurd h30 (by simp)) (fun h30 => ?_)
    try simp only [NRM] at h30
    refine SX.E (.bool true) (fun α => SX.extBnd (A := A3) (n := i + 1) (c := c3) (j := i) (fun _ => g3) (by kernel_rfl) (by kernel_rfl) (by omega)) ?_
    refine SX.E (.bool true) (fun α => SX.extBnd (A := A3) (n := i + 1) (c := c3) (j := i) (fun _ => g3) (by kernel_rfl) (by kernel_rfl) (by omega)) ?_
    refine SX.E (.int .i64 ((i : Int))) (fun α => SX.extElem (o := 1) (v := .int .i64 (i : Int)) (f := cellsLk) (l := (addL X node A4 c4 b.tx)) (A := A3) (n := i + 1) (c := c3) (j := i) (z := (mkLk X node A4 c4 b.tx)) (fun _ => rfl) (fun _ => g3) (by kernel_rfl) (by kernel_rfl) (by omega) hYw hY (by decide) (by rw [← hXl]; rfl)) ?_
    refine SX.D (.bool (((i : Int) : Int) != ((i : Nat) : Int))) ?_
    refine SX.B (((i : Int) : Int) != ((i : Nat) : Int)) (fun h34 => absurd h34 (by simp)) (fun h34 => ?_)
    try simp only [NRM] at h34
    refine SX.E (.bool true) (fun α => SX.extBnd (A := A3) (n := i + 1) (c := c3) (j := i) (fun _ => g3) (by kernel_rfl) (by kernel_rfl) (by omega)) ?_
    refine SX.E (.bool true) (fun α => SX.extBnd (A := A3) (n := i + 1) (c := c3) (j := i) (fun _ => g3) (by kernel_rfl) (by kernel_rfl) (by omega)) ?_
    refine SX.E (.int .i64 node) (fun α => SX.extElem (o := 0) (v := .int .i64 node) (f := cellsLk) (l := (addL X node A4 c4 b.tx)) (A := A3) (n := i + 1) (c := c3) (j := i) (z := (mkLk X node A4 c4 b.tx)) (fun _ => rfl) (fun _ => g3) (by kernel_rfl) (by kernel_rfl) (by omega) hYw hY (by decide) rfl) ?_
    refine SX.D (.bool ((node : Int) != node)) ?_
    refine SX.B ((node : Int) != node) (fun h38 => absurd h38 (by simp)) (fun h38 => ?_)
    try simp only [NRM] at h38
    refine SX.E (.bool true) (fun α => SX.extBnd (A := A3) (n := i + 1) (c := c3) (j := i) (fun _ => g3) (by kernel_rfl) (by kernel_rfl) (by omega)) ?_
    refine SX.E (.bool true) (fun α => SX.extBnd (A := A3) (n := i + 1) (c := c3) (j := i) (fun _ => g3) (by kernel_rfl) (by kernel_rfl) (by omega)) ?_
    refine SX.E ((.slice A4 b.tx.size c4)) (fun α => SX.extElem (o := 34) (v := .slice A4 b.tx.size c4) (f := cellsLk) (l := (addL X node A4 c4 b.tx)) (A := A3) (n := i + 1) (c := c3) (j := i) (z := (mkLk X node A4 c4 b.tx)) (fun _ => rfl) (fun _ => g3) (by kernel_rfl) (by kernel_rfl) (by omega) hYw hY (by decide) rfl) ?_
    refine SX.E (.string b.tx) (fun α => b2sx_of (A := A4) (n := b.tx.size) (c := c4) (by kernel_rfl) hYd) ?_
    refine SX.E (.bool true) (fun α => SX.extBnd (A := A) (n := n) (c := c) (j := i) hA (by kernel_rfl) (by kernel_rfl) (by omega)) ?_
    refine SX.E (b.hdr) (fun α => SX.extElem (o := 0) (v := b.hdr) (f := cellsTx) (l := bs) (A := A) (n := n) (c := c) (j := i) (z := b) (fun _ => rfl) hA (by kernel_rfl) (by kernel_rfl) (by omega) (.inl (.inl (.inl ⟨rfl, rfl, rfl⟩))) hb (by decide) rfl) ?_
    refine SX.E (.string b.tx) (fun α => b2sx_of (A := b.A) (n := b.n) (c := b.c) (by kernel_rfl) (.inl (.inl (KB_data hbm)))) ?_
    refine SX.D (.bool (!decide (b.tx = b.tx))) ?_
    refine SX.B (!decide (b.tx = b.tx)) (fun h46 => absurd h46 (by simp)) (fun h46 => ?_)
    try simp only [NRM] at h46
    refine SX.E (.int .i64 (((i + 1 : Nat) : Int))) (fun α => SX.W1 i) ?_
    exact SX.VC_again fun α => ⟨rfl, N3 ++ ((cxQF (KB A n c bs) (fun _ _ _ => False)).plus N).N, (fun y hy => hy), ⟨i + 1, A3, c3, (addL X node A4 c4 b.tx), by kernel_rfl, by omega, hX.step (fun s z xs h => h.elim .inl fun h => .inr (List.mem_append_right _ h)) (by omega) hnd.1 hnd.2 (by omega) g3 gc3 hN3 fun y hy => .inr (List.mem_append_left _ hy)⟩, cast (by kernel_rfl) (show n - ((i + 1 : Nat) : Int).toNat < n - (i : Int).toNat by omega)⟩
  try simp only [NRM] at h11
  obtain ⟨hXl, hXc, hXA, hXx, hXn, hXw, hXp, hXk⟩ := hX
  refine SX.VC_loop (fun xs => ∃ (k : Nat), xs = [.int .i64 (k : Int)] ∧ k ≤ i + 1) (fun xs => match xs with | .int _ k :: _ => i + 1 - k.toNat | _ => 0) (fun α => ⟨0, by kernel_rfl, by omega⟩) ?_
  rintro xs - ⟨k, rfl, hk⟩
  refine SX.D (.int .i64 (((i : Nat) : Int))) ?_
  refine SX.D (.bool (decide (((k : Nat) : Int) ≤ ((i : Nat) : Int)))) ?_
  refine SX.B (decide (((k : Nat) : Int) ≤ ((i : Nat) : Int))) (fun h14 => ?_) (fun h14 => ?_)
  · try simp only [NRM] at h14
    refine SX.E ((SX.subS A1 35 0 k c1)) (fun α => SX.slc_hi (A := A1) (n := i) (c := c1) (k := k) (by kernel_rfl) (by kernel_rfl) (by omega)) ?_
    refine SX.E (.int .i64 0) (fun α => ⟨[⟨SX.subS A1 35 0 k c1, 35, lkL (X.take k)⟩], ⟨by kernel_rfl, by kernel_rfl, K_of (y := ⟨SX.subS A1 35 0 k c1, 35, lkL (X.take k)⟩) (by kernel_rfl) (hXp k (by omega)), trivial⟩, .inr (.inr (.inr (⟨rfl, _, X.take k, rfl, (laid_plus (KB_laid _ _ _ _)), by rw [List.length_take]; omega, fun z hz => hXk z (List.mem_of_mem_take hz), by rw [chk_take hXx]⟩))), SX.noAli rfl⟩) ?_
    refine SX.D (.bool ((0 : Int) != 0)) ?_
    refine SX.B ((0 : Int) != 0) (fun h17 => absurd h17 (by decide)) (fun h17 => ?_)
    try simp only [NRM] at h17
    refine SX.E (.int .i64 (((k + 1 : Nat) : Int))) (fun α => SX.W1 k) ?_
    exact SX.VC_again fun α => ⟨⟨k + 1, by kernel_rfl, by omega⟩, cast (by kernel_rfl) (show i + 1 - ((k + 1 : Nat) : Int).toNat < i + 1 - (k : Int).toNat by omega)⟩
  try simp only [NRM] at h14
  exact SX.F (.bool true) (rfl)
end Go.Proofs.YtdamlaegboiokaaDoor
namespace Go.Proofs.YtdamlaegboiokaaDoor
open Go Go.RowKit Go.ChangeShapes Go.WideShapes Go.ChangeAt
section
variable {H : Type} {enc : TypeId × Value → H} {w : World} {base : Nat} {sp : Nat → Bool} {held : Bool} {r : Reach} {b0 : Nat} {v : Value} {d : DataW H} {ps : List MemPlace}
theorem text_cells {n : Nat} {cs : List Value} {y : DataW H × List MemPlace} (hf : DataW.trod enc Tryd.prog w base sp held n 23 cs = some y) : ∃ z : Tx, z.rd w ∧ cs = cellsTx z := by
  obtain ⟨A, k, cap, l, e, hr, hk, _⟩ := u8s_of hf
  obtain ⟨tx, rfl⟩ := sb_of l
  exact ⟨⟨A, k, cap, tx⟩, ⟨hr, hk⟩, e⟩
theorem open_texts (hd : DataW.Trod enc Tryd.prog w base sp held 33 v d ps) : ∃ (A : Option Addr) (n cap : Nat) (l : List Tx), v.cells.toList = [.slice A n cap] ∧ Rd w 1 A n (l.flatMap cellsTx) ∧ n ≤ cap ∧ cap ≤ maxLen ∧ ∀ z ∈ l, z.rd w := by
  obtain ⟨fuel, hf⟩ := hd
  exact slice_of (f := cellsTx) (sz := 1) (Q := fun z => z.rd w) Tryd.underlying33 (by kernel_rfl) (by decide) (fun _ => rfl) (fun n cs y h => text_cells h) hf
end
end Go.Proofs.YtdamlaegboiokaaDoor
namespace Go.Proofs.YtdamlaegboiokaaDoor.chainBuilt
open Go Go.ChangeShapes Go.WideShapes Go.ChangeAt Go.RowKit
set_option maxRecDepth 100000 in
theorem lifted (os : Os) (started : os.Started) (H : Type) (enc : TypeId × Value → H) :
    ReturnsInHanded {} Tryd.checked os 4 .any (fun w args => (Rows.chainBuiltSpec.pre enc Tryd.prog Tryd.f4 [] false w args ∧ laidMetH Tryd.prog laidL w) ∧ sizedMet enc Tryd.prog Tryd.f4 (OpenSpec.ofChange Rows.chainBuiltSpec) false w args)
      (Rows.chainBuiltSpec.post enc Tryd.prog Tryd.f4 false true false false) := by
  refine returnsInHanded_of_change_and (C := Tryd.checked) (X := fun w _ => laidMetH Tryd.prog laidL w) (fun _ _ _ hh h => h.of_heap hh) ownK started (by kernel_rfl) Tryd.func4
    (ChangeSpec.witness_shaped (enc := enc) (C := Tryd.checked) (os := os) (X := fun w _ => laidMetH Tryd.prog laidL w) false (World.doorLaid Tryd.prog 400 os) #[.int .i64 0, .slice none 0 0] 8 rfl (World.shaped_of_RefB (by kernel_rfl) (by kernel_rfl)) (by kernel_rfl) (by kernel_rfl) (by kernel_rfl) (door_met os _)) ?_
  intro W base args ds gs before hval0 hW _ _ hL _
  have hval : ∀ (j : Nat) t v, Tryd.f4.params[j]? = some t → args[j]? = some v → Value.okWide Tryd.prog W .any base t v := hval0
  have hW' := hW
  obtain ⟨p, q, hA0, hV, rfl, hfz, hnd⟩ := hW
  have hA : DataW.TrodAll enc Tryd.prog W 0 (fun _ => true) true Tryd.f4.params.toList args.toList ds p := hA0
  rw [Tryd.params4] at hA hval
  obtain ⟨v0, vs0, d0, ds0, p0, q0, hargs, rfl, rfl, h0, r0⟩ := trodAll_cons hA
  obtain ⟨v1, vs1, d1, ds1, p1, q1, rfl, rfl, rfl, h1, r1⟩ := trodAll_cons r0
  obtain ⟨rfl, rfl, rfl⟩ := trodAll_nil r1
  obtain rfl : args = #[v0, v1] := by cases args; simp_all
  obtain ⟨rfl, rfl⟩ := trodVars_none hV
  obtain ⟨a0, rfl, rfl, rfl, w0⟩ := open_int Tryd.underlying3 (hval 0 3 v0 rfl rfl) h0
  obtain ⟨A1, n1, c1, l1, e1, hr1, hc1, hm1, hq1⟩ := open_texts h1
  obtain rfl := v_slice Tryd.underlying33 (hval 1 33 v1 rfl rfl) e1
  rw [max_eq] at hm1
  clear hA0 hval0
  have hlaid := laid_world hL
  refine (built_any a0 l1 A1 n1 c1 W hr1 hc1 hq1 hlaid).mono fun e W' ⟨he, hb⟩ => ?_
  subst he
  exact ⟨_, rfl, law_post laidOut (by kernel_rfl) rfl hW' hb rfl rfl Tryd.underlying4⟩
theorem over : Rows.chainBuiltRow.holds Tryd.pinned (OpenSpec.ofChange Rows.chainBuiltSpec) :=
  OpenClaim.holds_of_wide 4 Tryd.f4 rfl rfl rfl rfl rfl rfl rfl ⟨rfl, rfl, rfl, rfl, rfl⟩ rfl rfl rfl rfl rfl (by kernel_rfl) Tryd.func4 (by kernel_rfl)
    (of_decide_eq_true (by kernel_rfl)) (by unfold Func.isWrapper; first | (rw [if_pos (by decide +kernel)]; kernel_rfl) | (rw [if_neg (by decide +kernel)]; exact ⟨rfl, rfl⟩))
    (fun os started H enc _ => lifted os started H enc)
theorem proved : Rows.ChainBuiltCardSaid :=
  Claim7.holds_tied_plain_at .later [] [.data, .data] true (true, "521b2ca88230f32fb39facb778099429df77589fc8ba99baccf153ac95919c22") false
    over (fun _ h => by cases h) (by kernel_rfl) (fun _ h => by cases h) chainBuilt_row_tie rfl ⟨rfl, rfl⟩ (by kernel_rfl) rfl
    (fun f fn hf hfn => by
      obtain rfl : f = 4 := Option.some.inj ((show Tryd.prog.funcNamed "kinesphere/kinespherelaw08.ChainBuilt" = some 4 by kernel_rfl).symm.trans hf) |>.symm
      obtain rfl : fn = Tryd.f4 := (Option.some.inj (Tryd.func4.symm.trans hfn)).symm
      exact ⟨by kernel_rfl, fun j t ht => by
        rw [Tryd.params4] at ht
        have hm : t ∈ [3, 33] := by simpa using Array.mem_of_getElem? ht
        have hall : ([3, 33].all fun u => !Tryd.prog.wantsStandIn u) = true := by kernel_rfl
        exact (show Tryd.prog.wantsStandIn t = false by simpa using List.all_eq_true.1 hall t hm)⟩)
    (by kernel_rfl)
#print axioms proved
end Go.Proofs.YtdamlaegboiokaaDoor.chainBuilt
