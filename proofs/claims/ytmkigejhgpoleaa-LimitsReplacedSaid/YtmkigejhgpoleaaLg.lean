/-
  body.All.
-/
import Derived.Test.YtmkigejhgpoleaaLf
namespace Go.Proofs.Ytmkigejhgpoleaa
set_option linter.unusedSimpArgs false
set_option linter.unusedVariables false
open Go Go.RowKit
theorem chk0 {b : Bod.Bd} : b.chk = 0 ↔ b.okB = true := by
  unfold Bod.Bd.chk
  by_cases h : b.okB = true <;> simp [h]
theorem allB_zero {b : Bod.Bd} {l : List Bod.Cp} (h : b.allE l ≠ 0) : b.allB l = Bod.Bd.zero := by unfold Bod.Bd.allB; rw [if_neg h]
theorem set_name (b : Bod.Bd) (r l : Nat) (v : Int) : (b.set r l v).name = b.name := by
  unfold Bod.Bd.set
  split <;> rfl
theorem meets_name (l : List Bod.Cp) : ∀ b : Bod.Bd, (b.meets l).name = b.name := by
  induction l with
  | nil => intro b; rfl
  | cons c l ih => intro b; show ((b.meet c).meets l).name = _; rw [ih]; exact set_name ..
theorem meets_succ {b : Bod.Bd} {cs : List Bod.Cp} {i : Nat} {z : Bod.Cp} (hz : cs[i]? = some z) : b.meets (cs.take (i + 1)) = (b.meets (cs.take i)).meet z := by
  unfold Bod.Bd.meets
  rw [List.take_add_one, hz, List.foldl_append]
  rfl
theorem oks_succ {cs : List Bod.Cp} {i : Nat} {z : Bod.Cp} (hz : cs[i]? = some z) (h : ∀ c ∈ cs.take i, c.ok = true) (hk : z.ok = true) : ∀ c ∈ cs.take (i + 1), c.ok = true := by
  intro c hc
  rw [List.take_add_one, hz] at hc
  simp only [Option.toList_some, List.mem_append, List.mem_singleton] at hc
  rcases hc with hc | rfl
  · exact h c hc
  · exact hk
theorem min_least (a b : Int) : SX.minV (.int .i64 a) (.int .i64 b) = some (.int .i64 (Bod.least a b)) := by
  simp only [SX.minV, minI, Bod.least, if_true]
/-- what is known of bodies and caps -/
def RF1 (f : FuncId) (xs : List SX.Arg) (v : Value) : Prop :=
  (f = 21 ∧ ∃ b : Bod.Bd, xs = [⟨valBd b, 0, []⟩] ∧ b.name.size ≤ maxLen ∧ v = .int .i64 b.chk) ∨
  (f = 33 ∧ ∃ c : Bod.Cp, xs = [⟨valCp c, 0, []⟩] ∧ v = .bool c.ok)
def shpF1 : FuncId → Option SX.Sh := fun f => if f = 21 then some .one else if f = 33 then some .one else none
noncomputable def cxF1 (K A : Value → Nat → List Value → Prop) : SX.Cx := { P := Try.prog, R := fun _ => RF1, shp := shpF1, K := K, A := A, trm := true, tl := [59, 60] }
theorem okF1 (K A : Value → Nat → List Value → Prop) : (cxF1 K A).Ok := by
  refine SX.Cx.ok_of (fun _ => rfl) ?_
  intro K f xs v W hR hrd hKf
  rcases hR with ⟨rfl, b, rfl, hs, rfl⟩ | ⟨rfl, c, rfl, rfl⟩
  · exact (bCheck_any b W hs).mono fun e w' h => SX.plainOk rfl h
  · rw [← capOk_ok]
    exact (cvalid_any c.kind c.limb c.n W).mono fun e w' h => SX.plainOk rfl h
def tree_bAll : SX.Tree :=
(.df (.call 21 [.no]) [(.a [(.x 0 []), (.x 1 []), (.x 2 []), (.x 3 []), (.x 4 []), (.x 5 []), (.x 6 []), (.x 7 []), (.x 8 []), (.x 9 []), (.x 10 []), (.x 11 []), (.x 12 []), (.x 13 []), (.x 14 []), (.x 15 []), (.x 16 [])])] .one 
(.df (.bin .neq 29) [(.x 18 []), (.k (.int .i64 0))] .one 
(.br 19 [] 
(.ret (.t [(.a [(.k (.string ⟨#[]⟩)), (.k (.int .i64 0)), (.k (.int .i64 0)), (.k (.int .i64 0)), (.k (.int .i64 0)), (.k (.int .i64 0)), (.k (.int .i64 0)), (.k (.int .i64 0)), (.k (.int .i64 0)), (.k (.int .i64 0)), (.k (.int .i64 0)), (.k (.int .i64 0)), (.k (.int .i64 0)), (.k (.int .i64 0)), (.k (.int .i64 0)), (.k (.int .i64 0)), (.k (.int .i64 0))]), (.x 18 [])]) [] []) 
(.df (.len false) [(.x 17 [])] .one 
(.df (.bin .gtr 3) [(.x 20 []), (.k (.int .i64 64))] .one 
(.br 21 [] 
(.ret (.t [(.a [(.k (.string ⟨#[]⟩)), (.k (.int .i64 0)), (.k (.int .i64 0)), (.k (.int .i64 0)), (.k (.int .i64 0)), (.k (.int .i64 0)), (.k (.int .i64 0)), (.k (.int .i64 0)), (.k (.int .i64 0)), (.k (.int .i64 0)), (.k (.int .i64 0)), (.k (.int .i64 0)), (.k (.int .i64 0)), (.k (.int .i64 0)), (.k (.int .i64 0)), (.k (.int .i64 0)), (.k (.int .i64 0))]), (.k (.int .i64 2))]) [] []) 
(.df (.len false) [(.x 17 [])] .one 
(.loop [(.k (.int .i64 0)), (.x 1 []), (.x 2 []), (.x 3 []), (.x 4 []), (.x 5 []), (.x 6 []), (.x 7 []), (.x 8 []), (.x 9 []), (.x 10 []), (.x 11 []), (.x 12 []), (.x 13 []), (.x 14 []), (.x 15 []), (.x 16 [])] [.one, .one, .one, .one, .one, .one, .one, .one, .one, .one, .one, .one, .one, .one, .one, .one, .one] 
(.df (.bin .lss 3) [(.x 23 []), (.x 22 [])] .one 
(.br 40 [] 
(.df .bnd [(.x 17 []), (.x 23 [])] .one 
(.df (.elems 3 0 3) [(.x 17 []), (.x 23 [])] (.ag 3) 
(.df (.call 33 [.no]) [(.a [(.x 42 [0]), (.x 42 [1]), (.x 42 [2])])] .one 
(.df .not [(.x 43 [])] .one 
(.br 44 [] 
(.ret (.t [(.a [(.k (.string ⟨#[]⟩)), (.k (.int .i64 0)), (.k (.int .i64 0)), (.k (.int .i64 0)), (.k (.int .i64 0)), (.k (.int .i64 0)), (.k (.int .i64 0)), (.k (.int .i64 0)), (.k (.int .i64 0)), (.k (.int .i64 0)), (.k (.int .i64 0)), (.k (.int .i64 0)), (.k (.int .i64 0)), (.k (.int .i64 0)), (.k (.int .i64 0)), (.k (.int .i64 0)), (.k (.int .i64 0))]), (.k (.int .i64 1))]) [] []) 
(.sp 42 [0] [(.bad 46 []), 
(.sp 42 [1] [
(.df .min [(.x 35 []), (.x 42 [2])] .one 
(.df (.bin .add 3) [(.x 23 []), (.k (.int .i64 1))] .one 
(.again 0 [(.x 46 []), (.x 24 []), (.x 25 []), (.x 26 []), (.x 27 []), (.x 28 []), (.x 29 []), (.x 30 []), (.x 31 []), (.x 32 []), (.x 33 []), (.x 34 []), (.x 45 []), (.x 36 []), (.x 37 []), (.x 38 []), (.x 39 [])]))), 
(.df .min [(.x 36 []), (.x 42 [2])] .one 
(.df (.bin .add 3) [(.x 23 []), (.k (.int .i64 1))] .one 
(.again 0 [(.x 46 []), (.x 24 []), (.x 25 []), (.x 26 []), (.x 27 []), (.x 28 []), (.x 29 []), (.x 30 []), (.x 31 []), (.x 32 []), (.x 33 []), (.x 34 []), (.x 35 []), (.x 45 []), (.x 37 []), (.x 38 []), (.x 39 [])]))), 
(.df .min [(.x 37 []), (.x 42 [2])] .one 
(.df (.bin .add 3) [(.x 23 []), (.k (.int .i64 1))] .one 
(.again 0 [(.x 46 []), (.x 24 []), (.x 25 []), (.x 26 []), (.x 27 []), (.x 28 []), (.x 29 []), (.x 30 []), (.x 31 []), (.x 32 []), (.x 33 []), (.x 34 []), (.x 35 []), (.x 36 []), (.x 45 []), (.x 38 []), (.x 39 [])])))]), 
(.sp 42 [1] [
(.df .min [(.x 32 []), (.x 42 [2])] .one 
(.df (.bin .add 3) [(.x 23 []), (.k (.int .i64 1))] .one 
(.again 0 [(.x 46 []), (.x 24 []), (.x 25 []), (.x 26 []), (.x 27 []), (.x 28 []), (.x 29 []), (.x 30 []), (.x 31 []), (.x 45 []), (.x 33 []), (.x 34 []), (.x 35 []), (.x 36 []), (.x 37 []), (.x 38 []), (.x 39 [])]))), 
(.df .min [(.x 33 []), (.x 42 [2])] .one 
(.df (.bin .add 3) [(.x 23 []), (.k (.int .i64 1))] .one 
(.again 0 [(.x 46 []), (.x 24 []), (.x 25 []), (.x 26 []), (.x 27 []), (.x 28 []), (.x 29 []), (.x 30 []), (.x 31 []), (.x 32 []), (.x 45 []), (.x 34 []), (.x 35 []), (.x 36 []), (.x 37 []), (.x 38 []), (.x 39 [])]))), 
(.df .min [(.x 34 []), (.x 42 [2])] .one 
(.df (.bin .add 3) [(.x 23 []), (.k (.int .i64 1))] .one 
(.again 0 [(.x 46 []), (.x 24 []), (.x 25 []), (.x 26 []), (.x 27 []), (.x 28 []), (.x 29 []), (.x 30 []), (.x 31 []), (.x 32 []), (.x 33 []), (.x 45 []), (.x 35 []), (.x 36 []), (.x 37 []), (.x 38 []), (.x 39 [])])))]), 
(.df .min [(.x 27 []), (.x 42 [2])] .one 
(.df (.bin .add 3) [(.x 23 []), (.k (.int .i64 1))] .one 
(.again 0 [(.x 46 []), (.x 24 []), (.x 25 []), (.x 26 []), (.x 45 []), (.x 28 []), (.x 29 []), (.x 30 []), (.x 31 []), (.x 32 []), (.x 33 []), (.x 34 []), (.x 35 []), (.x 36 []), (.x 37 []), (.x 38 []), (.x 39 [])]))), 
(.df .min [(.x 28 []), (.x 42 [2])] .one 
(.df (.bin .add 3) [(.x 23 []), (.k (.int .i64 1))] .one 
(.again 0 [(.x 46 []), (.x 24 []), (.x 25 []), (.x 26 []), (.x 27 []), (.x 45 []), (.x 29 []), (.x 30 []), (.x 31 []), (.x 32 []), (.x 33 []), (.x 34 []), (.x 35 []), (.x 36 []), (.x 37 []), (.x 38 []), (.x 39 [])]))), 
(.df .min [(.x 25 []), (.x 42 [2])] .one 
(.df (.bin .add 3) [(.x 23 []), (.k (.int .i64 1))] .one 
(.again 0 [(.x 46 []), (.x 24 []), (.x 45 []), (.x 26 []), (.x 27 []), (.x 28 []), (.x 29 []), (.x 30 []), (.x 31 []), (.x 32 []), (.x 33 []), (.x 34 []), (.x 35 []), (.x 36 []), (.x 37 []), (.x 38 []), (.x 39 [])]))), 
(.df .min [(.x 38 []), (.x 42 [2])] .one 
(.df (.bin .add 3) [(.x 23 []), (.k (.int .i64 1))] .one 
(.again 0 [(.x 46 []), (.x 24 []), (.x 25 []), (.x 26 []), (.x 27 []), (.x 28 []), (.x 29 []), (.x 30 []), (.x 31 []), (.x 32 []), (.x 33 []), (.x 34 []), (.x 35 []), (.x 36 []), (.x 37 []), (.x 45 []), (.x 39 [])])))])))))) 
(.ret (.t [(.a [(.x 0 []), (.x 24 []), (.x 25 []), (.x 26 []), (.x 27 []), (.x 28 []), (.x 29 []), (.x 30 []), (.x 31 []), (.x 32 []), (.x 33 []), (.x 34 []), (.x 35 []), (.x 36 []), (.x 37 []), (.x 38 []), (.x 39 [])]), (.k (.int .i64 0))]) [] [])))))))))))
def args_bAll : List SX.V := [.a ((List.range 17).map fun j => .x j []), .x 17 []]
set_option maxRecDepth 100000 in
theorem run_bAll (K A : Value → Nat → List Value → Prop) : (SX.run (cxF1 K A) ⟨fun f => true, [⟨41, 8, (.s 24, .one) :: (List.range 16).map fun j => (.c 2 (j + 1), .one)⟩], 0, 100⟩ 100000 0 (SX.door 41 Try.f41 args_bAll (List.replicate 18 .one)) [.code (Try.f41.body.getD .skip), .top Try.f41]).strip = tree_bAll := by kernel_rfl
set_option maxRecDepth 100000 in
set_option maxHeartbeats 4000000 in
theorem bAll_any (b : Bod.Bd) (cs : List Bod.Cp) (A : Option Addr) (n c : Nat) (w : World) (hs : b.name.size ≤ maxLen) (hr : Rd w 3 A n (cpL cs)) (hn : n ≤ 9223372036854775807) (hc : n ≤ c) : Calls Try.prog 41 #[valBd b, .slice A n c] w fun e w' => e = .returned (.tuple #[valBd (b.allB cs), .int .i64 (b.allE cs)]) ∧ Below w.heap.size w w' := by
  refine SX.calls_of_run (C := cxF1 (fun s sz cells => s = .slice A n c ∧ sz = 3 ∧ cells = cpL cs) (fun _ _ _ => False)) (G := ⟨fun f => true, [⟨41, 8, (.s 24, .one) :: (List.range 16).map fun j => (.c 2 (j + 1), .one)⟩], 0, 100⟩) (args := args_bAll) (sh := (List.replicate 18 .one)) (ρ := (cellsBd b ++ [.slice A n c])) 100000 tree_bAll (okF1 _ _) Try.func41 rfl (run_bAll _ _) (by kernel_rfl) (by kernel_rfl) (by kernel_rfl) ?_ ?_
  · rintro W hW s sz cells ⟨rfl, rfl, rfl⟩; exact ⟨hr.same0 hW, hc⟩
  have hA := SX.rd_some hr
  have hln : cs.length = n := by have := hr.1; rw [cpL_len] at this; omega
  unfold tree_bAll
  refine SX.VC_df (.int .i64 b.chk) (fun α => ⟨[⟨valBd b, 0, []⟩], ⟨by kernel_rfl, by kernel_rfl, trivial⟩, .inl ⟨rfl, _, rfl, hs, rfl⟩, SX.noAli rfl⟩) (by kernel_rfl) ?_
  refine SX.VC_df (.bool ((b.chk : Int) != 0)) (by intro α; show _ = _; kernel_rfl) (by kernel_rfl) ?_
  refine SX.VC_br ((b.chk : Int) != 0) (by kernel_rfl) (fun h19 => ?_) (fun h19 => ?_)
  · try simp only [NRM] at h19
    have hE : b.allE cs = b.chk := by have q : b.okB ≠ true := (fun hk => by have q := h19; simp [chk0.2 hk] at q); unfold Bod.Bd.allE Bod.Bd.chk; rw [if_neg q, if_neg q]
    have hB := allB_zero (b := b) (l := cs) (by rw [hE]; simpa using h19)
    exact SX.VC_ret fun α W _ _ hS => SX.ret_of hS (x := .tuple #[valBd Bod.Bd.zero, .int .i64 b.chk]) (by kernel_rfl) (by rw [hE, hB])
  · try simp only [NRM] at h19
    have hok : b.okB = true := chk0.1 (by simpa using h19)
    refine SX.VC_df (.int .i64 (((n : Nat) : Int))) (by intro α; show _ = _; kernel_rfl) (by kernel_rfl) ?_
    refine SX.VC_df (.bool (decide (((n : Nat) : Int) > 64))) (by intro α; show _ = _; kernel_rfl) (by kernel_rfl) ?_
    refine SX.VC_br (decide (((n : Nat) : Int) > 64)) (by kernel_rfl) (fun h21 => ?_) (fun h21 => ?_)
    · try simp only [NRM] at h21
      have hE : b.allE cs = 2 := by unfold Bod.Bd.allE; rw [if_pos hok, if_pos (by omega)]
      have hB := allB_zero (b := b) (l := cs) (by rw [hE]; decide)
      exact SX.VC_ret fun α W _ _ hS => SX.ret_of hS (x := .tuple #[valBd Bod.Bd.zero, .int .i64 2]) (by kernel_rfl) (by rw [hE, hB])
    · try simp only [NRM] at h21
      refine SX.VC_df (.int .i64 (((n : Nat) : Int))) (by intro α; show _ = _; kernel_rfl) (by kernel_rfl) ?_
      refine SX.VC_loop (fun xs => ∃ (i : Nat) (cur : Bod.Bd), xs = [.int .i64 (i : Int), .int .i64 cur.weight, .int .i64 cur.lift, .int .i64 cur.girth, .int .i64 cur.step, .int .i64 cur.jump, .int .i64 cur.r0, .int .i64 cur.r1, .int .i64 cur.r2, .int .i64 cur.s0, .int .i64 cur.s1, .int .i64 cur.s2, .int .i64 cur.t0, .int .i64 cur.t1, .int .i64 cur.t2, .int .i64 cur.effort, .int .i64 cur.recover] ∧ i ≤ n ∧ cur = b.meets (cs.take i) ∧ ∀ c ∈ cs.take i, c.ok = true) (fun xs => match xs with | (.int _ i) :: _ => n - i.toNat | _ => 0) (fun α => ⟨0, b, by kernel_rfl, by omega, rfl, by simp⟩) ?_
      rintro xs - ⟨i, cur, rfl, hin, hcur, hoks⟩
      refine SX.VC_df (.bool (decide (((i : Nat) : Int) < ((n : Nat) : Int)))) (by intro α; show _ = _; kernel_rfl) (by kernel_rfl) ?_
      refine SX.VC_br (decide (((i : Nat) : Int) < ((n : Nat) : Int))) (by kernel_rfl) (fun h40 => ?_) (fun h40 => ?_)
      · try simp only [NRM] at h40
        obtain ⟨⟨zk, zl, zn⟩, hz⟩ : ∃ z, cs[i]? = some z := ⟨_, List.getElem?_eq_getElem (by omega)⟩
        refine SX.VC_df (.bool true) (fun α => SX.extBnd (A := A) (n := n) (c := c) (j := i) hA (by kernel_rfl) (by kernel_rfl) (by omega)) (by kernel_rfl) ?_
        refine SX.VC_df (.agg (cellsCp (⟨zk, zl, zn⟩ : Bod.Cp)).toArray) (fun α => SX.extElems (f := cellsCp) (l := cs) (A := A) (n := n) (c := c) (j := i) (z := (⟨zk, zl, zn⟩ : Bod.Cp)) (fun _ => rfl) hA (by kernel_rfl) (by kernel_rfl) (by omega) ⟨rfl, rfl, rfl⟩ hz) (by kernel_rfl) ?_
        refine SX.VC_df (.bool ((⟨zk, zl, zn⟩ : Bod.Cp).ok)) (fun α => ⟨[⟨valCp ⟨zk, zl, zn⟩, 0, []⟩], ⟨by kernel_rfl, by kernel_rfl, trivial⟩, .inr (⟨rfl, _, rfl, rfl⟩), SX.noAli rfl⟩) (by kernel_rfl) ?_
        refine SX.VC_df (.bool (!((⟨zk, zl, zn⟩ : Bod.Cp).ok))) (by intro α; show _ = _; kernel_rfl) (by kernel_rfl) ?_
        refine SX.VC_br (!((⟨zk, zl, zn⟩ : Bod.Cp).ok)) (by kernel_rfl) (fun h44 => ?_) (fun h44 => ?_)
        · try simp only [NRM] at h44
          have hE : b.allE cs = 1 := by unfold Bod.Bd.allE; rw [if_pos hok, if_neg (by omega), if_neg (fun hk => by have q := h44; simp [List.all_eq_true.1 hk _ (List.mem_of_getElem? hz)] at q)]
          have hB := allB_zero (b := b) (l := cs) (by rw [hE]; decide)
          exact SX.VC_ret fun α W _ _ hS => SX.ret_of hS (x := .tuple #[valBd Bod.Bd.zero, .int .i64 1]) (by kernel_rfl) (by rw [hE, hB])
        · try simp only [NRM] at h44
          have hzo : (⟨zk, zl, zn⟩ : Bod.Cp).ok = true := by simpa using h44
          have hcap : capOk zk zl zn := by have q := capOk_ok ⟨zk, zl, zn⟩; rw [hzo, decide_eq_true_eq] at q; exact q
          obtain ⟨j, rfl⟩ : ∃ j : Nat, zk = j := ⟨zk.toNat, by unfold capOk at hcap; omega⟩
          have hk : j = 1 ∨ j = 2 ∨ j = 3 ∨ j = 4 ∨ j = 5 ∨ j = 6 := by unfold capOk at hcap; omega
          refine SX.VC_sp j (by show j < 7; omega) (by kernel_rfl) fun t ht => ?_
          rcases hk with rfl | rfl | rfl | rfl | rfl | rfl
          · cases (Option.some.inj ht)
            obtain ⟨m, rfl⟩ : ∃ m : Nat, zl = m := ⟨zl.toNat, by unfold capOk at hcap; omega⟩
            have hm : m = 0 ∨ m = 1 ∨ m = 2 := by unfold capOk at hcap; omega
            refine SX.VC_sp m (by show m < 3; omega) (by kernel_rfl) fun t ht => ?_
            rcases hm with rfl | rfl | rfl
            · cases (Option.some.inj ht)
              refine SX.VC_df (.int .i64 ((Bod.least cur.t0 zn))) (fun α => Eq.trans (b := SX.minV (.int .i64 cur.t0) (.int .i64 zn)) (by kernel_rfl) (min_least _ _)) (by kernel_rfl) ?_
              refine SX.VC_df (.int .i64 (((i + 1 : Nat) : Int))) (fun α => Eq.trans (b := some (.int .i64 (IntKind.i64.wrap ((i : Int) + 1)))) (by kernel_rfl) (by rw [show ((i + 1 : Nat) : Int) = (i : Int) + 1 by omega, wrap_i64 (by omega) (by omega)])) (by kernel_rfl) ?_
              exact SX.VC_again fun α => ⟨⟨i + 1, cur.meet ⟨1, 0, zn⟩, by kernel_rfl, by omega, by rw [hcur]; exact (meets_succ hz).symm, oks_succ hz hoks hzo⟩, cast (by kernel_rfl) (show n - ((i + 1 : Nat) : Int).toNat < n - (i : Int).toNat by omega)⟩
            · cases (Option.some.inj ht)
              refine SX.VC_df (.int .i64 ((Bod.least cur.t1 zn))) (fun α => Eq.trans (b := SX.minV (.int .i64 cur.t1) (.int .i64 zn)) (by kernel_rfl) (min_least _ _)) (by kernel_rfl) ?_
              refine SX.VC_df (.int .i64 (((i + 1 : Nat) : Int))) (fun α => Eq.trans (b := some (.int .i64 (IntKind.i64.wrap ((i : Int) + 1)))) (by kernel_rfl) (by rw [show ((i + 1 : Nat) : Int) = (i : Int) + 1 by omega, wrap_i64 (by omega) (by omega)])) (by kernel_rfl) ?_
              exact SX.VC_again fun α => ⟨⟨i + 1, cur.meet ⟨1, 1, zn⟩, by kernel_rfl, by omega, by rw [hcur]; exact (meets_succ hz).symm, oks_succ hz hoks hzo⟩, cast (by kernel_rfl) (show n - ((i + 1 : Nat) : Int).toNat < n - (i : Int).toNat by omega)⟩
            · cases (Option.some.inj ht)
              refine SX.VC_df (.int .i64 ((Bod.least cur.t2 zn))) (fun α => Eq.trans (b := SX.minV (.int .i64 cur.t2) (.int .i64 zn)) (by kernel_rfl) (min_least _ _)) (by kernel_rfl) ?_
              refine SX.VC_df (.int .i64 (((i + 1 : Nat) : Int))) (fun α => Eq.trans (b := some (.int .i64 (IntKind.i64.wrap ((i : Int) + 1)))) (by kernel_rfl) (by rw [show ((i + 1 : Nat) : Int) = (i : Int) + 1 by omega, wrap_i64 (by omega) (by omega)])) (by kernel_rfl) ?_
              exact SX.VC_again fun α => ⟨⟨i + 1, cur.meet ⟨1, 2, zn⟩, by kernel_rfl, by omega, by rw [hcur]; exact (meets_succ hz).symm, oks_succ hz hoks hzo⟩, cast (by kernel_rfl) (show n - ((i + 1 : Nat) : Int).toNat < n - (i : Int).toNat by omega)⟩
          · cases (Option.some.inj ht)
            obtain ⟨m, rfl⟩ : ∃ m : Nat, zl = m := ⟨zl.toNat, by unfold capOk at hcap; omega⟩
            have hm : m = 0 ∨ m = 1 ∨ m = 2 := by unfold capOk at hcap; omega
            refine SX.VC_sp m (by show m < 3; omega) (by kernel_rfl) fun t ht => ?_
            rcases hm with rfl | rfl | rfl
            · cases (Option.some.inj ht)
              refine SX.VC_df (.int .i64 ((Bod.least cur.s0 zn))) (fun α => Eq.trans (b := SX.minV (.int .i64 cur.s0) (.int .i64 zn)) (by kernel_rfl) (min_least _ _)) (by kernel_rfl) ?_
              refine SX.VC_df (.int .i64 (((i + 1 : Nat) : Int))) (fun α => Eq.trans (b := some (.int .i64 (IntKind.i64.wrap ((i : Int) + 1)))) (by kernel_rfl) (by rw [show ((i + 1 : Nat) : Int) = (i : Int) + 1 by omega, wrap_i64 (by omega) (by omega)])) (by kernel_rfl) ?_
              exact SX.VC_again fun α => ⟨⟨i + 1, cur.meet ⟨2, 0, zn⟩, by kernel_rfl, by omega, by rw [hcur]; exact (meets_succ hz).symm, oks_succ hz hoks hzo⟩, cast (by kernel_rfl) (show n - ((i + 1 : Nat) : Int).toNat < n - (i : Int).toNat by omega)⟩
            · cases (Option.some.inj ht)
              refine SX.VC_df (.int .i64 ((Bod.least cur.s1 zn))) (fun α => Eq.trans (b := SX.minV (.int .i64 cur.s1) (.int .i64 zn)) (by kernel_rfl) (min_least _ _)) (by kernel_rfl) ?_
              refine SX.VC_df (.int .i64 (((i + 1 : Nat) : Int))) (fun α => Eq.trans (b := some (.int .i64 (IntKind.i64.wrap ((i : Int) + 1)))) (by kernel_rfl) (by rw [show ((i + 1 : Nat) : Int) = (i : Int) + 1 by omega, wrap_i64 (by omega) (by omega)])) (by kernel_rfl) ?_
              exact SX.VC_again fun α => ⟨⟨i + 1, cur.meet ⟨2, 1, zn⟩, by kernel_rfl, by omega, by rw [hcur]; exact (meets_succ hz).symm, oks_succ hz hoks hzo⟩, cast (by kernel_rfl) (show n - ((i + 1 : Nat) : Int).toNat < n - (i : Int).toNat by omega)⟩
            · cases (Option.some.inj ht)
              refine SX.VC_df (.int .i64 ((Bod.least cur.s2 zn))) (fun α => Eq.trans (b := SX.minV (.int .i64 cur.s2) (.int .i64 zn)) (by kernel_rfl) (min_least _ _)) (by kernel_rfl) ?_
              refine SX.VC_df (.int .i64 (((i + 1 : Nat) : Int))) (fun α => Eq.trans (b := some (.int .i64 (IntKind.i64.wrap ((i : Int) + 1)))) (by kernel_rfl) (by rw [show ((i + 1 : Nat) : Int) = (i : Int) + 1 by omega, wrap_i64 (by omega) (by omega)])) (by kernel_rfl) ?_
              exact SX.VC_again fun α => ⟨⟨i + 1, cur.meet ⟨2, 2, zn⟩, by kernel_rfl, by omega, by rw [hcur]; exact (meets_succ hz).symm, oks_succ hz hoks hzo⟩, cast (by kernel_rfl) (show n - ((i + 1 : Nat) : Int).toNat < n - (i : Int).toNat by omega)⟩
          · cases (Option.some.inj ht)
            refine SX.VC_df (.int .i64 ((Bod.least cur.step zn))) (fun α => Eq.trans (b := SX.minV (.int .i64 cur.step) (.int .i64 zn)) (by kernel_rfl) (min_least _ _)) (by kernel_rfl) ?_
            refine SX.VC_df (.int .i64 (((i + 1 : Nat) : Int))) (fun α => Eq.trans (b := some (.int .i64 (IntKind.i64.wrap ((i : Int) + 1)))) (by kernel_rfl) (by rw [show ((i + 1 : Nat) : Int) = (i : Int) + 1 by omega, wrap_i64 (by omega) (by omega)])) (by kernel_rfl) ?_
            exact SX.VC_again fun α => ⟨⟨i + 1, cur.meet ⟨3, zl, zn⟩, by kernel_rfl, by omega, by rw [hcur]; exact (meets_succ hz).symm, oks_succ hz hoks hzo⟩, cast (by kernel_rfl) (show n - ((i + 1 : Nat) : Int).toNat < n - (i : Int).toNat by omega)⟩
          · cases (Option.some.inj ht)
            refine SX.VC_df (.int .i64 ((Bod.least cur.jump zn))) (fun α => Eq.trans (b := SX.minV (.int .i64 cur.jump) (.int .i64 zn)) (by kernel_rfl) (min_least _ _)) (by kernel_rfl) ?_
            refine SX.VC_df (.int .i64 (((i + 1 : Nat) : Int))) (fun α => Eq.trans (b := some (.int .i64 (IntKind.i64.wrap ((i : Int) + 1)))) (by kernel_rfl) (by rw [show ((i + 1 : Nat) : Int) = (i : Int) + 1 by omega, wrap_i64 (by omega) (by omega)])) (by kernel_rfl) ?_
            exact SX.VC_again fun α => ⟨⟨i + 1, cur.meet ⟨4, zl, zn⟩, by kernel_rfl, by omega, by rw [hcur]; exact (meets_succ hz).symm, oks_succ hz hoks hzo⟩, cast (by kernel_rfl) (show n - ((i + 1 : Nat) : Int).toNat < n - (i : Int).toNat by omega)⟩
          · cases (Option.some.inj ht)
            refine SX.VC_df (.int .i64 ((Bod.least cur.lift zn))) (fun α => Eq.trans (b := SX.minV (.int .i64 cur.lift) (.int .i64 zn)) (by kernel_rfl) (min_least _ _)) (by kernel_rfl) ?_
            refine SX.VC_df (.int .i64 (((i + 1 : Nat) : Int))) (fun α => Eq.trans (b := some (.int .i64 (IntKind.i64.wrap ((i : Int) + 1)))) (by kernel_rfl) (by rw [show ((i + 1 : Nat) : Int) = (i : Int) + 1 by omega, wrap_i64 (by omega) (by omega)])) (by kernel_rfl) ?_
            exact SX.VC_again fun α => ⟨⟨i + 1, cur.meet ⟨5, zl, zn⟩, by kernel_rfl, by omega, by rw [hcur]; exact (meets_succ hz).symm, oks_succ hz hoks hzo⟩, cast (by kernel_rfl) (show n - ((i + 1 : Nat) : Int).toNat < n - (i : Int).toNat by omega)⟩
          · cases (Option.some.inj ht)
            refine SX.VC_df (.int .i64 ((Bod.least cur.effort zn))) (fun α => Eq.trans (b := SX.minV (.int .i64 cur.effort) (.int .i64 zn)) (by kernel_rfl) (min_least _ _)) (by kernel_rfl) ?_
            refine SX.VC_df (.int .i64 (((i + 1 : Nat) : Int))) (fun α => Eq.trans (b := some (.int .i64 (IntKind.i64.wrap ((i : Int) + 1)))) (by kernel_rfl) (by rw [show ((i + 1 : Nat) : Int) = (i : Int) + 1 by omega, wrap_i64 (by omega) (by omega)])) (by kernel_rfl) ?_
            exact SX.VC_again fun α => ⟨⟨i + 1, cur.meet ⟨6, zl, zn⟩, by kernel_rfl, by omega, by rw [hcur]; exact (meets_succ hz).symm, oks_succ hz hoks hzo⟩, cast (by kernel_rfl) (show n - ((i + 1 : Nat) : Int).toNat < n - (i : Int).toNat by omega)⟩
      · try simp only [NRM] at h40
        have ht : cs.take i = cs := List.take_of_length_le (by omega)
        rw [ht] at hcur hoks
        obtain ⟨hE, hB⟩ := Bod.Bd.all_yes (b := b) (l := cs) hok (by omega) (List.all_eq_true.2 hoks)
        have hnm : cur.name = b.name := by rw [hcur]; exact meets_name cs b
        exact SX.VC_ret fun α W _ _ hS => SX.ret_of hS (x := .tuple #[.agg #[.string b.name, .int .i64 cur.weight, .int .i64 cur.lift, .int .i64 cur.girth, .int .i64 cur.step, .int .i64 cur.jump, .int .i64 cur.r0, .int .i64 cur.r1, .int .i64 cur.r2, .int .i64 cur.s0, .int .i64 cur.s1, .int .i64 cur.s2, .int .i64 cur.t0, .int .i64 cur.t1, .int .i64 cur.t2, .int .i64 cur.effort, .int .i64 cur.recover], .int .i64 0]) (by kernel_rfl) (by rw [hE, hB, ← hcur]; simp only [valBd, cellsBd, hnm])
end Go.Proofs.Ytmkigejhgpoleaa
