/-
  Walk by the executor: the law of further caps and weaker bodies.
-/
import Derived.Test.YtklppgkolcpbbaaSx9
import Derived.Test.YtklppgkolcpbbaaBodyL1
import Derived.Test.YtklppgkolcpbbaaBodyP3
namespace Go.Proofs.Ytklppgkolcpbbaa
set_option linter.unusedSimpArgs false
set_option linter.unusedVariables false
open Go Go.RowKit

def seedFs : FuncId → Option SX.Sh := fun f => if f = 16 then some (.tp [.ag 17, .one]) else if f = 18 then some (.tp [.one, .one]) else if f = 9 then some .one else if f = 12 then some .one else if f = 10 then some (.tp [.ag 17, .one]) else none
/-- what the functions of the body answer -/
def bodyR (f : FuncId) (xs : List SX.Arg) (v : Value) : Prop :=
  (f = 9 ∧ xs = [] ∧ v = .bool true) ∨
  (f = 16 ∧ ∃ (b : Bod.Bd) (l : List Bod.Cp) (u : Value), xs = [⟨valB b, 0, []⟩, ⟨u, 3, capsL l⟩] ∧ b.name.size ≤ maxLen ∧ l.length ≤ maxLen ∧ v = .tuple #[valB (b.allB l), .int .i64 (b.allE l)]) ∨
  (f = 18 ∧ ∃ a b : Bod.Bd, xs = [⟨valB a, 0, []⟩, ⟨valB b, 0, []⟩] ∧ a.name.size ≤ maxLen ∧ b.name.size ≤ maxLen ∧ v = .tuple #[.bool (Bod.weakV a b), .int .i64 (Bod.weakE a b)]) ∨
  (f = 12 ∧ ∃ a : Bod.Bd, xs = [⟨valB a, 0, []⟩] ∧ a.name.size ≤ maxLen ∧ v = .int .i64 a.chk) ∨
  (f = 10 ∧ ∃ (b : Bod.Bd) (c : Bod.Cp), xs = [⟨valB b, 0, []⟩, ⟨valC c, 0, []⟩] ∧ b.name.size ≤ maxLen ∧ v = .tuple #[valB (b.allB [c]), .int .i64 (b.allE [c])])
noncomputable def bodyCx (K : Value → Nat → List Value → Prop) : SX.Cx := { P := Try.prog, R := bodyR, shp := seedFs, K := K }
theorem bodyCx_ok (K : Value → Nat → List Value → Prop) : (bodyCx K).Ok := by
  intro f xs v W hR hrd _
  rcases hR with ⟨rfl, rfl, rfl⟩ | ⟨rfl, b, l, u, rfl, hn, hl, rfl⟩ | ⟨rfl, a, b, rfl, ha, hb, rfl⟩ | ⟨rfl, a, rfl, ha, rfl⟩ | ⟨rfl, b, c, rfl, hb, rfl⟩
  · exact (sane_any W).mono fun e w' h => h
  · have h1 := hrd ⟨u, 3, capsL l⟩ (by simp)
    unfold SX.Arg.rd at h1
    split at h1
    · rename_i A n cap hu
      have hu : u = .slice A n cap := hu
      subst hu
      have hn2 : n = l.length := by
        have := h1.1
        simp only [capsL_len] at this
        omega
      exact (all_any b l A n cap W hn h1 (by omega)).mono fun e w' h => h
    · cases h1
  · exact (weaker_any a b W ha hb).mono fun e w' h => h
  · exact (check_any a W ha).mono fun e w' h => h
  · exact (meet_any b c W hb).mono fun e w' h => h

namespace SX
section
variable {C : Cx} {w0 : Org} {ps : List (World → Prop)} {T0 : List (Array Value)} {R : Ending → World → Prop} {L : List (List Value → Prop)} {ρ : List Value}
theorem VC_df {q : Opq} {args : List V} {sh : Sh} {t : Tree} (v : Value) (h : ∀ α, q.rel C ρ α args v) (hf : sh.fit v = true) (k : VC C w0 ps T0 R L (ρ ++ [v]) t) : VC C w0 ps T0 R L ρ (.df q args sh t) := by
  unfold VC; exact ⟨v, h, hf, k⟩
theorem VC_br {i : Nat} {p : List Nat} {t e : Tree} (b : Bool) (h : p.foldl comp (ρ.getD i undef) = .bool b) (ht : b = true → VC C w0 ps T0 R L ρ t) (he : b = false → VC C w0 ps T0 R L ρ e) : VC C w0 ps T0 R L ρ (.br i p t e) := by
  unfold VC; exact ⟨b, h, ht, he⟩
theorem VC_ret {v : V} {hp : List (Option Blk)} {stk : List (List (Option V))} (h : ∀ α W, Fms ρ α stk T0 → (∀ (n : Nat) (b : Blk), hp[n]? = some (some b) → b.rowOk ρ α n) → St w0 (chs ρ α 0 hp) [] ps W → R (.returned (v.den ρ α)) W) : VC C w0 ps T0 R L ρ (.ret v hp stk) := by
  unfold VC; exact h
end
end SX

def treeMore : SX.Tree :=
(.df (.call 9 []) [] .one 
(.df .not [(.x 36 [])] .one 
(.br 37 [] 
(.ret (.k (.bool false)) [] []) 
(.df (.len false) [(.x 34 [])] .one 
(.df (.bin .gtr 3) [(.x 38 []), (.k (.int .i64 30))] .one 
(.br 39 [] 
(.ret (.k (.bool true)) [] []) 
(.df (.len false) [(.x 35 [])] .one 
(.df (.bin .gtr 3) [(.x 40 []), (.k (.int .i64 30))] .one 
(.br 41 [] 
(.ret (.k (.bool true)) [] []) 
(.df (.call 16 [.no, (.ext 3)]) [(.a [(.x 17 []), (.x 18 []), (.x 19 []), (.x 20 []), (.x 21 []), (.x 22 []), (.x 23 []), (.x 24 []), (.x 25 []), (.x 26 []), (.x 27 []), (.x 28 []), (.x 29 []), (.x 30 []), (.x 31 []), (.x 32 []), (.x 33 [])]), (.x 34 [])] (.tp [(.ag 17), .one]) 
(.df (.app 3 24 (.ext 3)) [(.cat []), (.x 34 [])] .any 
(.df (.app 3 24 (.ext 3)) [(.cat [(.x 43 [])]), (.x 35 [])] .any 
(.df (.call 16 [.no, (.row 3 [(.x 43 []), (.x 44 [])])]) [(.a [(.x 17 []), (.x 18 []), (.x 19 []), (.x 20 []), (.x 21 []), (.x 22 []), (.x 23 []), (.x 24 []), (.x 25 []), (.x 26 []), (.x 27 []), (.x 28 []), (.x 29 []), (.x 30 []), (.x 31 []), (.x 32 []), (.x 33 [])]), (.row 8)] (.tp [(.ag 17), .one]) 
(.df (.bin .neq 28) [(.x 42 [1]), (.k (.int .i64 0))] .one 
(.br 46 [] 
(.df (.bin .neq 28) [(.x 45 [1]), (.k (.int .i64 0))] .one 
(.ret (.x 47 []) [] [])) 
(.df (.bin .neq 28) [(.x 45 [1]), (.k (.int .i64 0))] .one 
(.br 47 [] 
(.df (.bin .neq 28) [(.x 45 [1]), (.k (.int .i64 0))] .one 
(.ret (.x 48 []) [] [])) 
(.df (.call 18 [.no, .no]) [(.a [(.x 45 [0, 0]), (.x 45 [0, 1]), (.x 45 [0, 2]), (.x 45 [0, 3]), (.x 45 [0, 4]), (.x 45 [0, 5]), (.x 45 [0, 6]), (.x 45 [0, 7]), (.x 45 [0, 8]), (.x 45 [0, 9]), (.x 45 [0, 10]), (.x 45 [0, 11]), (.x 45 [0, 12]), (.x 45 [0, 13]), (.x 45 [0, 14]), (.x 45 [0, 15]), (.x 45 [0, 16])]), (.a [(.x 42 [0, 0]), (.x 42 [0, 1]), (.x 42 [0, 2]), (.x 42 [0, 3]), (.x 42 [0, 4]), (.x 42 [0, 5]), (.x 42 [0, 6]), (.x 42 [0, 7]), (.x 42 [0, 8]), (.x 42 [0, 9]), (.x 42 [0, 10]), (.x 42 [0, 11]), (.x 42 [0, 12]), (.x 42 [0, 13]), (.x 42 [0, 14]), (.x 42 [0, 15]), (.x 42 [0, 16])])] (.tp [.one, .one]) 
(.df (.bin .neq 28) [(.x 48 [1]), (.k (.int .i64 0))] .one 
(.br 49 [] 
(.ret (.k (.bool false)) [] []) 
(.df .not [(.x 48 [0])] .one 
(.br 50 [] 
(.ret (.k (.bool false)) [] []) 
(.df (.call 18 [.no, .no]) [(.a [(.x 0 []), (.x 1 []), (.x 2 []), (.x 3 []), (.x 4 []), (.x 5 []), (.x 6 []), (.x 7 []), (.x 8 []), (.x 9 []), (.x 10 []), (.x 11 []), (.x 12 []), (.x 13 []), (.x 14 []), (.x 15 []), (.x 16 [])]), (.a [(.x 17 []), (.x 18 []), (.x 19 []), (.x 20 []), (.x 21 []), (.x 22 []), (.x 23 []), (.x 24 []), (.x 25 []), (.x 26 []), (.x 27 []), (.x 28 []), (.x 29 []), (.x 30 []), (.x 31 []), (.x 32 []), (.x 33 [])])] (.tp [.one, .one]) 
(.df (.bin .neq 28) [(.x 51 [1]), (.k (.int .i64 0))] .one 
(.br 52 [] 
(.ret (.k (.bool true)) [] []) 
(.df .not [(.x 51 [0])] .one 
(.br 53 [] 
(.ret (.k (.bool true)) [] []) 
(.df (.call 16 [.no, (.ext 3)]) [(.a [(.x 0 []), (.x 1 []), (.x 2 []), (.x 3 []), (.x 4 []), (.x 5 []), (.x 6 []), (.x 7 []), (.x 8 []), (.x 9 []), (.x 10 []), (.x 11 []), (.x 12 []), (.x 13 []), (.x 14 []), (.x 15 []), (.x 16 [])]), (.x 34 [])] (.tp [(.ag 17), .one]) 
(.df (.call 18 [.no, .no]) [(.a [(.x 54 [0, 0]), (.x 54 [0, 1]), (.x 54 [0, 2]), (.x 54 [0, 3]), (.x 54 [0, 4]), (.x 54 [0, 5]), (.x 54 [0, 6]), (.x 54 [0, 7]), (.x 54 [0, 8]), (.x 54 [0, 9]), (.x 54 [0, 10]), (.x 54 [0, 11]), (.x 54 [0, 12]), (.x 54 [0, 13]), (.x 54 [0, 14]), (.x 54 [0, 15]), (.x 54 [0, 16])]), (.a [(.x 42 [0, 0]), (.x 42 [0, 1]), (.x 42 [0, 2]), (.x 42 [0, 3]), (.x 42 [0, 4]), (.x 42 [0, 5]), (.x 42 [0, 6]), (.x 42 [0, 7]), (.x 42 [0, 8]), (.x 42 [0, 9]), (.x 42 [0, 10]), (.x 42 [0, 11]), (.x 42 [0, 12]), (.x 42 [0, 13]), (.x 42 [0, 14]), (.x 42 [0, 15]), (.x 42 [0, 16])])] (.tp [.one, .one]) 
(.df (.bin .eql 28) [(.x 54 [1]), (.k (.int .i64 0))] .one 
(.br 56 [] 
(.df (.bin .eql 28) [(.x 55 [1]), (.k (.int .i64 0))] .one 
(.br 57 [] 
(.ret (.x 55 [0]) [] []) 
(.ret (.k (.bool false)) [] []))) 
(.ret (.k (.bool false)) [] []))))))))))))))))))))))))))))))))
theorem capsL_one (l : List Bod.Cp) : ∀ u ∈ capsL l, u.oneCell' = true := by
  intro u hu
  obtain ⟨c, _, h⟩ := List.mem_flatMap.1 hu
  simp [cellsC] at h
  rcases h with rfl | rfl | rfl <;> rfl
theorem capsApp {K : Value → Nat → List Value → Prop} {ρ : List Value} {α : Nat → SX.AV} {cc y : SX.V} {u : Value} {l0 l : List Bod.Cp} (hc : SX.cellsV (cc.den ρ α) = capsL l0) (hy : y.den ρ α = u) (hK : K u 3 (capsL l)) (hu : u = .slice none 0 0 ∨ ∃ ad k j, u = .slice (some ad) k j) (h0 : u = .slice none 0 0 → l = []) (hl : l0.length + l.length ≤ 60) :
    SX.Opq.rel (bodyCx K) ρ α (.app 3 24 (.ext 3)) [cc, y] (.agg (capsL l).toArray) := by
  refine ⟨⟨u, 3, capsL l⟩, ⟨hy.symm, rfl, by rw [hy]; exact hK, trivial⟩, rfl, ⟨capsL_one l, ?_⟩, ?_, ?_, rfl⟩
  · rcases hu with hu | hu
    · exact .inl ⟨hu, by rw [h0 hu]; rfl⟩
    · exact .inr hu
  · rw [hc]
    simp only [capsL_len, ← Nat.add_mul]
    rw [Nat.mul_div_cancel _ (by omega)]
    omega
  · rw [hc]
    simp only [capsL_len, ← Nat.add_mul]
    rw [Nat.mul_div_cancel _ (by omega)]
    omega
def moreArgs : List SX.V := [.a ((List.range 17).map fun j => .x j []), .a ((List.range 17).map fun j => .x (17 + j) []), .x 34 [], .x 35 []]
set_option maxRecDepth 100000 in
theorem more_run (K : Value → Nat → List Value → Prop) : SX.run (bodyCx K) ⟨fun _ => false, [], false, 100⟩ 100000 0 (SX.door 7 Try.f7 moreArgs (List.replicate 36 .one)) [.code (Try.f7.body.getD .skip), .top Try.f7] = treeMore := by kernel_rfl
set_option maxRecDepth 100000 in
theorem more_door : SX.doorOk Try.f7 moreArgs (List.replicate 36 .one) = true := by kernel_rfl
def moreR (a b : Bod.Bd) (A : Option Addr) (n c : Nat) (A' : Option Addr) (n' c' : Nat) : List Value := (cellsB a).toList ++ (cellsB b).toList ++ [.slice A n c, .slice A' n' c']
theorem more_vals (a b : Bod.Bd) (A : Option Addr) (n c : Nat) (A' : Option Addr) (n' c' : Nat) : (SX.denL (moreR a b A n c A' n' c') (fun _ => default) moreArgs).toArray = #[valB a, valB b, .slice A n c, .slice A' n' c'] := by rfl
theorem more_fit (a b : Bod.Bd) (A : Option Addr) (n c : Nat) (A' : Option Addr) (n' c' : Nat) : SX.Sh.fitL (List.replicate 36 .one) (moreR a b A n c A' n' c') = true := by rfl
set_option maxRecDepth 100000 in
set_option maxHeartbeats 4000000 in
theorem bodyMore_walk (a b : Bod.Bd) (l m : List Bod.Cp) (A : Option Addr) (n c : Nat) (A' : Option Addr) (n' c' : Nat) (ha : a.name.size ≤ maxLen) (hb : b.name.size ≤ maxLen) (w : World) (hr : Rd w 3 A n (capsL l)) (hr' : Rd w 3 A' n' (capsL m)) (hl : n ≤ maxLen) (hm : n' ≤ maxLen)
    (hs : Value.slice A n c = .slice none 0 0 ∨ ∃ ad k j, Value.slice A n c = .slice (some ad) k j) (hs' : Value.slice A' n' c' = .slice none 0 0 ∨ ∃ ad k j, Value.slice A' n' c' = .slice (some ad) k j) :
    Calls Try.prog 7 #[valB a, valB b, .slice A n c, .slice A' n' c'] w fun e w' => e = .returned (.bool true) ∧ Below w.heap.size w w' := by
  have hln : l.length = n := by have := hr.1; rw [capsL_len] at this; omega
  have hmn : m.length = n' := by have := hr'.1; rw [capsL_len] at this; omega
  refine SX.calls_of_run (C := bodyCx fun s sz cells => (s = .slice A n c ∧ sz = 3 ∧ cells = capsL l) ∨ (s = .slice A' n' c' ∧ sz = 3 ∧ cells = capsL m)) (G := ⟨fun _ => false, [], false, 100⟩) (args := moreArgs) (sh := List.replicate 36 .one) (ρ := moreR a b A n c A' n' c')
    100000 treeMore (bodyCx_ok _) Try.func7 rfl (more_run _) more_door (more_fit ..) (more_vals ..) ?_ ?_
  · rintro W hW s sz cells (⟨rfl, rfl, rfl⟩ | ⟨rfl, rfl, rfl⟩)
    · exact hr.same0 hW
    · exact hr'.same0 hW
  unfold treeMore
  refine SX.VC_df (.bool true) (fun α => ⟨[], trivial, .inl ⟨rfl, rfl, rfl⟩⟩) (by kernel_rfl) ?_
  refine SX.VC_df (.bool false) (by intro α; show _ = _; kernel_rfl) (by kernel_rfl) ?_
  refine SX.VC_br false (by kernel_rfl) nofun fun _ => ?_
  refine SX.VC_df (.int .i64 n) (by intro α; show _ = _; kernel_rfl) (by kernel_rfl) ?_
  refine SX.VC_df (.bool (decide ((n : Int) > 30))) (by intro α; show _ = _; kernel_rfl) (by kernel_rfl) ?_
  refine SX.VC_br (decide ((n : Int) > 30)) (by kernel_rfl) (fun _ => SX.VC_ret fun α W _ _ hS => ⟨by kernel_rfl, hS.below⟩) fun h1 => ?_
  refine SX.VC_df (.int .i64 n') (by intro α; show _ = _; kernel_rfl) (by kernel_rfl) ?_
  refine SX.VC_df (.bool (decide ((n' : Int) > 30))) (by intro α; show _ = _; kernel_rfl) (by kernel_rfl) ?_
  refine SX.VC_br (decide ((n' : Int) > 30)) (by kernel_rfl) (fun _ => SX.VC_ret fun α W _ _ hS => ⟨by kernel_rfl, hS.below⟩) fun h2 => ?_
  have h30 : l.length ≤ 30 := by simp at h1; omega
  have h30' : m.length ≤ 30 := by simp at h2; omega
  refine SX.VC_df (.tuple #[valB (b.allB l), .int .i64 (b.allE l)]) (fun α => ⟨[⟨valB b, 0, []⟩, ⟨.slice A n c, 3, capsL l⟩], ⟨by kernel_rfl, by kernel_rfl, by kernel_rfl, rfl, .inl ⟨by kernel_rfl, rfl, rfl⟩, trivial⟩, .inr (.inl ⟨rfl, b, l, _, rfl, hb, by omega, rfl⟩)⟩) (by kernel_rfl) ?_
  refine SX.VC_df (.agg (capsL l).toArray) (fun α => capsApp (l0 := []) (by kernel_rfl) (by kernel_rfl) (.inl ⟨rfl, rfl, rfl⟩) hs (fun e => by cases e; exact List.eq_nil_of_length_eq_zero hln) (by simp; omega)) (by kernel_rfl) ?_
  refine SX.VC_df (.agg (capsL m).toArray) (fun α => capsApp (l0 := l) (Eq.trans (b := [Value.agg (capsL l).toArray].flatMap SX.cellsV) (by kernel_rfl) (by simp [SX.cellsV])) (by kernel_rfl) (.inr ⟨rfl, rfl, rfl⟩) hs' (fun e => by cases e; exact List.eq_nil_of_length_eq_zero hmn) (by omega)) (by kernel_rfl) ?_
  refine SX.VC_df (.tuple #[valB (b.allB (l ++ m)), .int .i64 (b.allE (l ++ m))]) (fun α => ⟨[⟨valB b, 0, []⟩, ⟨(α 8).h, 3, capsL (l ++ m)⟩], ⟨by kernel_rfl, by kernel_rfl, ?_, trivial⟩, .inr (.inl ⟨rfl, b, l ++ m, _, rfl, hb, by simp; unfold maxLen; omega, rfl⟩)⟩) (by kernel_rfl) ?_
  · exact Eq.trans (b := (⟨(α 8).h, 3, [Value.agg (capsL l).toArray, .agg (capsL m).toArray].flatMap SX.cellsV⟩ : SX.Arg)) (by simp [capsL, SX.cellsV]) (by kernel_rfl)
  refine SX.VC_df (.bool (b.allE l != 0)) (by intro α; show _ = _; kernel_rfl) (by kernel_rfl) ?_
  refine SX.VC_br (b.allE l != 0) (by kernel_rfl) (fun he => ?_) fun he => ?_
  · refine SX.VC_df (.bool (b.allE (l ++ m) != 0)) (by intro α; show _ = _; kernel_rfl) (by kernel_rfl) ?_
    refine SX.VC_ret fun α W _ _ hS => ⟨?_, hS.below⟩
    have : (b.allE (l ++ m) != 0) = true := by
      simp only [bne_iff_ne, ne_eq] at he ⊢
      exact fun h => he (allE_more h30 h30' h)
    exact Eq.trans (b := Ending.returned (.bool (b.allE (l ++ m) != 0))) (by kernel_rfl) (by rw [this])
  simp only [bne_eq_false_iff_eq] at he
  refine SX.VC_df (.bool (b.allE (l ++ m) != 0)) (by intro α; show _ = _; kernel_rfl) (by kernel_rfl) ?_
  refine SX.VC_br (b.allE (l ++ m) != 0) (by kernel_rfl) (fun hf => ?_) fun hf => ?_
  · refine SX.VC_df (.bool (b.allE (l ++ m) != 0)) (by intro α; show _ = _; kernel_rfl) (by kernel_rfl) ?_
    refine SX.VC_ret fun α W _ _ hS => ⟨?_, hS.below⟩
    exact Eq.trans (b := Ending.returned (.bool (b.allE (l ++ m) != 0))) (by kernel_rfl) (by rw [hf])
  simp only [bne_eq_false_iff_eq] at hf
  obtain ⟨hx1, hx2, hx3, hx4, hx5⟩ := (all_cases b l).resolve_left fun h => h.1 he
  obtain ⟨hy1, hy2, hy3, hy4, hy5⟩ := (all_cases b (l ++ m)).resolve_left fun h => h.1 hf
  have hxle := meets_le l b hx4
  have hyle := meets_le (l ++ m) b hy4
  have hxok := meets_ok l b hx3 hx4
  have hyok := meets_ok (l ++ m) b hx3 hy4
  have hxn : (b.allB l).name.size ≤ maxLen := by rw [hx2, hxle.1]; exact hb
  have hyn : (b.allB (l ++ m)).name.size ≤ maxLen := by rw [hy2, hyle.1]; exact hb
  have hw1 : Bod.weakV (b.allB (l ++ m)) (b.allB l) = true := by
    rw [hx2, hy2, weakV_iff hyok hxok]
    exact meets_sub hy4 fun c hc => List.mem_append.2 (.inl hc)
  have hw2 : Bod.weakE (b.allB (l ++ m)) (b.allB l) = 0 := by rw [hx2, hy2]; exact weakE_ok hyok hxok
  refine SX.VC_df (.tuple #[.bool true, .int .i64 0]) (fun α => ⟨[⟨valB (b.allB (l ++ m)), 0, []⟩, ⟨valB (b.allB l), 0, []⟩], ⟨by kernel_rfl, by kernel_rfl, by kernel_rfl, by kernel_rfl, trivial⟩, .inr (.inr (.inl ⟨rfl, _, _, rfl, hyn, hxn, by rw [hw1, hw2]⟩))⟩) (by kernel_rfl) ?_
  refine SX.VC_df (.bool false) (by intro α; show _ = _; kernel_rfl) (by kernel_rfl) ?_
  refine SX.VC_br false (by kernel_rfl) nofun fun _ => ?_
  refine SX.VC_df (.bool false) (by intro α; show _ = _; kernel_rfl) (by kernel_rfl) ?_
  refine SX.VC_br false (by kernel_rfl) nofun fun _ => ?_
  refine SX.VC_df (.tuple #[.bool (Bod.weakV a b), .int .i64 (Bod.weakE a b)]) (fun α => ⟨[⟨valB a, 0, []⟩, ⟨valB b, 0, []⟩], ⟨by kernel_rfl, by kernel_rfl, by kernel_rfl, by kernel_rfl, trivial⟩, .inr (.inr (.inl ⟨rfl, _, _, rfl, ha, hb, rfl⟩))⟩) (by kernel_rfl) ?_
  refine SX.VC_df (.bool (Bod.weakE a b != 0)) (by intro α; show _ = _; kernel_rfl) (by kernel_rfl) ?_
  refine SX.VC_br (Bod.weakE a b != 0) (by kernel_rfl) (fun _ => SX.VC_ret fun α W _ _ hS => ⟨by kernel_rfl, hS.below⟩) fun hg => ?_
  refine SX.VC_df (.bool (!Bod.weakV a b)) (by intro α; show _ = _; kernel_rfl) (by kernel_rfl) ?_
  refine SX.VC_br (!Bod.weakV a b) (by kernel_rfl) (fun _ => SX.VC_ret fun α W _ _ hS => ⟨by kernel_rfl, hS.below⟩) fun hk => ?_
  have hab : Bod.weakV a b = true := by simpa using hk
  have haok : a.okB = true := by
    have := hab
    unfold Bod.weakV at this
    simp only [Bool.and_eq_true] at this
    exact this.1.1
  have hae : a.allE l = 0 := by
    unfold Bod.Bd.allE
    rw [if_pos haok, if_neg (show ¬ 64 < l.length by omega), if_pos hx4]
  have hle := (weakV_iff haok hx3).1 hab
  obtain ⟨hz1, hz2, hz3, hz4, hz5⟩ := (all_cases a l).resolve_left fun h => h.1 hae
  have hzn : (a.allB l).name.size ≤ maxLen := by rw [hz2, (meets_le l a hx4).1]; exact ha
  have hw3 : Bod.weakV (a.allB l) (b.allB l) = true := by
    rw [hx2, hz2, weakV_iff (meets_ok l a haok hx4) hxok]
    exact meets_mono hx4 hle
  have hw4 : Bod.weakE (a.allB l) (b.allB l) = 0 := by rw [hx2, hz2]; exact weakE_ok (meets_ok l a haok hx4) hxok
  refine SX.VC_df (.tuple #[valB (a.allB l), .int .i64 0]) (fun α => ⟨[⟨valB a, 0, []⟩, ⟨.slice A n c, 3, capsL l⟩], ⟨by kernel_rfl, by kernel_rfl, by kernel_rfl, rfl, .inl ⟨by kernel_rfl, rfl, rfl⟩, trivial⟩, .inr (.inl ⟨rfl, a, l, _, rfl, ha, by omega, by rw [hae]⟩)⟩) (by kernel_rfl) ?_
  refine SX.VC_df (.tuple #[.bool true, .int .i64 0]) (fun α => ⟨[⟨valB (a.allB l), 0, []⟩, ⟨valB (b.allB l), 0, []⟩], ⟨by kernel_rfl, by kernel_rfl, by kernel_rfl, by kernel_rfl, trivial⟩, .inr (.inr (.inl ⟨rfl, _, _, rfl, hzn, hxn, by rw [hw3, hw4]⟩))⟩) (by kernel_rfl) ?_
  refine SX.VC_df (.bool true) (by intro α; show _ = _; kernel_rfl) (by kernel_rfl) ?_
  refine SX.VC_br true (by kernel_rfl) (fun _ => ?_) nofun
  refine SX.VC_df (.bool true) (by intro α; show _ = _; kernel_rfl) (by kernel_rfl) ?_
  refine SX.VC_br true (by kernel_rfl) (fun _ => ?_) nofun
  exact SX.VC_ret fun α W _ _ hS => ⟨by kernel_rfl, hS.below⟩
end Go.Proofs.Ytklppgkolcpbbaa
