/-
  edits.Apply: transpose.
-/
import Derived.Test.YtnaooclbphaelaaEb
namespace Go.Proofs.Ytnaooclbphaelaa
set_option linter.unusedSimpArgs false
set_option linter.unusedVariables false
open Go Go.RowKit
def tree_e2 : SX.Tree :=
(.df (.call 14 [(.ext 14)]) [(.x 0 [])] .one 
(.df (.bin .neq 31) [(.x 23 []), (.k (.int .i64 0))] .one 
(.br 24 [] 
(.ret (.t [(.k (.slice none 0 0)), (.x 23 [])]) [none] []) 
(.df (.eqr true 22 [(.i .i64), (.i .i64), (.i .i64), (.i .i64), (.i .i64), (.i .i64), (.i .i64), (.i .i64), (.i .i64), (.i .i64), (.i .i64), (.i .i64), (.i .i64), (.i .i64), (.i .i64), (.i .i64), (.i .i64), (.i .i64), (.i .i64), (.i .i64), (.i .i64), (.i .i64)]) [(.k (.int .i64 2)), (.x 2 []), (.k (.int .i64 0)), (.x 4 []), (.x 5 []), (.x 6 []), (.k (.int .i64 0)), (.k (.int .i64 0)), (.k (.int .i64 0)), (.k (.int .i64 0)), (.k (.int .i64 0)), (.k (.int .i64 0)), (.k (.int .i64 0)), (.k (.int .i64 0)), (.k (.int .i64 0)), (.k (.int .i64 0)), (.k (.int .i64 0)), (.k (.int .i64 0)), (.k (.int .i64 0)), (.k (.int .i64 0)), (.k (.int .i64 0)), (.k (.int .i64 0)), (.k (.int .i64 2)), (.x 2 []), (.x 3 []), (.x 4 []), (.x 5 []), (.x 6 []), (.x 7 []), (.x 8 []), (.x 9 []), (.x 10 []), (.x 11 []), (.x 12 []), (.x 13 []), (.x 14 []), (.x 15 []), (.x 16 []), (.x 17 []), (.x 18 []), (.x 19 []), (.x 20 []), (.x 21 []), (.x 22 [])] .one 
(.br 25 [] 
(.ret (.t [(.k (.slice none 0 0)), (.k (.int .i64 360))]) [none, none, none, none, none, none, none, none, none, none, none, none, none] []) 
(.df (.bin .geq 3) [(.x 2 []), (.k (.int .i64 0))] .one 
(.br 26 [] 
(.df (.bin .leq 3) [(.x 2 []), (.k (.int .i64 64))] .one 
(.br 27 [] 
(.df (.bin .geq 3) [(.x 4 []), (.k (.int .i64 0))] .one 
(.br 28 [] 
(.df (.bin .leq 3) [(.x 4 []), (.x 5 [])] .one 
(.br 29 [] 
(.df (.bin .leq 3) [(.x 5 []), (.k (.int .i64 4095))] .one 
(.br 30 [] 
(.df (.bin .geq 3) [(.x 6 []), (.k (.int .i64 1))] .one 
(.br 31 [] 
(.df (.bin .leq 3) [(.x 6 []), (.k (.int .i64 7))] .one 
(.df .not [(.x 32 [])] .one 
(.br 33 [] 
(.ret (.t [(.k (.slice none 0 0)), (.k (.int .i64 360))]) [none, none, none, none, none, none, none, none, none, none, none, none, none, none, none, none] []) 
(.df (.len false) [(.x 0 [])] .one 
(.loop [(.k (.int .i64 0)), (.cat [])] [.one, .any] 
(.df (.bin .lss 3) [(.x 35 []), (.x 34 [])] .one 
(.br 37 [] 
(.df .bnd [(.x 0 []), (.x 35 [])] .one 
(.df (.elems 14 0 14) [(.x 0 []), (.x 35 [])] (.ag 14) 
(.df (.bin .geq 3) [(.x 39 [2]), (.x 4 [])] .one 
(.br 40 [] 
(.df (.bin .leq 3) [(.x 39 [2]), (.x 5 [])] .one 
(.br 41 [] 
(.df (.bin .eql 3) [(.x 2 []), (.k (.int .i64 0))] .one 
(.br 42 [] 
(.df (.bin .gtr 3) [(.x 39 [6]), (.k (.int .i64 0))] .one 
(.br 43 [] 
(.df (.bin .sub 3) [(.x 39 [6]), (.k (.int .i64 1))] .one 
(.df (.bin .add 3) [(.x 44 []), (.x 6 [])] .one 
(.df (.bin .rem 3) [(.x 45 []), (.k (.int .i64 8))] .one 
(.df (.bin .add 3) [(.x 46 []), (.k (.int .i64 1))] .one 
(.df (.app 14 112 (.own 14 [(.x 39 [0]), (.x 39 [1]), (.x 39 [2]), (.x 39 [3]), (.x 39 [4]), (.x 39 [5]), (.x 47 []), (.x 39 [7]), (.x 39 [8]), (.x 39 [9]), (.x 39 [10]), (.x 39 [11]), (.x 39 [12]), (.x 39 [13])])) [(.cat [(.x 36 [])]), (.sl 38 0 1 1)] .any 
(.df (.bin .add 3) [(.x 35 []), (.k (.int .i64 1))] .one 
(.again 0 [(.x 49 []), (.cat [(.x 36 []), (.x 48 [])])]))))))) 
(.df (.app 14 112 (.own 14 [(.x 39 [0]), (.x 39 [1]), (.x 39 [2]), (.x 39 [3]), (.x 39 [4]), (.x 39 [5]), (.x 39 [6]), (.x 39 [7]), (.x 39 [8]), (.x 39 [9]), (.x 39 [10]), (.x 39 [11]), (.x 39 [12]), (.x 39 [13])])) [(.cat [(.x 36 [])]), (.sl 24 0 1 1)] .any 
(.df (.bin .add 3) [(.x 35 []), (.k (.int .i64 1))] .one 
(.again 0 [(.x 45 []), (.cat [(.x 36 []), (.x 44 [])])]))))) 
(.df (.bin .sub 3) [(.x 2 []), (.k (.int .i64 1))] .one 
(.df (.bin .eql 3) [(.x 39 [1]), (.x 43 [])] .one 
(.br 44 [] 
(.df (.bin .gtr 3) [(.x 39 [6]), (.k (.int .i64 0))] .one 
(.br 45 [] 
(.df (.bin .sub 3) [(.x 39 [6]), (.k (.int .i64 1))] .one 
(.df (.bin .add 3) [(.x 46 []), (.x 6 [])] .one 
(.df (.bin .rem 3) [(.x 47 []), (.k (.int .i64 8))] .one 
(.df (.bin .add 3) [(.x 48 []), (.k (.int .i64 1))] .one 
(.df (.app 14 112 (.own 14 [(.x 39 [0]), (.x 39 [1]), (.x 39 [2]), (.x 39 [3]), (.x 39 [4]), (.x 39 [5]), (.x 49 []), (.x 39 [7]), (.x 39 [8]), (.x 39 [9]), (.x 39 [10]), (.x 39 [11]), (.x 39 [12]), (.x 39 [13])])) [(.cat [(.x 36 [])]), (.sl 38 0 1 1)] .any 
(.df (.bin .add 3) [(.x 35 []), (.k (.int .i64 1))] .one 
(.again 0 [(.x 51 []), (.cat [(.x 36 []), (.x 50 [])])]))))))) 
(.df (.app 14 112 (.own 14 [(.x 39 [0]), (.x 39 [1]), (.x 39 [2]), (.x 39 [3]), (.x 39 [4]), (.x 39 [5]), (.x 39 [6]), (.x 39 [7]), (.x 39 [8]), (.x 39 [9]), (.x 39 [10]), (.x 39 [11]), (.x 39 [12]), (.x 39 [13])])) [(.cat [(.x 36 [])]), (.sl 24 0 1 1)] .any 
(.df (.bin .add 3) [(.x 35 []), (.k (.int .i64 1))] .one 
(.again 0 [(.x 47 []), (.cat [(.x 36 []), (.x 46 [])])]))))) 
(.df (.app 14 112 (.own 14 [(.x 39 [0]), (.x 39 [1]), (.x 39 [2]), (.x 39 [3]), (.x 39 [4]), (.x 39 [5]), (.x 39 [6]), (.x 39 [7]), (.x 39 [8]), (.x 39 [9]), (.x 39 [10]), (.x 39 [11]), (.x 39 [12]), (.x 39 [13])])) [(.cat [(.x 36 [])]), (.sl 24 0 1 1)] .any 
(.df (.bin .add 3) [(.x 35 []), (.k (.int .i64 1))] .one 
(.again 0 [(.x 46 []), (.cat [(.x 36 []), (.x 45 [])])])))))))) 
(.df (.app 14 112 (.own 14 [(.x 39 [0]), (.x 39 [1]), (.x 39 [2]), (.x 39 [3]), (.x 39 [4]), (.x 39 [5]), (.x 39 [6]), (.x 39 [7]), (.x 39 [8]), (.x 39 [9]), (.x 39 [10]), (.x 39 [11]), (.x 39 [12]), (.x 39 [13])])) [(.cat [(.x 36 [])]), (.sl 24 0 1 1)] .any 
(.df (.bin .add 3) [(.x 35 []), (.k (.int .i64 1))] .one 
(.again 0 [(.x 43 []), (.cat [(.x 36 []), (.x 42 [])])]))))) 
(.df (.app 14 112 (.own 14 [(.x 39 [0]), (.x 39 [1]), (.x 39 [2]), (.x 39 [3]), (.x 39 [4]), (.x 39 [5]), (.x 39 [6]), (.x 39 [7]), (.x 39 [8]), (.x 39 [9]), (.x 39 [10]), (.x 39 [11]), (.x 39 [12]), (.x 39 [13])])) [(.cat [(.x 36 [])]), (.sl 24 0 1 1)] .any 
(.df (.bin .add 3) [(.x 35 []), (.k (.int .i64 1))] .one 
(.again 0 [(.x 42 []), (.cat [(.x 36 []), (.x 41 [])])]))))))) 
(.df (.call 14 [(.row 14 [(.x 36 [])])]) [(.row 21)] .one 
(.df (.bin .neq 31) [(.x 38 []), (.k (.int .i64 0))] .one 
(.br 39 [] 
(.ret (.t [(.k (.slice none 0 0)), (.x 38 [])]) [none, none, none, none, none, none, none, none, none, none, none, none, none, none, none, none, none, none, none, none, none, none] []) 
(.ret (.t [(.row 21), (.k (.int .i64 0))]) [none, none, none, none, none, none, none, none, none, none, none, none, none, none, none, none, none, none, none, none, none, (some ⟨[(.x 36 [])], 26, (.row 14)⟩)] []))))))))))) 
(.ret (.t [(.k (.slice none 0 0)), (.k (.int .i64 360))]) [none, none, none, none, none, none, none, none, none, none, none, none, none, none, none, none] []))) 
(.ret (.t [(.k (.slice none 0 0)), (.k (.int .i64 360))]) [none, none, none, none, none, none, none, none, none, none, none, none, none, none, none, none] []))) 
(.ret (.t [(.k (.slice none 0 0)), (.k (.int .i64 360))]) [none, none, none, none, none, none, none, none, none, none, none, none, none, none, none, none] []))) 
(.ret (.t [(.k (.slice none 0 0)), (.k (.int .i64 360))]) [none, none, none, none, none, none, none, none, none, none, none, none, none, none, none, none] []))) 
(.ret (.t [(.k (.slice none 0 0)), (.k (.int .i64 360))]) [none, none, none, none, none, none, none, none, none, none, none, none, none, none, none] []))) 
(.ret (.t [(.k (.slice none 0 0)), (.k (.int .i64 360))]) [none, none, none, none, none, none, none, none, none, none, none, none, none, none, none] []))))))))
def args_e2 : List SX.V := [.x 0 [], .a ([.k (.int .i64 2)] ++ (List.range 21).map fun j => .x (2+j) [])]
set_option maxRecDepth 100000 in
theorem run_e2 (K A : Value → Nat → List Value → Prop) : (SX.run (cxE2 K A) ⟨fun _ => true, [⟨12, 13, [(.s 51, .one), (.s 4, .row 14 26)]⟩], 2, 100⟩ 100000 0 (SX.door 12 Try.f12 args_e2 (List.replicate 23 .one)) [.code (Try.f12.body.getD .skip), .top Try.f12]).strip = tree_e2 := by kernel_rfl
set_option maxRecDepth 100000 in
set_option maxHeartbeats 4000000 in
theorem e2_any (ss : List Sg) (A : Option Addr) (n c : Nat) (role other fr to m sn sd : Int) (sg : Sg) (w : World) (hr : Rd w 14 A n (sgsL ss)) (hn : n ≤ 9223372036854775807) (hc : n ≤ c) : Calls Try.prog 12 #[.slice A n c, valE (⟨2, role, other, fr, to, m, sn, sd, sg⟩ : Ed)] w fun e w' => Below w.heap.size w w' ∧ ∃ hdr, e = .returned (.tuple #[hdr, .int .i64 (applyE (⟨2, role, other, fr, to, m, sn, sd, sg⟩ : Ed) ss).2]) ∧ SX.SlRet w w' [] hdr 14 (sgsL (applyE (⟨2, role, other, fr, to, m, sn, sd, sg⟩ : Ed) ss).1) := by
  refine SX.calls_of_run (C := cxE2 (fun s sz cells => s = .slice A n c ∧ sz = 14 ∧ cells = sgsL ss) (fun _ _ _ => False)) (G := ⟨fun _ => true, [⟨12, 13, [(.s 51, .one), (.s 4, .row 14 26)]⟩], 2, 100⟩) (args := args_e2) (sh := (List.replicate 23 .one)) (ρ := ([.slice A n c] ++ cellsE (⟨2, role, other, fr, to, m, sn, sd, sg⟩ : Ed))) 100000 tree_e2 (okE2 _ _) Try.func12 rfl (run_e2 _ _) (by kernel_rfl) (by kernel_rfl) (by kernel_rfl) ?_ ?_
  · rintro W hW s sz cells ⟨rfl, rfl, rfl⟩; exact ⟨hr.same0 hW, hc⟩
  have hA := SX.rd_some hr
  have hln : ss.length = n := by have := hr.1; rw [sgsL_len] at this; omega
  have k1 : (fun s sz cells => s = .slice A n c ∧ sz = 14 ∧ cells = sgsL ss) (Value.slice A n c) 14 (sgsL ss) := ⟨rfl, rfl, rfl⟩
  have hu : usesE (⟨2, role, other, fr, to, m, sn, sd, sg⟩ : Ed) = (⟨2, role, 0, fr, to, m, 0, 0, zeroSg⟩ : Ed) := by unfold usesE; rw [if_neg (by show ¬ ((2 : Int) = 1); decide), if_pos rfl]
  have hrt : rightE (⟨2, role, other, fr, to, m, sn, sd, sg⟩ : Ed) ↔ (0 ≤ role ∧ role ≤ 64 ∧ 0 ≤ fr ∧ fr ≤ to ∧ to ≤ 4095) ∧ 1 ≤ m ∧ m ≤ 7 := by unfold rightE; rw [if_neg (by show ¬ ((2 : Int) = 1); decide), if_pos rfl]; try simp only [roleE, barsE]
  have hwk : ∀ z : Sg, workE (⟨2, role, other, fr, to, m, sn, sd, sg⟩ : Ed) z = (if (fr ≤ z.bar ∧ z.bar ≤ to ∧ (role = 0 ∨ z.role = role - 1)) ∧ 0 < z.dir then some [{ z with dir := (z.dir - 1 + m) % 8 + 1 }] else some [z]) := fun z => by unfold workE; rw [if_neg (by show ¬ ((2 : Int) = 1); decide), if_pos rfl]
  unfold tree_e2
  refine SX.VC_df (.int .i64 ((chkS ss))) (fun α => ⟨[⟨.slice A n c, 14, sgsL ss⟩], ⟨by kernel_rfl, rfl, cast (by kernel_rfl) k1, trivial⟩, .inl ⟨rfl, .slice A n c, ss, rfl, by omega, rfl⟩, SX.noAli rfl⟩) (by kernel_rfl) ?_
  refine SX.VC_df (.bool (((chkS ss) : Int) != 0)) (by intro α; show _ = _; kernel_rfl) (by kernel_rfl) ?_
  refine SX.VC_br (((chkS ss) : Int) != 0) (by kernel_rfl) (fun h24 => ?_) (fun h24 => ?_)
  · try simp only [NRM] at h24
    have hfact : applyE (⟨2, role, other, fr, to, m, sn, sd, sg⟩ : Ed) ss = ([], chkS ss) := applyE_chk h24
    exact SX.VC_ret fun α W _ hR hS => ⟨hS.below, (.slice none 0 0), Eq.trans (b := Ending.returned (.tuple #[(.slice none 0 0), .int .i64 ((chkS ss))])) (by kernel_rfl) (by rw [hfact]), (by rw [hfact]; exact SX.SlRet.nil)⟩
  · try simp only [NRM] at h24
    refine SX.VC_df (.bool (true ^^ decide ((⟨2, role, 0, fr, to, m, 0, 0, zeroSg⟩ : Ed) = (⟨2, role, other, fr, to, m, sn, sd, sg⟩ : Ed)))) (fun α => SX.eqr_rel (f := cellsE) cellsE_inj (y := (⟨2, role, 0, fr, to, m, 0, 0, zeroSg⟩ : Ed)) (z := (⟨2, role, other, fr, to, m, sn, sd, sg⟩ : Ed)) (by kernel_rfl) (by kernel_rfl) (by kernel_rfl)) (by kernel_rfl) ?_
    refine SX.VC_br (true ^^ decide ((⟨2, role, 0, fr, to, m, 0, 0, zeroSg⟩ : Ed) = (⟨2, role, other, fr, to, m, sn, sd, sg⟩ : Ed))) (by kernel_rfl) (fun h25 => ?_) (fun h25 => ?_)
    · try simp only [NRM] at h25
      have hfact : applyE (⟨2, role, other, fr, to, m, sn, sd, sg⟩ : Ed) ss = ([], 360) := applyE_no h24 (fun hk => by first | exact h25 (by rw [← hu]; exact hk.2.2.1) | (have := hrt.1 hk.2.2.2; omega) | (have := hrt.1 hk.2.2.2; have := okR_iff2.2 this.2.1; omega))
      exact SX.VC_ret fun α W _ hR hS => ⟨hS.below, (.slice none 0 0), Eq.trans (b := Ending.returned (.tuple #[(.slice none 0 0), .int .i64 360])) (by kernel_rfl) (by rw [hfact]), (by rw [hfact]; exact SX.SlRet.nil)⟩
    · try simp only [NRM] at h25
      refine SX.VC_df (.bool (decide (role ≥ 0))) (by intro α; show _ = _; kernel_rfl) (by kernel_rfl) ?_
      refine SX.VC_br (decide (role ≥ 0)) (by kernel_rfl) (fun h26 => ?_) (fun h26 => ?_)
      · try simp only [NRM] at h26
        refine SX.VC_df (.bool (decide (role ≤ 64))) (by intro α; show _ = _; kernel_rfl) (by kernel_rfl) ?_
        refine SX.VC_br (decide (role ≤ 64)) (by kernel_rfl) (fun h27 => ?_) (fun h27 => ?_)
        · try simp only [NRM] at h27
          refine SX.VC_df (.bool (decide (fr ≥ 0))) (by intro α; show _ = _; kernel_rfl) (by kernel_rfl) ?_
          refine SX.VC_br (decide (fr ≥ 0)) (by kernel_rfl) (fun h28 => ?_) (fun h28 => ?_)
          · try simp only [NRM] at h28
            refine SX.VC_df (.bool (decide (fr ≤ to))) (by intro α; show _ = _; kernel_rfl) (by kernel_rfl) ?_
            refine SX.VC_br (decide (fr ≤ to)) (by kernel_rfl) (fun h29 => ?_) (fun h29 => ?_)
            · try simp only [NRM] at h29
              refine SX.VC_df (.bool (decide (to ≤ 4095))) (by intro α; show _ = _; kernel_rfl) (by kernel_rfl) ?_
              refine SX.VC_br (decide (to ≤ 4095)) (by kernel_rfl) (fun h30 => ?_) (fun h30 => ?_)
              · try simp only [NRM] at h30
                refine SX.VC_df (.bool (decide (m ≥ 1))) (by intro α; show _ = _; kernel_rfl) (by kernel_rfl) ?_
                refine SX.VC_br (decide (m ≥ 1)) (by kernel_rfl) (fun h31 => ?_) (fun h31 => ?_)
                · try simp only [NRM] at h31
                  refine SX.VC_df (.bool (decide (m ≤ 7))) (by intro α; show _ = _; kernel_rfl) (by kernel_rfl) ?_
                  refine SX.VC_df (.bool (!(decide (m ≤ 7)))) (by intro α; show _ = _; kernel_rfl) (by kernel_rfl) ?_
                  refine SX.VC_br (!(decide (m ≤ 7))) (by kernel_rfl) (fun h33 => ?_) (fun h33 => ?_)
                  · try simp only [NRM] at h33
                    have hfact : applyE (⟨2, role, other, fr, to, m, sn, sd, sg⟩ : Ed) ss = ([], 360) := applyE_no h24 (fun hk => by first | exact h25 (by rw [← hu]; exact hk.2.2.1) | (have := hrt.1 hk.2.2.2; omega) | (have := hrt.1 hk.2.2.2; have := okR_iff2.2 this.2.1; omega))
                    exact SX.VC_ret fun α W _ hR hS => ⟨hS.below, (.slice none 0 0), Eq.trans (b := Ending.returned (.tuple #[(.slice none 0 0), .int .i64 360])) (by kernel_rfl) (by rw [hfact]), (by rw [hfact]; exact SX.SlRet.nil)⟩
                  · try simp only [NRM] at h33
                    refine SX.VC_df (.int .i64 (((n : Nat) : Int))) (by intro α; show _ = _; kernel_rfl) (by kernel_rfl) ?_
                    have hok : okE (⟨2, role, other, fr, to, m, sn, sd, sg⟩ : Ed) := ⟨by show (1 : Int) ≤ 2; decide, by show (2 : Int) ≤ 7; decide, hu.trans h25, hrt.2 (by first | omega | (refine ⟨by omega, ?_⟩; exact ⟨okR_iff2.1 (by assumption), by omega, by omega⟩))⟩
                    obtain ⟨hss, hs4⟩ := chkS_ok h24
                    refine SX.VC_loop (fun xs => ∃ (i : Nat) (cur : List Sg), xs = [.int .i64 (i : Int), .agg (sgsL cur).toArray] ∧ i ≤ n ∧ accE (⟨2, role, other, fr, to, m, sn, sd, sg⟩ : Ed) (ss.take i) = some cur) (fun xs => match xs with | [.int _ i, _] => n - i.toNat | _ => 0) (fun α => ⟨0, [], by kernel_rfl, by omega, rfl⟩) ?_
                    rintro xs - ⟨i, cur, rfl, hin, hacc⟩
                    have hcl := acc_len hacc
                    refine SX.VC_df (.bool (decide (((i : Nat) : Int) < ((n : Nat) : Int)))) (by intro α; show _ = _; kernel_rfl) (by kernel_rfl) ?_
                    refine SX.VC_br (decide (((i : Nat) : Int) < ((n : Nat) : Int))) (by kernel_rfl) (fun h37 => ?_) (fun h37 => ?_)
                    · try simp only [NRM] at h37
                      obtain ⟨z, hz⟩ : ∃ z, ss[i]? = some z := ⟨_, List.getElem?_eq_getElem (by omega)⟩
                      have zb := hss.1 z (List.mem_of_getElem? hz)
                      rw [Sg.ok_iff] at zb
                      obtain ⟨⟨z1, z2⟩, ⟨z3, z4⟩, ⟨z5, z6⟩, ⟨z7, z8⟩, ⟨z9, z10⟩, ⟨z11, z12⟩, ⟨z13, z14⟩, ⟨z15, z16⟩, ⟨z17, z18⟩, ⟨z19, z20⟩, z21⟩ := zb
                      refine SX.VC_df (.bool true) (fun α => SX.extBnd (A := A) (n := n) (c := c) (j := i) hA (by kernel_rfl) (by kernel_rfl) (by omega)) (by kernel_rfl) ?_
                      refine SX.VC_df (.agg (cellsSg z).toArray) (fun α => SX.extElems (f := cellsSg) (l := ss) (A := A) (n := n) (c := c) (j := i) (z := z) (fun _ => rfl) hA (by kernel_rfl) (by kernel_rfl) (by omega) (cast (by kernel_rfl) k1) hz) (by kernel_rfl) ?_
                      refine SX.VC_df (.bool (decide (z.bar ≥ fr))) (by intro α; show _ = _; kernel_rfl) (by kernel_rfl) ?_
                      refine SX.VC_br (decide (z.bar ≥ fr)) (by kernel_rfl) (fun h40 => ?_) (fun h40 => ?_)
                      · try simp only [NRM] at h40
                        refine SX.VC_df (.bool (decide (z.bar ≤ to))) (by intro α; show _ = _; kernel_rfl) (by kernel_rfl) ?_
                        refine SX.VC_br (decide (z.bar ≤ to)) (by kernel_rfl) (fun h41 => ?_) (fun h41 => ?_)
                        · try simp only [NRM] at h41
                          refine SX.VC_df (.bool ((role : Int) == 0)) (by intro α; show _ = _; kernel_rfl) (by kernel_rfl) ?_
                          refine SX.VC_br ((role : Int) == 0) (by kernel_rfl) (fun h42 => ?_) (fun h42 => ?_)
                          · try simp only [NRM] at h42
                            refine SX.VC_df (.bool (decide (z.dir > 0))) (by intro α; show _ = _; kernel_rfl) (by kernel_rfl) ?_
                            refine SX.VC_br (decide (z.dir > 0)) (by kernel_rfl) (fun h43 => ?_) (fun h43 => ?_)
                            · try simp only [NRM] at h43
                              refine SX.VC_df (.int .i64 (z.dir - 1)) (fun α => Eq.trans (b := some (.int .i64 (IntKind.i64.wrap (z.dir - 1)))) (by kernel_rfl) (by rw [wrap_i64 (by omega) (by omega)])) (by kernel_rfl) ?_
                              refine SX.VC_df (.int .i64 ((z.dir - 1) + m)) (fun α => Eq.trans (b := some (.int .i64 (IntKind.i64.wrap ((z.dir - 1) + m)))) (by kernel_rfl) (by rw [wrap_i64 (by omega) (by omega)])) (by kernel_rfl) ?_
                              refine SX.VC_df (.int .i64 (((z.dir - 1) + m) % 8)) (fun α => Eq.trans (b := SX.binV .rem (.int .i64 ((z.dir - 1) + m)) (.int .i64 8)) (by kernel_rfl) (rem8 (by omega) (by omega))) (by kernel_rfl) ?_
                              refine SX.VC_df (.int .i64 ((((z.dir - 1) + m) % 8) + 1)) (fun α => Eq.trans (b := some (.int .i64 (IntKind.i64.wrap ((((z.dir - 1) + m) % 8) + 1)))) (by kernel_rfl) (by rw [wrap_i64 (by omega) (by omega)])) (by kernel_rfl) ?_
                              refine SX.VC_df (Value.agg (([(⟨z.id, z.role, z.bar, z.mark, z.kind, z.side, (((z.dir - 1) + m) % 8) + 1, z.level, z.size, z.with_, z.fn, z.fd, z.tn, z.td⟩ : Sg)]).flatMap cellsSg).toArray) (fun α => SX.app_rel (f := cellsSg) (l1 := cur) (l2 := [(⟨z.id, z.role, z.bar, z.mark, z.kind, z.side, (((z.dir - 1) + m) % 8) + 1, z.level, z.size, z.with_, z.fn, z.fd, z.tn, z.td⟩ : Sg)]) (fun _ => rfl) cellsSg_one (by decide) (SX.cat1 (by kernel_rfl)) (SX.src_own (by kernel_rfl)) (by simp only [List.length_append, List.length_take, List.length_drop, List.length_cons, List.length_nil]; omega) (by simp only [List.length_append, List.length_take, List.length_drop, List.length_cons, List.length_nil]; omega)) (by kernel_rfl) ?_
                              refine SX.VC_df (.int .i64 (((i + 1 : Nat) : Int))) (fun α => Eq.trans (b := some (.int .i64 (IntKind.i64.wrap ((i : Nat) + 1)))) (by kernel_rfl) (by rw [show ((i + 1 : Nat) : Int) = ((i : Nat) : Int) + 1 by omega, wrap_i64 (by omega) (by omega)])) (by kernel_rfl) ?_
                              exact SX.VC_again fun α => ⟨⟨i + 1, cur ++ [(⟨z.id, z.role, z.bar, z.mark, z.kind, z.side, (((z.dir - 1) + m) % 8) + 1, z.level, z.size, z.with_, z.fn, z.fd, z.tn, z.td⟩ : Sg)], Eq.trans (b := [.int .i64 ((i + 1 : Nat) : Int), .agg ([Value.agg (sgsL cur).toArray, Value.agg (([(⟨z.id, z.role, z.bar, z.mark, z.kind, z.side, (((z.dir - 1) + m) % 8) + 1, z.level, z.size, z.with_, z.fn, z.fd, z.tn, z.td⟩ : Sg)]).flatMap cellsSg).toArray].flatMap SX.cellsV).toArray]) (by kernel_rfl) (by simp [SX.cellsV, sgsL]), by omega, acc_step hz hacc (by rw [hwk]; (try simp only [mirrorS, swapN]); (repeat' split) <;> first | rfl | (exfalso; omega))⟩, cast (by kernel_rfl) (show n - ((i + 1 : Nat) : Int).toNat < n - (i : Int).toNat by omega)⟩
                            · try simp only [NRM] at h43
                              refine SX.VC_df (Value.agg (([z]).flatMap cellsSg).toArray) (fun α => SX.app_rel (f := cellsSg) (l1 := cur) (l2 := [z]) (fun _ => rfl) cellsSg_one (by decide) (SX.cat1 (by kernel_rfl)) (SX.src_own (by kernel_rfl)) (by simp only [List.length_append, List.length_take, List.length_drop, List.length_cons, List.length_nil]; omega) (by simp only [List.length_append, List.length_take, List.length_drop, List.length_cons, List.length_nil]; omega)) (by kernel_rfl) ?_
                              refine SX.VC_df (.int .i64 (((i + 1 : Nat) : Int))) (fun α => Eq.trans (b := some (.int .i64 (IntKind.i64.wrap ((i : Nat) + 1)))) (by kernel_rfl) (by rw [show ((i + 1 : Nat) : Int) = ((i : Nat) : Int) + 1 by omega, wrap_i64 (by omega) (by omega)])) (by kernel_rfl) ?_
                              exact SX.VC_again fun α => ⟨⟨i + 1, cur ++ [z], Eq.trans (b := [.int .i64 ((i + 1 : Nat) : Int), .agg ([Value.agg (sgsL cur).toArray, Value.agg (([z]).flatMap cellsSg).toArray].flatMap SX.cellsV).toArray]) (by kernel_rfl) (by simp [SX.cellsV, sgsL]), by omega, acc_step hz hacc (by rw [hwk]; (try simp only [mirrorS, swapN]); (repeat' split) <;> first | rfl | (exfalso; omega))⟩, cast (by kernel_rfl) (show n - ((i + 1 : Nat) : Int).toNat < n - (i : Int).toNat by omega)⟩
                          · try simp only [NRM] at h42
                            refine SX.VC_df (.int .i64 (role - 1)) (fun α => Eq.trans (b := some (.int .i64 (IntKind.i64.wrap (role - 1)))) (by kernel_rfl) (by rw [wrap_i64 (by omega) (by omega)])) (by kernel_rfl) ?_
                            refine SX.VC_df (.bool ((z.role : Int) == role - 1)) (by intro α; show _ = _; kernel_rfl) (by kernel_rfl) ?_
                            refine SX.VC_br ((z.role : Int) == role - 1) (by kernel_rfl) (fun h44 => ?_) (fun h44 => ?_)
                            · try simp only [NRM] at h44
                              refine SX.VC_df (.bool (decide (z.dir > 0))) (by intro α; show _ = _; kernel_rfl) (by kernel_rfl) ?_
                              refine SX.VC_br (decide (z.dir > 0)) (by kernel_rfl) (fun h45 => ?_) (fun h45 => ?_)
                              · try simp only [NRM] at h45
                                refine SX.VC_df (.int .i64 (z.dir - 1)) (fun α => Eq.trans (b := some (.int .i64 (IntKind.i64.wrap (z.dir - 1)))) (by kernel_rfl) (by rw [wrap_i64 (by omega) (by omega)])) (by kernel_rfl) ?_
                                refine SX.VC_df (.int .i64 ((z.dir - 1) + m)) (fun α => Eq.trans (b := some (.int .i64 (IntKind.i64.wrap ((z.dir - 1) + m)))) (by kernel_rfl) (by rw [wrap_i64 (by omega) (by omega)])) (by kernel_rfl) ?_
                                refine SX.VC_df (.int .i64 (((z.dir - 1) + m) % 8)) (fun α => Eq.trans (b := SX.binV .rem (.int .i64 ((z.dir - 1) + m)) (.int .i64 8)) (by kernel_rfl) (rem8 (by omega) (by omega))) (by kernel_rfl) ?_
                                refine SX.VC_df (.int .i64 ((((z.dir - 1) + m) % 8) + 1)) (fun α => Eq.trans (b := some (.int .i64 (IntKind.i64.wrap ((((z.dir - 1) + m) % 8) + 1)))) (by kernel_rfl) (by rw [wrap_i64 (by omega) (by omega)])) (by kernel_rfl) ?_
                                refine SX.VC_df (Value.agg (([(⟨z.id, z.role, z.bar, z.mark, z.kind, z.side, (((z.dir - 1) + m) % 8) + 1, z.level, z.size, z.with_, z.fn, z.fd, z.tn, z.td⟩ : Sg)]).flatMap cellsSg).toArray) (fun α => SX.app_rel (f := cellsSg) (l1 := cur) (l2 := [(⟨z.id, z.role, z.bar, z.mark, z.kind, z.side, (((z.dir - 1) + m) % 8) + 1, z.level, z.size, z.with_, z.fn, z.fd, z.tn, z.td⟩ : Sg)]) (fun _ => rfl) cellsSg_one (by decide) (SX.cat1 (by kernel_rfl)) (SX.src_own (by kernel_rfl)) (by simp only [List.length_append, List.length_take, List.length_drop, List.length_cons, List.length_nil]; omega) (by simp only [List.length_append, List.length_take, List.length_drop, List.length_cons, List.length_nil]; omega)) (by kernel_rfl) ?_
                                refine SX.VC_df (.int .i64 (((i + 1 : Nat) : Int))) (fun α => Eq.trans (b := some (.int .i64 (IntKind.i64.wrap ((i : Nat) + 1)))) (by kernel_rfl) (by rw [show ((i + 1 : Nat) : Int) = ((i : Nat) : Int) + 1 by omega, wrap_i64 (by omega) (by omega)])) (by kernel_rfl) ?_
                                exact SX.VC_again fun α => ⟨⟨i + 1, cur ++ [(⟨z.id, z.role, z.bar, z.mark, z.kind, z.side, (((z.dir - 1) + m) % 8) + 1, z.level, z.size, z.with_, z.fn, z.fd, z.tn, z.td⟩ : Sg)], Eq.trans (b := [.int .i64 ((i + 1 : Nat) : Int), .agg ([Value.agg (sgsL cur).toArray, Value.agg (([(⟨z.id, z.role, z.bar, z.mark, z.kind, z.side, (((z.dir - 1) + m) % 8) + 1, z.level, z.size, z.with_, z.fn, z.fd, z.tn, z.td⟩ : Sg)]).flatMap cellsSg).toArray].flatMap SX.cellsV).toArray]) (by kernel_rfl) (by simp [SX.cellsV, sgsL]), by omega, acc_step hz hacc (by rw [hwk]; (try simp only [mirrorS, swapN]); (repeat' split) <;> first | rfl | (exfalso; omega))⟩, cast (by kernel_rfl) (show n - ((i + 1 : Nat) : Int).toNat < n - (i : Int).toNat by omega)⟩
                              · try simp only [NRM] at h45
                                refine SX.VC_df (Value.agg (([z]).flatMap cellsSg).toArray) (fun α => SX.app_rel (f := cellsSg) (l1 := cur) (l2 := [z]) (fun _ => rfl) cellsSg_one (by decide) (SX.cat1 (by kernel_rfl)) (SX.src_own (by kernel_rfl)) (by simp only [List.length_append, List.length_take, List.length_drop, List.length_cons, List.length_nil]; omega) (by simp only [List.length_append, List.length_take, List.length_drop, List.length_cons, List.length_nil]; omega)) (by kernel_rfl) ?_
                                refine SX.VC_df (.int .i64 (((i + 1 : Nat) : Int))) (fun α => Eq.trans (b := some (.int .i64 (IntKind.i64.wrap ((i : Nat) + 1)))) (by kernel_rfl) (by rw [show ((i + 1 : Nat) : Int) = ((i : Nat) : Int) + 1 by omega, wrap_i64 (by omega) (by omega)])) (by kernel_rfl) ?_
                                exact SX.VC_again fun α => ⟨⟨i + 1, cur ++ [z], Eq.trans (b := [.int .i64 ((i + 1 : Nat) : Int), .agg ([Value.agg (sgsL cur).toArray, Value.agg (([z]).flatMap cellsSg).toArray].flatMap SX.cellsV).toArray]) (by kernel_rfl) (by simp [SX.cellsV, sgsL]), by omega, acc_step hz hacc (by rw [hwk]; (try simp only [mirrorS, swapN]); (repeat' split) <;> first | rfl | (exfalso; omega))⟩, cast (by kernel_rfl) (show n - ((i + 1 : Nat) : Int).toNat < n - (i : Int).toNat by omega)⟩
                            · try simp only [NRM] at h44
                              refine SX.VC_df (Value.agg (([z]).flatMap cellsSg).toArray) (fun α => SX.app_rel (f := cellsSg) (l1 := cur) (l2 := [z]) (fun _ => rfl) cellsSg_one (by decide) (SX.cat1 (by kernel_rfl)) (SX.src_own (by kernel_rfl)) (by simp only [List.length_append, List.length_take, List.length_drop, List.length_cons, List.length_nil]; omega) (by simp only [List.length_append, List.length_take, List.length_drop, List.length_cons, List.length_nil]; omega)) (by kernel_rfl) ?_
                              refine SX.VC_df (.int .i64 (((i + 1 : Nat) : Int))) (fun α => Eq.trans (b := some (.int .i64 (IntKind.i64.wrap ((i : Nat) + 1)))) (by kernel_rfl) (by rw [show ((i + 1 : Nat) : Int) = ((i : Nat) : Int) + 1 by omega, wrap_i64 (by omega) (by omega)])) (by kernel_rfl) ?_
                              exact SX.VC_again fun α => ⟨⟨i + 1, cur ++ [z], Eq.trans (b := [.int .i64 ((i + 1 : Nat) : Int), .agg ([Value.agg (sgsL cur).toArray, Value.agg (([z]).flatMap cellsSg).toArray].flatMap SX.cellsV).toArray]) (by kernel_rfl) (by simp [SX.cellsV, sgsL]), by omega, acc_step hz hacc (by rw [hwk]; (try simp only [mirrorS, swapN]); (repeat' split) <;> first | rfl | (exfalso; omega))⟩, cast (by kernel_rfl) (show n - ((i + 1 : Nat) : Int).toNat < n - (i : Int).toNat by omega)⟩
                        · try simp only [NRM] at h41
                          refine SX.VC_df (Value.agg (([z]).flatMap cellsSg).toArray) (fun α => SX.app_rel (f := cellsSg) (l1 := cur) (l2 := [z]) (fun _ => rfl) cellsSg_one (by decide) (SX.cat1 (by kernel_rfl)) (SX.src_own (by kernel_rfl)) (by simp only [List.length_append, List.length_take, List.length_drop, List.length_cons, List.length_nil]; omega) (by simp only [List.length_append, List.length_take, List.length_drop, List.length_cons, List.length_nil]; omega)) (by kernel_rfl) ?_
                          refine SX.VC_df (.int .i64 (((i + 1 : Nat) : Int))) (fun α => Eq.trans (b := some (.int .i64 (IntKind.i64.wrap ((i : Nat) + 1)))) (by kernel_rfl) (by rw [show ((i + 1 : Nat) : Int) = ((i : Nat) : Int) + 1 by omega, wrap_i64 (by omega) (by omega)])) (by kernel_rfl) ?_
                          exact SX.VC_again fun α => ⟨⟨i + 1, cur ++ [z], Eq.trans (b := [.int .i64 ((i + 1 : Nat) : Int), .agg ([Value.agg (sgsL cur).toArray, Value.agg (([z]).flatMap cellsSg).toArray].flatMap SX.cellsV).toArray]) (by kernel_rfl) (by simp [SX.cellsV, sgsL]), by omega, acc_step hz hacc (by rw [hwk]; (try simp only [mirrorS, swapN]); (repeat' split) <;> first | rfl | (exfalso; omega))⟩, cast (by kernel_rfl) (show n - ((i + 1 : Nat) : Int).toNat < n - (i : Int).toNat by omega)⟩
                      · try simp only [NRM] at h40
                        refine SX.VC_df (Value.agg (([z]).flatMap cellsSg).toArray) (fun α => SX.app_rel (f := cellsSg) (l1 := cur) (l2 := [z]) (fun _ => rfl) cellsSg_one (by decide) (SX.cat1 (by kernel_rfl)) (SX.src_own (by kernel_rfl)) (by simp only [List.length_append, List.length_take, List.length_drop, List.length_cons, List.length_nil]; omega) (by simp only [List.length_append, List.length_take, List.length_drop, List.length_cons, List.length_nil]; omega)) (by kernel_rfl) ?_
                        refine SX.VC_df (.int .i64 (((i + 1 : Nat) : Int))) (fun α => Eq.trans (b := some (.int .i64 (IntKind.i64.wrap ((i : Nat) + 1)))) (by kernel_rfl) (by rw [show ((i + 1 : Nat) : Int) = ((i : Nat) : Int) + 1 by omega, wrap_i64 (by omega) (by omega)])) (by kernel_rfl) ?_
                        exact SX.VC_again fun α => ⟨⟨i + 1, cur ++ [z], Eq.trans (b := [.int .i64 ((i + 1 : Nat) : Int), .agg ([Value.agg (sgsL cur).toArray, Value.agg (([z]).flatMap cellsSg).toArray].flatMap SX.cellsV).toArray]) (by kernel_rfl) (by simp [SX.cellsV, sgsL]), by omega, acc_step hz hacc (by rw [hwk]; (try simp only [mirrorS, swapN]); (repeat' split) <;> first | rfl | (exfalso; omega))⟩, cast (by kernel_rfl) (show n - ((i + 1 : Nat) : Int).toNat < n - (i : Int).toNat by omega)⟩
                    · try simp only [NRM] at h37
                      refine SX.VC_df (.int .i64 ((chkS cur))) (fun α => ⟨[⟨(α 21).h, 14, sgsL cur⟩], ⟨Eq.trans (b := (⟨(α 21).h, 14, [Value.agg (sgsL cur).toArray].flatMap SX.cellsV⟩ : SX.Arg)) (by simp [SX.cellsV]) (by kernel_rfl), trivial⟩, .inl ⟨rfl, _, cur, rfl, by omega, rfl⟩, SX.noAli rfl⟩) (by kernel_rfl) ?_
                      refine SX.VC_df (.bool (((chkS cur) : Int) != 0)) (by intro α; show _ = _; kernel_rfl) (by kernel_rfl) ?_
                      refine SX.VC_br (((chkS cur) : Int) != 0) (by kernel_rfl) (fun h39 => ?_) (fun h39 => ?_)
                      · try simp only [NRM] at h39
                        have hfact : applyE (⟨2, role, other, fr, to, m, sn, sd, sg⟩ : Ed) ss = ([], chkS cur) := applyE_out h24 hok (by rw [← hacc, List.take_of_length_le (by omega)]) (by assumption)
                        exact SX.VC_ret fun α W _ hR hS => ⟨hS.below, (.slice none 0 0), Eq.trans (b := Ending.returned (.tuple #[(.slice none 0 0), .int .i64 ((chkS cur))])) (by kernel_rfl) (by rw [hfact]), (by rw [hfact]; exact SX.SlRet.nil)⟩
                      · try simp only [NRM] at h39
                        have hfact : applyE (⟨2, role, other, fr, to, m, sn, sd, sg⟩ : Ed) ss = (cur, 0) := applyE_ok h24 hok (by rw [← hacc, List.take_of_length_le (by omega)]) (by omega)
                        exact SX.VC_ret fun α W _ hR hS => ⟨hS.below, (α 21).h, Eq.trans (b := Ending.returned (.tuple #[(α 21).h, .int .i64 0])) (by kernel_rfl) (by rw [hfact]), SX.SlRet.row hS (n := 21) (b := (⟨[(.x 36 [])], 26, (.row 14)⟩ : SX.Blk)) (by kernel_rfl) rfl (hR 21 _ (by kernel_rfl)) (Eq.trans (b := [Value.agg (sgsL cur).toArray].flatMap SX.cellsV) (by kernel_rfl) (by rw [hfact]; simp [SX.cellsV]))⟩
                · try simp only [NRM] at h31
                  have hfact : applyE (⟨2, role, other, fr, to, m, sn, sd, sg⟩ : Ed) ss = ([], 360) := applyE_no h24 (fun hk => by first | exact h25 (by rw [← hu]; exact hk.2.2.1) | (have := hrt.1 hk.2.2.2; omega) | (have := hrt.1 hk.2.2.2; have := okR_iff2.2 this.2.1; omega))
                  exact SX.VC_ret fun α W _ hR hS => ⟨hS.below, (.slice none 0 0), Eq.trans (b := Ending.returned (.tuple #[(.slice none 0 0), .int .i64 360])) (by kernel_rfl) (by rw [hfact]), (by rw [hfact]; exact SX.SlRet.nil)⟩
              · try simp only [NRM] at h30
                have hfact : applyE (⟨2, role, other, fr, to, m, sn, sd, sg⟩ : Ed) ss = ([], 360) := applyE_no h24 (fun hk => by first | exact h25 (by rw [← hu]; exact hk.2.2.1) | (have := hrt.1 hk.2.2.2; omega) | (have := hrt.1 hk.2.2.2; have := okR_iff2.2 this.2.1; omega))
                exact SX.VC_ret fun α W _ hR hS => ⟨hS.below, (.slice none 0 0), Eq.trans (b := Ending.returned (.tuple #[(.slice none 0 0), .int .i64 360])) (by kernel_rfl) (by rw [hfact]), (by rw [hfact]; exact SX.SlRet.nil)⟩
            · try simp only [NRM] at h29
              have hfact : applyE (⟨2, role, other, fr, to, m, sn, sd, sg⟩ : Ed) ss = ([], 360) := applyE_no h24 (fun hk => by first | exact h25 (by rw [← hu]; exact hk.2.2.1) | (have := hrt.1 hk.2.2.2; omega) | (have := hrt.1 hk.2.2.2; have := okR_iff2.2 this.2.1; omega))
              exact SX.VC_ret fun α W _ hR hS => ⟨hS.below, (.slice none 0 0), Eq.trans (b := Ending.returned (.tuple #[(.slice none 0 0), .int .i64 360])) (by kernel_rfl) (by rw [hfact]), (by rw [hfact]; exact SX.SlRet.nil)⟩
          · try simp only [NRM] at h28
            have hfact : applyE (⟨2, role, other, fr, to, m, sn, sd, sg⟩ : Ed) ss = ([], 360) := applyE_no h24 (fun hk => by first | exact h25 (by rw [← hu]; exact hk.2.2.1) | (have := hrt.1 hk.2.2.2; omega) | (have := hrt.1 hk.2.2.2; have := okR_iff2.2 this.2.1; omega))
            exact SX.VC_ret fun α W _ hR hS => ⟨hS.below, (.slice none 0 0), Eq.trans (b := Ending.returned (.tuple #[(.slice none 0 0), .int .i64 360])) (by kernel_rfl) (by rw [hfact]), (by rw [hfact]; exact SX.SlRet.nil)⟩
        · try simp only [NRM] at h27
          have hfact : applyE (⟨2, role, other, fr, to, m, sn, sd, sg⟩ : Ed) ss = ([], 360) := applyE_no h24 (fun hk => by first | exact h25 (by rw [← hu]; exact hk.2.2.1) | (have := hrt.1 hk.2.2.2; omega) | (have := hrt.1 hk.2.2.2; have := okR_iff2.2 this.2.1; omega))
          exact SX.VC_ret fun α W _ hR hS => ⟨hS.below, (.slice none 0 0), Eq.trans (b := Ending.returned (.tuple #[(.slice none 0 0), .int .i64 360])) (by kernel_rfl) (by rw [hfact]), (by rw [hfact]; exact SX.SlRet.nil)⟩
      · try simp only [NRM] at h26
        have hfact : applyE (⟨2, role, other, fr, to, m, sn, sd, sg⟩ : Ed) ss = ([], 360) := applyE_no h24 (fun hk => by first | exact h25 (by rw [← hu]; exact hk.2.2.1) | (have := hrt.1 hk.2.2.2; omega) | (have := hrt.1 hk.2.2.2; have := okR_iff2.2 this.2.1; omega))
        exact SX.VC_ret fun α W _ hR hS => ⟨hS.below, (.slice none 0 0), Eq.trans (b := Ending.returned (.tuple #[(.slice none 0 0), .int .i64 360])) (by kernel_rfl) (by rw [hfact]), (by rw [hfact]; exact SX.SlRet.nil)⟩
end Go.Proofs.Ytnaooclbphaelaa
