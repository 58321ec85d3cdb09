/-
  Texts behind the statement, part 6.
-/
import Derived.Test.YtnaooclbphaelaaM4
import Derived.Test.YtnaooclbphaelaaM5
import Derived.Test.YtnaooclbphaelaaM1
import Derived.Shelf.RegionOpenPlain
import Derived.WalkKit
import Derived.Lib.Walk
import Derived.Lib.SliceRun
import Derived.Lib.JoinLaws
import Derived.Lib.AppendZeros
import Derived.Lib.AppendZerosOnto
import Derived.Lib.Overlaps
import Derived.Laws.Externs
import Derived.Laws.IdiomCopy
import Derived.Test.YtnaooclbphaelaaProg
import Derived.DataElems
set_option linter.unusedSimpArgs false
set_option linter.unusedVariables false
namespace Go.Proofs.Ytnaooclbphaelaa
open Go Go.RowKit
def RE3 (f : FuncId) (xs : List SX.Arg) (v : Value) : Prop :=
  (f = 14 ∧ ∃ (u : Value) (ss : List Sg), xs = [⟨u, 14, sgsL ss⟩] ∧ ss.length ≤ 9223372036854775807 ∧ v = .int .i64 (chkS ss)) ∨
  (f = 79 ∧ ∃ n d : Int, xs = [⟨.agg #[.int .i64 n, .int .i64 d], 0, []⟩] ∧ v = .int .i64 (if okR n d then 0 else 120)) ∨
  (f = 23 ∧ ∃ an ad bn bd : Int, xs = [⟨.agg #[.int .i64 an, .int .i64 ad], 0, []⟩, ⟨.agg #[.int .i64 bn, .int .i64 bd], 0, []⟩] ∧ v = .tuple #[.agg #[.int .i64 (mulS an ad bn bd).1, .int .i64 (mulS an ad bn bd).2.1], .int .i64 (mulS an ad bn bd).2.2])
def shpE3 : FuncId → Option SX.Sh := fun f => if f = 14 then some .one else if f = 79 then some .one else if f = 23 then some (.tp [.ag 2, .one]) else none
noncomputable def cxE3 (K A : Value → Nat → List Value → Prop) : SX.Cx := { P := Try.prog, R := fun _ => RE3, shp := shpE3, K := K, A := A, tl := [57] }
theorem okE3 (K A : Value → Nat → List Value → Prop) : (cxE3 K A).Ok := by
  refine SX.Cx.ok_of (fun _ => rfl) ?_
  intro K f xs v W hR hrd hKf
  rcases hR with ⟨rfl, u, ss, rfl, hl, rfl⟩ | ⟨rfl, n, d, rfl, rfl⟩ | ⟨rfl, an, ad, bn, bd, rfl, rfl⟩
  · obtain ⟨A, n, c, rfl, h2, h3, h4⟩ := sgs_arg (hrd ⟨u, 14, sgsL ss⟩ (by simp))
    exact (echeck_any ss A n c W h2 (by omega) h3).mono fun e w' h => SX.plainOk rfl h
  · exact (rcheck_any n d W).mono fun e w' h => SX.plainOk rfl h
  exact (mul_any an ad bn bd W).mono fun e w' h => SX.plainOk rfl h
def tree_e6 : SX.Tree :=
(.df (.call 14 [(.ext 14)]) [(.q 0)] .one
(.df (.bin .neq 31) [(.q 23), (.i 0)] .one
(.br 24 []
(.ret (.t [(.k (.slice none 0 0)), (.q 23)]) [none] [])
(.df (.eqr true 22 [(.i .i64), (.i .i64), (.i .i64), (.i .i64), (.i .i64), (.i .i64), (.i .i64), (.i .i64), (.i .i64), (.i .i64), (.i .i64), (.i .i64), (.i .i64), (.i .i64), (.i .i64), (.i .i64), (.i .i64), (.i .i64), (.i .i64), (.i .i64), (.i .i64), (.i .i64)]) ([(.i 6)] ++ SX.Z 2 4 ++ [(.i 0), (.i 0), (.i 0), (.i 0), (.i 0), (.i 0), (.i 0), (.i 0), (.i 0), (.i 0), (.i 0), (.i 0), (.i 0), (.i 0), (.i 0), (.i 0), (.i 0), (.i 6)] ++ SX.Z 2 21) .one
(.br 25 []
(.ret (.t [(.k (.slice none 0 0)), (.i 360)]) (List.replicate 13 none) [])
(.df (.bin .geq 3) [(.q 2), (.i 0)] .one
(.br 26 []
(.df (.bin .leq 3) [(.q 2), (.i 64)] .one
(.br 27 []
(.df (.bin .geq 3) [(.q 4), (.i 0)] .one
(.br 28 []
(.df (.bin .leq 3) [(.q 4), (.q 5)] .one
(.br 29 []
(.df (.bin .leq 3) [(.q 5), (.i 4095)] .one
(.br 30 []
(.df (.bin .geq 3) [(.q 2), (.i 1)] .one
(.br 31 []
(.df (.bin .leq 3) [(.q 2), (.i 64)] .one
(.br 32 []
(.df (.bin .geq 3) [(.q 3), (.i 1)] .one
(.br 33 []
(.df (.bin .leq 3) [(.q 3), (.i 64)] .one
(.br 34 []
(.df (.bin .neq 3) [(.q 2), (.q 3)] .one
(.df .not [(.q 35)] .one
(.br 36 []
(.ret (.t [(.k (.slice none 0 0)), (.i 360)]) (List.replicate 16 none) [])
(.df (.len false) [(.q 0)] .one
(.loop [(.i 0), (.cat [])] [.one, .any]
(.df (.bin .lss 3) [(.q 38), (.q 37)] .one
(.br 40 []
(.df .bnd [(.q 0), (.q 38)] .one
(.df (.elems 14 0 14) [(.q 0), (.q 38)] (.ag 14)
(.df (.bin .geq 3) [(.x 42 [2]), (.q 4)] .one
(.br 43 []
(.df (.bin .leq 3) [(.x 42 [2]), (.q 5)] .one
(.br 44 []
(.df (.bin .sub 3) [(.q 2), (.i 1)] .one
(.df (.bin .sub 3) [(.q 3), (.i 1)] .one
(.df (.bin .eql 3) [(.x 42 [1]), (.q 45)] .one
(.br 47 []
(.df (.bin .eql 3) [(.x 42 [9]), (.q 2)] .one
(.br 48 []
(.df (.app 14 112 (.own 14 ([(.x 42 [0]), (.q 46)] ++ SX.Y 42 2 7 ++ [(.q 3)] ++ SX.Y 42 10 4))) [(.cat [(.q 39)]), (.sl 42 0 1 1)] .any
(.df (.bin .add 3) [(.q 38), (.i 1)] .one
(.again 0 [(.q 50), (.cat [(.q 39), (.q 49)])])))
(.df (.bin .eql 3) [(.x 42 [9]), (.q 3)] .one
(.br 49 []
(.df (.app 14 112 (.own 14 ([(.x 42 [0]), (.q 46)] ++ SX.Y 42 2 7 ++ [(.q 2)] ++ SX.Y 42 10 4))) [(.cat [(.q 39)]), (.sl 42 0 1 1)] .any
(.df (.bin .add 3) [(.q 38), (.i 1)] .one
(.again 0 [(.q 51), (.cat [(.q 39), (.q 50)])])))
(.df (.app 14 112 (.own 14 ([(.x 42 [0]), (.q 46)] ++ SX.Y 42 2 12))) [(.cat [(.q 39)]), (.sl 42 0 1 1)] .any
(.df (.bin .add 3) [(.q 38), (.i 1)] .one
(.again 0 [(.q 51), (.cat [(.q 39), (.q 50)])])))))))
(.df (.bin .eql 3) [(.x 42 [1]), (.q 46)] .one
(.br 48 []
(.df (.bin .eql 3) [(.x 42 [9]), (.q 2)] .one
(.br 49 []
(.df (.app 14 112 (.own 14 ([(.x 42 [0]), (.q 45)] ++ SX.Y 42 2 7 ++ [(.q 3)] ++ SX.Y 42 10 4))) [(.cat [(.q 39)]), (.sl 42 0 1 1)] .any
(.df (.bin .add 3) [(.q 38), (.i 1)] .one
(.again 0 [(.q 51), (.cat [(.q 39), (.q 50)])])))
(.df (.bin .eql 3) [(.x 42 [9]), (.q 3)] .one
(.br 50 []
(.df (.app 14 112 (.own 14 ([(.x 42 [0]), (.q 45)] ++ SX.Y 42 2 7 ++ [(.q 2)] ++ SX.Y 42 10 4))) [(.cat [(.q 39)]), (.sl 42 0 1 1)] .any
(.df (.bin .add 3) [(.q 38), (.i 1)] .one
(.again 0 [(.q 52), (.cat [(.q 39), (.q 51)])])))
(.df (.app 14 112 (.own 14 ([(.x 42 [0]), (.q 45)] ++ SX.Y 42 2 12))) [(.cat [(.q 39)]), (.sl 42 0 1 1)] .any
(.df (.bin .add 3) [(.q 38), (.i 1)] .one
(.again 0 [(.q 52), (.cat [(.q 39), (.q 51)])])))))))
(.df (.bin .eql 3) [(.x 42 [9]), (.q 2)] .one
(.br 49 []
(.df (.app 14 112 (.own 14 (SX.Y 42 0 9 ++ [(.q 3)] ++ SX.Y 42 10 4))) [(.cat [(.q 39)]), (.sl 42 0 1 1)] .any
(.df (.bin .add 3) [(.q 38), (.i 1)] .one
(.again 0 [(.q 51), (.cat [(.q 39), (.q 50)])])))
(.df (.bin .eql 3) [(.x 42 [9]), (.q 3)] .one
(.br 50 []
(.df (.app 14 112 (.own 14 (SX.Y 42 0 9 ++ [(.q 2)] ++ SX.Y 42 10 4))) [(.cat [(.q 39)]), (.sl 42 0 1 1)] .any
(.df (.bin .add 3) [(.q 38), (.i 1)] .one
(.again 0 [(.q 52), (.cat [(.q 39), (.q 51)])])))
(.df (.app 14 112 (.own 14 (SX.Y 42 0 14))) [(.cat [(.q 39)]), (.sl 42 0 1 1)] .any
(.df (.bin .add 3) [(.q 38), (.i 1)] .one
(.again 0 [(.q 52), (.cat [(.q 39), (.q 51)])])))))))))))))
(.df (.app 14 112 (.own 14 (SX.Y 42 0 14))) [(.cat [(.q 39)]), (.sl 24 0 1 1)] .any
(.df (.bin .add 3) [(.q 38), (.i 1)] .one
(.again 0 [(.q 46), (.cat [(.q 39), (.q 45)])])))))
(.df (.app 14 112 (.own 14 (SX.Y 42 0 14))) [(.cat [(.q 39)]), (.sl 24 0 1 1)] .any
(.df (.bin .add 3) [(.q 38), (.i 1)] .one
(.again 0 [(.q 45), (.cat [(.q 39), (.q 44)])])))))))
(.df (.call 14 [(.row 14 [(.q 39)])]) [(.row 21)] .one
(.df (.bin .neq 31) [(.q 41), (.i 0)] .one
(.br 42 []
(.ret (.t [(.k (.slice none 0 0)), (.q 41)]) (List.replicate 22 none) [])
(.ret (.t [(.row 21), (.i 0)]) (List.replicate 21 none ++ [(some ⟨[(.q 39)], 26, (.row 14)⟩)]) [])))))))))))
(.ret (.t [(.k (.slice none 0 0)), (.i 360)]) (List.replicate 16 none) [])))
(.ret (.t [(.k (.slice none 0 0)), (.i 360)]) (List.replicate 16 none) [])))
(.ret (.t [(.k (.slice none 0 0)), (.i 360)]) (List.replicate 16 none) [])))
(.ret (.t [(.k (.slice none 0 0)), (.i 360)]) (List.replicate 16 none) [])))
(.ret (.t [(.k (.slice none 0 0)), (.i 360)]) (List.replicate 16 none) [])))
(.ret (.t [(.k (.slice none 0 0)), (.i 360)]) (List.replicate 16 none) [])))
(.ret (.t [(.k (.slice none 0 0)), (.i 360)]) (List.replicate 16 none) [])))
(.ret (.t [(.k (.slice none 0 0)), (.i 360)]) (List.replicate 15 none) [])))
(.ret (.t [(.k (.slice none 0 0)), (.i 360)]) (List.replicate 15 none) []))))))))
def args_e6 : List SX.V := [.x 0 [], .a ([.k (.int .i64 6)] ++ (List.range 21).map fun j => .x (2+j) [])]
set_option maxRecDepth 100000 in
theorem run_e6 (K A : Value → Nat → List Value → Prop) : (SX.run (cxE3 K A) ⟨fun _ => true, [⟨12, 13, [(.s 51, .one), (.s 4, .row 14 26)]⟩], 2, 100⟩ 100000 0 (SX.door 12 Try.f12 args_e6 (List.replicate 23 .one)) [.code (Try.f12.body.getD .skip), .top Try.f12]).strip = tree_e6 := by kernel_rfl
set_option maxRecDepth 100000 in
set_option maxHeartbeats 4000000 in
theorem e6_any (ss : List Sg) (A : Option Addr) (n c : Nat) (role other fr to m sn sd : Int) (sg : Sg) (w : World) (hr : Rd w 14 A n (sgsL ss)) (hn : n ≤ 9223372036854775807) (hc : n ≤ c) : Calls Try.prog 12 #[.slice A n c, valE (⟨6, role, other, fr, to, m, sn, sd, sg⟩ : Ed)] w fun e w' => Below w.heap.size w w' ∧ ∃ hdr, e = .returned (.tuple #[hdr, .int .i64 (applyE (⟨6, role, other, fr, to, m, sn, sd, sg⟩ : Ed) ss).2]) ∧ SX.SlRet w w' [] hdr 14 (sgsL (applyE (⟨6, role, other, fr, to, m, sn, sd, sg⟩ : Ed) ss).1) := by
  refine SX.calls_of_run (C := cxE3 (fun s sz cells => s = .slice A n c ∧ sz = 14 ∧ cells = sgsL ss) (fun _ _ _ => False)) (G := ⟨fun _ => true, [⟨12, 13, [(.s 51, .one), (.s 4, .row 14 26)]⟩], 2, 100⟩) (args := args_e6) (sh := (List.replicate 23 .one)) (ρ := ([.slice A n c] ++ cellsE (⟨6, role, other, fr, to, m, sn, sd, sg⟩ : Ed))) 100000 tree_e6 (okE3 _ _) Try.func12 rfl (run_e6 _ _) (by kernel_rfl) (by kernel_rfl) (by kernel_rfl) ?_ ?_
  · rintro W hW s sz cells ⟨rfl, rfl, rfl⟩; exact ⟨hr.same0 hW, hc⟩
  have hA := SX.rd_some hr
  have hln : ss.length = n := by have := hr.1; rw [sgsL_len] at this; omega
  have k1 : (fun s sz cells => s = .slice A n c ∧ sz = 14 ∧ cells = sgsL ss) (Value.slice A n c) 14 (sgsL ss) := ⟨rfl, rfl, rfl⟩
  have hu : usesE (⟨6, role, other, fr, to, m, sn, sd, sg⟩ : Ed) = (⟨6, role, other, fr, to, 0, 0, 0, zeroSg⟩ : Ed) := by unfold usesE; rw [if_neg (by show ¬ ((6 : Int) = 1); decide), if_neg (by show ¬ ((6 : Int) = 2); decide), if_neg (by show ¬ ((6 : Int) = 3); decide), if_neg (by show ¬ ((6 : Int) = 4); decide), if_neg (by show ¬ ((6 : Int) = 5); decide), if_pos rfl]
  have hrt : rightE (⟨6, role, other, fr, to, m, sn, sd, sg⟩ : Ed) ↔ (0 ≤ role ∧ role ≤ 64 ∧ 0 ≤ fr ∧ fr ≤ to ∧ to ≤ 4095) ∧ 1 ≤ role ∧ 1 ≤ other ∧ other ≤ 64 ∧ role ≠ other := by unfold rightE; rw [if_neg (by show ¬ ((6 : Int) = 1); decide), if_neg (by show ¬ ((6 : Int) = 2); decide), if_neg (by show ¬ ((6 : Int) = 3); decide), if_neg (by show ¬ ((6 : Int) = 4); decide), if_neg (by show ¬ ((6 : Int) = 5); decide), if_pos rfl]; try simp only [roleE, barsE]
  have hwk : ∀ z : Sg, workE (⟨6, role, other, fr, to, m, sn, sd, sg⟩ : Ed) z = (if fr ≤ z.bar ∧ z.bar ≤ to then some [{ z with role := swapN z.role (role - 1) (other - 1), with_ := swapN z.with_ role other }] else some [z]) := fun z => by unfold workE; rw [if_neg (by show ¬ ((6 : Int) = 1); decide), if_neg (by show ¬ ((6 : Int) = 2); decide), if_neg (by show ¬ ((6 : Int) = 3); decide), if_neg (by show ¬ ((6 : Int) = 4); decide), if_pos rfl]
  unfold tree_e6
  refine SX.E (.int .i64 ((chkS ss))) (fun α => ⟨[⟨.slice A n c, 14, sgsL ss⟩], ⟨by kernel_rfl, rfl, cast (by kernel_rfl) k1, trivial⟩, .inl ⟨rfl, .slice A n c, ss, rfl, by omega, rfl⟩, SX.noAli rfl⟩) ?_
  refine SX.D (.bool (((chkS ss) : Int) != 0)) ?_
  refine SX.B (((chkS ss) : Int) != 0) (fun h24 => ?_) (fun h24 => ?_)
  · try simp only [NRM] at h24
    have hfact : applyE (⟨6, role, other, fr, to, m, sn, sd, sg⟩ : Ed) ss = ([], chkS ss) := applyE_chk h24
    exact SX.VC_ret fun α W _ hR hS => ⟨hS.below, (.slice none 0 0), Eq.trans (b := Ending.returned (.tuple #[(.slice none 0 0), .int .i64 ((chkS ss))])) (by kernel_rfl) (by rw [hfact]), (by rw [hfact]; exact SX.SlRet.nil)⟩
  try simp only [NRM] at h24
  refine SX.E (.bool (true ^^ decide ((⟨6, role, other, fr, to, 0, 0, 0, zeroSg⟩ : Ed) = (⟨6, role, other, fr, to, m, sn, sd, sg⟩ : Ed)))) (fun α => SX.eqr_rel (f := cellsE) cellsE_inj (y := (⟨6, role, other, fr, to, 0, 0, 0, zeroSg⟩ : Ed)) (z := (⟨6, role, other, fr, to, m, sn, sd, sg⟩ : Ed)) (by kernel_rfl) (by kernel_rfl) (by kernel_rfl)) ?_
  refine SX.B (true ^^ decide ((⟨6, role, other, fr, to, 0, 0, 0, zeroSg⟩ : Ed) = (⟨6, role, other, fr, to, m, sn, sd, sg⟩ : Ed))) (fun h25 => ?_) (fun h25 => ?_)
  · try simp only [NRM] at h25
    have hfact : applyE (⟨6, role, other, fr, to, m, sn, sd, sg⟩ : Ed) ss = ([], 360) := applyE_no h24 (fun hk => by first | exact h25 (by rw [← hu]; exact hk.2.2.1) | (have := hrt.1 hk.2.2.2; omega) | (have := hrt.1 hk.2.2.2; have := okR_iff2.2 this.2.1; omega))
    exact SX.VC_ret fun α W _ hR hS => ⟨hS.below, (.slice none 0 0), Eq.trans (b := Ending.returned (.tuple #[(.slice none 0 0), .int .i64 360])) (by kernel_rfl) (by rw [hfact]), (by rw [hfact]; exact SX.SlRet.nil)⟩
  try simp only [NRM] at h25
  refine SX.D (.bool (decide (role ≥ 0))) ?_
  refine SX.B (decide (role ≥ 0)) (fun h26 => ?_) (fun h26 => ?_)
  · try simp only [NRM] at h26
    refine SX.D (.bool (decide (role ≤ 64))) ?_
    refine SX.B (decide (role ≤ 64)) (fun h27 => ?_) (fun h27 => ?_)
    · try simp only [NRM] at h27
      refine SX.D (.bool (decide (fr ≥ 0))) ?_
      refine SX.B (decide (fr ≥ 0)) (fun h28 => ?_) (fun h28 => ?_)
      · try simp only [NRM] at h28
        refine SX.D (.bool (decide (fr ≤ to))) ?_
        refine SX.B (decide (fr ≤ to)) (fun h29 => ?_) (fun h29 => ?_)
        · try simp only [NRM] at h29
          refine SX.D (.bool (decide (to ≤ 4095))) ?_
          refine SX.B (decide (to ≤ 4095)) (fun h30 => ?_) (fun h30 => ?_)
          · try simp only [NRM] at h30
            refine SX.D (.bool (decide (role ≥ 1))) ?_
            refine SX.B (decide (role ≥ 1)) (fun h31 => ?_) (fun h31 => ?_)
            · try simp only [NRM] at h31
              refine SX.D (.bool (decide (role ≤ 64))) ?_
              refine SX.B (decide (role ≤ 64)) (fun h32 => ?_) (fun h32 => ?_)
              · try simp only [NRM] at h32
                refine SX.D (.bool (decide (other ≥ 1))) ?_
                refine SX.B (decide (other ≥ 1)) (fun h33 => ?_) (fun h33 => ?_)
                · try simp only [NRM] at h33
                  refine SX.D (.bool (decide (other ≤ 64))) ?_
                  refine SX.B (decide (other ≤ 64)) (fun h34 => ?_) (fun h34 => ?_)
                  · try simp only [NRM] at h34
                    refine SX.D (.bool ((role : Int) != other)) ?_
                    refine SX.D (.bool (!((role : Int) != other))) ?_
                    refine SX.B (!((role : Int) != other)) (fun h36 => ?_) (fun h36 => ?_)
                    · try simp only [NRM] at h36
                      have hfact : applyE (⟨6, role, other, fr, to, m, sn, sd, sg⟩ : Ed) ss = ([], 360) := applyE_no h24 (fun hk => by first | exact h25 (by rw [← hu]; exact hk.2.2.1) | (have := hrt.1 hk.2.2.2; omega) | (have := hrt.1 hk.2.2.2; have := okR_iff2.2 this.2.1; omega))
                      exact SX.VC_ret fun α W _ hR hS => ⟨hS.below, (.slice none 0 0), Eq.trans (b := Ending.returned (.tuple #[(.slice none 0 0), .int .i64 360])) (by kernel_rfl) (by rw [hfact]), (by rw [hfact]; exact SX.SlRet.nil)⟩
                    try simp only [NRM] at h36
                    refine SX.D (.int .i64 (((n : Nat) : Int))) ?_
                    have hok : okE (⟨6, role, other, fr, to, m, sn, sd, sg⟩ : Ed) := ⟨by show (1 : Int) ≤ 6; decide, by show (6 : Int) ≤ 7; decide, hu.trans h25, hrt.2 (by first | omega | (refine ⟨by omega, ?_⟩; exact ⟨okR_iff2.1 (by assumption), by omega, by omega⟩))⟩
                    obtain ⟨hss, hs4⟩ := chkS_ok h24
                    refine SX.VC_loop (fun xs => ∃ (i : Nat) (cur : List Sg), xs = [.int .i64 (i : Int), .agg (sgsL cur).toArray] ∧ i ≤ n ∧ accE (⟨6, role, other, fr, to, m, sn, sd, sg⟩ : Ed) (ss.take i) = some cur) (fun xs => match xs with | [.int _ i, _] => n - i.toNat | _ => 0) (fun α => ⟨0, [], by kernel_rfl, by omega, rfl⟩) ?_
                    rintro xs - ⟨i, cur, rfl, hin, hacc⟩
                    have hcl := acc_len hacc
                    refine SX.D (.bool (decide (((i : Nat) : Int) < ((n : Nat) : Int)))) ?_
                    refine SX.B (decide (((i : Nat) : Int) < ((n : Nat) : Int))) (fun h40 => ?_) (fun h40 => ?_)
                    · try simp only [NRM] at h40
                      obtain ⟨z, hz⟩ : ∃ z, ss[i]? = some z := ⟨_, List.getElem?_eq_getElem (by omega)⟩
                      have zb := hss.1 z (List.mem_of_getElem? hz)
                      rw [Sg.ok_iff] at zb
                      obtain ⟨⟨z1, z2⟩, ⟨z3, z4⟩, ⟨z5, z6⟩, ⟨z7, z8⟩, ⟨z9, z10⟩, ⟨z11, z12⟩, ⟨z13, z14⟩, ⟨z15, z16⟩, ⟨z17, z18⟩, ⟨z19, z20⟩, z21⟩ := zb
                      refine SX.E (.bool true) (fun α => SX.extBnd (A := A) (n := n) (c := c) (j := i) hA (by kernel_rfl) (by kernel_rfl) (by omega)) ?_
                      refine SX.E (.agg (cellsSg z).toArray) (fun α => SX.extElems (f := cellsSg) (l := ss) (A := A) (n := n) (c := c) (j := i) (z := z) (fun _ => rfl) hA (by kernel_rfl) (by kernel_rfl) (by omega) (cast (by kernel_rfl) k1) hz) ?_
                      refine SX.D (.bool (decide (z.bar ≥ fr))) ?_
                      refine SX.B (decide (z.bar ≥ fr)) (fun h43 => ?_) (fun h43 => ?_)
                      · try simp only [NRM] at h43
                        refine SX.D (.bool (decide (z.bar ≤ to))) ?_
                        refine SX.B (decide (z.bar ≤ to)) (fun h44 => ?_) (fun h44 => ?_)
                        · try simp only [NRM] at h44
                          refine SX.E (.int .i64 (role - 1)) (fun α => SX.W (role - 1)) ?_
                          refine SX.E (.int .i64 (other - 1)) (fun α => SX.W (other - 1)) ?_
                          refine SX.D (.bool ((z.role : Int) == role - 1)) ?_
                          refine SX.B ((z.role : Int) == role - 1) (fun h47 => ?_) (fun h47 => ?_)
                          · try simp only [NRM] at h47
                            refine SX.D (.bool ((z.with_ : Int) == role)) ?_
                            refine SX.B ((z.with_ : Int) == role) (fun h48 => ?_) (fun h48 => ?_)
                            · try simp only [NRM] at h48
                              refine SX.E (Value.agg (([(⟨z.id, other - 1, z.bar, z.mark, z.kind, z.side, z.dir, z.level, z.size, other, z.fn, z.fd, z.tn, z.td⟩ : Sg)]).flatMap cellsSg).toArray) (fun α => SX.app_rel (f := cellsSg) (l1 := cur) (l2 := [(⟨z.id, other - 1, z.bar, z.mark, z.kind, z.side, z.dir, z.level, z.size, other, z.fn, z.fd, z.tn, z.td⟩ : Sg)]) (fun _ => rfl) cellsSg_one (by decide) (SX.cat1 (by kernel_rfl)) (SX.src_own (by kernel_rfl)) (by simp only [LL]; omega) (by simp only [LL]; omega)) ?_
                              refine SX.E (.int .i64 (((i + 1 : Nat) : Int))) (fun α => SX.W1 i) ?_
                              exact SX.VC_again fun α => ⟨⟨i + 1, cur ++ [(⟨z.id, other - 1, z.bar, z.mark, z.kind, z.side, z.dir, z.level, z.size, other, z.fn, z.fd, z.tn, z.td⟩ : Sg)], Eq.trans (b := [.int .i64 ((i + 1 : Nat) : Int), .agg ([Value.agg (sgsL cur).toArray, Value.agg (([(⟨z.id, other - 1, z.bar, z.mark, z.kind, z.side, z.dir, z.level, z.size, other, z.fn, z.fd, z.tn, z.td⟩ : Sg)]).flatMap cellsSg).toArray].flatMap SX.cellsV).toArray]) (by kernel_rfl) (by simp [SX.cellsV, sgsL]), by omega, acc_step hz hacc (by rw [hwk]; (try simp only [mirrorS, swapN]); (repeat' split) <;> first | rfl | (exfalso; omega))⟩, cast (by kernel_rfl) (show n - ((i + 1 : Nat) : Int).toNat < n - (i : Int).toNat by omega)⟩
                            try simp only [NRM] at h48
                            refine SX.D (.bool ((z.with_ : Int) == other)) ?_
                            refine SX.B ((z.with_ : Int) == other) (fun h49 => ?_) (fun h49 => ?_)
                            · try simp only [NRM] at h49
                              refine SX.E (Value.agg (([(⟨z.id, other - 1, z.bar, z.mark, z.kind, z.side, z.dir, z.level, z.size, role, z.fn, z.fd, z.tn, z.td⟩ : Sg)]).flatMap cellsSg).toArray) (fun α => SX.app_rel (f := cellsSg) (l1 := cur) (l2 := [(⟨z.id, other - 1, z.bar, z.mark, z.kind, z.side, z.dir, z.level, z.size, role, z.fn, z.fd, z.tn, z.td⟩ : Sg)]) (fun _ => rfl) cellsSg_one (by decide) (SX.cat1 (by kernel_rfl)) (SX.src_own (by kernel_rfl)) (by simp only [LL]; omega) (by simp only [LL]; omega)) ?_
                              refine SX.E (.int .i64 (((i + 1 : Nat) : Int))) (fun α => SX.W1 i) ?_
                              exact SX.VC_again fun α => ⟨⟨i + 1, cur ++ [(⟨z.id, other - 1, z.bar, z.mark, z.kind, z.side, z.dir, z.level, z.size, role, z.fn, z.fd, z.tn, z.td⟩ : Sg)], Eq.trans (b := [.int .i64 ((i + 1 : Nat) : Int), .agg ([Value.agg (sgsL cur).toArray, Value.agg (([(⟨z.id, other - 1, z.bar, z.mark, z.kind, z.side, z.dir, z.level, z.size, role, z.fn, z.fd, z.tn, z.td⟩ : Sg)]).flatMap cellsSg).toArray].flatMap SX.cellsV).toArray]) (by kernel_rfl) (by simp [SX.cellsV, sgsL]), by omega, acc_step hz hacc (by rw [hwk]; (try simp only [mirrorS, swapN]); (repeat' split) <;> first | rfl | (exfalso; omega))⟩, cast (by kernel_rfl) (show n - ((i + 1 : Nat) : Int).toNat < n - (i : Int).toNat by omega)⟩
                            try simp only [NRM] at h49
                            refine SX.E (Value.agg (([(⟨z.id, other - 1, z.bar, z.mark, z.kind, z.side, z.dir, z.level, z.size, z.with_, z.fn, z.fd, z.tn, z.td⟩ : Sg)]).flatMap cellsSg).toArray) (fun α => SX.app_rel (f := cellsSg) (l1 := cur) (l2 := [(⟨z.id, other - 1, z.bar, z.mark, z.kind, z.side, z.dir, z.level, z.size, z.with_, z.fn, z.fd, z.tn, z.td⟩ : Sg)]) (fun _ => rfl) cellsSg_one (by decide) (SX.cat1 (by kernel_rfl)) (SX.src_own (by kernel_rfl)) (by simp only [LL]; omega) (by simp only [LL]; omega)) ?_
                            refine SX.E (.int .i64 (((i + 1 : Nat) : Int))) (fun α => SX.W1 i) ?_
                            exact SX.VC_again fun α => ⟨⟨i + 1, cur ++ [(⟨z.id, other - 1, z.bar, z.mark, z.kind, z.side, z.dir, z.level, z.size, z.with_, z.fn, z.fd, z.tn, z.td⟩ : Sg)], Eq.trans (b := [.int .i64 ((i + 1 : Nat) : Int), .agg ([Value.agg (sgsL cur).toArray, Value.agg (([(⟨z.id, other - 1, z.bar, z.mark, z.kind, z.side, z.dir, z.level, z.size, z.with_, z.fn, z.fd, z.tn, z.td⟩ : Sg)]).flatMap cellsSg).toArray].flatMap SX.cellsV).toArray]) (by kernel_rfl) (by simp [SX.cellsV, sgsL]), by omega, acc_step hz hacc (by rw [hwk]; (try simp only [mirrorS, swapN]); (repeat' split) <;> first | rfl | (exfalso; omega))⟩, cast (by kernel_rfl) (show n - ((i + 1 : Nat) : Int).toNat < n - (i : Int).toNat by omega)⟩
                          try simp only [NRM] at h47
                          refine SX.D (.bool ((z.role : Int) == other - 1)) ?_
                          refine SX.B ((z.role : Int) == other - 1) (fun h48 => ?_) (fun h48 => ?_)
                          · try simp only [NRM] at h48
                            refine SX.D (.bool ((z.with_ : Int) == role)) ?_
                            refine SX.B ((z.with_ : Int) == role) (fun h49 => ?_) (fun h49 => ?_)
                            · try simp only [NRM] at h49
                              refine SX.E (Value.agg (([(⟨z.id, role - 1, z.bar, z.mark, z.kind, z.side, z.dir, z.level, z.size, other, z.fn, z.fd, z.tn, z.td⟩ : Sg)]).flatMap cellsSg).toArray) (fun α => SX.app_rel (f := cellsSg) (l1 := cur) (l2 := [(⟨z.id, role - 1, z.bar, z.mark, z.kind, z.side, z.dir, z.level, z.size, other, z.fn, z.fd, z.tn, z.td⟩ : Sg)]) (fun _ => rfl) cellsSg_one (by decide) (SX.cat1 (by kernel_rfl)) (SX.src_own (by kernel_rfl)) (by simp only [LL]; omega) (by simp only [LL]; omega)) ?_
                              refine SX.E (.int .i64 (((i + 1 : Nat) : Int))) (fun α => SX.W1 i) ?_
                              exact SX.VC_again fun α => ⟨⟨i + 1, cur ++ [(⟨z.id, role - 1, z.bar, z.mark, z.kind, z.side, z.dir, z.level, z.size, other, z.fn, z.fd, z.tn, z.td⟩ : Sg)], Eq.trans (b := [.int .i64 ((i + 1 : Nat) : Int), .agg ([Value.agg (sgsL cur).toArray, Value.agg (([(⟨z.id, role - 1, z.bar, z.mark, z.kind, z.side, z.dir, z.level, z.size, other, z.fn, z.fd, z.tn, z.td⟩ : Sg)]).flatMap cellsSg).toArray].flatMap SX.cellsV).toArray]) (by kernel_rfl) (by simp [SX.cellsV, sgsL]), by omega, acc_step hz hacc (by rw [hwk]; (try simp only [mirrorS, swapN]); (repeat' split) <;> first | rfl | (exfalso; omega))⟩, cast (by kernel_rfl) (show n - ((i + 1 : Nat) : Int).toNat < n - (i : Int).toNat by omega)⟩
                            try simp only [NRM] at h49
                            refine SX.D (.bool ((z.with_ : Int) == other)) ?_
                            refine SX.B ((z.with_ : Int) == other) (fun h50 => ?_) (fun h50 => ?_)
                            · try simp only [NRM] at h50
                              refine SX.E (Value.agg (([(⟨z.id, role - 1, z.bar, z.mark, z.kind, z.side, z.dir, z.level, z.size, role, z.fn, z.fd, z.tn, z.td⟩ : Sg)]).flatMap cellsSg).toArray) (fun α => SX.app_rel (f := cellsSg) (l1 := cur) (l2 := [(⟨z.id, role - 1, z.bar, z.mark, z.kind, z.side, z.dir, z.level, z.size, role, z.fn, z.fd, z.tn, z.td⟩ : Sg)]) (fun _ => rfl) cellsSg_one (by decide) (SX.cat1 (by kernel_rfl)) (SX.src_own (by kernel_rfl)) (by simp only [LL]; omega) (by simp only [LL]; omega)) ?_
                              refine SX.E (.int .i64 (((i + 1 : Nat) : Int))) (fun α => SX.W1 i) ?_
                              exact SX.VC_again fun α => ⟨⟨i + 1, cur ++ [(⟨z.id, role - 1, z.bar, z.mark, z.kind, z.side, z.dir, z.level, z.size, role, z.fn, z.fd, z.tn, z.td⟩ : Sg)], Eq.trans (b := [.int .i64 ((i + 1 : Nat) : Int), .agg ([Value.agg (sgsL cur).toArray, Value.agg (([(⟨z.id, role - 1, z.bar, z.mark, z.kind, z.side, z.dir, z.level, z.size, role, z.fn, z.fd, z.tn, z.td⟩ : Sg)]).flatMap cellsSg).toArray].flatMap SX.cellsV).toArray]) (by kernel_rfl) (by simp [SX.cellsV, sgsL]), by omega, acc_step hz hacc (by rw [hwk]; (try simp only [mirrorS, swapN]); (repeat' split) <;> first | rfl | (exfalso; omega))⟩, cast (by kernel_rfl) (show n - ((i + 1 : Nat) : Int).toNat < n - (i : Int).toNat by omega)⟩
                            try simp only [NRM] at h50
                            refine SX.E (Value.agg (([(⟨z.id, role - 1, z.bar, z.mark, z.kind, z.side, z.dir, z.level, z.size, z.with_, z.fn, z.fd, z.tn, z.td⟩ : Sg)]).flatMap cellsSg).toArray) (fun α => SX.app_rel (f := cellsSg) (l1 := cur) (l2 := [(⟨z.id, role - 1, z.bar, z.mark, z.kind, z.side, z.dir, z.level, z.size, z.with_, z.fn, z.fd, z.tn, z.td⟩ : Sg)]) (fun _ => rfl) cellsSg_one (by decide) (SX.cat1 (by kernel_rfl)) (SX.src_own (by kernel_rfl)) (by simp only [LL]; omega) (by simp only [LL]; omega)) ?_
                            refine SX.E (.int .i64 (((i + 1 : Nat) : Int))) (fun α => SX.W1 i) ?_
                            exact SX.VC_again fun α => ⟨⟨i + 1, cur ++ [(⟨z.id, role - 1, z.bar, z.mark, z.kind, z.side, z.dir, z.level, z.size, z.with_, z.fn, z.fd, z.tn, z.td⟩ : Sg)], Eq.trans (b := [.int .i64 ((i + 1 : Nat) : Int), .agg ([Value.agg (sgsL cur).toArray, Value.agg (([(⟨z.id, role - 1, z.bar, z.mark, z.kind, z.side, z.dir, z.level, z.size, z.with_, z.fn, z.fd, z.tn, z.td⟩ : Sg)]).flatMap cellsSg).toArray].flatMap SX.cellsV).toArray]) (by kernel_rfl) (by simp [SX.cellsV, sgsL]), by omega, acc_step hz hacc (by rw [hwk]; (try simp only [mirrorS, swapN]); (repeat' split) <;> first | rfl | (exfalso; omega))⟩, cast (by kernel_rfl) (show n - ((i + 1 : Nat) : Int).toNat < n - (i : Int).toNat by omega)⟩
                          try simp only [NRM] at h48
                          refine SX.D (.bool ((z.with_ : Int) == role)) ?_
                          refine SX.B ((z.with_ : Int) == role) (fun h49 => ?_) (fun h49 => ?_)
                          · try simp only [NRM] at h49
                            refine SX.E (Value.agg (([(⟨z.id, z.role, z.bar, z.mark, z.kind, z.side, z.dir, z.level, z.size, other, z.fn, z.fd, z.tn, z.td⟩ : Sg)]).flatMap cellsSg).toArray) (fun α => SX.app_rel (f := cellsSg) (l1 := cur) (l2 := [(⟨z.id, z.role, z.bar, z.mark, z.kind, z.side, z.dir, z.level, z.size, other, z.fn, z.fd, z.tn, z.td⟩ : Sg)]) (fun _ => rfl) cellsSg_one (by decide) (SX.cat1 (by kernel_rfl)) (SX.src_own (by kernel_rfl)) (by simp only [LL]; omega) (by simp only [LL]; omega)) ?_
                            refine SX.E (.int .i64 (((i + 1 : Nat) : Int))) (fun α => SX.W1 i) ?_
                            exact SX.VC_again fun α => ⟨⟨i + 1, cur ++ [(⟨z.id, z.role, z.bar, z.mark, z.kind, z.side, z.dir, z.level, z.size, other, z.fn, z.fd, z.tn, z.td⟩ : Sg)], Eq.trans (b := [.int .i64 ((i + 1 : Nat) : Int), .agg ([Value.agg (sgsL cur).toArray, Value.agg (([(⟨z.id, z.role, z.bar, z.mark, z.kind, z.side, z.dir, z.level, z.size, other, z.fn, z.fd, z.tn, z.td⟩ : Sg)]).flatMap cellsSg).toArray].flatMap SX.cellsV).toArray]) (by kernel_rfl) (by simp [SX.cellsV, sgsL]), by omega, acc_step hz hacc (by rw [hwk]; (try simp only [mirrorS, swapN]); (repeat' split) <;> first | rfl | (exfalso; omega))⟩, cast (by kernel_rfl) (show n - ((i + 1 : Nat) : Int).toNat < n - (i : Int).toNat by omega)⟩
                          try simp only [NRM] at h49
                          refine SX.D (.bool ((z.with_ : Int) == other)) ?_
                          refine SX.B ((z.with_ : Int) == other) (fun h50 => ?_) (fun h50 => ?_)
                          · try simp only [NRM] at h50
                            refine SX.E (Value.agg (([(⟨z.id, z.role, z.bar, z.mark, z.kind, z.side, z.dir, z.level, z.size, role, z.fn, z.fd, z.tn, z.td⟩ : Sg)]).flatMap cellsSg).toArray) (fun α => SX.app_rel (f := cellsSg) (l1 := cur) (l2 := [(⟨z.id, z.role, z.bar, z.mark, z.kind, z.side, z.dir, z.level, z.size, role, z.fn, z.fd, z.tn, z.td⟩ : Sg)]) (fun _ => rfl) cellsSg_one (by decide) (SX.cat1 (by kernel_rfl)) (SX.src_own (by kernel_rfl)) (by simp only [LL]; omega) (by simp only [LL]; omega)) ?_
                            refine SX.E (.int .i64 (((i + 1 : Nat) : Int))) (fun α => SX.W1 i) ?_
                            exact SX.VC_again fun α => ⟨⟨i + 1, cur ++ [(⟨z.id, z.role, z.bar, z.mark, z.kind, z.side, z.dir, z.level, z.size, role, z.fn, z.fd, z.tn, z.td⟩ : Sg)], Eq.trans (b := [.int .i64 ((i + 1 : Nat) : Int), .agg ([Value.agg (sgsL cur).toArray, Value.agg (([(⟨z.id, z.role, z.bar, z.mark, z.kind, z.side, z.dir, z.level, z.size, role, z.fn, z.fd, z.tn, z.td⟩ : Sg)]).flatMap cellsSg).toArray].flatMap SX.cellsV).toArray]) (by kernel_rfl) (by simp [SX.cellsV, sgsL]), by omega, acc_step hz hacc (by rw [hwk]; (try simp only [mirrorS, swapN]); (repeat' split) <;> first | rfl | (exfalso; omega))⟩, cast (by kernel_rfl) (show n - ((i + 1 : Nat) : Int).toNat < n - (i : Int).toNat by omega)⟩
                          try simp only [NRM] at h50
                          refine SX.E (Value.agg (([z]).flatMap cellsSg).toArray) (fun α => SX.app_rel (f := cellsSg) (l1 := cur) (l2 := [z]) (fun _ => rfl) cellsSg_one (by decide) (SX.cat1 (by kernel_rfl)) (SX.src_own (by kernel_rfl)) (by simp only [LL]; omega) (by simp only [LL]; omega)) ?_
                          refine SX.E (.int .i64 (((i + 1 : Nat) : Int))) (fun α => SX.W1 i) ?_
                          exact SX.VC_again fun α => ⟨⟨i + 1, cur ++ [z], Eq.trans (b := [.int .i64 ((i + 1 : Nat) : Int), .agg ([Value.agg (sgsL cur).toArray, Value.agg (([z]).flatMap cellsSg).toArray].flatMap SX.cellsV).toArray]) (by kernel_rfl) (by simp [SX.cellsV, sgsL]), by omega, acc_step hz hacc (by rw [hwk]; (try simp only [mirrorS, swapN]); (repeat' split) <;> first | rfl | (exfalso; omega))⟩, cast (by kernel_rfl) (show n - ((i + 1 : Nat) : Int).toNat < n - (i : Int).toNat by omega)⟩
                        try simp only [NRM] at h44
                        refine SX.E (Value.agg (([z]).flatMap cellsSg).toArray) (fun α => SX.app_rel (f := cellsSg) (l1 := cur) (l2 := [z]) (fun _ => rfl) cellsSg_one (by decide) (SX.cat1 (by kernel_rfl)) (SX.src_own (by kernel_rfl)) (by simp only [LL]; omega) (by simp only [LL]; omega)) ?_
                        refine SX.E (.int .i64 (((i + 1 : Nat) : Int))) (fun α => SX.W1 i) ?_
                        exact SX.VC_again fun α => ⟨⟨i + 1, cur ++ [z], Eq.trans (b := [.int .i64 ((i + 1 : Nat) : Int), .agg ([Value.agg (sgsL cur).toArray, Value.agg (([z]).flatMap cellsSg).toArray].flatMap SX.cellsV).toArray]) (by kernel_rfl) (by simp [SX.cellsV, sgsL]), by omega, acc_step hz hacc (by rw [hwk]; (try simp only [mirrorS, swapN]); (repeat' split) <;> first | rfl | (exfalso; omega))⟩, cast (by kernel_rfl) (show n - ((i + 1 : Nat) : Int).toNat < n - (i : Int).toNat by omega)⟩
                      try simp only [NRM] at h43
                      refine SX.E (Value.agg (([z]).flatMap cellsSg).toArray) (fun α => SX.app_rel (f := cellsSg) (l1 := cur) (l2 := [z]) (fun _ => rfl) cellsSg_one (by decide) (SX.cat1 (by kernel_rfl)) (SX.src_own (by kernel_rfl)) (by simp only [LL]; omega) (by simp only [LL]; omega)) ?_
                      refine SX.E (.int .i64 (((i + 1 : Nat) : Int))) (fun α => SX.W1 i) ?_
                      exact SX.VC_again fun α => ⟨⟨i + 1, cur ++ [z], Eq.trans (b := [.int .i64 ((i + 1 : Nat) : Int), .agg ([Value.agg (sgsL cur).toArray, Value.agg (([z]).flatMap cellsSg).toArray].flatMap SX.cellsV).toArray]) (by kernel_rfl) (by simp [SX.cellsV, sgsL]), by omega, acc_step hz hacc (by rw [hwk]; (try simp only [mirrorS, swapN]); (repeat' split) <;> first | rfl | (exfalso; omega))⟩, cast (by kernel_rfl) (show n - ((i + 1 : Nat) : Int).toNat < n - (i : Int).toNat by omega)⟩
                    try simp only [NRM] at h40
                    refine SX.E (.int .i64 ((chkS cur))) (fun α => ⟨[⟨(α 21).h, 14, sgsL cur⟩], ⟨Eq.trans (b := (⟨(α 21).h, 14, [Value.agg (sgsL cur).toArray].flatMap SX.cellsV⟩ : SX.Arg)) (by simp [SX.cellsV]) (by kernel_rfl), trivial⟩, .inl ⟨rfl, _, cur, rfl, by omega, rfl⟩, SX.noAli rfl⟩) ?_
                    refine SX.D (.bool (((chkS cur) : Int) != 0)) ?_
                    refine SX.B (((chkS cur) : Int) != 0) (fun h42 => ?_) (fun h42 => ?_)
                    · try simp only [NRM] at h42
                      have hfact : applyE (⟨6, role, other, fr, to, m, sn, sd, sg⟩ : Ed) ss = ([], chkS cur) := applyE_out h24 hok (by rw [← hacc, List.take_of_length_le (by omega)]) (by assumption)
                      exact SX.VC_ret fun α W _ hR hS => ⟨hS.below, (.slice none 0 0), Eq.trans (b := Ending.returned (.tuple #[(.slice none 0 0), .int .i64 ((chkS cur))])) (by kernel_rfl) (by rw [hfact]), (by rw [hfact]; exact SX.SlRet.nil)⟩
                    try simp only [NRM] at h42
                    have hfact : applyE (⟨6, role, other, fr, to, m, sn, sd, sg⟩ : Ed) ss = (cur, 0) := applyE_ok h24 hok (by rw [← hacc, List.take_of_length_le (by omega)]) (by omega)
                    exact SX.VC_ret fun α W _ hR hS => ⟨hS.below, (α 21).h, Eq.trans (b := Ending.returned (.tuple #[(α 21).h, .int .i64 0])) (by kernel_rfl) (by rw [hfact]), SX.SlRet.row hS (n := 21) (b := (⟨[(.x 39 [])], 26, (.row 14)⟩ : SX.Blk)) (by kernel_rfl) rfl (hR 21 _ (by kernel_rfl)) (Eq.trans (b := [Value.agg (sgsL cur).toArray].flatMap SX.cellsV) (by kernel_rfl) (by rw [hfact]; simp [SX.cellsV]))⟩
                  try simp only [NRM] at h34
                  have hfact : applyE (⟨6, role, other, fr, to, m, sn, sd, sg⟩ : Ed) ss = ([], 360) := applyE_no h24 (fun hk => by first | exact h25 (by rw [← hu]; exact hk.2.2.1) | (have := hrt.1 hk.2.2.2; omega) | (have := hrt.1 hk.2.2.2; have := okR_iff2.2 this.2.1; omega))
                  exact SX.VC_ret fun α W _ hR hS => ⟨hS.below, (.slice none 0 0), Eq.trans (b := Ending.returned (.tuple #[(.slice none 0 0), .int .i64 360])) (by kernel_rfl) (by rw [hfact]), (by rw [hfact]; exact SX.SlRet.nil)⟩
                try simp only [NRM] at h33
                have hfact : applyE (⟨6, role, other, fr, to, m, sn, sd, sg⟩ : Ed) ss = ([], 360) := applyE_no h24 (fun hk => by first | exact h25 (by rw [← hu]; exact hk.2.2.1) | (have := hrt.1 hk.2.2.2; omega) | (have := hrt.1 hk.2.2.2; have := okR_iff2.2 this.2.1; omega))
                exact SX.VC_ret fun α W _ hR hS => ⟨hS.below, (.slice none 0 0), Eq.trans (b := Ending.returned (.tuple #[(.slice none 0 0), .int .i64 360])) (by kernel_rfl) (by rw [hfact]), (by rw [hfact]; exact SX.SlRet.nil)⟩
              try simp only [NRM] at h32
              have hfact : applyE (⟨6, role, other, fr, to, m, sn, sd, sg⟩ : Ed) ss = ([], 360) := applyE_no h24 (fun hk => by first | exact h25 (by rw [← hu]; exact hk.2.2.1) | (have := hrt.1 hk.2.2.2; omega) | (have := hrt.1 hk.2.2.2; have := okR_iff2.2 this.2.1; omega))
              exact SX.VC_ret fun α W _ hR hS => ⟨hS.below, (.slice none 0 0), Eq.trans (b := Ending.returned (.tuple #[(.slice none 0 0), .int .i64 360])) (by kernel_rfl) (by rw [hfact]), (by rw [hfact]; exact SX.SlRet.nil)⟩
            try simp only [NRM] at h31
            have hfact : applyE (⟨6, role, other, fr, to, m, sn, sd, sg⟩ : Ed) ss = ([], 360) := applyE_no h24 (fun hk => by first | exact h25 (by rw [← hu]; exact hk.2.2.1) | (have := hrt.1 hk.2.2.2; omega) | (have := hrt.1 hk.2.2.2; have := okR_iff2.2 this.2.1; omega))
            exact SX.VC_ret fun α W _ hR hS => ⟨hS.below, (.slice none 0 0), Eq.trans (b := Ending.returned (.tuple #[(.slice none 0 0), .int .i64 360])) (by kernel_rfl) (by rw [hfact]), (by rw [hfact]; exact SX.SlRet.nil)⟩
          try simp only [NRM] at h30
          have hfact : applyE (⟨6, role, other, fr, to, m, sn, sd, sg⟩ : Ed) ss = ([], 360) := applyE_no h24 (fun hk => by first | exact h25 (by rw [← hu]; exact hk.2.2.1) | (have := hrt.1 hk.2.2.2; omega) | (have := hrt.1 hk.2.2.2; have := okR_iff2.2 this.2.1; omega))
          exact SX.VC_ret fun α W _ hR hS => ⟨hS.below, (.slice none 0 0), Eq.trans (b := Ending.returned (.tuple #[(.slice none 0 0), .int .i64 360])) (by kernel_rfl) (by rw [hfact]), (by rw [hfact]; exact SX.SlRet.nil)⟩
        try simp only [NRM] at h29
        have hfact : applyE (⟨6, role, other, fr, to, m, sn, sd, sg⟩ : Ed) ss = ([], 360) := applyE_no h24 (fun hk => by first | exact h25 (by rw [← hu]; exact hk.2.2.1) | (have := hrt.1 hk.2.2.2; omega) | (have := hrt.1 hk.2.2.2; have := okR_iff2.2 this.2.1; omega))
        exact SX.VC_ret fun α W _ hR hS => ⟨hS.below, (.slice none 0 0), Eq.trans (b := Ending.returned (.tuple #[(.slice none 0 0), .int .i64 360])) (by kernel_rfl) (by rw [hfact]), (by rw [hfact]; exact SX.SlRet.nil)⟩
      try simp only [NRM] at h28
      have hfact : applyE (⟨6, role, other, fr, to, m, sn, sd, sg⟩ : Ed) ss = ([], 360) := applyE_no h24 (fun hk => by first | exact h25 (by rw [← hu]; exact hk.2.2.1) | (have := hrt.1 hk.2.2.2; omega) | (have := hrt.1 hk.2.2.2; have := okR_iff2.2 this.2.1; omega))
      exact SX.VC_ret fun α W _ hR hS => ⟨hS.below, (.slice none 0 0), Eq.trans (b := Ending.returned (.tuple #[(.slice none 0 0), .int .i64 360])) (by kernel_rfl) (by rw [hfact]), (by rw [hfact]; exact SX.SlRet.nil)⟩
    try simp only [NRM] at h27
    have hfact : applyE (⟨6, role, other, fr, to, m, sn, sd, sg⟩ : Ed) ss = ([], 360) := applyE_no h24 (fun hk => by first | exact h25 (by rw [← hu]; exact hk.2.2.1) | (have := hrt.1 hk.2.2.2; omega) | (have := hrt.1 hk.2.2.2; have := okR_iff2.2 this.2.1; omega))
    exact SX.VC_ret fun α W _ hR hS => ⟨hS.below, (.slice none 0 0), Eq.trans (b := Ending.returned (.tuple #[(.slice none 0 0), .int .i64 360])) (by kernel_rfl) (by rw [hfact]), (by rw [hfact]; exact SX.SlRet.nil)⟩
  try simp only [NRM] at h26
  have hfact : applyE (⟨6, role, other, fr, to, m, sn, sd, sg⟩ : Ed) ss = ([], 360) := applyE_no h24 (fun hk => by first | exact h25 (by rw [← hu]; exact hk.2.2.1) | (have := hrt.1 hk.2.2.2; omega) | (have := hrt.1 hk.2.2.2; have := okR_iff2.2 this.2.1; omega))
  exact SX.VC_ret fun α W _ hR hS => ⟨hS.below, (.slice none 0 0), Eq.trans (b := Ending.returned (.tuple #[(.slice none 0 0), .int .i64 360])) (by kernel_rfl) (by rw [hfact]), (by rw [hfact]; exact SX.SlRet.nil)⟩
def tree_e0 : SX.Tree :=
(.df (.call 14 [(.ext 14)]) [(.q 0)] .one
(.df (.bin .neq 31) [(.q 23), (.i 0)] .one
(.br 24 []
(.ret (.t [(.k (.slice none 0 0)), (.q 23)]) [none] [])
(.df (.bin .geq 3) [(.q 1), (.i 1)] .one
(.br 25 []
(.df (.bin .leq 3) [(.q 1), (.i 7)] .one
(.df .not [(.q 26)] .one
(.br 27 []
(.ret (.t [(.k (.slice none 0 0)), (.i 360)]) [none] []) (.bad 37 []))))
(.ret (.t [(.k (.slice none 0 0)), (.i 360)]) [none] []))))))
def args_e0 : List SX.V := [.x 0 [], .a ((List.range 22).map fun j => .x (1+j) [])]
set_option maxRecDepth 100000 in
theorem run_e0 (K A : Value → Nat → List Value → Prop) : (SX.run (cxE2 K A) ⟨fun f => f != 29, [], 2, 100⟩ 100000 0 (SX.door 12 Try.f12 args_e0 (List.replicate 23 .one)) [.code (Try.f12.body.getD .skip), .top Try.f12]).strip = tree_e0 := by kernel_rfl
set_option maxRecDepth 100000 in
set_option maxHeartbeats 4000000 in
theorem e0_any (ss : List Sg) (A : Option Addr) (n c : Nat) (d : Ed) (w : World) (hr : Rd w 14 A n (sgsL ss)) (hn : n ≤ 9223372036854775807) (hc : n ≤ c) (hd : ¬ (1 ≤ d.kind ∧ d.kind ≤ 7)) : Calls Try.prog 12 #[.slice A n c, valE d] w fun e w' => Below w.heap.size w w' ∧ ∃ hdr, e = .returned (.tuple #[hdr, .int .i64 (applyE d ss).2]) ∧ SX.SlRet w w' [] hdr 14 (sgsL (applyE d ss).1) := by
  refine SX.calls_of_run (C := cxE2 (fun s sz cells => s = .slice A n c ∧ sz = 14 ∧ cells = sgsL ss) (fun _ _ _ => False)) (G := ⟨fun f => f != 29, [], 2, 100⟩) (args := args_e0) (sh := (List.replicate 23 .one)) (ρ := ([.slice A n c] ++ cellsE d)) 100000 tree_e0 (okE2 _ _) Try.func12 rfl (run_e0 _ _) (by kernel_rfl) (by kernel_rfl) (by kernel_rfl) ?_ ?_
  · rintro W hW s sz cells ⟨rfl, rfl, rfl⟩; exact ⟨hr.same0 hW, hc⟩
  have hln : ss.length = n := by have := hr.1; rw [sgsL_len] at this; omega
  have k1 : (fun s sz cells => s = .slice A n c ∧ sz = 14 ∧ cells = sgsL ss) (Value.slice A n c) 14 (sgsL ss) := ⟨rfl, rfl, rfl⟩
  unfold tree_e0
  refine SX.E (.int .i64 ((chkS ss))) (fun α => ⟨[⟨.slice A n c, 14, sgsL ss⟩], ⟨by kernel_rfl, rfl, cast (by kernel_rfl) k1, trivial⟩, .inl ⟨rfl, .slice A n c, ss, rfl, by omega, rfl⟩, SX.noAli rfl⟩) ?_
  refine SX.D (.bool (((chkS ss) : Int) != 0)) ?_
  refine SX.B (((chkS ss) : Int) != 0) (fun h24 => ?_) (fun h24 => ?_)
  · try simp only [NRM] at h24
    have hfact : applyE d ss = ([], chkS ss) := applyE_chk h24
    exact SX.VC_ret fun α W _ hR hS => ⟨hS.below, (.slice none 0 0), Eq.trans (b := Ending.returned (.tuple #[(.slice none 0 0), .int .i64 ((chkS ss))])) (by kernel_rfl) (by rw [hfact]), (by rw [hfact]; exact SX.SlRet.nil)⟩
  try simp only [NRM] at h24
  refine SX.D (.bool (decide (d.kind ≥ 1))) ?_
  refine SX.B (decide (d.kind ≥ 1)) (fun h25 => ?_) (fun h25 => ?_)
  · try simp only [NRM] at h25
    refine SX.D (.bool (decide (d.kind ≤ 7))) ?_
    refine SX.D (.bool (!(decide (d.kind ≤ 7)))) ?_
    refine SX.B (!(decide (d.kind ≤ 7))) (fun h27 => ?_) (fun h27 => absurd (And.intro (by omega : (1 : Int) ≤ d.kind) (by simpa using h27 : d.kind ≤ 7)) hd)
    try simp only [NRM] at h27
    have hfact : applyE d ss = ([], 360) := applyE_no h24 (fun hk => hd ⟨hk.1, hk.2.1⟩)
    exact SX.VC_ret fun α W _ hR hS => ⟨hS.below, (.slice none 0 0), Eq.trans (b := Ending.returned (.tuple #[(.slice none 0 0), .int .i64 360])) (by kernel_rfl) (by rw [hfact]), (by rw [hfact]; exact SX.SlRet.nil)⟩
  try simp only [NRM] at h25
  have hfact : applyE d ss = ([], 360) := applyE_no h24 (fun hk => hd ⟨hk.1, hk.2.1⟩)
  exact SX.VC_ret fun α W _ hR hS => ⟨hS.below, (.slice none 0 0), Eq.trans (b := Ending.returned (.tuple #[(.slice none 0 0), .int .i64 360])) (by kernel_rfl) (by rw [hfact]), (by rw [hfact]; exact SX.SlRet.nil)⟩
theorem apply_any (ss : List Sg) (A : Option Addr) (n c : Nat) (d : Ed) (w : World) (hr : Rd w 14 A n (sgsL ss)) (hn : n ≤ 9223372036854775807) (hc : n ≤ c) (hd : d.kind ≠ 5) : Calls Try.prog 12 #[.slice A n c, valE d] w fun e w' => Below w.heap.size w w' ∧ ∃ hdr, e = .returned (.tuple #[hdr, .int .i64 (applyE d ss).2]) ∧ SX.SlRet w w' [] hdr 14 (sgsL (applyE d ss).1) := by
  by_cases h : 1 ≤ d.kind ∧ d.kind ≤ 7
  · obtain ⟨k, a1, a2, a3, a4, a5, a6, a7, a8⟩ := d
    simp only at h hd
    have hk : k = 1 ∨ k = 2 ∨ k = 3 ∨ k = 4 ∨ k = 6 ∨ k = 7 := by omega
    rcases hk with rfl | rfl | rfl | rfl | rfl | rfl
    · exact e1_any ss A n c a1 a2 a3 a4 a5 a6 a7 a8 w hr hn hc
    · exact e2_any ss A n c a1 a2 a3 a4 a5 a6 a7 a8 w hr hn hc
    · exact e3_any ss A n c a1 a2 a3 a4 a5 a6 a7 a8 w hr hn hc
    · exact e4_any ss A n c a1 a2 a3 a4 a5 a6 a7 a8 w hr hn hc
    · exact e6_any ss A n c a1 a2 a3 a4 a5 a6 a7 a8 w hr hn hc
    exact e7_any ss A n c a1 a2 a3 a4 a5 a6 a7 a8 w hr hn hc
  exact e0_any ss A n c d w hr hn hc h
section
variable {P : Program}
theorem wp_cpI (w : World) {o : Oper} {a : Act} {K : Act → World → Prop} {Q : Exit → Act → World → Prop} (d s : Operand) (t t' : TypeId)
    (ho : o.op = .call { callee := .builtin .copy, args := #[d, s], argTypes := #[t, t'] }) (v u : Value) (hd : a.eval d = v) (hs : a.eval s = u) {v' : Value} {w' : World}
    (hr : (Builtin.copy_ #[t, t'] o.type #[v, u]).run P w = .ok v' w') (h : K (a.put o.dst v') w') : o.wp P a w K Q := by
  unfold Oper.wp execOp
  simp only [ho, resolve, invoke, builtin, Sem.run_bind, Sem.run_pure, Result.andThen_ok, List.map_toArray, List.map_cons, List.map_nil, hd, hs, hr]
  exact h
theorem wpList_cpI (w : World) {ops : Array Oper} {rest : List Oper} {o : Oper} {a : Act} {Q : Exit → Act → World → Prop} (hgd : o.guard = none) (d s : Operand) (t t' : TypeId)
    (ho : o.op = .call { callee := .builtin .copy, args := #[d, s], argTypes := #[t, t'] }) (v u : Value) (hd : a.eval d = v) (hs : a.eval s = u) {v' : Value} {w' : World}
    (hr : (Builtin.copy_ #[t, t'] o.type #[v, u]).run P w = .ok v' w') (h : wpList P ops Q rest (a.put o.dst v') w') : wpList P ops Q (o :: rest) a w :=
  wpList_plain hgd fun _ hK => wp_cpI w d s t t' ho v u hd hs hr (hK _ _ h)
theorem step_cpI {ops : Array Oper} {o : Oper} {a : Act} {w : World} {K : Act → World → Prop} {Q : Exit → Act → World → Prop} {E : Prop}
    (hg : o.guard = none) (d x : Operand) (dT sT : TypeId) (hop : o.op = Op.call { callee := Callee.builtin Builtin.copy, args := #[d, x], argTypes := #[dT, sT] })
    (v u : Value) (hd : a.eval d = v) (hx : a.eval x = u) {v' : Value} {w' : World} (hr : (Builtin.copy_ #[dT, sT] o.type #[v, u]).run P w = .ok v' w') (hK : K (a.put o.dst v') w') :
    if Region.wanted o (yielded ops a.tmps) = true then Oper.wp P o a w K Q else E := by
  have hw : Region.wanted o (yielded ops a.tmps) = true := by simp [Region.wanted, hg]
  rw [if_pos hw]
  unfold Oper.wp
  simp [execOp, hop, resolve, invoke, builtin, hd, hx, hr, Result.andThen]
  exact hK
theorem run_copy_at (w : World) (dT sT ty elem : TypeId) (size b o dLen dCap : Nat) (t : TypeId) (cur : Array Value) (a : Addr) (sLen sCap k : Nat) (cs : List Value)
    (hu : P.underlying dT = some (.slice elem)) (hs : szOf P elem = some size) (hn : Nat.min sLen dLen = k) (hl : cs.length = k * size)
    (hsrc : ∀ j v, cs[j]? = some v → w.cell? (a.add j) = some v) (hb : w.heap[b]? = some (.cells cur t (0, 0))) (hf : o + cs.length ≤ cur.size) (h1 : ∀ v ∈ cs, v.oneCell' = true) :
    (Builtin.copy_ #[dT, sT] ty #[.slice (some ⟨b, o, none⟩) dLen dCap, .slice (some a) sLen sCap]).run P w = .ok (goInt k) (w.setRow b (splice cur o cs.toArray)) := by
  have hl' := run_loadCells_list (P := P) w a cs hsrc
  have hst := run_storeCells_at (P := P) b o t cs 0 cur w hb (by omega) h1
  simp only [Nat.add_zero] at hst
  cases hq : P.info? elem with
  | none => simp [szOf, hq] at hs
  | some i =>
    have hi : i.size = size := by simpa [szOf, hq] using hs
    simp [Builtin.copy_, run_underlying hu, Builtin.lenOf, Builtin.firstCells, sizeOf, typeInfo, hq, hi, hn, ← hl, hl', hst, splice]
end
theorem size_splice {c cs : Array Value} {o : Nat} (h : o + cs.size ≤ c.size) : (splice c o cs).size = c.size := by
  simp [splice]; omega
set_option maxHeartbeats 4000000 in
set_option maxRecDepth 100000 in
theorem ins_shift (b n c i vb voff m mc : Nat) (old tl xs : List Value) (vcs : Array Value) (vt : TypeId) (w : World) (hi : i < n) (hm : 0 < m) (hroom : n + m ≤ c) (hc63 : c ≤ maxLen) (hvb : vb ≠ b)
    (hol : old.length = n * 14) (hcl : (old ++ tl).length = c * 14) (hxl : xs.length = m * 14)
    (hb : w.heap[b]? = some (.cells (old ++ tl).toArray 26 (0, 0))) (hv : ∀ j u, xs[j]? = some u → w.cell? ⟨vb, voff + j, none⟩ = some u)
    (hvo : w.heap[vb]? = some (.cells vcs vt (0, 0))) (h1c : ∀ u ∈ old, u.oneCell' = true) (h1v : ∀ u ∈ xs, u.oneCell' = true) :
    Calls Try.prog 33 #[.slice (some ⟨b, 0, none⟩) n c, .int .i64 i, .slice (some ⟨vb, voff, none⟩) m mc] w fun e w' =>
      e = .returned (.slice (some ⟨b, 0, none⟩) (n + m) c) ∧ w' = (w.drew.setRow b (splice (old ++ tl).toArray ((i + m) * 14) (old.drop (i * 14)).toArray)).setRow b (splice (splice (old ++ tl).toArray ((i + m) * 14) (old.drop (i * 14)).toArray) (i * 14) xs.toArray) := by
  unfold maxLen at hc63
  have mixed : Try.prog.follows Departure.mixedOrders = true := by kernel_rfl
  have hz1 : ¬ ((m : Int) = 0) := by omega
  have hz2 : ¬ ((i : Int) = (n : Int)) := by omega
  have hdl : (old.drop (i * 14)).length = (n - i) * 14 := by rw [List.length_drop, hol]; omega
  have hsz : szOf Try.prog 26 = some 14 := by kernel_rfl
  have hu : Try.prog.underlying 22 = some (.slice 26) := by kernel_rfl
  have hszr : ∀ w, (sizeOf 26).run Try.prog w = .ok 14 w := fun w => by
    have : ∃ i, Try.prog.info? 26 = some i ∧ i.size = 14 := by
      cases hq : Try.prog.info? 26 with
      | none => simp [szOf, hq] at hsz
      | some i => exact ⟨i, rfl, by simpa [szOf, hq] using hsz⟩
    obtain ⟨i, h1, h2⟩ := this
    simp [sizeOf, typeInfo, h1, h2]
  have hov : ∀ lb cb, (callFunc 83 #[.slice (some ⟨vb, voff, none⟩) m mc, .slice (some ⟨b, (i + m) * 14, none⟩) lb cb]).run Try.prog w = .ok (.value (.bool false)) w := fun lb cb => by
    rw [run_callFunc_extern (f := 83) Try.func83 (by kernel_rfl) (by kernel_rfl) (by kernel_rfl) (e := Extern.SlicesOverlaps.overlaps #[22, 22] #[4]) (by kernel_rfl),
      Lib.run_overlaps_apart w 22 4 26 hu 14 hszr ⟨vb, voff, none⟩ ⟨b, (i + m) * 14, none⟩ m mc lb cb hvb vt 26 vcs.size (old ++ tl).toArray.size (by simp [World.shape?, hvo]) (by simp [World.shape?, hb]) (by simp only [List.size_toArray, hcl]; omega) (frozen_of_row w vb voff vcs vt hvo) (frozen_of_row w vb vcs.size vcs vt hvo)]
    rfl
  have hw1 : IntKind.i64.wrap ((i : Int) + (m : Int)) = (i : Int) + (m : Int) := by rw [IntKind.wrap_i64]; omega
  have hb1 : (0 : Int) ≤ (i : Int) + (m : Int) := by omega
  have hin : i ≤ n := by omega
  have htn : ((i : Int) + (m : Int)).toNat = i + m := by omega
  have hb2 : ¬ (c = i + m) := by omega
  have hb3 : (i : Int) ≤ (n : Int) + (m : Int) := by omega
  have hb4 : ¬ (c = i) := by omega
  obtain ⟨R1, hR1⟩ : ∃ R1, R1 = splice (old ++ tl).toArray ((i + m) * 14) (old.drop (i * 14)).toArray := ⟨_, rfl⟩
  have hcs : ((i + m) * 14 + (old.drop (i * 14)).toArray.size) ≤ (old ++ tl).toArray.size := by simp only [List.size_toArray, hdl, hcl]; omega
  have hR1s : R1.size = c * 14 := by rw [hR1, size_splice hcs]; simpa using hcl
  have hcp1 : ∀ ty dc sc, (Builtin.copy_ #[22, 22] ty #[.slice (some ⟨b, (i + m) * 14, none⟩) (n + m - (i + m)) dc, .slice (some ⟨b, i * 14, none⟩) (n + m - i) sc]).run Try.prog w.drew = .ok (goInt (n - i : Nat)) (w.drew.setRow b R1) := fun ty dc sc => by
    rw [hR1]
    refine run_copy_at w.drew _ _ ty _ 14 b _ _ dc 26 _ _ _ sc (n - i) (old.drop (i * 14)) hu hsz (by simp only [Nat.min_def]; split <;> omega) hdl (fun j v hj => ?_) hb (by simpa using hcs) (fun v hv => h1c v (List.mem_of_mem_drop hv))
    rw [Addr.add_lit]
    rw [List.getElem?_drop] at hj
    refine (cell_of_row w b _ _ _ (0, 0) hb).trans ?_
    have hlt := (List.getElem?_eq_some_iff.1 hj).1
    simp only [List.getElem?_toArray]
    rw [List.getElem?_append_left hlt]; exact hj
  have hcp2 : ∀ (W : World), (∀ x, W.cell? x = (w.drew.setRow b R1).cell? x) → (W.heap[b]? = (w.drew.setRow b R1).heap[b]?) → ∀ ty dc, (Builtin.copy_ #[22, 22] ty #[.slice (some ⟨b, i * 14, none⟩) (n + m - i) dc, .slice (some ⟨vb, voff, none⟩) m mc]).run Try.prog W = .ok (goInt m) (W.setRow b (splice R1 (i * 14) xs.toArray)) := fun W hWc hWh ty dc => by
    refine run_copy_at W _ _ ty _ 14 b _ _ dc 26 _ _ _ mc m xs hu hsz (by simp only [Nat.min_def]; split <;> omega) hxl (fun j v hj => ?_) (hWh.trans (setRow_heap w.drew b _ R1 _ _ hb)) (by rw [hR1s, hxl]; omega) h1v
    rw [Addr.add_lit, hWc, cell_setRow_other _ _ _ _ hvb]
    exact hv j v hj
  rw [← hR1]
  clear hR1 hR1s hcs hdl hol hcl hxl h1c h1v hszr
  go_enter Try.func33, Try.ntmps33
  go_wp2_with (simp only [hov])
  go_region_law_o (refine step_cpI rfl _ _ 22 22 rfl _ _ (by simp [Act.eval, Act.put]) (by simp [Act.eval, Act.put]) (hcp1 _ _ _) ?_)
  go_wp2_with (at_builtin; refine wpList_cpI _ rfl _ _ 22 22 rfl _ _ rfl rfl (hcp2 _ (fun _ => rfl) rfl _ _) ?_)
  go_ret
  exact ⟨rfl, rfl⟩
set_option maxHeartbeats 4000000 in
set_option maxRecDepth 100000 in
theorem ins_end_room (b n c vb voff m mc : Nat) (old tl xs : List Value) (w : World) (hm : 0 < m) (hroom : n + m ≤ c) (hc63 : c ≤ maxLen)
    (hol : old.length = n * 14) (hcl : (old ++ tl).length = c * 14) (hxl : xs.length = m * 14)
    (hb : w.heap[b]? = some (.cells (old ++ tl).toArray 26 (0, 0))) (hv : ∀ j u, xs[j]? = some u → w.cell? ⟨vb, voff + j, none⟩ = some u) (h1v : ∀ u ∈ xs, u.oneCell' = true) :
    Calls Try.prog 33 #[.slice (some ⟨b, 0, none⟩) n c, .int .i64 n, .slice (some ⟨vb, voff, none⟩) m mc] w fun e w' =>
      e = .returned (.slice (some ⟨b, 0, none⟩) (n + m) c) ∧ w' = w.setRow b (splice (old ++ tl).toArray (n * 14) xs.toArray) := by
  unfold maxLen at hc63
  have mixed : Try.prog.follows Departure.mixedOrders = true := by kernel_rfl
  have hz1 : ¬ ((m : Int) = 0) := by omega
  have hsz : szOf Try.prog 26 = some 14 := by kernel_rfl
  have hu : Try.prog.underlying 22 = some (.slice 26) := by kernel_rfl
  have hsrc : Src Try.prog 14 22 (.slice (some ⟨vb, voff, none⟩) m mc) m xs w := Src.ofSlice w hu ⟨vb, voff, none⟩ m mc xs hxl (fun j u hj => by rw [Addr.add_lit]; exact hv j u hj) h1v
  have hrun : ∀ ty, (Builtin.append_ #[22, 22] ty #[.slice (some ⟨b, 0, none⟩) n c, .slice (some ⟨vb, voff, none⟩) m mc]).run Try.prog w = .ok (.slice (some ⟨b, 0, none⟩) (n + m) c) (w.setRow b (splice (old ++ tl).toArray (n * 14) xs.toArray)) := fun ty => by
    have hst := run_storeCells_at (P := Try.prog) b (n * 14) 26 xs 0 (old ++ tl).toArray w hb (by simp only [List.size_toArray, hcl, hxl]; omega) h1v
    simp only [Nat.add_zero] at hst
    cases hie : Try.prog.info? 26 with
    | none => simp [szOf, hie] at hsz
    | some i =>
      have hs' : i.size = 14 := by simpa [szOf, hie] using hsz
      simp [Builtin.append_, run_underlying hu, sizeOf, typeInfo, hie, hs', hsrc.len, hroom, hsrc.cells, Addr.add_lit, hst, splice]
  clear hol hcl hxl hsrc hsz h1v hv
  go_enter Try.func33, Try.ntmps33
  go_wp2_with (at_builtin; refine Lib.wpList_append_run _ rfl _ _ _ _ rfl _ _ rfl rfl _ _ (hrun _) ?_)
  go_ret
  exact ⟨rfl, rfl⟩
def InsNew (k : Nat) (cells : List Value) (w : World) (e : Ending) (w' : World) : Prop :=
  ∃ cap Z, k ≤ cap ∧ cap ≤ maxLen ∧ Z.length = (cap - k) * 14 ∧ e = .returned (.slice (some ⟨w.heap.size, 0, none⟩) k cap) ∧ w'.os = w.os ∧ w'.tape = w.tape ∧ w'.output = w.output ∧ Same [] w w' ∧ w'.heap[w.heap.size]? = some (.cells (cells ++ Z).toArray 26 (0, 0))
theorem insNew_alloc {k cap : Nat} {cells Z : List Value} {w : World} (h1 : k ≤ cap) (h2 : cap ≤ maxLen) (h3 : Z.length = (cap - k) * 14) : InsNew k cells w (.returned (.slice (some ⟨w.heap.size, 0, none⟩) k cap)) (w.drew.alloc (.cells (cells ++ Z).toArray 26)) :=
  have hb : Below w.heap.size w (w.drew.alloc (.cells (cells ++ Z).toArray 26)) := (Below.refl _ _).drew.alloc (Nat.le_refl _) _
  ⟨cap, Z, h1, h2, h3, rfl, hb.os, hb.tape, hb.output, .below hb, heap_alloc_last w.drew _⟩
set_option maxHeartbeats 4000000 in
set_option maxRecDepth 100000 in
theorem ins_end_grow (base : Option Nat) (n c vb voff m mc : Nat) (old xs : List Value) (w : World) (hm : 0 < m) (hnc : n ≤ c) (hroom : c < n + m) (hbig : (n + m) * 1000 ≤ 140737488355328)
    (hol : old.length = n * 14) (hxl : xs.length = m * 14) (hnil : base = none → n = 0)
    (hcs : ∀ b, base = some b → ∀ j u, old[j]? = some u → w.cell? ⟨b, j, none⟩ = some u)
    (hv : ∀ j u, xs[j]? = some u → w.cell? ⟨vb, voff + j, none⟩ = some u) (h1v : ∀ u ∈ xs, u.oneCell' = true) :
    Calls Try.prog 33 #[.slice (base.map fun b => ⟨b, 0, none⟩) n c, .int .i64 n, .slice (some ⟨vb, voff, none⟩) m mc] w fun e w' =>
      InsNew (n + m) (old ++ xs) w e w' := by
  have mixed : Try.prog.follows Departure.mixedOrders = true := by kernel_rfl
  have hz1 : ¬ ((m : Int) = 0) := by omega
  have hsz : szOf Try.prog 26 = some 14 := by kernel_rfl
  have hby : ∃ by', bytesOf Try.prog 26 = some by' ∧ by' ≤ 1000 := ⟨_, rfl, by decide⟩
  have hzz : ∃ z, zeroOf Try.prog 26 = some z ∧ z.cells.size = 14 := ⟨_, rfl, by kernel_rfl⟩
  have hu : Try.prog.underlying 22 = some (.slice 26) := by kernel_rfl
  have hsrc : Src Try.prog 14 22 (.slice (some ⟨vb, voff, none⟩) m mc) m xs w := Src.ofSlice w hu ⟨vb, voff, none⟩ m mc xs hxl (fun j u hj => by rw [Addr.add_lit]; exact hv j u hj) h1v
  have hold : (Builtin.firstCells 14 n (.slice (base.map fun b => (⟨b, 0, none⟩ : Addr)) n c)).run Try.prog w.drew = .ok old.toArray w.drew := by
    cases base with
    | none =>
      have h0 := hnil rfl
      subst h0
      have h0' : old = [] := List.length_eq_zero_iff.1 (by simpa using hol)
      rw [h0']
      exact run_firstCells_none w.drew 14 0 0 c
    | some b => exact run_firstCells_some w.drew 14 n ⟨b, 0, none⟩ n c old hol (fun j v hj => by rw [Addr.add_lit, Nat.zero_add]; exact hcs b rfl j v hj)
  obtain ⟨by', hby1, hby2⟩ := hby
  obtain ⟨z, hz1', hz2'⟩ := hzz
  have hrun : ∃ cap Z, n + m ≤ cap ∧ cap ≤ maxLen ∧ Z.length = (cap - (n + m)) * 14 ∧ ∀ ty, (Builtin.append_ #[22, 22] ty #[.slice (base.map fun b => ⟨b, 0, none⟩) n c, .slice (some ⟨vb, voff, none⟩) m mc]).run Try.prog w = .ok (.slice (some ⟨w.heap.size, 0, none⟩) (n + m) cap) (w.drew.alloc (.cells (old ++ xs ++ Z).toArray 26)) := by
    cases hie : Try.prog.info? 26 with
    | none => simp [szOf, hie] at hsz
    | some i =>
      have hs' : i.size = 14 := by simpa [szOf, hie] using hsz
      have hz' : i.zero = some z := by simpa [zeroOf, hie] using hz1'
      have hb' : i.bytes = by' := by simpa [bytesOf, hie] using hby1
      have hfit : (n + m) * i.bytes ≤ 140737488355328 := Nat.le_trans (Nat.mul_le_mul_left _ (by omega)) hbig
      refine ⟨grownCap w (n + m) c 26, (Builtin.zeroCells z.cells (grownCap w (n + m) c 26 - (n + m))).toList, grownCap_ge .., grownCap_le_maxLen w _ _ _ (by unfold maxLen; omega), by simp [Builtin.zeroCells, hz2'], fun ty => ?_⟩
      have h := run_append_grow_src (P := Try.prog) w 22 22 ty 26 i z hu hie hz' (base.map fun b => ⟨b, 0, none⟩) n c old (by rw [hs']; exact hold) _ m xs (by rw [hs']; exact hsrc) hroom (by omega) (growslice_fits hroom hfit)
      rw [h]
      congr 3
      apply Array.ext'; simp
  obtain ⟨cap, Z, h1, h2, h3, hrun⟩ := hrun
  have HN0 : InsNew (n + m) (old ++ xs) w (.returned (.slice (some ⟨w.heap.size, 0, none⟩) (n + m) cap)) (w.drew.alloc (.cells (old ++ xs ++ Z).toArray 26)) := insNew_alloc h1 h2 h3
  obtain ⟨ROW, hROW⟩ : ∃ ROW : Array Value, ROW = (old ++ xs ++ Z).toArray := ⟨_, rfl⟩
  rw [← hROW] at hrun HN0
  clear hsrc hsz h1v hv hold hcs
  cases base with
  | none =>
    have h0 := hnil rfl
    subst h0
    simp only [Option.map_none] at hrun ⊢
    have HN := Lib.hid HN0
    clear HN0 hROW
    go_enter Try.func33, Try.ntmps33
    go_wp2_with (at_builtin; refine Lib.wpList_append_run _ rfl _ _ _ _ rfl _ _ rfl rfl _ _ (hrun _) ?_)
    all_goals
      go_ret
      first | exact HN.out | (rw [Nat.zero_add] at HN; exact HN.out)
  | some b =>
    simp only [Option.map_some] at hrun ⊢
    have HN := Lib.hid HN0
    clear HN0 hROW
    go_enter Try.func33, Try.ntmps33
    go_wp2_with (at_builtin; refine Lib.wpList_append_run _ rfl _ _ _ _ rfl _ _ rfl rfl _ _ (hrun _) ?_)
    all_goals
      go_ret
      first | exact HN.out | (rw [Nat.zero_add] at HN; exact HN.out)
theorem splice_ins {A Z0 xs B : List Value} {p q r : Nat} (h1 : A.length = p) (h2 : xs.length = q) (h3 : B.length = r) (h4 : q + r ≤ Z0.length) :
    splice (splice (A ++ Z0).toArray p xs.toArray) (p + q) B.toArray = (A ++ xs ++ B ++ Z0.drop (q + r)).toArray := by
  have e1 : splice (A ++ Z0).toArray p xs.toArray = (A ++ xs ++ Z0.drop q).toArray := by
    rw [splice_list h1.symm _ (by simp; omega)]
    simp [h2]
  rw [e1, splice_list (by simp [h1, h2]) _ (by simp; omega)]
  simp [h3, List.drop_drop]
set_option maxHeartbeats 4000000 in
set_option maxRecDepth 100000 in
theorem ins_grow (b n c i vb voff m mc : Nat) (old xs : List Value) (w : World) (hi : i < n) (hm : 0 < m) (hnc : n ≤ c) (hroom : c < n + m) (hbig : (n + m) * 1000 ≤ 140737488355328)
    (hol : old.length = n * 14) (hxl : xs.length = m * 14)
    (hcs : ∀ j u, old[j]? = some u → w.cell? ⟨b, j, none⟩ = some u) (h1c : ∀ u ∈ old, u.oneCell' = true)
    (hv : ∀ j u, xs[j]? = some u → w.cell? ⟨vb, voff + j, none⟩ = some u) (h1v : ∀ u ∈ xs, u.oneCell' = true) :
    Calls Try.prog 33 #[.slice (some ⟨b, 0, none⟩) n c, .int .i64 i, .slice (some ⟨vb, voff, none⟩) m mc] w fun e w' =>
      InsNew (n + m) (old.take (i * 14) ++ xs ++ old.drop (i * 14)) w e w' := by
  have mixed : Try.prog.follows Departure.mixedOrders = true := by kernel_rfl
  have hz1 : ¬ ((m : Int) = 0) := by omega
  have hz2 : ¬ ((i : Int) = (n : Int)) := by omega
  have hz3 : (c : Int) < (n : Int) + (m : Int) := by omega
  have hsz : szOf Try.prog 26 = some 14 := by kernel_rfl
  have hby : ∃ by', bytesOf Try.prog 26 = some by' ∧ by' ≤ 1000 := ⟨_, rfl, by decide⟩
  have hzz : ∃ z, zeroOf Try.prog 26 = some z ∧ z.cells.size = 14 := ⟨_, rfl, by kernel_rfl⟩
  have hu : Try.prog.underlying 22 = some (.slice 26) := by kernel_rfl
  have hui : Try.prog.underlying 3 = some (.int .i64) := by kernel_rfl
  have hbw : b < w.heap.size := block_lt_of_cell (hcs 0 _ (List.getElem?_eq_getElem (by omega)))
  have hvw : vb < w.heap.size := block_lt_of_cell (hv 0 _ (List.getElem?_eq_getElem (by omega)))
  have hkk : (n : Int) + (m : Int) - (i : Int) = ((n + m - i : Nat) : Int) := by omega
  have hik : i + (n + m - i) = n + m := by omega
  have hdl : (old.drop (i * 14)).length = (n - i) * 14 := by rw [List.length_drop, hol]; omega
  have htl : (old.take (i * 14)).length = i * 14 := by rw [List.length_take, hol]; omega
  have hold : (Builtin.firstCells 14 i (.slice (some ⟨b, 0, none⟩) i c)).run Try.prog w.drew = .ok (old.take (i * 14)).toArray w.drew :=
    run_firstCells_some w.drew 14 i ⟨b, 0, none⟩ i c (old.take (i * 14)) htl (fun j v hj => by
      rw [Addr.add_lit, Nat.zero_add]
      rw [List.getElem?_take] at hj
      split at hj
      · exact hcs j v hj
      cases hj)
  obtain ⟨by', hby1, hby2⟩ := hby
  obtain ⟨z, hz1', hz2'⟩ := hzz
  have hrz : ∃ G Z0, n + m ≤ G ∧ G ≤ maxLen ∧ Z0.length = (G - i) * 14 ∧ ∀ ty, (Builtin.append_ #[22, 3] ty #[.slice (some ⟨b, 0, none⟩) i c, .int .i64 ((n : Int) + (m : Int) - (i : Int))]).run Try.prog w =
      .ok (.slice (some ⟨w.heap.size, 0, none⟩) (n + m) G) (w.drew.alloc (.cells (old.take (i * 14) ++ Z0).toArray 26)) := by
    cases hie : Try.prog.info? 26 with
    | none => simp [szOf, hie] at hsz
    | some q =>
      have hs' : q.size = 14 := by simpa [szOf, hie] using hsz
      have hz' : q.zero = some z := by simpa [zeroOf, hie] using hz1'
      have hb' : q.bytes = by' := by simpa [bytesOf, hie] using hby1
      have hfit : (n + m) * q.bytes ≤ 140737488355328 := Nat.le_trans (Nat.mul_le_mul_left _ (by omega)) hbig
      have hfit2 : (n + m - i) * q.bytes ≤ 281474976710656 := Nat.le_trans (Nat.mul_le_mul_right _ (by omega)) (Nat.le_trans hfit (by omega))
      have hge := grownCap_ge w (n + m) c 26
      refine ⟨grownCap w (n + m) c 26, (Builtin.zeroCells z.cells (n + m - i) ++ Builtin.zeroCells z.cells (grownCap w (n + m) c 26 - (n + m))).toList, hge, grownCap_le_maxLen w _ _ _ (by unfold maxLen; omega), by simp [Builtin.zeroCells, hz2']; omega, fun ty => ?_⟩
      have h := Lib.run_append_grow_zeros (P := Try.prog) w 22 3 ty 26 q z .i64 .i64 hu hui hie hz' (some ⟨b, 0, none⟩) i c (old.take (i * 14)) (by rw [hs']; exact hold) (n + m - i) (by omega) (by omega) (by omega) (by omega) hfit2 (by rw [hik]; exact growslice_fits hroom hfit)
      rw [hik] at h
      rw [hkk, h]
      congr 3
      apply Array.ext'; simp
  obtain ⟨G, Z0, hG1, hG2, hZ0, hrz⟩ := hrz
  obtain ⟨ROW, hROW⟩ : ∃ ROW : Array Value, ROW = (old.take (i * 14) ++ Z0).toArray := ⟨_, rfl⟩
  have hRs : ROW.size = G * 14 := by rw [hROW]; simp only [List.size_toArray, List.length_append, htl, hZ0]; omega
  have hsp : splice (splice ROW (i * 14) xs.toArray) ((i + m) * 14) (old.drop (i * 14)).toArray = (old.take (i * 14) ++ xs ++ old.drop (i * 14) ++ Z0.drop (m * 14 + (n - i) * 14)).toArray := by
    rw [hROW, Nat.add_mul]
    exact splice_ins htl hxl hdl (by rw [hZ0]; omega)
  rw [← hROW] at hrz
  have hWh : ∀ (W : World), W.heap = (w.drew.alloc (.cells ROW 26)).heap → W.heap[w.heap.size]? = some (.cells ROW 26 (0, 0)) := fun W h => by rw [h]; exact heap_alloc_last w.drew _
  have hR1s : (splice ROW (i * 14) xs.toArray).size = G * 14 := by rw [size_splice (by rw [hRs, List.size_toArray, hxl]; omega), hRs]
  have hcA : ∀ (W : World), W.heap = (w.drew.alloc (.cells ROW 26)).heap → ∀ ty dc, (Builtin.copy_ #[22, 22] ty #[.slice (some ⟨w.heap.size, i * 14, none⟩) (n + m - i) dc, .slice (some ⟨vb, voff, none⟩) m mc]).run Try.prog W = .ok (goInt m) (W.setRow w.heap.size (splice ROW (i * 14) xs.toArray)) := fun W hW ty dc => by
    refine run_copy_at W _ _ ty _ 14 w.heap.size _ _ dc 26 _ _ _ mc m xs hu hsz (by simp only [Nat.min_def]; split <;> omega) hxl (fun j v hj => ?_) (hWh W hW) (by rw [hRs, hxl]; omega) h1v
    rw [Addr.add_lit]
    have := hv j v hj
    rw [← this]
    refine World.cell?_of_block ?_
    rw [hW]
    exact heap_alloc_old w.drew _ hvw
  have hcB : ∀ (W : World), W.heap = ((w.drew.alloc (.cells ROW 26)).setRow w.heap.size (splice ROW (i * 14) xs.toArray)).heap → ∀ ty dc sc, (Builtin.copy_ #[22, 22] ty #[.slice (some ⟨w.heap.size, (i + m) * 14, none⟩) (n + m - (i + m)) dc, .slice (some ⟨b, i * 14, none⟩) (n - i) sc]).run Try.prog W = .ok (goInt (n - i : Nat)) (W.setRow w.heap.size (splice (splice ROW (i * 14) xs.toArray) ((i + m) * 14) (old.drop (i * 14)).toArray)) := fun W hW ty dc sc => by
    refine run_copy_at W _ _ ty _ 14 w.heap.size _ _ dc 26 _ _ _ sc (n - i) (old.drop (i * 14)) hu hsz (by simp only [Nat.min_def]; split <;> omega) hdl (fun j v hj => ?_) (by rw [hW]; exact setRow_heap _ _ _ _ _ _ (heap_alloc_last w.drew _)) (by rw [hR1s, hdl]; omega) (fun v hv => h1c v (List.mem_of_mem_drop hv))
    rw [Addr.add_lit]
    rw [List.getElem?_drop] at hj
    rw [← hcs _ v hj]
    refine World.cell?_of_block ?_
    rw [hW, setRow_other _ _ _ _ (by show b ≠ w.heap.size; omega)]
    exact heap_alloc_old w.drew _ hbw
  have hGi : ¬ (G = i) := by omega
  have hGim : ¬ (G = i + m) := by omega
  have hci : ¬ (c = i) := by omega
  have hw1 : IntKind.i64.wrap ((i : Int) + (m : Int)) = (i : Int) + (m : Int) := by rw [IntKind.wrap_i64]; omega
  have hb1 : (0 : Int) ≤ (i : Int) + (m : Int) := by omega
  have hin : i ≤ n := by omega
  have htn : ((i : Int) + (m : Int)).toNat = i + m := by omega
  have hb3 : (i : Int) ≤ (n : Int) := by omega
  have hG63 : G ≤ 9223372036854775807 := by unfold maxLen at hG2; omega
  have HN : ∀ W1 : World, W1.os = w.os → W1.tape = w.tape → W1.output = w.output → W1.heap = (w.drew.alloc (.cells ROW 26)).heap → InsNew (n + m) (old.take (i * 14) ++ xs ++ old.drop (i * 14)) w (.returned (.slice (some ⟨w.heap.size, 0, none⟩) (n + m) G)) ((W1.setRow w.heap.size (splice ROW (i * 14) xs.toArray)).drew.setRow w.heap.size (splice (splice ROW (i * 14) xs.toArray) ((i + m) * 14) (old.drop (i * 14)).toArray)) := fun W1 e1 e2 e3 hW1 => by
    have hs1 : W1.heap.size = w.heap.size + 1 := by rw [hW1]; show (w.heap.push _).size = _; simp
    refine ⟨G, Z0.drop (m * 14 + (n - i) * 14), hG1, hG2, by rw [List.length_drop, hZ0]; omega, rfl, e1, e2, e3, ⟨?_, fun k hk _ => ?_⟩, ?_⟩
    · rw [size_setRow]
      show w.heap.size ≤ (W1.setRow _ _).heap.size
      rw [size_setRow]; omega
    · rw [setRow_other _ _ _ _ (by omega)]
      show (W1.setRow _ _).heap[k]? = _
      rw [setRow_other _ _ _ _ (by omega), hW1]
      exact heap_alloc_old w.drew _ hk
    rw [← hsp]
    refine setRow_heap _ _ (splice ROW (i * 14) xs.toArray) _ 26 (0, 0) ?_
    show (W1.setRow _ _).heap[w.heap.size]? = _
    exact setRow_heap _ _ _ _ _ _ (hWh W1 hW1)
  have HN' := Lib.hid HN
  have hE1 : ((w.alloc (.cells ROW 26)).drew).heap = (w.drew.alloc (.cells ROW 26)).heap := rfl
  have hF1 : (((w.alloc (.cells ROW 26)).drew.setRow w.heap.size (splice ROW (i * 14) xs.toArray)).drew).heap = ((w.drew.alloc (.cells ROW 26)).setRow w.heap.size (splice ROW (i * 14) xs.toArray)).heap := rfl
  clear HN hkk hik hold hROW hRs hsp hdl htl hZ0 hR1s hol hxl hWh h1c h1v hcs hv hsz hz1' hz2'
  go_enter Try.func33, Try.ntmps33
  go_wp2_with (first
    | (at_builtin; refine Lib.wpList_append_run _ rfl _ _ _ _ rfl _ _ rfl rfl _ _ (hrz _) ?_)
    | (at_builtin; refine wpList_cpI _ rfl _ _ 22 22 rfl _ _ rfl rfl (hcA _ hE1 _ _) ?_))
  go_region_law_o (refine step_cpI rfl _ _ 22 22 rfl (.slice (some ⟨w.heap.size, (i + m) * 14, none⟩) (n + m - (i + m)) (G - (i + m))) (.slice (some ⟨b, i * 14, none⟩) (n - i) (c - i)) (by simp [Act.eval, Act.put]) (by simp [Act.eval, Act.put]) (hcB _ hF1 3 (G - (i + m)) (c - i)) ?_)
  go_wp2
  go_ret
  exact HN'.out _ rfl rfl rfl rfl
theorem setRow_same {W : World} {b : Nat} (c : Array Value) : Same [b] W (W.setRow b c) := ⟨by rw [size_setRow]; exact Nat.le_refl _, fun k _ hn => setRow_other _ _ _ _ (by simpa using hn)⟩
theorem drew_same {ids : List Nat} {W : World} : Same ids W W.drew := ⟨Nat.le_refl _, fun _ _ _ => rfl⟩
theorem insNew_to {k : Nat} {cells : List Value} {h : Value} {w : World} {e : Ending} {w' : World} (hl : cells.length = k * 14) (hn : InsNew k cells w e w') : ∃ h' b' tl', e = .returned h' ∧ w'.os = w.os ∧ w'.tape = w.tape ∧ w'.output = w.output ∧ Same (ownB h) w w' ∧ RowAt 14 h' b' 26 cells tl' w' ∧ (b' ∈ ownB h ∨ w.heap.size ≤ b') := by
  obtain ⟨cap, Z, h1, h2, h3, rfl, h4, h5, h6, h7, h8⟩ := hn
  exact ⟨_, w.heap.size, Z, rfl, h4, h5, h6, ⟨h7.size, fun b hb _ => h7.block b hb (by simp)⟩, .inr ⟨k, cap, rfl, hl, by rw [List.length_append, hl, h3, ← Nat.add_mul]; congr 1; omega, h1, h2, h8⟩, .inr (Nat.le_refl _)⟩
theorem insert_rc {C : SX.Cx} (hP : C.P = Try.prog) {cs0 : List SX.V} {i m mc vb voff : Nat} {old xs : List Value} (hi : i * 14 ≤ old.length) (hm : 0 < m) (hbig : (old.length + m) * 1000 ≤ 140737488355328) (h1c : ∀ u ∈ old, u.oneCell' = true) (h1v : ∀ u ∈ xs, u.oneCell' = true) :
    SX.RCall C 33 [.no, .own 14 cs0] [⟨.int .i64 (i : Int), 0, []⟩, ⟨.slice (some ⟨vb, voff, none⟩) m mc, 14, xs⟩] old 14 26 (.agg (old.take (i * 14) ++ xs ++ old.drop (i * 14)).toArray) := by
  intro W h b tl hrow hrd hK hpl
  rw [hP]
  have hx : ∀ W', Same (ownB h) W W' → Rd W' 14 (some ⟨vb, voff, none⟩) m xs := fun W' h' => (hrd ⟨.slice (some ⟨vb, voff, none⟩) m mc, 14, xs⟩ (by simp) W' h').1
  have hxl := (hx W (.refl _ _)).1
  have hcell : ∀ W', Same (ownB h) W W' → ∀ j u, xs[j]? = some u → W'.cell? ⟨vb, voff + j, none⟩ = some u := fun W' h' j u hu => by
    obtain ⟨ad, e, _, hc⟩ := (hx W' h').2 hm
    cases e
    have := hc j u hu
    rwa [Addr.add_lit] at this
  have hv := hcell W (.refl _ _)
  obtain ⟨vcs, vt, hvo⟩ := hpl (.own 14 cs0, ⟨.slice (some ⟨vb, voff, none⟩) m mc, 14, xs⟩) (by simp) rfl _ _ _ rfl
  have hx0 : ∃ u, xs[0]? = some u := ⟨_, List.getElem?_eq_getElem (by omega)⟩
  obtain ⟨u0, hu0⟩ := hx0
  have hcv : SX.cellsV (.agg (old.take (i * 14) ++ xs ++ old.drop (i * 14)).toArray) = old.take (i * 14) ++ xs ++ old.drop (i * 14) := rfl
  show Calls Try.prog _ #[h, .int .i64 (i : Int), .slice (some ⟨vb, voff, none⟩) m mc] W _
  rw [hcv]
  rcases hrow with ⟨rfl, rfl⟩ | ⟨len, cap, rfl, hl1, hl2, hlc, hcm, hat⟩
  · have hi0 : i = 0 := by simp at hi; omega
    subst hi0
    refine (ins_end_grow none 0 0 vb voff m mc [] xs W hm (Nat.le_refl _) (by omega) (by simp at hbig ⊢; omega) rfl hxl (fun _ => rfl) (fun _ h => nomatch h) hv h1v).mono fun e w' hn => ?_
    refine insNew_to (k := 0 + m) (by simp [hxl]) ?_
    simpa using hn
  have hvb : vb ≠ b := fun e => by
    subst e
    have := hcell (W.setRow vb #[]) (setRow_same _) 0 u0 hu0
    rw [cell_of_row _ vb _ #[] _ (0, 0) (setRow_heap W vb _ #[] _ _ hat)] at this
    simp at this
  have hcs : ∀ j u, old[j]? = some u → W.cell? ⟨b, j, none⟩ = some u := fun j u hu => by
    rw [cell_of_row W b j _ _ (0, 0) hat]
    simp only [List.getElem?_toArray]
    rw [List.getElem?_append_left (List.getElem?_eq_some_iff.1 hu).1]; exact hu
  have hin : i ≤ len := by rw [hl1] at hi; omega
  have hb1000 : (len + m) * 1000 ≤ 140737488355328 := Nat.le_trans (Nat.mul_le_mul_right _ (by omega)) hbig
  have htl : (old.take (i * 14)).length = i * 14 := by rw [List.length_take]; omega
  have hdl : (old.drop (i * 14)).length = (len - i) * 14 := by rw [List.length_drop, hl1, Nat.sub_mul]
  have hll : (old.take (i * 14) ++ xs ++ old.drop (i * 14)).length = (len + m) * 14 := by
    simp only [List.length_append, htl, hdl, hxl]; omega
  by_cases hil : i = len
  · subst hil
    have e1 : old.take (i * 14) = old := List.take_of_length_le (by omega)
    have e2 : old.drop (i * 14) = [] := List.drop_eq_nil_of_le (by omega)
    rw [e1, e2, List.append_nil] at hll ⊢
    by_cases hroom : i + m ≤ cap
    · refine (ins_end_room b i cap vb voff m mc old tl xs W hm hroom hcm hl1 hl2 hxl hat hv h1v).mono fun e w' ⟨h1, h2⟩ => ?_
      subst h1; subst h2
      refine ⟨_, b, tl.drop xs.length, rfl, rfl, rfl, rfl, setRow_same _, .inr ⟨i + m, cap, rfl, hll, ?_, hroom, hcm, ?_⟩, .inl (List.mem_cons_self ..)⟩
      · simp only [List.length_append, List.length_drop] at hl2 hll ⊢; omega
      rw [setRow_heap _ _ _ _ _ _ hat]
      have hle : xs.length ≤ tl.length := by rw [List.length_append] at hl2; omega
      rw [splice_list hl1.symm _ (by simpa using hle)]
      simp
    refine (ins_end_grow (some b) i cap vb voff m mc old xs W hm hlc (by omega) hb1000 hl1 hxl (fun h => nomatch h) (fun b' e => by cases e; exact hcs) hv h1v).mono fun e w' hn => ?_
    exact insNew_to (k := i + m) hll hn
  by_cases hroom : len + m ≤ cap
  · refine (ins_shift b len cap i vb voff m mc old tl xs vcs vt W (by omega) hm hroom hcm hvb hl1 hl2 hxl hat hv hvo h1c h1v).mono fun e w' ⟨h1, h2⟩ => ?_
    subst h1; subst h2
    have hs1 : W.drew.heap[b]? = some (.cells (old ++ tl).toArray 26 (0, 0)) := hat
    refine ⟨_, b, (old ++ tl).drop ((len + m) * 14), rfl, rfl, rfl, rfl, (drew_same.trans (setRow_same _)).trans (setRow_same _), .inr ⟨len + m, cap, rfl, hll, ?_, hroom, hcm, ?_⟩, .inl (List.mem_cons_self ..)⟩
    · rw [List.length_append, List.length_drop, hll, hl2]; omega
    rw [setRow_heap _ _ _ _ _ _ (setRow_heap _ _ _ _ _ _ hs1)]
    have hle : (len + m) * 14 ≤ (old ++ tl).length := by rw [hl2]; omega
    have e1 : splice (old ++ tl).toArray ((i + m) * 14) (old.drop (i * 14)).toArray = ((old ++ tl).take ((i + m) * 14) ++ old.drop (i * 14) ++ (old ++ tl).drop ((len + m) * 14)).toArray := by
      unfold splice
      simp only [List.size_toArray, hdl]
      rw [show (i + m) * 14 + (len - i) * 14 = (len + m) * 14 by omega]
    have e2 : (old ++ tl).take ((i + m) * 14) = old.take (i * 14) ++ ((old ++ tl).drop (i * 14)).take (m * 14) := by
      rw [Nat.add_mul, List.take_add, List.take_append_of_le_length (by omega)]
    rw [e1, e2]
    have hlm : (((old ++ tl).drop (i * 14)).take (m * 14)).length = m * 14 := by rw [List.length_take, List.length_drop, hl2]; omega
    rw [show old.take (i * 14) ++ ((old ++ tl).drop (i * 14)).take (m * 14) ++ old.drop (i * 14) ++ (old ++ tl).drop ((len + m) * 14) = old.take (i * 14) ++ (((old ++ tl).drop (i * 14)).take (m * 14) ++ (old.drop (i * 14) ++ (old ++ tl).drop ((len + m) * 14))) by simp only [List.append_assoc]]
    rw [splice_list htl.symm _ (by simp only [List.length_append, hlm, List.size_toArray, hxl]; omega)]
    rw [List.size_toArray, hxl, List.drop_left' hlm]
    simp only [List.append_assoc]
  refine (ins_grow b len cap i vb voff m mc old xs W (by omega) hm hlc (by omega) hb1000 hl1 hxl hcs h1c hv h1v).mono fun e w' hn => ?_
  exact insNew_to hll hn
def cmpI (x y : Int) : Int := if x < y then -1 else if x > y then 1 else 0
theorem cmpI_lt {x y : Int} : cmpI x y < 0 ↔ x < y := by unfold cmpI; split <;> (try split) <;> omega
def posS (ss : List Sg) (id : Int) : Nat := (ss.takeWhile fun y => decide (y.id < id)).length
def insS (ss : List Sg) (i : Nat) (x : Sg) : List Sg := ss.take i ++ x :: ss.drop i
def addS (ss : List Sg) (x : Sg) : List Sg := insS ss (posS ss x.id) x
noncomputable def applyF (e : Ed) (ss : List Sg) : List Sg × Int := open Classical in
  if e.kind = 5 then (if chkS ss ≠ 0 then ([], chkS ss) else if ¬ okE e then ([], 360) else if ∃ y ∈ ss, y.id = e.sign.id then ([], 360) else if chkS (addS ss e.sign) ≠ 0 then ([], chkS (addS ss e.sign)) else (addS ss e.sign, 0))
  else applyE e ss
section
variable {e : Ed} {ss : List Sg}
theorem applyF_chk (hk : e.kind = 5) (h : ¬ chkS ss = 0) : applyF e ss = ([], chkS ss) := by unfold applyF; rw [if_pos hk, if_pos h]
theorem applyF_no (hk : e.kind = 5) (h : chkS ss = 0) (h2 : ¬ okE e) : applyF e ss = ([], 360) := by unfold applyF; rw [if_pos hk, if_neg (by simpa using h), if_pos h2]
theorem applyF_met (hk : e.kind = 5) (h : chkS ss = 0) (h2 : okE e) (h3 : ∃ y ∈ ss, y.id = e.sign.id) : applyF e ss = ([], 360) := by unfold applyF; rw [if_pos hk, if_neg (by simpa using h), if_neg (by simpa using h2), if_pos h3]
theorem applyF_out (hk : e.kind = 5) (h : chkS ss = 0) (h2 : okE e) (h3 : ¬ ∃ y ∈ ss, y.id = e.sign.id) (h4 : ¬ chkS (addS ss e.sign) = 0) : applyF e ss = ([], chkS (addS ss e.sign)) := by unfold applyF; rw [if_pos hk, if_neg (by simpa using h), if_neg (by simpa using h2), if_neg h3, if_pos h4]
theorem applyF_ok (hk : e.kind = 5) (h : chkS ss = 0) (h2 : okE e) (h3 : ¬ ∃ y ∈ ss, y.id = e.sign.id) (h4 : chkS (addS ss e.sign) = 0) : applyF e ss = (addS ss e.sign, 0) := by unfold applyF; rw [if_pos hk, if_neg (by simpa using h), if_neg (by simpa using h2), if_neg h3, if_neg (by simpa using h4)]
end
theorem posS_of {ss : List Sg} {id : Int} {i : Nat} (hi : i ≤ ss.length) (h1 : ∀ y ∈ ss.take i, y.id < id) (h2 : ∀ y ∈ ss.drop i, id ≤ y.id) : posS ss id = i := by
  unfold posS
  rw [← List.take_append_drop i ss, List.takeWhile_append_of_pos (fun y hy => by simpa using h1 y hy)]
  have : (ss.drop i).takeWhile (fun y => decide (y.id < id)) = [] := by
    cases hd : ss.drop i with
    | nil => rfl
    | cons y l =>
      have := h2 y (by rw [hd]; exact List.mem_cons_self ..)
      rw [List.takeWhile_cons]
      simp; omega
  rw [this, List.length_append, List.length_take]
  simp; omega
theorem insS_len {ss : List Sg} {i : Nat} {x : Sg} (hi : i ≤ ss.length) : (insS ss i x).length = ss.length + 1 := by
  simp [insS]; omega
theorem sg_one (l : List Sg) : ∀ u ∈ sgsL l, u.oneCell' = true := fun u hu => by
  obtain ⟨a, _, h⟩ := List.mem_flatMap.1 hu
  exact cellsSg_one a u h
theorem sg_ins (ss : List Sg) (i : Nat) (x : Sg) : (sgsL ss).take (i * 14) ++ cellsSg x ++ (sgsL ss).drop (i * 14) = sgsL (insS ss i x) := by
  unfold sgsL insS
  rw [SX.flat_take (f := cellsSg) (fun _ => rfl), SX.flat_drop (f := cellsSg) (fun _ => rfl)]
  simp
theorem mem_takeS {l : List Sg} {i j : Nat} {z : Sg} (hz : l[j]? = some z) (h : j < i) : z ∈ l.take i := List.mem_of_getElem? (i := j) (by rw [List.getElem?_take, if_pos h]; exact hz)
theorem take_memS {l : List Sg} {i : Nat} {z : Sg} (h : z ∈ l.take i) : ∃ j, j < i ∧ l[j]? = some z := by
  obtain ⟨j, hj⟩ := List.mem_iff_getElem?.1 h
  rw [List.getElem?_take] at hj
  split at hj
  · exact ⟨j, by assumption, hj⟩
  cases hj
theorem rise_S {ss : List Sg} (h : okL ss) {j k : Nat} {y z : Sg} (hy : ss[j]? = some y) (hz : ss[k]? = some z) (hjk : j < k) : y.id < z.id := by
  obtain ⟨h1, rfl⟩ := List.getElem?_eq_some_iff.1 hy
  obtain ⟨h2, rfl⟩ := List.getElem?_eq_some_iff.1 hz
  exact List.pairwise_iff_getElem.1 h.2 j k h1 h2 hjk
def Half (ss : List Sg) (id : Int) (i j : Nat) : Prop := i ≤ j ∧ j ≤ ss.length ∧ (∀ y ∈ ss.take i, y.id < id) ∧ ∀ y ∈ ss.drop j, id ≤ y.id
theorem half_lo {ss : List Sg} {id : Int} {i j h : Nat} {z : Sg} (hk : okL ss) (hh : Half ss id i j) (hz : ss[h]? = some z) (hj : h < j) (hlt : z.id < id) : Half ss id (h + 1) j := by
  refine ⟨by omega, hh.2.1, fun y hy => ?_, hh.2.2.2⟩
  obtain ⟨q, hq, hy2⟩ := take_memS hy
  by_cases e : q = h
  · subst e; rw [hz] at hy2; cases hy2; exact hlt
  · have := rise_S hk hy2 hz (by omega); omega
theorem half_hi {ss : List Sg} {id : Int} {i j h : Nat} {z : Sg} (hk : okL ss) (hh : Half ss id i j) (hz : ss[h]? = some z) (hi : i ≤ h) (hle : id ≤ z.id) : Half ss id i h := by
  refine ⟨hi, by have := (List.getElem?_eq_some_iff.1 hz).1; omega, hh.2.2.1, fun y hy => ?_⟩
  obtain ⟨q, hy⟩ := List.mem_iff_getElem?.1 hy
  rw [List.getElem?_drop] at hy
  by_cases e : q = 0
  · subst e; rw [Nat.add_zero, hz] at hy; cases hy; exact hle
  · have := rise_S hk hz hy (by omega); omega
theorem half_pos {ss : List Sg} {id : Int} {i j : Nat} (hh : Half ss id i j) (he : ((j : Nat) : Int) ≤ ((i : Nat) : Int)) : posS ss id = i := by
  obtain ⟨h1, h2, h3, h4⟩ := hh
  obtain rfl : i = j := by omega
  exact posS_of h2 h3 h4
theorem fdiv2 (k : Nat) : Int.fdiv ((k : Nat) : Int) 2 = ((k / 2 : Nat) : Int) := by
  rw [Int.fdiv_eq_ediv_of_nonneg _ (by decide)]; omega
theorem rlen_of {C : SX.Cx} {ρ : List Value} {α : Nat → SX.AV} {β : Type} {f : β → List Value} {sz : Nat} (hf : ∀ a, (f a).length = sz) (h0 : 0 < sz) {l : List β} {cc : SX.V} (hc : SX.cellsV (cc.den ρ α) = l.flatMap f) : SX.Opq.rel C ρ α (.rlen sz) [cc] (.int .i64 ((l.length : Nat) : Int)) := by
  show _ = _
  rw [hc, SX.flat_len hf, Nat.mul_div_cancel _ h0]
theorem met_take {ss : List Sg} {i : Nat} {z : Sg} {id : Int} (hz : ss[i]? = some z) (h : ∀ y ∈ ss.take i, y.id ≠ id) (hn : z.id ≠ id) : ∀ y ∈ ss.take (i + 1), y.id ≠ id := by
  intro y hy
  obtain ⟨q, hq, hy2⟩ := take_memS hy
  by_cases e : q = i
  · subst e; rw [hz] at hy2; cases hy2; exact hn
  exact h y (mem_takeS hy2 (by omega))
def tree_cmp1 : SX.Tree :=
(.df (.bin .neq 3) [(.q 0), (.q 0)] .one
(.df (.bin .neq 3) [(.q 14), (.q 14)] .one
(.br 28 []
(.br 29 []
(.ret (.i 0) [] [])
(.ret (.i (-1)) [] []))
(.br 29 []
(.ret (.i 1) [] [])
(.df (.bin .lss 3) [(.q 0), (.q 14)] .one
(.br 30 []
(.ret (.i (-1)) [] [])
(.df (.bin .gtr 3) [(.q 0), (.q 14)] .one
(.br 31 []
(.ret (.i 1) [] [])
(.ret (.i 0) [] [])))))))))
def args_cmp1 : List SX.V := [.a ((List.range 14).map fun j => .x j []), .a ((List.range 14).map fun j => .x (14+j) [])]
set_option maxRecDepth 100000 in
theorem run_cmp1 (K A : Value → Nat → List Value → Prop) : (SX.run (cx0 K A) ⟨fun f => true, [], 0, 100⟩ 100000 0 (SX.door 31 Try.f31 args_cmp1 (List.replicate 28 .one)) [.code (Try.f31.body.getD .skip), .top Try.f31]).strip = tree_cmp1 := by kernel_rfl
set_option maxRecDepth 100000 in
set_option maxHeartbeats 4000000 in
theorem cmp1_any (a b : Sg) (w : World)  : Calls Try.prog 31 #[valSg a, valSg b] w fun e w' => e = .returned (.int .i64 (cmpI a.id b.id)) ∧ Below w.heap.size w w' := by
  refine SX.calls_of_run (C := cx0 (fun _ _ _ => False) (fun _ _ _ => False)) (G := ⟨fun f => true, [], 0, 100⟩) (args := args_cmp1) (sh := (List.replicate 28 .one)) (ρ := (cellsSg a ++ cellsSg b)) 100000 tree_cmp1 (cx0_ok _ _) Try.func31 rfl (run_cmp1 _ _) (by kernel_rfl) (by kernel_rfl) (by kernel_rfl) ?_ ?_
  · exact fun W _ => SX.Kf_none (fun _ _ _ h => h) W
  unfold tree_cmp1
  refine SX.D (.bool ((a.id : Int) != a.id)) ?_
  refine SX.D (.bool ((b.id : Int) != b.id)) ?_
  refine SX.B ((a.id : Int) != a.id) (fun h28 => absurd h28 (by simp)) (fun h28 => ?_)
  try simp only [NRM] at h28
  refine SX.B ((b.id : Int) != b.id) (fun h29 => absurd h29 (by simp)) (fun h29 => ?_)
  try simp only [NRM] at h29
  refine SX.D (.bool (decide (a.id < b.id))) ?_
  refine SX.B (decide (a.id < b.id)) (fun h30 => ?_) (fun h30 => ?_)
  · try simp only [NRM] at h30
    exact SX.F (.int .i64 ((-1))) (by congr 1; unfold cmpI; first | (rw [if_pos (by omega)]; done) | (rw [if_neg (by omega), if_pos (by omega)]; done) | (rw [if_neg (by omega), if_neg (by omega)]; done))
  try simp only [NRM] at h30
  refine SX.D (.bool (decide (a.id > b.id))) ?_
  refine SX.B (decide (a.id > b.id)) (fun h31 => ?_) (fun h31 => ?_)
  · try simp only [NRM] at h31
    exact SX.F (.int .i64 1) (by congr 1; unfold cmpI; first | (rw [if_pos (by omega)]; done) | (rw [if_neg (by omega), if_pos (by omega)]; done) | (rw [if_neg (by omega), if_neg (by omega)]; done))
  try simp only [NRM] at h31
  exact SX.F (.int .i64 0) (by congr 1; unfold cmpI; first | (rw [if_pos (by omega)]; done) | (rw [if_neg (by omega), if_pos (by omega)]; done) | (rw [if_neg (by omega), if_neg (by omega)]; done))
def REI (f : FuncId) (xs : List SX.Arg) (v : Value) : Prop :=
  (f = 14 ∧ ∃ (u : Value) (ss : List Sg), xs = [⟨u, 14, sgsL ss⟩] ∧ ss.length ≤ 9223372036854775807 ∧ v = .int .i64 (chkS ss)) ∨
  (f = 38 ∧ ∃ s : Sg, xs = [⟨valSg s, 0, []⟩] ∧ v = .bool (decide s.ok)) ∨
  (f = 31 ∧ ∃ a b : Sg, xs = [⟨valSg a, 0, []⟩, ⟨valSg b, 0, []⟩] ∧ v = .int .i64 (cmpI a.id b.id))
def shpEI : FuncId → Option SX.Sh := fun f => if f = 14 then some .one else if f = 38 then some .one else if f = 31 then some .one else none
noncomputable def cxEI (K A : Value → Nat → List Value → Prop) : SX.Cx := { P := Try.prog, R := fun _ => REI, shp := shpEI, K := K, A := A, trm := true, rc := fun f => if f = 33 then some true else none }
theorem okEI (K A : Value → Nat → List Value → Prop) : (cxEI K A).Ok := by
  refine SX.Cx.ok_of (fun _ => rfl) ?_
  intro K f xs v W hR hrd hKf
  rcases hR with ⟨rfl, u, ss, rfl, hl, rfl⟩ | ⟨rfl, s, rfl, rfl⟩ | ⟨rfl, a, b, rfl, rfl⟩
  · obtain ⟨A, n, c, rfl, h2, h3, h4⟩ := sgs_arg (hrd ⟨u, 14, sgsL ss⟩ (by simp))
    exact (echeck_any ss A n c W h2 (by omega) h3).mono fun e w' h => SX.plainOk rfl h
  · exact (form_any s W).mono fun e w' h => SX.plainOk rfl h
  exact (cmp1_any a b W).mono fun e w' h => SX.plainOk rfl h
theorem insert_ncS (K A : Value → Nat → List Value → Prop) {cs0 : List SX.V} {i mc vb voff : Nat} {ss : List Sg} {x : Sg} (hi : i ≤ ss.length) (hl : ss.length ≤ 1000000) :
    SX.RCall (cxEI K A) 33 [.no, .own 14 cs0] [⟨.int .i64 (i : Int), 0, []⟩, ⟨.slice (some ⟨vb, voff, none⟩) 1 mc, 14, cellsSg x⟩] (sgsL ss) 14 26 (.agg (sgsL (insS ss i x)).toArray) := by
  rw [← sg_ins]
  exact insert_rc (C := cxEI K A) rfl (by rw [sgsL_len]; omega) (by omega) (by rw [sgsL_len]; omega) (sg_one ss) (cellsSg_one x)
def tree_e5 : SX.Tree :=
(.df (.call 14 [(.ext 14)]) [(.q 0)] .one
(.df (.bin .neq 31) [(.q 23), (.i 0)] .one
(.br 24 []
(.ret (.t [(.k (.slice none 0 0)), (.q 23)]) [none] [])
(.df (.eqr true 22 [(.i .i64), (.i .i64), (.i .i64), (.i .i64), (.i .i64), (.i .i64), (.i .i64), (.i .i64), (.i .i64), (.i .i64), (.i .i64), (.i .i64), (.i .i64), (.i .i64), (.i .i64), (.i .i64), (.i .i64), (.i .i64), (.i .i64), (.i .i64), (.i .i64), (.i .i64)]) ([(.i 5), (.i 0), (.i 0), (.i 0), (.i 0), (.i 0), (.i 0), (.i 0)] ++ SX.Z 9 14 ++ [(.i 5)] ++ SX.Z 2 21) .one
(.br 25 []
(.ret (.t [(.k (.slice none 0 0)), (.i 360)]) (List.replicate 9 none) [])
(.df (.call 38 [.no]) [(.a (SX.Z 9 14))] .one
(.df .not [(.q 26)] .one
(.br 27 []
(.ret (.t [(.k (.slice none 0 0)), (.i 360)]) (List.replicate 10 none) [])
(.df (.len false) [(.q 0)] .one
(.loop [(.i 0), (.cat [])] [.one, .any]
(.df (.bin .lss 3) [(.q 29), (.q 28)] .one
(.br 31 []
(.df .bnd [(.q 0), (.q 29)] .one
(.df (.elems 14 0 14) [(.q 0), (.q 29)] (.ag 14)
(.df (.bin .neq 3) [(.x 33 [0]), (.q 9)] .one
(.df .not [(.q 34)] .one
(.br 35 []
(.ret (.t [(.k (.slice none 0 0)), (.i 360)]) (List.replicate 18 none) [])
(.df (.app 14 112 (.own 14 (SX.Y 33 0 14))) [(.cat [(.q 30)]), (.sl 17 0 1 1)] .any
(.df (.bin .add 3) [(.q 29), (.i 1)] .one
(.again 0 [(.q 37), (.cat [(.q 30), (.q 36)])]))))))))
(.df (.rlen 14) [(.cat [(.q 30)])] .one
(.loop [(.i 0), (.q 32)] [.one, .one]
(.df (.bin .lss 3) [(.q 33), (.q 34)] .one
(.br 35 []
(.df (.bin .add 3) [(.q 33), (.q 34)] .one
(.df (.conv .u64) [(.q 36)] .one
(.df (.bin .shr 101) [(.q 37), (.k (.int .u64 1))] .one
(.df (.conv .i64) [(.q 38)] .one
(.df (.rbnd 14) [(.cat [(.q 30)]), (.q 39)] .one
(.df (.relems 14 0 14) [(.cat [(.q 30)]), (.q 39)] (.ag 14)
(.df (.call 31 [.no, .no]) [(.a (SX.Y 41 0 14)), (.a (SX.Z 9 14))] .one
(.df (.bin .lss 3) [(.q 42), (.i 0)] .one
(.br 43 []
(.df (.bin .add 3) [(.q 39), (.i 1)] .one
(.again 1 [(.q 44), (.q 34)]))
(.again 1 [(.q 33), (.q 39)]))))))))))
(.df (.bin .lss 3) [(.q 33), (.q 32)] .one
(.br 36 []
(.df (.rbnd 14) [(.cat [(.q 30)]), (.q 33)] .one
(.df (.relems 14 0 14) [(.cat [(.q 30)]), (.q 33)] (.ag 14)
(.df (.call 31 [.no, .no]) [(.a (SX.Y 38 0 14)), (.a (SX.Z 9 14))] .one
(.df (.bin .eql 3) [(.q 39), (.i 0)] .one
(.df (.callr 33 [.no, (.own 14 (SX.Z 9 14))] 14 26) [(.cat [(.q 30)]), (.q 33), (.sl 17 0 1 1)] .any
(.df (.call 14 [(.row 14 [(.q 41)])]) [(.row 18)] .one
(.df (.bin .neq 31) [(.q 42), (.i 0)] .one
(.br 43 []
(.ret (.t [(.k (.slice none 0 0)), (.q 42)]) (List.replicate 19 none) [])
(.ret (.t [(.row 18), (.i 0)]) (List.replicate 18 none ++ [(some ⟨[(.q 41)], 26, (.row 14)⟩)]) [])))))))))
(.df (.callr 33 [.no, (.own 14 (SX.Z 9 14))] 14 26) [(.cat [(.q 30)]), (.q 33), (.sl 17 0 1 1)] .any
(.df (.call 14 [(.row 14 [(.q 37)])]) [(.row 18)] .one
(.df (.bin .neq 31) [(.q 38), (.i 0)] .one
(.br 39 []
(.ret (.t [(.k (.slice none 0 0)), (.q 38)]) (List.replicate 19 none) [])
(.ret (.t [(.row 18), (.i 0)]) (List.replicate 18 none ++ [(some ⟨[(.q 37)], 26, (.row 14)⟩)]) [])))))))))))))))))))))))
def args_e5 : List SX.V := [.x 0 [], .a ([.k (.int .i64 5)] ++ (List.range 21).map fun j => .x (2+j) [])]
set_option maxRecDepth 100000 in
theorem run_e5 (K A : Value → Nat → List Value → Prop) : (SX.run (cxEI K A) ⟨fun f => true, [⟨12, 13, [(.s 51, .one), (.s 4, .row 14 26)]⟩, ⟨30, 3, [(.s 9, .one), (.s 10, .one)]⟩], 2, 100⟩ 100000 0 (SX.door 12 Try.f12 args_e5 (List.replicate 23 .one)) [.code (Try.f12.body.getD .skip), .top Try.f12]).strip = tree_e5 := by kernel_rfl
set_option maxRecDepth 100000 in
set_option maxHeartbeats 4000000 in
theorem e5_any (ss : List Sg) (A : Option Addr) (n c : Nat) (role other fr to m sn sd : Int) (sg : Sg) (w : World) (hr : Rd w 14 A n (sgsL ss)) (hn : n ≤ 9223372036854775807) (hc : n ≤ c) : Calls Try.prog 12 #[.slice A n c, valE (⟨5, role, other, fr, to, m, sn, sd, sg⟩ : Ed)] w fun e w' => Below w.heap.size w w' ∧ ∃ hdr, e = .returned (.tuple #[hdr, .int .i64 (applyF (⟨5, role, other, fr, to, m, sn, sd, sg⟩ : Ed) ss).2]) ∧ SX.SlRet w w' [] hdr 14 (sgsL (applyF (⟨5, role, other, fr, to, m, sn, sd, sg⟩ : Ed) ss).1) := by
  refine SX.calls_of_run (C := cxEI (fun s sz cells => s = .slice A n c ∧ sz = 14 ∧ cells = sgsL ss) (fun _ _ _ => False)) (G := ⟨fun f => true, [⟨12, 13, [(.s 51, .one), (.s 4, .row 14 26)]⟩, ⟨30, 3, [(.s 9, .one), (.s 10, .one)]⟩], 2, 100⟩) (args := args_e5) (sh := (List.replicate 23 .one)) (ρ := ([.slice A n c] ++ cellsE (⟨5, role, other, fr, to, m, sn, sd, sg⟩ : Ed))) 100000 tree_e5 (okEI _ _) Try.func12 rfl (run_e5 _ _) (by kernel_rfl) (by kernel_rfl) (by kernel_rfl) ?_ ?_
  · rintro W hW s sz cells ⟨rfl, rfl, rfl⟩; exact ⟨hr.same0 hW, hc⟩
  have hA := SX.rd_some hr
  have hln : ss.length = n := by have := hr.1; rw [sgsL_len] at this; omega
  have k1 : (fun s sz cells => s = .slice A n c ∧ sz = 14 ∧ cells = sgsL ss) (Value.slice A n c) 14 (sgsL ss) := ⟨rfl, rfl, rfl⟩
  have hu : usesE (⟨5, role, other, fr, to, m, sn, sd, sg⟩ : Ed) = (⟨5, 0, 0, 0, 0, 0, 0, 0, sg⟩ : Ed) := by unfold usesE; rw [if_neg (by show ¬ ((5 : Int) = 1); decide), if_neg (by show ¬ ((5 : Int) = 2); decide), if_neg (by show ¬ ((5 : Int) = 3); decide), if_neg (by show ¬ ((5 : Int) = 4); decide), if_pos rfl]
  have hrt : rightE (⟨5, role, other, fr, to, m, sn, sd, sg⟩ : Ed) ↔ sg.ok := by unfold rightE; rw [if_neg (by show ¬ ((5 : Int) = 1); decide), if_neg (by show ¬ ((5 : Int) = 2); decide), if_neg (by show ¬ ((5 : Int) = 3); decide), if_neg (by show ¬ ((5 : Int) = 4); decide), if_pos rfl]
  unfold tree_e5
  refine SX.E (.int .i64 ((chkS ss))) (fun α => ⟨[⟨.slice A n c, 14, sgsL ss⟩], ⟨by kernel_rfl, rfl, cast (by kernel_rfl) k1, trivial⟩, .inl ⟨rfl, .slice A n c, ss, rfl, by omega, rfl⟩, SX.noAli rfl⟩) ?_
  refine SX.D (.bool (((chkS ss) : Int) != 0)) ?_
  refine SX.B (((chkS ss) : Int) != 0) (fun h24 => ?_) (fun h24 => ?_)
  · try simp only [NRM] at h24
    have hfact : applyF (⟨5, role, other, fr, to, m, sn, sd, sg⟩ : Ed) ss = ([], chkS ss) := applyF_chk rfl h24
    exact SX.VC_ret fun α W _ hR hS => ⟨hS.below, (.slice none 0 0), Eq.trans (b := Ending.returned (.tuple #[(.slice none 0 0), .int .i64 ((chkS ss))])) (by kernel_rfl) (by rw [hfact]), (by rw [hfact]; exact SX.SlRet.nil)⟩
  try simp only [NRM] at h24
  refine SX.E (.bool (true ^^ decide ((⟨5, 0, 0, 0, 0, 0, 0, 0, sg⟩ : Ed) = (⟨5, role, other, fr, to, m, sn, sd, sg⟩ : Ed)))) (fun α => SX.eqr_rel (f := cellsE) cellsE_inj (y := (⟨5, 0, 0, 0, 0, 0, 0, 0, sg⟩ : Ed)) (z := (⟨5, role, other, fr, to, m, sn, sd, sg⟩ : Ed)) (by kernel_rfl) (by kernel_rfl) (by kernel_rfl)) ?_
  refine SX.B (true ^^ decide ((⟨5, 0, 0, 0, 0, 0, 0, 0, sg⟩ : Ed) = (⟨5, role, other, fr, to, m, sn, sd, sg⟩ : Ed))) (fun h25 => ?_) (fun h25 => ?_)
  · try simp only [NRM] at h25
    have hfact : applyF (⟨5, role, other, fr, to, m, sn, sd, sg⟩ : Ed) ss = ([], 360) := applyF_no rfl h24 (fun hk => by first | exact h25 (by rw [← hu]; exact hk.2.2.1) | (have := hrt.1 hk.2.2.2; simp [this] at h27))
    exact SX.VC_ret fun α W _ hR hS => ⟨hS.below, (.slice none 0 0), Eq.trans (b := Ending.returned (.tuple #[(.slice none 0 0), .int .i64 360])) (by kernel_rfl) (by rw [hfact]), (by rw [hfact]; exact SX.SlRet.nil)⟩
  try simp only [NRM] at h25
  refine SX.E (.bool (decide sg.ok)) (fun α => ⟨[⟨valSg sg, 0, []⟩], ⟨by kernel_rfl, by kernel_rfl, trivial⟩, .inr (.inl ⟨rfl, sg, rfl, rfl⟩), SX.noAli rfl⟩) ?_
  refine SX.D (.bool (!(decide sg.ok))) ?_
  refine SX.B (!(decide sg.ok)) (fun h27 => ?_) (fun h27 => ?_)
  · try simp only [NRM] at h27
    have hfact : applyF (⟨5, role, other, fr, to, m, sn, sd, sg⟩ : Ed) ss = ([], 360) := applyF_no rfl h24 (fun hk => by first | exact h25 (by rw [← hu]; exact hk.2.2.1) | (have := hrt.1 hk.2.2.2; simp [this] at h27))
    exact SX.VC_ret fun α W _ hR hS => ⟨hS.below, (.slice none 0 0), Eq.trans (b := Ending.returned (.tuple #[(.slice none 0 0), .int .i64 360])) (by kernel_rfl) (by rw [hfact]), (by rw [hfact]; exact SX.SlRet.nil)⟩
  try simp only [NRM] at h27
  refine SX.D (.int .i64 (((n : Nat) : Int))) ?_
  have hok : okE (⟨5, role, other, fr, to, m, sn, sd, sg⟩ : Ed) := ⟨by show (1 : Int) ≤ 5; decide, by show (5 : Int) ≤ 7; decide, hu.trans h25, hrt.2 (by simpa using h27)⟩
  obtain ⟨hss, hs4⟩ := chkS_ok h24
  refine SX.VC_loop (fun xs => ∃ (i : Nat), xs = [.int .i64 (i : Int), .agg (sgsL (ss.take i)).toArray] ∧ i ≤ n ∧ ∀ y ∈ ss.take i, y.id ≠ sg.id) (fun xs => match xs with | [.int _ i, _] => n - i.toNat | _ => 0) (fun α => ⟨0, Eq.trans (b := [.int .i64 0, .agg #[]]) (by kernel_rfl) (by simp [sgsL]), by omega, by simp⟩) ?_
  rintro xs - ⟨i, rfl, hin, hno⟩
  refine SX.D (.bool (decide (((i : Nat) : Int) < ((n : Nat) : Int)))) ?_
  refine SX.B (decide (((i : Nat) : Int) < ((n : Nat) : Int))) (fun h31 => ?_) (fun h31 => ?_)
  · try simp only [NRM] at h31
    obtain ⟨z, hz⟩ : ∃ z, ss[i]? = some z := ⟨_, List.getElem?_eq_getElem (by omega)⟩
    refine SX.E (.bool true) (fun α => SX.extBnd (A := A) (n := n) (c := c) (j := i) hA (by kernel_rfl) (by kernel_rfl) (by omega)) ?_
    refine SX.E (.agg (cellsSg z).toArray) (fun α => SX.extElems (f := cellsSg) (l := ss) (A := A) (n := n) (c := c) (j := i) (z := z) (fun _ => rfl) hA (by kernel_rfl) (by kernel_rfl) (by omega) (cast (by kernel_rfl) k1) hz) ?_
    refine SX.D (.bool ((z.id : Int) != sg.id)) ?_
    refine SX.D (.bool (!((z.id : Int) != sg.id))) ?_
    refine SX.B (!((z.id : Int) != sg.id)) (fun h35 => ?_) (fun h35 => ?_)
    · try simp only [NRM] at h35
      have hfact : applyF (⟨5, role, other, fr, to, m, sn, sd, sg⟩ : Ed) ss = ([], 360) := applyF_met rfl h24 hok ⟨z, List.mem_of_getElem? hz, by simpa using h35⟩
      exact SX.VC_ret fun α W _ hR hS => ⟨hS.below, (.slice none 0 0), Eq.trans (b := Ending.returned (.tuple #[(.slice none 0 0), .int .i64 360])) (by kernel_rfl) (by rw [hfact]), (by rw [hfact]; exact SX.SlRet.nil)⟩
    try simp only [NRM] at h35
    refine SX.E (Value.agg (([z]).flatMap cellsSg).toArray) (fun α => SX.app_rel (f := cellsSg) (l1 := ss.take i) (l2 := [z]) (fun _ => rfl) cellsSg_one (by decide) (SX.cat1 (by kernel_rfl)) (SX.src_own (by kernel_rfl)) (by simp only [LL]; omega) (by simp only [LL]; omega)) ?_
    refine SX.E (.int .i64 (((i + 1 : Nat) : Int))) (fun α => SX.W1 i) ?_
    exact SX.VC_again fun α => ⟨⟨i + 1, Eq.trans (b := [.int .i64 ((i + 1 : Nat) : Int), .agg ([Value.agg (sgsL (ss.take i)).toArray, Value.agg (([z]).flatMap cellsSg).toArray].flatMap SX.cellsV).toArray]) (by kernel_rfl) (by rw [List.take_add_one, hz]; simp [SX.cellsV, sgsL]), by omega, met_take hz hno (by simpa using h35)⟩, cast (by kernel_rfl) (show n - ((i + 1 : Nat) : Int).toNat < n - (i : Int).toNat by omega)⟩
  try simp only [NRM] at h31
  have htk : ss.take i = ss := List.take_of_length_le (by omega)
  rw [htk] at hno
  have hnm : ¬ ∃ y ∈ ss, y.id = sg.id := fun ⟨y, hy, h⟩ => hno y hy h
  refine SX.E (.int .i64 (((ss.length : Nat) : Int))) (fun α => rlen_of (f := cellsSg) (l := ss) (fun _ => rfl) (by decide) (Eq.trans (b := [Value.agg (sgsL (ss.take i)).toArray].flatMap SX.cellsV) (by kernel_rfl) (by rw [htk]; simp [SX.cellsV, sgsL]))) ?_
  refine SX.VC_loop (fun xs => ∃ (p q : Nat), xs = [.int .i64 (p : Int), .int .i64 (q : Int)] ∧ Half ss sg.id p q) (fun xs => match xs with | [.int _ i, .int _ j] => j.toNat - i.toNat | _ => 0) (fun α => ⟨0, ss.length, by kernel_rfl, by omega, by omega, fun y hy => by simp at hy, fun y hy => by rw [List.drop_eq_nil_of_le (by omega)] at hy; simp at hy⟩) ?_
  rintro xs - ⟨p, q, rfl, hh⟩
  have hh1 := hh.1
  have hh2 := hh.2.1
  refine SX.D (.bool (decide (((p : Nat) : Int) < ((q : Nat) : Int)))) ?_
  refine SX.B (decide (((p : Nat) : Int) < ((q : Nat) : Int))) (fun h35 => ?_) (fun h35 => ?_)
  · try simp only [NRM] at h35
    refine SX.E (.int .i64 (((p + q : Nat) : Int))) (fun α => Eq.trans (b := some (.int .i64 (IntKind.i64.wrap ((p : Int) + (q : Int))))) (by kernel_rfl) (by rw [show ((p + q : Nat) : Int) = (p : Int) + (q : Int) by omega, wrap_i64 (by omega) (by omega)])) ?_
    refine SX.E (.int .u64 (((p + q : Nat) : Int))) (fun α => Eq.trans (b := some (.int .u64 (IntKind.u64.wrap ((p + q : Nat) : Int)))) (by kernel_rfl) (by rw [wrap_u64 (by omega) (by omega)])) ?_
    refine SX.E (.int .u64 (((((p + q) / 2) : Nat) : Int))) (fun α => Eq.trans (b := some (.int .u64 (Int.fdiv ((p + q : Nat) : Int) 2))) (by kernel_rfl) (by rw [fdiv2])) ?_
    refine SX.E (.int .i64 (((((p + q) / 2) : Nat) : Int))) (fun α => Eq.trans (b := some (.int .i64 (IntKind.i64.wrap ((((p + q) / 2) : Nat) : Int)))) (by kernel_rfl) (by rw [wrap_i64 (by omega) (by omega)])) ?_
    refine SX.E (.bool true) (fun α => SX.row_bnd (f := cellsSg) (l := ss) (k := ((p + q) / 2)) (fun _ => rfl) (by decide) (Eq.trans (b := [Value.agg (sgsL (ss.take i)).toArray].flatMap SX.cellsV) (by kernel_rfl) (by rw [htk]; simp [SX.cellsV, sgsL])) (by kernel_rfl) (by omega)) ?_
    obtain ⟨z, hz⟩ : ∃ z, ss[((p + q) / 2)]? = some z := ⟨_, List.getElem?_eq_getElem (by omega)⟩
    refine SX.E (.agg (cellsSg z).toArray) (fun α => SX.row_elems (f := cellsSg) (l := ss) (k := ((p + q) / 2)) (z := z) (fun _ => rfl) (by decide) (Eq.trans (b := [Value.agg (sgsL (ss.take i)).toArray].flatMap SX.cellsV) (by kernel_rfl) (by rw [htk]; simp [SX.cellsV, sgsL])) (by kernel_rfl) hz) ?_
    refine SX.E (.int .i64 ((cmpI z.id sg.id))) (fun α => ⟨[⟨valSg z, 0, []⟩, ⟨valSg sg, 0, []⟩], ⟨by kernel_rfl, by kernel_rfl, by kernel_rfl, by kernel_rfl, trivial⟩, .inr (.inr (⟨rfl, z, sg, rfl, rfl⟩)), SX.noAli rfl⟩) ?_
    refine SX.D (.bool (decide ((cmpI z.id sg.id) < 0))) ?_
    refine SX.B (decide ((cmpI z.id sg.id) < 0)) (fun h43 => ?_) (fun h43 => ?_)
    · try simp only [NRM] at h43
      refine SX.E (.int .i64 (((((p + q) / 2) + 1 : Nat) : Int))) (fun α => SX.W1 ((p + q) / 2)) ?_
      exact SX.VC_again fun α => ⟨⟨((p + q) / 2) + 1, q, by kernel_rfl, half_lo hss hh hz (by omega) (cmpI_lt.1 h43)⟩, cast (by kernel_rfl) (show ((q : Nat) : Int).toNat - ((((p + q) / 2) + 1 : Nat) : Int).toNat < ((q : Nat) : Int).toNat - ((p : Nat) : Int).toNat by omega)⟩
    try simp only [NRM] at h43
    exact SX.VC_again fun α => ⟨⟨p, ((p + q) / 2), by kernel_rfl, half_hi hss hh hz (by omega) (by have := mt cmpI_lt.2 (show ¬ cmpI z.id sg.id < 0 by omega); omega)⟩, cast (by kernel_rfl) (show ((((p + q) / 2) : Nat) : Int).toNat - ((p : Nat) : Int).toNat < ((q : Nat) : Int).toNat - ((p : Nat) : Int).toNat by omega)⟩
  try simp only [NRM] at h35
  refine SX.D (.bool (decide (((p : Nat) : Int) < ((ss.length : Nat) : Int)))) ?_
  refine SX.B (decide (((p : Nat) : Int) < ((ss.length : Nat) : Int))) (fun h36 => ?_) (fun h36 => ?_)
  · try simp only [NRM] at h36
    refine SX.E (.bool true) (fun α => SX.row_bnd (f := cellsSg) (l := ss) (k := p) (fun _ => rfl) (by decide) (Eq.trans (b := [Value.agg (sgsL (ss.take i)).toArray].flatMap SX.cellsV) (by kernel_rfl) (by rw [htk]; simp [SX.cellsV, sgsL])) (by kernel_rfl) (by omega)) ?_
    obtain ⟨z, hz⟩ : ∃ z, ss[p]? = some z := ⟨_, List.getElem?_eq_getElem (by omega)⟩
    refine SX.E (.agg (cellsSg z).toArray) (fun α => SX.row_elems (f := cellsSg) (l := ss) (k := p) (z := z) (fun _ => rfl) (by decide) (Eq.trans (b := [Value.agg (sgsL (ss.take i)).toArray].flatMap SX.cellsV) (by kernel_rfl) (by rw [htk]; simp [SX.cellsV, sgsL])) (by kernel_rfl) hz) ?_
    refine SX.E (.int .i64 ((cmpI z.id sg.id))) (fun α => ⟨[⟨valSg z, 0, []⟩, ⟨valSg sg, 0, []⟩], ⟨by kernel_rfl, by kernel_rfl, by kernel_rfl, by kernel_rfl, trivial⟩, .inr (.inr (⟨rfl, z, sg, rfl, rfl⟩)), SX.noAli rfl⟩) ?_
    refine SX.D (.bool (((cmpI z.id sg.id) : Int) == 0)) ?_
    have hadd : addS ss sg = insS ss p sg := by rw [addS, half_pos hh h35]
    refine SX.VC_df (Value.agg (sgsL (insS ss p sg)).toArray) (fun α => ⟨[⟨.int .i64 (p : Int), 0, []⟩, ⟨.slice (some ⟨(α 17).b, 0, none⟩) 1 1, 14, cellsSg sg⟩], ⟨by kernel_rfl, by kernel_rfl, by kernel_rfl, trivial⟩, SX.RCall.old (insert_ncS _ _ (by omega) (by omega)) (Eq.trans (b := [Value.agg (sgsL (ss.take i)).toArray].flatMap SX.cellsV) (by kernel_rfl) (by rw [htk]; simp [SX.cellsV, sgsL]))⟩) (rfl) ?_
    refine SX.E (.int .i64 ((chkS (insS ss p sg)))) (fun α => ⟨[⟨(α 18).h, 14, sgsL (insS ss p sg)⟩], ⟨Eq.trans (b := (⟨(α 18).h, 14, [Value.agg (sgsL (insS ss p sg)).toArray].flatMap SX.cellsV⟩ : SX.Arg)) (by simp [SX.cellsV]) (by kernel_rfl), trivial⟩, .inl ⟨rfl, _, (insS ss p sg), rfl, by rw [insS_len (by omega)]; omega, rfl⟩, SX.noAli rfl⟩) ?_
    refine SX.D (.bool (((chkS (insS ss p sg)) : Int) != 0)) ?_
    refine SX.B (((chkS (insS ss p sg)) : Int) != 0) (fun h43 => ?_) (fun h43 => ?_)
    · try simp only [NRM] at h43
      have hfact : applyF (⟨5, role, other, fr, to, m, sn, sd, sg⟩ : Ed) ss = ([], chkS (insS ss p sg)) := by have q := applyF_out (e := (⟨5, role, other, fr, to, m, sn, sd, sg⟩ : Ed)) rfl h24 hok hnm (show ¬ chkS (addS ss sg) = 0 by rw [hadd]; simpa using h43); rw [q]; show (_, chkS (addS ss sg)) = _; rw [hadd]
      exact SX.VC_ret fun α W _ hR hS => ⟨hS.below, (.slice none 0 0), Eq.trans (b := Ending.returned (.tuple #[(.slice none 0 0), .int .i64 ((chkS (insS ss p sg)))])) (by kernel_rfl) (by rw [hfact]), (by rw [hfact]; exact SX.SlRet.nil)⟩
    try simp only [NRM] at h43
    have hfact : applyF (⟨5, role, other, fr, to, m, sn, sd, sg⟩ : Ed) ss = ((insS ss p sg), 0) := by have q := applyF_ok (e := (⟨5, role, other, fr, to, m, sn, sd, sg⟩ : Ed)) rfl h24 hok hnm (show chkS (addS ss sg) = 0 by rw [hadd]; simpa using h43); rw [q]; show (addS ss sg, _) = _; rw [hadd]
    exact SX.VC_ret fun α W _ hR hS => ⟨hS.below, (α 18).h, Eq.trans (b := Ending.returned (.tuple #[(α 18).h, .int .i64 0])) (by kernel_rfl) (by rw [hfact]), SX.SlRet.row hS (n := 18) (b := (⟨[(.x 41 [])], 26, (.row 14)⟩ : SX.Blk)) (by kernel_rfl) rfl (hR 18 _ (by kernel_rfl)) (Eq.trans (b := [Value.agg (sgsL (insS ss p sg)).toArray].flatMap SX.cellsV) (by kernel_rfl) (by rw [hfact]; simp [SX.cellsV]))⟩
  try simp only [NRM] at h36
  have hadd : addS ss sg = insS ss p sg := by rw [addS, half_pos hh h35]
  refine SX.VC_df (Value.agg (sgsL (insS ss p sg)).toArray) (fun α => ⟨[⟨.int .i64 (p : Int), 0, []⟩, ⟨.slice (some ⟨(α 17).b, 0, none⟩) 1 1, 14, cellsSg sg⟩], ⟨by kernel_rfl, by kernel_rfl, by kernel_rfl, trivial⟩, SX.RCall.old (insert_ncS _ _ (by omega) (by omega)) (Eq.trans (b := [Value.agg (sgsL (ss.take i)).toArray].flatMap SX.cellsV) (by kernel_rfl) (by rw [htk]; simp [SX.cellsV, sgsL]))⟩) (rfl) ?_
  refine SX.E (.int .i64 ((chkS (insS ss p sg)))) (fun α => ⟨[⟨(α 18).h, 14, sgsL (insS ss p sg)⟩], ⟨Eq.trans (b := (⟨(α 18).h, 14, [Value.agg (sgsL (insS ss p sg)).toArray].flatMap SX.cellsV⟩ : SX.Arg)) (by simp [SX.cellsV]) (by kernel_rfl), trivial⟩, .inl ⟨rfl, _, (insS ss p sg), rfl, by rw [insS_len (by omega)]; omega, rfl⟩, SX.noAli rfl⟩) ?_
  refine SX.D (.bool (((chkS (insS ss p sg)) : Int) != 0)) ?_
  refine SX.B (((chkS (insS ss p sg)) : Int) != 0) (fun h39 => ?_) (fun h39 => ?_)
  · try simp only [NRM] at h39
    have hfact : applyF (⟨5, role, other, fr, to, m, sn, sd, sg⟩ : Ed) ss = ([], chkS (insS ss p sg)) := by have q := applyF_out (e := (⟨5, role, other, fr, to, m, sn, sd, sg⟩ : Ed)) rfl h24 hok hnm (show ¬ chkS (addS ss sg) = 0 by rw [hadd]; simpa using h39); rw [q]; show (_, chkS (addS ss sg)) = _; rw [hadd]
    exact SX.VC_ret fun α W _ hR hS => ⟨hS.below, (.slice none 0 0), Eq.trans (b := Ending.returned (.tuple #[(.slice none 0 0), .int .i64 ((chkS (insS ss p sg)))])) (by kernel_rfl) (by rw [hfact]), (by rw [hfact]; exact SX.SlRet.nil)⟩
  try simp only [NRM] at h39
  have hfact : applyF (⟨5, role, other, fr, to, m, sn, sd, sg⟩ : Ed) ss = ((insS ss p sg), 0) := by have q := applyF_ok (e := (⟨5, role, other, fr, to, m, sn, sd, sg⟩ : Ed)) rfl h24 hok hnm (show chkS (addS ss sg) = 0 by rw [hadd]; simpa using h39); rw [q]; show (addS ss sg, _) = _; rw [hadd]
  exact SX.VC_ret fun α W _ hR hS => ⟨hS.below, (α 18).h, Eq.trans (b := Ending.returned (.tuple #[(α 18).h, .int .i64 0])) (by kernel_rfl) (by rw [hfact]), SX.SlRet.row hS (n := 18) (b := (⟨[(.x 37 [])], 26, (.row 14)⟩ : SX.Blk)) (by kernel_rfl) rfl (hR 18 _ (by kernel_rfl)) (Eq.trans (b := [Value.agg (sgsL (insS ss p sg)).toArray].flatMap SX.cellsV) (by kernel_rfl) (by rw [hfact]; simp [SX.cellsV]))⟩
theorem applyF_any (ss : List Sg) (A : Option Addr) (n c : Nat) (d : Ed) (w : World) (hr : Rd w 14 A n (sgsL ss)) (hn : n ≤ 9223372036854775807) (hc : n ≤ c) : Calls Try.prog 12 #[.slice A n c, valE d] w fun e w' => Below w.heap.size w w' ∧ ∃ hdr, e = .returned (.tuple #[hdr, .int .i64 (applyF d ss).2]) ∧ SX.SlRet w w' [] hdr 14 (sgsL (applyF d ss).1) := by
  by_cases h : d.kind = 5
  · obtain ⟨k, a1, a2, a3, a4, a5, a6, a7, a8⟩ := d
    obtain rfl : k = 5 := h
    exact e5_any ss A n c a1 a2 a3 a4 a5 a6 a7 a8 w hr hn hc
  have q : applyF d ss = applyE d ss := by unfold applyF; rw [if_neg h]
  rw [q]
  exact apply_any ss A n c d w hr hn hc h
noncomputable def okEB (d : Ed) : Bool := @decide (okE d) (Classical.propDecidable _)
theorem okEB_iff {d : Ed} : okEB d = true ↔ okE d := by unfold okEB; exact @decide_eq_true_iff _ (Classical.propDecidable _)
theorem okE_1 {d : Ed} (h : d.kind = 1) : okE d ↔ roleE d ∧ d = (⟨d.kind, d.role, 0, d.fr, d.to, 0, 0, 0, zeroSg⟩ : Ed) := by
  obtain ⟨k, a1, a2, a3, a4, a5, a6, a7, a8⟩ := d
  obtain rfl : k = 1 := h
  constructor
  · rintro ⟨_, _, h3, h4⟩; exact ⟨h4, h3.symm⟩
  rintro ⟨h3, h4⟩; exact ⟨show (1 : Int) ≤ 1 by decide, show (1 : Int) ≤ 7 by decide, h4.symm, h3⟩
theorem okE_2 {d : Ed} (h : d.kind = 2) : okE d ↔ (roleE d ∧ 1 ≤ d.n ∧ d.n ≤ 7) ∧ d = (⟨d.kind, d.role, 0, d.fr, d.to, d.n, 0, 0, zeroSg⟩ : Ed) := by
  obtain ⟨k, a1, a2, a3, a4, a5, a6, a7, a8⟩ := d
  obtain rfl : k = 2 := h
  constructor
  · rintro ⟨_, _, h3, h4⟩; exact ⟨h4, h3.symm⟩
  rintro ⟨h3, h4⟩; exact ⟨show (1 : Int) ≤ 2 by decide, show (2 : Int) ≤ 7 by decide, h4.symm, h3⟩
theorem okE_3 {d : Ed} (h : d.kind = 3) : okE d ↔ barsE d ∧ d = (⟨d.kind, 0, 0, d.fr, d.to, 0, 0, 0, zeroSg⟩ : Ed) := by
  obtain ⟨k, a1, a2, a3, a4, a5, a6, a7, a8⟩ := d
  obtain rfl : k = 3 := h
  constructor
  · rintro ⟨_, _, h3, h4⟩; exact ⟨h4, h3.symm⟩
  rintro ⟨h3, h4⟩; exact ⟨show (1 : Int) ≤ 3 by decide, show (3 : Int) ≤ 7 by decide, h4.symm, h3⟩
theorem okE_4 {d : Ed} (h : d.kind = 4) : okE d ↔ (0 ≤ d.fr ∧ d.fr ≤ 4095 ∧ 1 ≤ d.n ∧ d.n ≤ 4095) ∧ d = (⟨d.kind, 0, 0, d.fr, 0, d.n, 0, 0, zeroSg⟩ : Ed) := by
  obtain ⟨k, a1, a2, a3, a4, a5, a6, a7, a8⟩ := d
  obtain rfl : k = 4 := h
  constructor
  · rintro ⟨_, _, h3, h4⟩; exact ⟨h4, h3.symm⟩
  rintro ⟨h3, h4⟩; exact ⟨show (1 : Int) ≤ 4 by decide, show (4 : Int) ≤ 7 by decide, h4.symm, h3⟩
theorem okE_5 {d : Ed} (h : d.kind = 5) : okE d ↔ d.sign.ok ∧ d = (⟨d.kind, 0, 0, 0, 0, 0, 0, 0, d.sign⟩ : Ed) := by
  obtain ⟨k, a1, a2, a3, a4, a5, a6, a7, a8⟩ := d
  obtain rfl : k = 5 := h
  constructor
  · rintro ⟨_, _, h3, h4⟩; exact ⟨h4, h3.symm⟩
  rintro ⟨h3, h4⟩; exact ⟨show (1 : Int) ≤ 5 by decide, show (5 : Int) ≤ 7 by decide, h4.symm, h3⟩
theorem okE_6 {d : Ed} (h : d.kind = 6) : okE d ↔ (roleE d ∧ 1 ≤ d.role ∧ 1 ≤ d.other ∧ d.other ≤ 64 ∧ d.role ≠ d.other) ∧ d = (⟨d.kind, d.role, d.other, d.fr, d.to, 0, 0, 0, zeroSg⟩ : Ed) := by
  obtain ⟨k, a1, a2, a3, a4, a5, a6, a7, a8⟩ := d
  obtain rfl : k = 6 := h
  constructor
  · rintro ⟨_, _, h3, h4⟩; exact ⟨h4, h3.symm⟩
  rintro ⟨h3, h4⟩; exact ⟨show (1 : Int) ≤ 6 by decide, show (6 : Int) ≤ 7 by decide, h4.symm, h3⟩
theorem okE_7 {d : Ed} (h : d.kind = 7) : okE d ↔ (roleE d ∧ okR d.sn d.sd ∧ 0 < d.sn ∧ d.sn ≤ d.sd) ∧ d = (⟨d.kind, d.role, 0, d.fr, d.to, 0, d.sn, d.sd, zeroSg⟩ : Ed) := by
  obtain ⟨k, a1, a2, a3, a4, a5, a6, a7, a8⟩ := d
  obtain rfl : k = 7 := h
  constructor
  · rintro ⟨_, _, h3, h4⟩; exact ⟨h4, h3.symm⟩
  rintro ⟨h3, h4⟩; exact ⟨show (1 : Int) ≤ 7 by decide, show (7 : Int) ≤ 7 by decide, h4.symm, h3⟩
def RW00 (f : FuncId) (xs : List SX.Arg) (v : Value) : Prop :=
  (f = 103 ∧ ∃ n d : Int, xs = [⟨.agg #[.int .i64 n, .int .i64 d], 0, []⟩] ∧ v = .bool (decide (okR n d)))
def shpW00 : FuncId → Option SX.Sh := fun f => if f = 103 then some .one else none
noncomputable def cxW00 (K A : Value → Nat → List Value → Prop) : SX.Cx := { P := Try.prog, R := fun _ => RW00, shp := shpW00, K := K, A := A }
theorem okW00 (K A : Value → Nat → List Value → Prop) : (cxW00 K A).Ok := by
  refine SX.Cx.ok_of (fun _ => rfl) ?_
  intro K f xs v W hR hrd hKf
  rcases hR with ⟨rfl, n, d, rfl, rfl⟩
  exact (valid_any n d W).mono fun e w' h => SX.plainOk rfl h
def tree_r12chk : SX.Tree :=
(.df (.call 103 [.no]) [(.a [(.q 0), (.q 1)])] .one
(.df .not [(.q 2)] .one
(.br 3 []
(.ret (.i 120) [] [])
(.ret (.i 0) [] []))))
def args_r12chk : List SX.V := [.a [.x 0 [], .x 1 []]]
set_option maxRecDepth 100000 in
theorem run_r12chk (K A : Value → Nat → List Value → Prop) : (SX.run (cxW00 K A) ⟨fun f => f ≠ 87, [], 0, 100⟩ 100000 0 (SX.door 87 Try.f87 args_r12chk [.one, .one]) [.code (Try.f87.body.getD .skip), .top Try.f87]).strip = tree_r12chk := by kernel_rfl
set_option maxRecDepth 100000 in
set_option maxHeartbeats 4000000 in
theorem r12chk_any (n d : Int) (w : World)  : Calls Try.prog 87 #[.agg #[.int .i64 n, .int .i64 d]] w fun e w' => e = .returned (.int .i64 (if okR n d then 0 else 120)) ∧ Below w.heap.size w w' := by
  refine SX.calls_of_run (C := cxW00 (fun _ _ _ => False) (fun _ _ _ => False)) (G := ⟨fun f => f ≠ 87, [], 0, 100⟩) (args := args_r12chk) (sh := [.one, .one]) (ρ := [.int .i64 n, .int .i64 d]) 100000 tree_r12chk (okW00 _ _) Try.func87 rfl (run_r12chk _ _) (by kernel_rfl) (by kernel_rfl) (by kernel_rfl) ?_ ?_
  · exact fun W _ => SX.Kf_none (fun _ _ _ h => h) W
  unfold tree_r12chk
  refine SX.E (.bool (decide (okR n d))) (fun α => ⟨[⟨.agg #[.int .i64 n, .int .i64 d], 0, []⟩], ⟨by kernel_rfl, by kernel_rfl, trivial⟩, ⟨rfl, _, _, rfl, rfl⟩, SX.noAli rfl⟩) ?_
  refine SX.D (.bool (!(decide (okR n d)))) ?_
  refine SX.B (!(decide (okR n d))) (fun h3 => ?_) (fun h3 => ?_)
  · try simp only [NRM] at h3
    exact SX.F (.int .i64 120) (by congr 1; by_cases q : okR n d <;> simp_all)
  try simp only [NRM] at h3
  exact SX.F (.int .i64 0) (by congr 1; by_cases q : okR n d <;> simp_all)
def RW1 (f : FuncId) (xs : List SX.Arg) (v : Value) : Prop :=
  (f = 86 ∧ ∃ s : Sg, xs = [⟨valSg s, 0, []⟩] ∧ v = .bool (decide s.ok)) ∨
  (f = 87 ∧ ∃ n d : Int, xs = [⟨.agg #[.int .i64 n, .int .i64 d], 0, []⟩] ∧ v = .int .i64 (if okR n d then 0 else 120))
def shpW1 : FuncId → Option SX.Sh := fun f => if f = 86 then some .one else if f = 87 then some .one else none
noncomputable def cxW1 (K A : Value → Nat → List Value → Prop) : SX.Cx := { P := Try.prog, R := fun _ => RW1, shp := shpW1, K := K, A := A, trm := true }
theorem okW1 (K A : Value → Nat → List Value → Prop) : (cxW1 K A).Ok := by
  refine SX.Cx.ok_of (fun _ => rfl) ?_
  intro K f xs v W hR hrd hKf
  rcases hR with ⟨rfl, s, rfl, rfl⟩ | ⟨rfl, n, d, rfl, rfl⟩
  · exact (Form_any s W).mono fun e w' h => SX.plainOk rfl h
  exact (r12chk_any n d W).mono fun e w' h => SX.plainOk rfl h
def tree_redit : SX.Tree :=
(.df (.bin .eql 3) [(.q 0), (.i 1)] .one
(.br 22 []
(.df (.bin .geq 3) [(.q 1), (.i 0)] .one
(.br 23 []
(.df (.bin .leq 3) [(.q 1), (.i 64)] .one
(.br 24 []
(.df (.bin .geq 3) [(.q 3), (.i 0)] .one
(.br 25 []
(.df (.bin .leq 3) [(.q 3), (.q 4)] .one
(.br 26 []
(.df (.bin .leq 3) [(.q 4), (.i 4095)] .one
(.br 27 []
(.df (.eqr false 22 [(.i .i64), (.i .i64), (.i .i64), (.i .i64), (.i .i64), (.i .i64), (.i .i64), (.i .i64), (.i .i64), (.i .i64), (.i .i64), (.i .i64), (.i .i64), (.i .i64), (.i .i64), (.i .i64), (.i .i64), (.i .i64), (.i .i64), (.i .i64), (.i .i64), (.i .i64)]) (SX.Z 0 22 ++ [(.q 0), (.q 1), (.i 0), (.q 3), (.q 4), (.i 0), (.i 0), (.i 0), (.i 0), (.i 0), (.i 0), (.i 0), (.i 0), (.i 0), (.i 0), (.i 0), (.i 0), (.i 0), (.i 0), (.i 0), (.i 0), (.i 0)]) .one
(.ret (.q 28) [] []))
(.ret (.k (.bool false)) [] [])))
(.ret (.k (.bool false)) [] [])))
(.ret (.k (.bool false)) [] [])))
(.ret (.k (.bool false)) [] [])))
(.ret (.k (.bool false)) [] [])))
(.df (.bin .eql 3) [(.q 0), (.i 2)] .one
(.br 23 []
(.df (.bin .geq 3) [(.q 1), (.i 0)] .one
(.br 24 []
(.df (.bin .leq 3) [(.q 1), (.i 64)] .one
(.br 25 []
(.df (.bin .geq 3) [(.q 3), (.i 0)] .one
(.br 26 []
(.df (.bin .leq 3) [(.q 3), (.q 4)] .one
(.br 27 []
(.df (.bin .leq 3) [(.q 4), (.i 4095)] .one
(.br 28 []
(.df (.bin .geq 3) [(.q 5), (.i 1)] .one
(.br 29 []
(.df (.bin .leq 3) [(.q 5), (.i 7)] .one
(.br 30 []
(.df (.eqr false 22 [(.i .i64), (.i .i64), (.i .i64), (.i .i64), (.i .i64), (.i .i64), (.i .i64), (.i .i64), (.i .i64), (.i .i64), (.i .i64), (.i .i64), (.i .i64), (.i .i64), (.i .i64), (.i .i64), (.i .i64), (.i .i64), (.i .i64), (.i .i64), (.i .i64), (.i .i64)]) (SX.Z 0 22 ++ [(.q 0), (.q 1), (.i 0)] ++ SX.Z 3 3 ++ [(.i 0), (.i 0), (.i 0), (.i 0), (.i 0), (.i 0), (.i 0), (.i 0), (.i 0), (.i 0), (.i 0), (.i 0), (.i 0), (.i 0), (.i 0), (.i 0)]) .one
(.ret (.q 31) [] []))
(.ret (.k (.bool false)) [] [])))
(.ret (.k (.bool false)) [] [])))
(.ret (.k (.bool false)) [] [])))
(.ret (.k (.bool false)) [] [])))
(.ret (.k (.bool false)) [] [])))
(.ret (.k (.bool false)) [] [])))
(.ret (.k (.bool false)) [] [])))
(.df (.bin .eql 3) [(.q 0), (.i 3)] .one
(.br 24 []
(.df (.bin .geq 3) [(.q 3), (.i 0)] .one
(.br 25 []
(.df (.bin .leq 3) [(.q 3), (.q 4)] .one
(.br 26 []
(.df (.bin .leq 3) [(.q 4), (.i 4095)] .one
(.br 27 []
(.df (.eqr false 22 [(.i .i64), (.i .i64), (.i .i64), (.i .i64), (.i .i64), (.i .i64), (.i .i64), (.i .i64), (.i .i64), (.i .i64), (.i .i64), (.i .i64), (.i .i64), (.i .i64), (.i .i64), (.i .i64), (.i .i64), (.i .i64), (.i .i64), (.i .i64), (.i .i64), (.i .i64)]) (SX.Z 0 22 ++ [(.q 0), (.i 0), (.i 0), (.q 3), (.q 4), (.i 0), (.i 0), (.i 0), (.i 0), (.i 0), (.i 0), (.i 0), (.i 0), (.i 0), (.i 0), (.i 0), (.i 0), (.i 0), (.i 0), (.i 0), (.i 0), (.i 0)]) .one
(.ret (.q 28) [] []))
(.ret (.k (.bool false)) [] [])))
(.ret (.k (.bool false)) [] [])))
(.ret (.k (.bool false)) [] [])))
(.df (.bin .eql 3) [(.q 0), (.i 4)] .one
(.br 25 []
(.df (.bin .geq 3) [(.q 3), (.i 0)] .one
(.br 26 []
(.df (.bin .leq 3) [(.q 3), (.i 4095)] .one
(.br 27 []
(.df (.bin .geq 3) [(.q 5), (.i 1)] .one
(.br 28 []
(.df (.bin .leq 3) [(.q 5), (.i 4095)] .one
(.br 29 []
(.df (.eqr false 22 [(.i .i64), (.i .i64), (.i .i64), (.i .i64), (.i .i64), (.i .i64), (.i .i64), (.i .i64), (.i .i64), (.i .i64), (.i .i64), (.i .i64), (.i .i64), (.i .i64), (.i .i64), (.i .i64), (.i .i64), (.i .i64), (.i .i64), (.i .i64), (.i .i64), (.i .i64)]) (SX.Z 0 22 ++ [(.q 0), (.i 0), (.i 0), (.q 3), (.i 0), (.q 5), (.i 0), (.i 0), (.i 0), (.i 0), (.i 0), (.i 0), (.i 0), (.i 0), (.i 0), (.i 0), (.i 0), (.i 0), (.i 0), (.i 0), (.i 0), (.i 0)]) .one
(.ret (.q 30) [] []))
(.ret (.k (.bool false)) [] [])))
(.ret (.k (.bool false)) [] [])))
(.ret (.k (.bool false)) [] [])))
(.ret (.k (.bool false)) [] [])))
(.df (.bin .eql 3) [(.q 0), (.i 5)] .one
(.br 26 []
(.df (.call 86 [.no]) [(.a (SX.Z 8 14))] .one
(.br 27 []
(.df (.eqr false 22 [(.i .i64), (.i .i64), (.i .i64), (.i .i64), (.i .i64), (.i .i64), (.i .i64), (.i .i64), (.i .i64), (.i .i64), (.i .i64), (.i .i64), (.i .i64), (.i .i64), (.i .i64), (.i .i64), (.i .i64), (.i .i64), (.i .i64), (.i .i64), (.i .i64), (.i .i64)]) (SX.Z 0 22 ++ [(.q 0), (.i 0), (.i 0), (.i 0), (.i 0), (.i 0), (.i 0), (.i 0)] ++ SX.Z 8 14) .one
(.ret (.q 28) [] []))
(.ret (.k (.bool false)) [] [])))
(.df (.bin .eql 3) [(.q 0), (.i 6)] .one
(.br 27 []
(.df (.bin .geq 3) [(.q 1), (.i 1)] .one
(.br 28 []
(.df (.bin .leq 3) [(.q 1), (.i 64)] .one
(.br 29 []
(.df (.bin .geq 3) [(.q 2), (.i 1)] .one
(.br 30 []
(.df (.bin .leq 3) [(.q 2), (.i 64)] .one
(.br 31 []
(.df (.bin .neq 3) [(.q 1), (.q 2)] .one
(.br 32 []
(.df (.bin .geq 3) [(.q 3), (.i 0)] .one
(.br 33 []
(.df (.bin .leq 3) [(.q 3), (.q 4)] .one
(.br 34 []
(.df (.bin .leq 3) [(.q 4), (.i 4095)] .one
(.br 35 []
(.df (.eqr false 22 [(.i .i64), (.i .i64), (.i .i64), (.i .i64), (.i .i64), (.i .i64), (.i .i64), (.i .i64), (.i .i64), (.i .i64), (.i .i64), (.i .i64), (.i .i64), (.i .i64), (.i .i64), (.i .i64), (.i .i64), (.i .i64), (.i .i64), (.i .i64), (.i .i64), (.i .i64)]) (SX.Z 0 22 ++ SX.Z 0 5 ++ [(.i 0), (.i 0), (.i 0), (.i 0), (.i 0), (.i 0), (.i 0), (.i 0), (.i 0), (.i 0), (.i 0), (.i 0), (.i 0), (.i 0), (.i 0), (.i 0), (.i 0)]) .one
(.ret (.q 36) [] []))
(.ret (.k (.bool false)) [] [])))
(.ret (.k (.bool false)) [] [])))
(.ret (.k (.bool false)) [] [])))
(.ret (.k (.bool false)) [] [])))
(.ret (.k (.bool false)) [] [])))
(.ret (.k (.bool false)) [] [])))
(.ret (.k (.bool false)) [] [])))
(.ret (.k (.bool false)) [] [])))
(.df (.bin .eql 3) [(.q 0), (.i 7)] .one
(.br 28 []
(.df (.bin .geq 3) [(.q 1), (.i 0)] .one
(.br 29 []
(.df (.bin .leq 3) [(.q 1), (.i 64)] .one
(.br 30 []
(.df (.bin .geq 3) [(.q 3), (.i 0)] .one
(.br 31 []
(.df (.bin .leq 3) [(.q 3), (.q 4)] .one
(.br 32 []
(.df (.bin .leq 3) [(.q 4), (.i 4095)] .one
(.br 33 []
(.df (.call 87 [.no]) [(.a [(.q 6), (.q 7)])] .one
(.df (.bin .eql 31) [(.q 34), (.i 0)] .one
(.br 35 []
(.df (.bin .gtr 3) [(.q 6), (.i 0)] .one
(.br 36 []
(.df (.bin .leq 3) [(.q 6), (.q 7)] .one
(.br 37 []
(.df (.eqr false 22 [(.i .i64), (.i .i64), (.i .i64), (.i .i64), (.i .i64), (.i .i64), (.i .i64), (.i .i64), (.i .i64), (.i .i64), (.i .i64), (.i .i64), (.i .i64), (.i .i64), (.i .i64), (.i .i64), (.i .i64), (.i .i64), (.i .i64), (.i .i64), (.i .i64), (.i .i64)]) (SX.Z 0 22 ++ [(.q 0), (.q 1), (.i 0), (.q 3), (.q 4), (.i 0), (.q 6), (.q 7), (.i 0), (.i 0), (.i 0), (.i 0), (.i 0), (.i 0), (.i 0), (.i 0), (.i 0), (.i 0), (.i 0), (.i 0), (.i 0), (.i 0)]) .one
(.ret (.q 38) [] []))
(.ret (.k (.bool false)) [] [])))
(.ret (.k (.bool false)) [] [])))
(.ret (.k (.bool false)) [] []))))
(.ret (.k (.bool false)) [] [])))
(.ret (.k (.bool false)) [] [])))
(.ret (.k (.bool false)) [] [])))
(.ret (.k (.bool false)) [] [])))
(.ret (.k (.bool false)) [] [])))
(.ret (.k (.bool false)) [] [])))))))))))))))
def args_redit : List SX.V := [.a ((List.range 22).map fun j => .x j [])]
set_option maxRecDepth 100000 in
theorem run_redit (K A : Value → Nat → List Value → Prop) : (SX.run (cxW1 K A) ⟨fun f => true, [], 0, 100⟩ 100000 0 (SX.door 34 Try.f34 args_redit (List.replicate 22 .one)) [.code (Try.f34.body.getD .skip), .top Try.f34]).strip = tree_redit := by kernel_rfl
set_option maxRecDepth 100000 in
set_option maxHeartbeats 4000000 in
theorem redit_any (d : Ed) (w : World)  : Calls Try.prog 34 #[valE d] w fun e w' => e = .returned (.bool (okEB d)) ∧ Below w.heap.size w w' := by
  refine SX.calls_of_run (C := cxW1 (fun _ _ _ => False) (fun _ _ _ => False)) (G := ⟨fun f => true, [], 0, 100⟩) (args := args_redit) (sh := (List.replicate 22 .one)) (ρ := (cellsE d)) 100000 tree_redit (okW1 _ _) Try.func34 rfl (run_redit _ _) (by kernel_rfl) (by kernel_rfl) (by kernel_rfl) ?_ ?_
  · exact fun W _ => SX.Kf_none (fun _ _ _ h => h) W
  unfold tree_redit
  refine SX.D (.bool ((d.kind : Int) == 1)) ?_
  refine SX.B ((d.kind : Int) == 1) (fun h22 => ?_) (fun h22 => ?_)
  · try simp only [NRM] at h22
    refine SX.D (.bool (decide (d.role ≥ 0))) ?_
    refine SX.B (decide (d.role ≥ 0)) (fun h23 => ?_) (fun h23 => ?_)
    · try simp only [NRM] at h23
      refine SX.D (.bool (decide (d.role ≤ 64))) ?_
      refine SX.B (decide (d.role ≤ 64)) (fun h24 => ?_) (fun h24 => ?_)
      · try simp only [NRM] at h24
        refine SX.D (.bool (decide (d.fr ≥ 0))) ?_
        refine SX.B (decide (d.fr ≥ 0)) (fun h25 => ?_) (fun h25 => ?_)
        · try simp only [NRM] at h25
          refine SX.D (.bool (decide (d.fr ≤ d.to))) ?_
          refine SX.B (decide (d.fr ≤ d.to)) (fun h26 => ?_) (fun h26 => ?_)
          · try simp only [NRM] at h26
            refine SX.D (.bool (decide (d.to ≤ 4095))) ?_
            refine SX.B (decide (d.to ≤ 4095)) (fun h27 => ?_) (fun h27 => ?_)
            · try simp only [NRM] at h27
              refine SX.E (.bool (false ^^ decide (d = (⟨d.kind, d.role, 0, d.fr, d.to, 0, 0, 0, zeroSg⟩ : Ed)))) (fun α => SX.eqr_rel (f := cellsE) cellsE_inj (y := d) (z := (⟨d.kind, d.role, 0, d.fr, d.to, 0, 0, 0, zeroSg⟩ : Ed)) (by kernel_rfl) (by kernel_rfl) (by kernel_rfl)) ?_
              exact SX.F (.bool (false ^^ decide (d = (⟨d.kind, d.role, 0, d.fr, d.to, 0, 0, 0, zeroSg⟩ : Ed)))) (by congr 1; rw [Bool.eq_iff_iff, okEB_iff, okE_1 (show d.kind = 1 by omega)]; simp only [Bool.false_xor, decide_eq_true_eq]; exact ⟨fun q => ⟨by (try simp only [roleE, barsE]); omega, q⟩, fun q => q.2⟩)
            try simp only [NRM] at h27
            exact SX.F (.bool false) (by congr 1; rw [Bool.eq_iff_iff, okEB_iff, okE_1 (show d.kind = 1 by omega)]; simp only [Bool.false_eq_true, false_iff]; exact fun q => absurd q.1 (by rintro q; (try simp only [roleE, barsE] at q); omega))
          try simp only [NRM] at h26
          exact SX.F (.bool false) (by congr 1; rw [Bool.eq_iff_iff, okEB_iff, okE_1 (show d.kind = 1 by omega)]; simp only [Bool.false_eq_true, false_iff]; exact fun q => absurd q.1 (by rintro q; (try simp only [roleE, barsE] at q); omega))
        try simp only [NRM] at h25
        exact SX.F (.bool false) (by congr 1; rw [Bool.eq_iff_iff, okEB_iff, okE_1 (show d.kind = 1 by omega)]; simp only [Bool.false_eq_true, false_iff]; exact fun q => absurd q.1 (by rintro q; (try simp only [roleE, barsE] at q); omega))
      try simp only [NRM] at h24
      exact SX.F (.bool false) (by congr 1; rw [Bool.eq_iff_iff, okEB_iff, okE_1 (show d.kind = 1 by omega)]; simp only [Bool.false_eq_true, false_iff]; exact fun q => absurd q.1 (by rintro q; (try simp only [roleE, barsE] at q); omega))
    try simp only [NRM] at h23
    exact SX.F (.bool false) (by congr 1; rw [Bool.eq_iff_iff, okEB_iff, okE_1 (show d.kind = 1 by omega)]; simp only [Bool.false_eq_true, false_iff]; exact fun q => absurd q.1 (by rintro q; (try simp only [roleE, barsE] at q); omega))
  try simp only [NRM] at h22
  refine SX.D (.bool ((d.kind : Int) == 2)) ?_
  refine SX.B ((d.kind : Int) == 2) (fun h23 => ?_) (fun h23 => ?_)
  · try simp only [NRM] at h23
    refine SX.D (.bool (decide (d.role ≥ 0))) ?_
    refine SX.B (decide (d.role ≥ 0)) (fun h24 => ?_) (fun h24 => ?_)
    · try simp only [NRM] at h24
      refine SX.D (.bool (decide (d.role ≤ 64))) ?_
      refine SX.B (decide (d.role ≤ 64)) (fun h25 => ?_) (fun h25 => ?_)
      · try simp only [NRM] at h25
        refine SX.D (.bool (decide (d.fr ≥ 0))) ?_
        refine SX.B (decide (d.fr ≥ 0)) (fun h26 => ?_) (fun h26 => ?_)
        · try simp only [NRM] at h26
          refine SX.D (.bool (decide (d.fr ≤ d.to))) ?_
          refine SX.B (decide (d.fr ≤ d.to)) (fun h27 => ?_) (fun h27 => ?_)
          · try simp only [NRM] at h27
            refine SX.D (.bool (decide (d.to ≤ 4095))) ?_
            refine SX.B (decide (d.to ≤ 4095)) (fun h28 => ?_) (fun h28 => ?_)
            · try simp only [NRM] at h28
              refine SX.D (.bool (decide (d.n ≥ 1))) ?_
              refine SX.B (decide (d.n ≥ 1)) (fun h29 => ?_) (fun h29 => ?_)
              · try simp only [NRM] at h29
                refine SX.D (.bool (decide (d.n ≤ 7))) ?_
                refine SX.B (decide (d.n ≤ 7)) (fun h30 => ?_) (fun h30 => ?_)
                · try simp only [NRM] at h30
                  refine SX.E (.bool (false ^^ decide (d = (⟨d.kind, d.role, 0, d.fr, d.to, d.n, 0, 0, zeroSg⟩ : Ed)))) (fun α => SX.eqr_rel (f := cellsE) cellsE_inj (y := d) (z := (⟨d.kind, d.role, 0, d.fr, d.to, d.n, 0, 0, zeroSg⟩ : Ed)) (by kernel_rfl) (by kernel_rfl) (by kernel_rfl)) ?_
                  exact SX.F (.bool (false ^^ decide (d = (⟨d.kind, d.role, 0, d.fr, d.to, d.n, 0, 0, zeroSg⟩ : Ed)))) (by congr 1; rw [Bool.eq_iff_iff, okEB_iff, okE_2 (show d.kind = 2 by omega)]; simp only [Bool.false_xor, decide_eq_true_eq]; exact ⟨fun q => ⟨by (try simp only [roleE, barsE]); omega, q⟩, fun q => q.2⟩)
                try simp only [NRM] at h30
                exact SX.F (.bool false) (by congr 1; rw [Bool.eq_iff_iff, okEB_iff, okE_2 (show d.kind = 2 by omega)]; simp only [Bool.false_eq_true, false_iff]; exact fun q => absurd q.1 (by rintro q; (try simp only [roleE, barsE] at q); omega))
              try simp only [NRM] at h29
              exact SX.F (.bool false) (by congr 1; rw [Bool.eq_iff_iff, okEB_iff, okE_2 (show d.kind = 2 by omega)]; simp only [Bool.false_eq_true, false_iff]; exact fun q => absurd q.1 (by rintro q; (try simp only [roleE, barsE] at q); omega))
            try simp only [NRM] at h28
            exact SX.F (.bool false) (by congr 1; rw [Bool.eq_iff_iff, okEB_iff, okE_2 (show d.kind = 2 by omega)]; simp only [Bool.false_eq_true, false_iff]; exact fun q => absurd q.1 (by rintro q; (try simp only [roleE, barsE] at q); omega))
          try simp only [NRM] at h27
          exact SX.F (.bool false) (by congr 1; rw [Bool.eq_iff_iff, okEB_iff, okE_2 (show d.kind = 2 by omega)]; simp only [Bool.false_eq_true, false_iff]; exact fun q => absurd q.1 (by rintro q; (try simp only [roleE, barsE] at q); omega))
        try simp only [NRM] at h26
        exact SX.F (.bool false) (by congr 1; rw [Bool.eq_iff_iff, okEB_iff, okE_2 (show d.kind = 2 by omega)]; simp only [Bool.false_eq_true, false_iff]; exact fun q => absurd q.1 (by rintro q; (try simp only [roleE, barsE] at q); omega))
      try simp only [NRM] at h25
      exact SX.F (.bool false) (by congr 1; rw [Bool.eq_iff_iff, okEB_iff, okE_2 (show d.kind = 2 by omega)]; simp only [Bool.false_eq_true, false_iff]; exact fun q => absurd q.1 (by rintro q; (try simp only [roleE, barsE] at q); omega))
    try simp only [NRM] at h24
    exact SX.F (.bool false) (by congr 1; rw [Bool.eq_iff_iff, okEB_iff, okE_2 (show d.kind = 2 by omega)]; simp only [Bool.false_eq_true, false_iff]; exact fun q => absurd q.1 (by rintro q; (try simp only [roleE, barsE] at q); omega))
  try simp only [NRM] at h23
  refine SX.D (.bool ((d.kind : Int) == 3)) ?_
  refine SX.B ((d.kind : Int) == 3) (fun h24 => ?_) (fun h24 => ?_)
  · try simp only [NRM] at h24
    refine SX.D (.bool (decide (d.fr ≥ 0))) ?_
    refine SX.B (decide (d.fr ≥ 0)) (fun h25 => ?_) (fun h25 => ?_)
    · try simp only [NRM] at h25
      refine SX.D (.bool (decide (d.fr ≤ d.to))) ?_
      refine SX.B (decide (d.fr ≤ d.to)) (fun h26 => ?_) (fun h26 => ?_)
      · try simp only [NRM] at h26
        refine SX.D (.bool (decide (d.to ≤ 4095))) ?_
        refine SX.B (decide (d.to ≤ 4095)) (fun h27 => ?_) (fun h27 => ?_)
        · try simp only [NRM] at h27
          refine SX.E (.bool (false ^^ decide (d = (⟨d.kind, 0, 0, d.fr, d.to, 0, 0, 0, zeroSg⟩ : Ed)))) (fun α => SX.eqr_rel (f := cellsE) cellsE_inj (y := d) (z := (⟨d.kind, 0, 0, d.fr, d.to, 0, 0, 0, zeroSg⟩ : Ed)) (by kernel_rfl) (by kernel_rfl) (by kernel_rfl)) ?_
          exact SX.F (.bool (false ^^ decide (d = (⟨d.kind, 0, 0, d.fr, d.to, 0, 0, 0, zeroSg⟩ : Ed)))) (by congr 1; rw [Bool.eq_iff_iff, okEB_iff, okE_3 (show d.kind = 3 by omega)]; simp only [Bool.false_xor, decide_eq_true_eq]; exact ⟨fun q => ⟨by (try simp only [roleE, barsE]); omega, q⟩, fun q => q.2⟩)
        try simp only [NRM] at h27
        exact SX.F (.bool false) (by congr 1; rw [Bool.eq_iff_iff, okEB_iff, okE_3 (show d.kind = 3 by omega)]; simp only [Bool.false_eq_true, false_iff]; exact fun q => absurd q.1 (by rintro q; (try simp only [roleE, barsE] at q); omega))
      try simp only [NRM] at h26
      exact SX.F (.bool false) (by congr 1; rw [Bool.eq_iff_iff, okEB_iff, okE_3 (show d.kind = 3 by omega)]; simp only [Bool.false_eq_true, false_iff]; exact fun q => absurd q.1 (by rintro q; (try simp only [roleE, barsE] at q); omega))
    try simp only [NRM] at h25
    exact SX.F (.bool false) (by congr 1; rw [Bool.eq_iff_iff, okEB_iff, okE_3 (show d.kind = 3 by omega)]; simp only [Bool.false_eq_true, false_iff]; exact fun q => absurd q.1 (by rintro q; (try simp only [roleE, barsE] at q); omega))
  try simp only [NRM] at h24
  refine SX.D (.bool ((d.kind : Int) == 4)) ?_
  refine SX.B ((d.kind : Int) == 4) (fun h25 => ?_) (fun h25 => ?_)
  · try simp only [NRM] at h25
    refine SX.D (.bool (decide (d.fr ≥ 0))) ?_
    refine SX.B (decide (d.fr ≥ 0)) (fun h26 => ?_) (fun h26 => ?_)
    · try simp only [NRM] at h26
      refine SX.D (.bool (decide (d.fr ≤ 4095))) ?_
      refine SX.B (decide (d.fr ≤ 4095)) (fun h27 => ?_) (fun h27 => ?_)
      · try simp only [NRM] at h27
        refine SX.D (.bool (decide (d.n ≥ 1))) ?_
        refine SX.B (decide (d.n ≥ 1)) (fun h28 => ?_) (fun h28 => ?_)
        · try simp only [NRM] at h28
          refine SX.D (.bool (decide (d.n ≤ 4095))) ?_
          refine SX.B (decide (d.n ≤ 4095)) (fun h29 => ?_) (fun h29 => ?_)
          · try simp only [NRM] at h29
            refine SX.E (.bool (false ^^ decide (d = (⟨d.kind, 0, 0, d.fr, 0, d.n, 0, 0, zeroSg⟩ : Ed)))) (fun α => SX.eqr_rel (f := cellsE) cellsE_inj (y := d) (z := (⟨d.kind, 0, 0, d.fr, 0, d.n, 0, 0, zeroSg⟩ : Ed)) (by kernel_rfl) (by kernel_rfl) (by kernel_rfl)) ?_
            exact SX.F (.bool (false ^^ decide (d = (⟨d.kind, 0, 0, d.fr, 0, d.n, 0, 0, zeroSg⟩ : Ed)))) (by congr 1; rw [Bool.eq_iff_iff, okEB_iff, okE_4 (show d.kind = 4 by omega)]; simp only [Bool.false_xor, decide_eq_true_eq]; exact ⟨fun q => ⟨by (try simp only [roleE, barsE]); omega, q⟩, fun q => q.2⟩)
          try simp only [NRM] at h29
          exact SX.F (.bool false) (by congr 1; rw [Bool.eq_iff_iff, okEB_iff, okE_4 (show d.kind = 4 by omega)]; simp only [Bool.false_eq_true, false_iff]; exact fun q => absurd q.1 (by rintro q; (try simp only [roleE, barsE] at q); omega))
        try simp only [NRM] at h28
        exact SX.F (.bool false) (by congr 1; rw [Bool.eq_iff_iff, okEB_iff, okE_4 (show d.kind = 4 by omega)]; simp only [Bool.false_eq_true, false_iff]; exact fun q => absurd q.1 (by rintro q; (try simp only [roleE, barsE] at q); omega))
      try simp only [NRM] at h27
      exact SX.F (.bool false) (by congr 1; rw [Bool.eq_iff_iff, okEB_iff, okE_4 (show d.kind = 4 by omega)]; simp only [Bool.false_eq_true, false_iff]; exact fun q => absurd q.1 (by rintro q; (try simp only [roleE, barsE] at q); omega))
    try simp only [NRM] at h26
    exact SX.F (.bool false) (by congr 1; rw [Bool.eq_iff_iff, okEB_iff, okE_4 (show d.kind = 4 by omega)]; simp only [Bool.false_eq_true, false_iff]; exact fun q => absurd q.1 (by rintro q; (try simp only [roleE, barsE] at q); omega))
  try simp only [NRM] at h25
  refine SX.D (.bool ((d.kind : Int) == 5)) ?_
  refine SX.B ((d.kind : Int) == 5) (fun h26 => ?_) (fun h26 => ?_)
  · try simp only [NRM] at h26
    refine SX.E (.bool (decide d.sign.ok)) (fun α => ⟨[⟨valSg d.sign, 0, []⟩], ⟨by kernel_rfl, by kernel_rfl, trivial⟩, .inl ⟨rfl, _, rfl, rfl⟩, SX.noAli rfl⟩) ?_
    refine SX.B (decide d.sign.ok) (fun h27 => ?_) (fun h27 => ?_)
    · try simp only [NRM] at h27
      refine SX.E (.bool (false ^^ decide (d = (⟨d.kind, 0, 0, 0, 0, 0, 0, 0, d.sign⟩ : Ed)))) (fun α => SX.eqr_rel (f := cellsE) cellsE_inj (y := d) (z := (⟨d.kind, 0, 0, 0, 0, 0, 0, 0, d.sign⟩ : Ed)) (by kernel_rfl) (by kernel_rfl) (by kernel_rfl)) ?_
      exact SX.F (.bool (false ^^ decide (d = (⟨d.kind, 0, 0, 0, 0, 0, 0, 0, d.sign⟩ : Ed)))) (by congr 1; rw [Bool.eq_iff_iff, okEB_iff, okE_5 (show d.kind = 5 by omega)]; simp only [Bool.false_xor, decide_eq_true_eq]; exact ⟨fun q => ⟨by simpa using h27, q⟩, fun q => q.2⟩)
    try simp only [NRM] at h27
    exact SX.F (.bool false) (by congr 1; rw [Bool.eq_iff_iff, okEB_iff, okE_5 (show d.kind = 5 by omega)]; simp only [Bool.false_eq_true, false_iff]; exact fun q => absurd q.1 (by simpa using h27))
  try simp only [NRM] at h26
  refine SX.D (.bool ((d.kind : Int) == 6)) ?_
  refine SX.B ((d.kind : Int) == 6) (fun h27 => ?_) (fun h27 => ?_)
  · try simp only [NRM] at h27
    refine SX.D (.bool (decide (d.role ≥ 1))) ?_
    refine SX.B (decide (d.role ≥ 1)) (fun h28 => ?_) (fun h28 => ?_)
    · try simp only [NRM] at h28
      refine SX.D (.bool (decide (d.role ≤ 64))) ?_
      refine SX.B (decide (d.role ≤ 64)) (fun h29 => ?_) (fun h29 => ?_)
      · try simp only [NRM] at h29
        refine SX.D (.bool (decide (d.other ≥ 1))) ?_
        refine SX.B (decide (d.other ≥ 1)) (fun h30 => ?_) (fun h30 => ?_)
        · try simp only [NRM] at h30
          refine SX.D (.bool (decide (d.other ≤ 64))) ?_
          refine SX.B (decide (d.other ≤ 64)) (fun h31 => ?_) (fun h31 => ?_)
          · try simp only [NRM] at h31
            refine SX.D (.bool ((d.role : Int) != d.other)) ?_
            refine SX.B ((d.role : Int) != d.other) (fun h32 => ?_) (fun h32 => ?_)
            · try simp only [NRM] at h32
              refine SX.D (.bool (decide (d.fr ≥ 0))) ?_
              refine SX.B (decide (d.fr ≥ 0)) (fun h33 => ?_) (fun h33 => ?_)
              · try simp only [NRM] at h33
                refine SX.D (.bool (decide (d.fr ≤ d.to))) ?_
                refine SX.B (decide (d.fr ≤ d.to)) (fun h34 => ?_) (fun h34 => ?_)
                · try simp only [NRM] at h34
                  refine SX.D (.bool (decide (d.to ≤ 4095))) ?_
                  refine SX.B (decide (d.to ≤ 4095)) (fun h35 => ?_) (fun h35 => ?_)
                  · try simp only [NRM] at h35
                    refine SX.E (.bool (false ^^ decide (d = (⟨d.kind, d.role, d.other, d.fr, d.to, 0, 0, 0, zeroSg⟩ : Ed)))) (fun α => SX.eqr_rel (f := cellsE) cellsE_inj (y := d) (z := (⟨d.kind, d.role, d.other, d.fr, d.to, 0, 0, 0, zeroSg⟩ : Ed)) (by kernel_rfl) (by kernel_rfl) (by kernel_rfl)) ?_
                    exact SX.F (.bool (false ^^ decide (d = (⟨d.kind, d.role, d.other, d.fr, d.to, 0, 0, 0, zeroSg⟩ : Ed)))) (by congr 1; rw [Bool.eq_iff_iff, okEB_iff, okE_6 (show d.kind = 6 by omega)]; simp only [Bool.false_xor, decide_eq_true_eq]; exact ⟨fun q => ⟨by (try simp only [roleE, barsE]); omega, q⟩, fun q => q.2⟩)
                  try simp only [NRM] at h35
                  exact SX.F (.bool false) (by congr 1; rw [Bool.eq_iff_iff, okEB_iff, okE_6 (show d.kind = 6 by omega)]; simp only [Bool.false_eq_true, false_iff]; exact fun q => absurd q.1 (by rintro q; (try simp only [roleE, barsE] at q); omega))
                try simp only [NRM] at h34
                exact SX.F (.bool false) (by congr 1; rw [Bool.eq_iff_iff, okEB_iff, okE_6 (show d.kind = 6 by omega)]; simp only [Bool.false_eq_true, false_iff]; exact fun q => absurd q.1 (by rintro q; (try simp only [roleE, barsE] at q); omega))
              try simp only [NRM] at h33
              exact SX.F (.bool false) (by congr 1; rw [Bool.eq_iff_iff, okEB_iff, okE_6 (show d.kind = 6 by omega)]; simp only [Bool.false_eq_true, false_iff]; exact fun q => absurd q.1 (by rintro q; (try simp only [roleE, barsE] at q); omega))
            try simp only [NRM] at h32
            exact SX.F (.bool false) (by congr 1; rw [Bool.eq_iff_iff, okEB_iff, okE_6 (show d.kind = 6 by omega)]; simp only [Bool.false_eq_true, false_iff]; exact fun q => absurd q.1 (by rintro q; (try simp only [roleE, barsE] at q); omega))
          try simp only [NRM] at h31
          exact SX.F (.bool false) (by congr 1; rw [Bool.eq_iff_iff, okEB_iff, okE_6 (show d.kind = 6 by omega)]; simp only [Bool.false_eq_true, false_iff]; exact fun q => absurd q.1 (by rintro q; (try simp only [roleE, barsE] at q); omega))
        try simp only [NRM] at h30
        exact SX.F (.bool false) (by congr 1; rw [Bool.eq_iff_iff, okEB_iff, okE_6 (show d.kind = 6 by omega)]; simp only [Bool.false_eq_true, false_iff]; exact fun q => absurd q.1 (by rintro q; (try simp only [roleE, barsE] at q); omega))
      try simp only [NRM] at h29
      exact SX.F (.bool false) (by congr 1; rw [Bool.eq_iff_iff, okEB_iff, okE_6 (show d.kind = 6 by omega)]; simp only [Bool.false_eq_true, false_iff]; exact fun q => absurd q.1 (by rintro q; (try simp only [roleE, barsE] at q); omega))
    try simp only [NRM] at h28
    exact SX.F (.bool false) (by congr 1; rw [Bool.eq_iff_iff, okEB_iff, okE_6 (show d.kind = 6 by omega)]; simp only [Bool.false_eq_true, false_iff]; exact fun q => absurd q.1 (by rintro q; (try simp only [roleE, barsE] at q); omega))
  try simp only [NRM] at h27
  refine SX.D (.bool ((d.kind : Int) == 7)) ?_
  refine SX.B ((d.kind : Int) == 7) (fun h28 => ?_) (fun h28 => ?_)
  · try simp only [NRM] at h28
    refine SX.D (.bool (decide (d.role ≥ 0))) ?_
    refine SX.B (decide (d.role ≥ 0)) (fun h29 => ?_) (fun h29 => ?_)
    · try simp only [NRM] at h29
      refine SX.D (.bool (decide (d.role ≤ 64))) ?_
      refine SX.B (decide (d.role ≤ 64)) (fun h30 => ?_) (fun h30 => ?_)
      · try simp only [NRM] at h30
        refine SX.D (.bool (decide (d.fr ≥ 0))) ?_
        refine SX.B (decide (d.fr ≥ 0)) (fun h31 => ?_) (fun h31 => ?_)
        · try simp only [NRM] at h31
          refine SX.D (.bool (decide (d.fr ≤ d.to))) ?_
          refine SX.B (decide (d.fr ≤ d.to)) (fun h32 => ?_) (fun h32 => ?_)
          · try simp only [NRM] at h32
            refine SX.D (.bool (decide (d.to ≤ 4095))) ?_
            refine SX.B (decide (d.to ≤ 4095)) (fun h33 => ?_) (fun h33 => ?_)
            · try simp only [NRM] at h33
              refine SX.E (.int .i64 ((if okR d.sn d.sd then 0 else 120))) (fun α => ⟨[⟨.agg #[.int .i64 d.sn, .int .i64 d.sd], 0, []⟩], ⟨by kernel_rfl, by kernel_rfl, trivial⟩, .inr (⟨rfl, _, _, rfl, rfl⟩), SX.noAli rfl⟩) ?_
              refine SX.D (.bool (((if okR d.sn d.sd then 0 else 120) : Int) == 0)) ?_
              refine SX.B (((if okR d.sn d.sd then 0 else 120) : Int) == 0) (fun h35 => ?_) (fun h35 => ?_)
              · try simp only [NRM] at h35
                refine SX.D (.bool (decide (d.sn > 0))) ?_
                refine SX.B (decide (d.sn > 0)) (fun h36 => ?_) (fun h36 => ?_)
                · try simp only [NRM] at h36
                  refine SX.D (.bool (decide (d.sn ≤ d.sd))) ?_
                  refine SX.B (decide (d.sn ≤ d.sd)) (fun h37 => ?_) (fun h37 => ?_)
                  · try simp only [NRM] at h37
                    refine SX.E (.bool (false ^^ decide (d = (⟨d.kind, d.role, 0, d.fr, d.to, 0, d.sn, d.sd, zeroSg⟩ : Ed)))) (fun α => SX.eqr_rel (f := cellsE) cellsE_inj (y := d) (z := (⟨d.kind, d.role, 0, d.fr, d.to, 0, d.sn, d.sd, zeroSg⟩ : Ed)) (by kernel_rfl) (by kernel_rfl) (by kernel_rfl)) ?_
                    exact SX.F (.bool (false ^^ decide (d = (⟨d.kind, d.role, 0, d.fr, d.to, 0, d.sn, d.sd, zeroSg⟩ : Ed)))) (by congr 1; rw [Bool.eq_iff_iff, okEB_iff, okE_7 (show d.kind = 7 by omega)]; simp only [Bool.false_xor, decide_eq_true_eq]; exact ⟨fun q => ⟨by simp only [roleE, barsE]; have q3 : okR d.sn d.sd := (by by_cases q : okR d.sn d.sd; exact q; simp [q] at h35); exact ⟨by omega, q3, by omega, by omega⟩, q⟩, fun q => q.2⟩)
                  try simp only [NRM] at h37
                  exact SX.F (.bool false) (by congr 1; rw [Bool.eq_iff_iff, okEB_iff, okE_7 (show d.kind = 7 by omega)]; simp only [Bool.false_eq_true, false_iff]; exact fun q => absurd q.1 (by rintro q; simp only [roleE, barsE] at q; have q3 := q.2.1; first | omega | (simp [q3] at h35)))
                try simp only [NRM] at h36
                exact SX.F (.bool false) (by congr 1; rw [Bool.eq_iff_iff, okEB_iff, okE_7 (show d.kind = 7 by omega)]; simp only [Bool.false_eq_true, false_iff]; exact fun q => absurd q.1 (by rintro q; simp only [roleE, barsE] at q; have q3 := q.2.1; first | omega | (simp [q3] at h35)))
              try simp only [NRM] at h35
              exact SX.F (.bool false) (by congr 1; rw [Bool.eq_iff_iff, okEB_iff, okE_7 (show d.kind = 7 by omega)]; simp only [Bool.false_eq_true, false_iff]; exact fun q => absurd q.1 (by rintro q; simp only [roleE, barsE] at q; have q3 := q.2.1; first | omega | (simp [q3] at h35)))
            try simp only [NRM] at h33
            exact SX.F (.bool false) (by congr 1; rw [Bool.eq_iff_iff, okEB_iff, okE_7 (show d.kind = 7 by omega)]; simp only [Bool.false_eq_true, false_iff]; exact fun q => absurd q.1 (by rintro q; simp only [roleE, barsE] at q; have q3 := q.2.1; first | omega | (simp [q3] at h35)))
          try simp only [NRM] at h32
          exact SX.F (.bool false) (by congr 1; rw [Bool.eq_iff_iff, okEB_iff, okE_7 (show d.kind = 7 by omega)]; simp only [Bool.false_eq_true, false_iff]; exact fun q => absurd q.1 (by rintro q; simp only [roleE, barsE] at q; have q3 := q.2.1; first | omega | (simp [q3] at h35)))
        try simp only [NRM] at h31
        exact SX.F (.bool false) (by congr 1; rw [Bool.eq_iff_iff, okEB_iff, okE_7 (show d.kind = 7 by omega)]; simp only [Bool.false_eq_true, false_iff]; exact fun q => absurd q.1 (by rintro q; simp only [roleE, barsE] at q; have q3 := q.2.1; first | omega | (simp [q3] at h35)))
      try simp only [NRM] at h30
      exact SX.F (.bool false) (by congr 1; rw [Bool.eq_iff_iff, okEB_iff, okE_7 (show d.kind = 7 by omega)]; simp only [Bool.false_eq_true, false_iff]; exact fun q => absurd q.1 (by rintro q; simp only [roleE, barsE] at q; have q3 := q.2.1; first | omega | (simp [q3] at h35)))
    try simp only [NRM] at h29
    exact SX.F (.bool false) (by congr 1; rw [Bool.eq_iff_iff, okEB_iff, okE_7 (show d.kind = 7 by omega)]; simp only [Bool.false_eq_true, false_iff]; exact fun q => absurd q.1 (by rintro q; simp only [roleE, barsE] at q; have q3 := q.2.1; first | omega | (simp [q3] at h35)))
  try simp only [NRM] at h28
  exact SX.F (.bool false) (by congr 1; rw [Bool.eq_iff_iff, okEB_iff]; simp only [Bool.false_eq_true, false_iff]; rintro ⟨q1, q2, _⟩; omega)
def findS (ss : List Sg) (id : Int) : Int := if (ss.findIdx fun y => decide (y.id = id)) < ss.length then (((ss.findIdx fun y => decide (y.id = id)) : Nat) : Int) else -1
theorem findS_at {ss : List Sg} {id : Int} {i : Nat} {z : Sg} (hz : ss[i]? = some z) (h : ∀ y ∈ ss.take i, y.id ≠ id) (he : z.id = id) : findS ss id = i := by
  obtain ⟨hi, rfl⟩ := List.getElem?_eq_some_iff.1 hz
  have : (ss.findIdx fun y => decide (y.id = id)) = i := by
    rw [List.findIdx_eq hi]
    exact ⟨by simpa using he, fun j hj => by simpa using h _ (mem_takeS (List.getElem?_eq_getElem (by omega)) hj)⟩
  unfold findS
  rw [this, if_pos hi]
theorem findS_no {ss : List Sg} {id : Int} (h : ∀ y ∈ ss, y.id ≠ id) : findS ss id = -1 := by
  unfold findS
  rw [if_neg]
  rw [List.findIdx_lt_length]
  rintro ⟨y, hy, hq⟩
  exact h y hy (by simpa using hq)
theorem findS_iff {ss : List Sg} {id : Int} : 0 ≤ findS ss id ↔ ∃ y ∈ ss, y.id = id := by
  unfold findS
  split
  · rename_i h
    rw [List.findIdx_lt_length] at h
    obtain ⟨y, hy, hq⟩ := h
    exact ⟨fun _ => ⟨y, hy, by simpa using hq⟩, fun _ => by omega⟩
  rename_i h
  rw [List.findIdx_lt_length] at h
  exact ⟨fun q => by omega, fun ⟨y, hy, hq⟩ => absurd ⟨y, hy, by simpa using hq⟩ h⟩
theorem posS_at {ss : List Sg} {id : Int} {i : Nat} (hi : i ≤ ss.length) (h : ∀ y ∈ ss.take i, y.id < id) (he : ∀ z, ss[i]? = some z → ¬ z.id < id) : posS ss id = i := by
  unfold posS
  rw [← List.take_append_drop i ss, List.takeWhile_append_of_pos (fun y hy => by simpa using h y hy)]
  have : (ss.drop i).takeWhile (fun y => decide (y.id < id)) = [] := by
    cases hd : ss.drop i with
    | nil => rfl
    | cons y l =>
      have h2 := he y (by have : (ss.drop i)[0]? = some y := (by rw [hd]; rfl); rw [List.getElem?_drop] at this; simpa using this)
      rw [List.takeWhile_cons]
      simp; omega
  rw [this, List.length_append, List.length_take]
  simp; omega
theorem low_take {ss : List Sg} {i : Nat} {z : Sg} {id : Int} (hz : ss[i]? = some z) (h : ∀ y ∈ ss.take i, y.id < id) (hn : z.id < id) : ∀ y ∈ ss.take (i + 1), y.id < id := by
  intro y hy
  obtain ⟨q, hq, hy2⟩ := take_memS hy
  by_cases e : q = i
  · subst e; rw [hz] at hy2; cases hy2; exact hn
  exact h y (mem_takeS hy2 (by omega))
def tree_rfind : SX.Tree :=
(.loop [(.i 0)] [.one]
(.df (.len false) [(.q 0)] .one
(.df (.bin .lss 3) [(.q 2), (.q 3)] .one
(.br 4 []
(.df .bnd [(.q 0), (.q 2)] .one
(.df .bnd [(.q 0), (.q 2)] .one
(.df (.elem 14 0) [(.q 0), (.q 2)] .one
(.df (.bin .eql 3) [(.q 7), (.q 1)] .one
(.br 8 []
(.ret (.q 2) [] [])
(.df (.bin .add 3) [(.q 2), (.i 1)] .one
(.again 0 [(.q 9)])))))))
(.ret (.i (-1)) [] [])))))
def args_rfind : List SX.V := [.x 0 [], .x 1 []]
set_option maxRecDepth 100000 in
theorem run_rfind (K A : Value → Nat → List Value → Prop) : (SX.run (cx0 K A) ⟨fun f => true, [⟨35, 2, [(.s 5, .one)]⟩], 0, 100⟩ 100000 0 (SX.door 35 Try.f35 args_rfind (List.replicate 2 .one)) [.code (Try.f35.body.getD .skip), .top Try.f35]).strip = tree_rfind := by kernel_rfl
set_option maxRecDepth 100000 in
set_option maxHeartbeats 4000000 in
theorem rfind_any (ss : List Sg) (A : Option Addr) (n c : Nat) (id : Int) (w : World) (hr : Rd w 14 A n (sgsL ss)) (hn : n ≤ 9223372036854775807) (hc : n ≤ c) : Calls Try.prog 35 #[.slice A n c, .int .i64 id] w fun e w' => e = .returned (.int .i64 (findS ss id)) ∧ Below w.heap.size w w' := by
  refine SX.calls_of_run (C := cx0 (fun s sz cells => s = .slice A n c ∧ sz = 14 ∧ cells = sgsL ss) (fun _ _ _ => False)) (G := ⟨fun f => true, [⟨35, 2, [(.s 5, .one)]⟩], 0, 100⟩) (args := args_rfind) (sh := (List.replicate 2 .one)) (ρ := [.slice A n c, .int .i64 id]) 100000 tree_rfind (cx0_ok _ _) Try.func35 rfl (run_rfind _ _) (by kernel_rfl) (by kernel_rfl) (by kernel_rfl) ?_ ?_
  · rintro W hW s sz cells ⟨rfl, rfl, rfl⟩; exact ⟨hr.same0 hW, hc⟩
  have hA := SX.rd_some hr
  have hln : ss.length = n := by have := hr.1; rw [sgsL_len] at this; omega
  have k1 : (fun s sz cells => s = .slice A n c ∧ sz = 14 ∧ cells = sgsL ss) (Value.slice A n c) 14 (sgsL ss) := ⟨rfl, rfl, rfl⟩
  unfold tree_rfind
  refine SX.VC_loop (fun xs => ∃ (i : Nat), xs = [.int .i64 (i : Int)] ∧ i ≤ n ∧ ∀ y ∈ ss.take i, y.id ≠ id) (fun xs => match xs with | [.int _ i] => n - i.toNat | _ => 0) (fun α => ⟨0, by kernel_rfl, by omega, by simp⟩) ?_
  rintro xs - ⟨i, rfl, hin, hno⟩
  refine SX.D (.int .i64 (((n : Nat) : Int))) ?_
  refine SX.D (.bool (decide (((i : Nat) : Int) < ((n : Nat) : Int)))) ?_
  refine SX.B (decide (((i : Nat) : Int) < ((n : Nat) : Int))) (fun h4 => ?_) (fun h4 => ?_)
  · try simp only [NRM] at h4
    obtain ⟨z, hz⟩ : ∃ z, ss[i]? = some z := ⟨_, List.getElem?_eq_getElem (by omega)⟩
    refine SX.E (.bool true) (fun α => SX.extBnd (A := A) (n := n) (c := c) (j := i) hA (by kernel_rfl) (by kernel_rfl) (by omega)) ?_
    refine SX.E (.bool true) (fun α => SX.extBnd (A := A) (n := n) (c := c) (j := i) hA (by kernel_rfl) (by kernel_rfl) (by omega)) ?_
    refine SX.E (.int .i64 z.id) (fun α => SX.extElem (o := 0) (v := .int .i64 z.id) (f := cellsSg) (l := ss) (A := A) (n := n) (c := c) (j := i) (z := z) (fun _ => rfl) hA (by kernel_rfl) (by kernel_rfl) (by omega) (cast (by kernel_rfl) k1) hz (by decide) (by kernel_rfl)) ?_
    refine SX.D (.bool ((z.id : Int) == id)) ?_
    refine SX.B ((z.id : Int) == id) (fun h8 => ?_) (fun h8 => ?_)
    · try simp only [NRM] at h8
      exact SX.F (.int .i64 (((i : Nat) : Int))) (by congr 1; first | (rw [findS_at hz hno (by simpa using h8)]; done) | (rw [List.take_of_length_le (by omega)] at hno; rw [findS_no hno]))
    try simp only [NRM] at h8
    refine SX.E (.int .i64 (((i + 1 : Nat) : Int))) (fun α => SX.W1 i) ?_
    exact SX.VC_again fun α => ⟨⟨i + 1, by kernel_rfl, by omega, met_take hz hno (by simpa using h8)⟩, cast (by kernel_rfl) (show n - ((i + 1 : Nat) : Int).toNat < n - (i : Int).toNat by omega)⟩
  try simp only [NRM] at h4
  exact SX.F (.int .i64 ((-1))) (by congr 1; first | (rw [findS_at hz hno (by simpa using h8)]; done) | (rw [List.take_of_length_le (by omega)] at hno; rw [findS_no hno]))
def tree_rput : SX.Tree :=
(.loop [(.i 0)] [.one]
(.df (.len false) [(.q 0)] .one
(.df (.bin .lss 3) [(.q 15), (.q 16)] .one
(.br 17 []
(.df .bnd [(.q 0), (.q 15)] .one
(.df .bnd [(.q 0), (.q 15)] .one
(.df (.elem 14 0) [(.q 0), (.q 15)] .one
(.df (.bin .lss 3) [(.q 20), (.q 1)] .one
(.br 21 []
(.df (.bin .add 3) [(.q 15), (.i 1)] .one
(.again 0 [(.q 22)]))
(.df (.slc false 14 false true false) [(.q 0), (.q 15)] .one
(.df (.app 14 112 (.ext 14)) [(.cat []), (.q 22)] .any
(.df (.app 14 112 (.own 14 (SX.Z 1 14))) [(.cat [(.q 23)]), (.sl 18 0 1 1)] .any
(.df (.slc false 14 true false false) [(.q 0), (.q 15)] .one
(.df (.app 14 112 (.ext 14)) [(.cat [(.q 23), (.q 24)]), (.q 25)] .any
(.ret (.row 20) (List.replicate 20 none ++ [(some ⟨[(.q 23), (.q 24), (.q 26)], 26, (.row 14)⟩)]) [])))))))))))
(.df (.slc false 14 false true false) [(.q 0), (.q 15)] .one
(.df (.app 14 112 (.ext 14)) [(.cat []), (.q 18)] .any
(.df (.app 14 112 (.own 14 (SX.Z 1 14))) [(.cat [(.q 19)]), (.sl 18 0 1 1)] .any
(.df (.slc false 14 true false false) [(.q 0), (.q 15)] .one
(.df (.app 14 112 (.ext 14)) [(.cat [(.q 19), (.q 20)]), (.q 21)] .any
(.ret (.row 20) (List.replicate 20 none ++ [(some ⟨[(.q 19), (.q 20), (.q 22)], 26, (.row 14)⟩)]) []))))))))))
def args_rput : List SX.V := [.x 0 [], .a ((List.range 14).map fun j => .x (1+j) [])]
set_option maxRecDepth 100000 in
theorem run_rput (K A : Value → Nat → List Value → Prop) : (SX.run (cx0 K A) ⟨fun f => true, [⟨37, 2, [(.s 5, .one)]⟩], 2, 100⟩ 100000 0 (SX.door 37 Try.f37 args_rput (List.replicate 15 .one)) [.code (Try.f37.body.getD .skip), .top Try.f37]).strip = tree_rput := by kernel_rfl
set_option maxRecDepth 100000 in
set_option maxHeartbeats 4000000 in
theorem rput_any (ss : List Sg) (A : Option Addr) (n c : Nat) (x : Sg) (w : World) (hr : Rd w 14 A n (sgsL ss)) (hn : n ≤ 9223372036854775807) (hc : n ≤ c) (hl : ss.length ≤ 1000000) : Calls Try.prog 37 #[.slice A n c, valSg x] w fun e w' => Below w.heap.size w w' ∧ ∃ hdr, e = .returned hdr ∧ SX.SlRet w w' [] hdr 14 (sgsL (addS ss x)) := by
  refine SX.calls_of_run (C := cx0 (SX.SubK A n c 14 (sgsL ss)) (fun _ _ _ => False)) (G := ⟨fun f => true, [⟨37, 2, [(.s 5, .one)]⟩], 2, 100⟩) (args := args_rput) (sh := (List.replicate 15 .one)) (ρ := (.slice A n c :: cellsSg x)) 100000 tree_rput (cx0_ok _ _) Try.func37 rfl (run_rput _ _) (by kernel_rfl) (by kernel_rfl) (by kernel_rfl) ?_ ?_
  · intro W hW s z xs h; exact h.rd (hr.same0 hW)
  have hA := SX.rd_some hr
  have hln : ss.length = n := by have := hr.1; rw [sgsL_len] at this; omega
  have hdt : ∀ j, (ss.drop j).take (n - j) = ss.drop j := fun j => List.take_of_length_le (by simp; omega)
  unfold tree_rput
  refine SX.VC_loop (fun xs => ∃ (i : Nat), xs = [.int .i64 (i : Int)] ∧ i ≤ n ∧ ∀ y ∈ ss.take i, y.id < x.id) (fun xs => match xs with | [.int _ i] => n - i.toNat | _ => 0) (fun α => ⟨0, by kernel_rfl, by omega, by simp⟩) ?_
  rintro xs - ⟨i, rfl, hin, hlo⟩
  refine SX.D (.int .i64 (((n : Nat) : Int))) ?_
  refine SX.D (.bool (decide (((i : Nat) : Int) < ((n : Nat) : Int)))) ?_
  refine SX.B (decide (((i : Nat) : Int) < ((n : Nat) : Int))) (fun h17 => ?_) (fun h17 => ?_)
  · try simp only [NRM] at h17
    obtain ⟨z, hz⟩ : ∃ z, ss[i]? = some z := ⟨_, List.getElem?_eq_getElem (by omega)⟩
    refine SX.E (.bool true) (fun α => SX.extBnd (A := A) (n := n) (c := c) (j := i) hA (by kernel_rfl) (by kernel_rfl) (by omega)) ?_
    refine SX.E (.bool true) (fun α => SX.extBnd (A := A) (n := n) (c := c) (j := i) hA (by kernel_rfl) (by kernel_rfl) (by omega)) ?_
    refine SX.E (.int .i64 z.id) (fun α => SX.extElem (o := 0) (v := .int .i64 z.id) (f := cellsSg) (l := ss) (A := A) (n := n) (c := c) (j := i) (z := z) (fun _ => rfl) hA (by kernel_rfl) (by kernel_rfl) (by omega) (cast (by kernel_rfl) (SX.SubK.full (A := A) hr.1 hc)) hz (by decide) (by kernel_rfl)) ?_
    refine SX.D (.bool (decide (z.id < x.id))) ?_
    refine SX.B (decide (z.id < x.id)) (fun h21 => ?_) (fun h21 => ?_)
    · try simp only [NRM] at h21
      refine SX.E (.int .i64 (((i + 1 : Nat) : Int))) (fun α => SX.W1 i) ?_
      exact SX.VC_again fun α => ⟨⟨i + 1, by kernel_rfl, by omega, low_take hz hlo (by omega)⟩, cast (by kernel_rfl) (show n - ((i + 1 : Nat) : Int).toNat < n - (i : Int).toNat by omega)⟩
    try simp only [NRM] at h21
    refine SX.E ((SX.subS A 14 0 i c)) (fun α => SX.slc_hi (A := A) (n := n) (c := c) (k := i) (by kernel_rfl) (by kernel_rfl) (by omega)) ?_
    refine SX.E (Value.agg (((ss.drop 0).take (i - 0)).flatMap cellsSg).toArray) (fun α => SX.app_rel (f := cellsSg) (l1 := ([] : List Sg)) (l2 := (ss.drop 0).take (i - 0)) (fun _ => rfl) cellsSg_one (by decide) (by kernel_rfl) (SX.src_ext (cast (by kernel_rfl) (SX.SubK.part (f := cellsSg) (sz := 14) (fun _ => rfl) (A := A) (n := n) (c := c) (L := ss) (l := 0) (h := i) (m := c) (by omega) (by omega) (by omega) (by omega)))) (by simp only [LL]; omega) (by simp only [LL]; omega)) ?_
    refine SX.E (Value.agg (([x]).flatMap cellsSg).toArray) (fun α => SX.app_rel (f := cellsSg) (l1 := ((ss.drop 0).take (i - 0))) (l2 := [x]) (fun _ => rfl) cellsSg_one (by decide) (SX.cat1 (by kernel_rfl)) (SX.src_own (by kernel_rfl)) (by simp only [LL]; omega) (by simp only [LL]; omega)) ?_
    refine SX.E ((SX.subS A 14 i n c)) (fun α => SX.slc_lo (A := A) (n := n) (c := c) (k := i) (by kernel_rfl) (by kernel_rfl) (by omega)) ?_
    refine SX.E (Value.agg (((ss.drop i).take (n - i)).flatMap cellsSg).toArray) (fun α => SX.app_rel (f := cellsSg) (l1 := ((ss.drop 0).take (i - 0)) ++ [x]) (l2 := (ss.drop i).take (n - i)) (fun _ => rfl) cellsSg_one (by decide) (Eq.trans (b := [Value.agg (((ss.drop 0).take (i - 0)).flatMap cellsSg).toArray, Value.agg (([x]).flatMap cellsSg).toArray].flatMap SX.cellsV) (by kernel_rfl) (by simp [SX.cellsV])) (SX.src_ext (cast (by kernel_rfl) (SX.SubK.part (f := cellsSg) (sz := 14) (fun _ => rfl) (A := A) (n := n) (c := c) (L := ss) (l := i) (h := n) (m := c) (by omega) (by omega) (by omega) (by omega)))) (by simp only [LL]; omega) (by simp only [LL]; omega)) ?_
    have hadd : addS ss x = insS ss i x := by rw [addS, posS_at (by omega) hlo (fun y hy => by rw [hz] at hy; cases hy; omega)]
    exact SX.VC_ret fun α W _ hR hS => ⟨hS.below, (α 20).h, by kernel_rfl, SX.SlRet.row hS (n := 20) (b := (⟨[(.x 23 []), (.x 24 []), (.x 26 [])], 26, (.row 14)⟩ : SX.Blk)) (by kernel_rfl) rfl (hR 20 _ (by kernel_rfl)) (Eq.trans (b := [Value.agg (((ss.drop 0).take (i - 0)).flatMap cellsSg).toArray, Value.agg (([x]).flatMap cellsSg).toArray, Value.agg (((ss.drop i).take (n - i)).flatMap cellsSg).toArray].flatMap SX.cellsV) (by kernel_rfl) (by rw [hadd]; simp [SX.cellsV, sgsL, insS, hdt]))⟩
  try simp only [NRM] at h17
  refine SX.E ((SX.subS A 14 0 i c)) (fun α => SX.slc_hi (A := A) (n := n) (c := c) (k := i) (by kernel_rfl) (by kernel_rfl) (by omega)) ?_
  refine SX.E (Value.agg (((ss.drop 0).take (i - 0)).flatMap cellsSg).toArray) (fun α => SX.app_rel (f := cellsSg) (l1 := ([] : List Sg)) (l2 := (ss.drop 0).take (i - 0)) (fun _ => rfl) cellsSg_one (by decide) (by kernel_rfl) (SX.src_ext (cast (by kernel_rfl) (SX.SubK.part (f := cellsSg) (sz := 14) (fun _ => rfl) (A := A) (n := n) (c := c) (L := ss) (l := 0) (h := i) (m := c) (by omega) (by omega) (by omega) (by omega)))) (by simp only [LL]; omega) (by simp only [LL]; omega)) ?_
  refine SX.E (Value.agg (([x]).flatMap cellsSg).toArray) (fun α => SX.app_rel (f := cellsSg) (l1 := ((ss.drop 0).take (i - 0))) (l2 := [x]) (fun _ => rfl) cellsSg_one (by decide) (SX.cat1 (by kernel_rfl)) (SX.src_own (by kernel_rfl)) (by simp only [LL]; omega) (by simp only [LL]; omega)) ?_
  refine SX.E ((SX.subS A 14 i n c)) (fun α => SX.slc_lo (A := A) (n := n) (c := c) (k := i) (by kernel_rfl) (by kernel_rfl) (by omega)) ?_
  refine SX.E (Value.agg (((ss.drop i).take (n - i)).flatMap cellsSg).toArray) (fun α => SX.app_rel (f := cellsSg) (l1 := ((ss.drop 0).take (i - 0)) ++ [x]) (l2 := (ss.drop i).take (n - i)) (fun _ => rfl) cellsSg_one (by decide) (Eq.trans (b := [Value.agg (((ss.drop 0).take (i - 0)).flatMap cellsSg).toArray, Value.agg (([x]).flatMap cellsSg).toArray].flatMap SX.cellsV) (by kernel_rfl) (by simp [SX.cellsV])) (SX.src_ext (cast (by kernel_rfl) (SX.SubK.part (f := cellsSg) (sz := 14) (fun _ => rfl) (A := A) (n := n) (c := c) (L := ss) (l := i) (h := n) (m := c) (by omega) (by omega) (by omega) (by omega)))) (by simp only [LL]; omega) (by simp only [LL]; omega)) ?_
  have hadd : addS ss x = insS ss i x := by rw [addS, posS_at (by omega) hlo (fun y hy => by rw [List.getElem?_eq_none (by omega)] at hy; cases hy)]
  exact SX.VC_ret fun α W _ hR hS => ⟨hS.below, (α 20).h, by kernel_rfl, SX.SlRet.row hS (n := 20) (b := (⟨[(.x 19 []), (.x 20 []), (.x 22 [])], 26, (.row 14)⟩ : SX.Blk)) (by kernel_rfl) rfl (hR 20 _ (by kernel_rfl)) (Eq.trans (b := [Value.agg (((ss.drop 0).take (i - 0)).flatMap cellsSg).toArray, Value.agg (([x]).flatMap cellsSg).toArray, Value.agg (((ss.drop i).take (n - i)).flatMap cellsSg).toArray].flatMap SX.cellsV) (by kernel_rfl) (by rw [hadd]; simp [SX.cellsV, sgsL, insS, hdt]))⟩
def RW3 (f : FuncId) (xs : List SX.Arg) (v : Value) : Prop :=
  (f = 39 ∧ ∃ (u : Value) (ss : List Sg), xs = [⟨u, 14, sgsL ss⟩] ∧ ss.length ≤ 9223372036854775807 ∧ v = .bool (decide (okL ss)))
def shpW3 : FuncId → Option SX.Sh := fun f => if f = 39 then some .one else none
noncomputable def cxW3 (K A : Value → Nat → List Value → Prop) : SX.Cx := { P := Try.prog, R := fun _ => RW3, shp := shpW3, K := K, A := A, trm := true }
theorem okW3 (K A : Value → Nat → List Value → Prop) : (cxW3 K A).Ok := by
  refine SX.Cx.ok_of (fun _ => rfl) ?_
  intro K f xs v W hR hrd hKf
  rcases hR with ⟨rfl, u, ss, rfl, hl, rfl⟩
  obtain ⟨A, n, c, rfl, h2, h3, h4⟩ := sgs_arg (hrd ⟨u, 14, sgsL ss⟩ (by simp))
  exact (right_any ss A n c W h2 (by omega) h3).mono fun e w' h => SX.plainOk rfl h
def tree_rrchk : SX.Tree :=
(.df (.len false) [(.q 0)] .one
(.df (.bin .gtr 3) [(.q 1), (.i 4096)] .one
(.br 2 []
(.ret (.i 2) [] [])
(.df (.call 39 [(.ext 14)]) [(.q 0)] .one
(.df .not [(.q 3)] .one
(.br 4 []
(.ret (.i 360) [] [])
(.ret (.i 0) [] [])))))))
def args_rrchk : List SX.V := [.x 0 []]
set_option maxRecDepth 100000 in
theorem run_rrchk (K A : Value → Nat → List Value → Prop) : (SX.run (cxW3 K A) ⟨fun f => f ≠ 15, [], 0, 100⟩ 100000 0 (SX.door 15 Try.f15 args_rrchk [.one]) [.code (Try.f15.body.getD .skip), .top Try.f15]).strip = tree_rrchk := by kernel_rfl
set_option maxRecDepth 100000 in
set_option maxHeartbeats 4000000 in
theorem rrchk_any (ss : List Sg) (A : Option Addr) (n c : Nat) (w : World) (hr : Rd w 14 A n (sgsL ss)) (hn : n ≤ 9223372036854775807) (hc : n ≤ c) : Calls Try.prog 15 #[.slice A n c] w fun e w' => e = .returned (.int .i64 (chkS ss)) ∧ Below w.heap.size w w' := by
  refine SX.calls_of_run (C := cxW3 (fun s sz cells => s = .slice A n c ∧ sz = 14 ∧ cells = sgsL ss) (fun _ _ _ => False)) (G := ⟨fun f => f ≠ 15, [], 0, 100⟩) (args := args_rrchk) (sh := [.one]) (ρ := [.slice A n c]) 100000 tree_rrchk (okW3 _ _) Try.func15 rfl (run_rrchk _ _) (by kernel_rfl) (by kernel_rfl) (by kernel_rfl) ?_ ?_
  · rintro W hW s sz cells ⟨rfl, rfl, rfl⟩; exact ⟨hr.same0 hW, hc⟩
  have hA := SX.rd_some hr
  have hln : ss.length = n := by have := hr.1; rw [sgsL_len] at this; omega
  have k1 : (fun s sz cells => s = .slice A n c ∧ sz = 14 ∧ cells = sgsL ss) (Value.slice A n c) 14 (sgsL ss) := ⟨rfl, rfl, rfl⟩
  unfold tree_rrchk
  refine SX.D (.int .i64 (((n : Nat) : Int))) ?_
  refine SX.D (.bool (decide (((n : Nat) : Int) > 4096))) ?_
  refine SX.B (decide (((n : Nat) : Int) > 4096)) (fun h2 => ?_) (fun h2 => ?_)
  · try simp only [NRM] at h2
    exact SX.F (.int .i64 2) (by congr 1; unfold chkS; first | (rw [if_pos (by omega)]; done) | (rw [if_neg (by omega), if_pos (by simpa using h4)]; done) | (rw [if_neg (by omega), if_neg (by simpa using h4)]))
  try simp only [NRM] at h2
  refine SX.E (.bool (decide (okL ss))) (fun α => ⟨[⟨.slice A n c, 14, sgsL ss⟩], ⟨by kernel_rfl, rfl, cast (by kernel_rfl) k1, trivial⟩, ⟨rfl, .slice A n c, ss, rfl, by omega, rfl⟩, SX.noAli rfl⟩) ?_
  refine SX.D (.bool (!(decide (okL ss)))) ?_
  refine SX.B (!(decide (okL ss))) (fun h4 => ?_) (fun h4 => ?_)
  · try simp only [NRM] at h4
    exact SX.F (.int .i64 360) (by congr 1; unfold chkS; first | (rw [if_pos (by omega)]; done) | (rw [if_neg (by omega), if_pos (by simpa using h4)]; done) | (rw [if_neg (by omega), if_neg (by simpa using h4)]))
  try simp only [NRM] at h4
  exact SX.F (.int .i64 0) (by congr 1; unfold chkS; first | (rw [if_pos (by omega)]; done) | (rw [if_neg (by omega), if_pos (by simpa using h4)]; done) | (rw [if_neg (by omega), if_neg (by simpa using h4)]))
theorem SX.SlRet.ok1 {C : SX.Cx} {f : FuncId} {as' : List SX.Arg} {W W' : World} {e : Ending} {cells : List Value} {sz : Nat} (hs : C.sh f = .sl sz) (h : Below W.heap.size W W' ∧ ∃ hdr, e = .returned hdr ∧ SX.SlRet W W' [] hdr sz cells) :
    Below W.heap.size W W' ∧ ∃ hdr, e = .returned ((C.sh f).fill hdr (.agg cells.toArray)) ∧ ∀ p z, (p, z) ∈ (C.sh f).sls [] → SX.HdrOk C f as' W W' hdr z (SX.cellsV (p.foldl SX.comp (.agg cells.toArray))) := by
  obtain ⟨hb, hdr, he, h1, h2, h3⟩ := h
  refine ⟨hb, hdr, by rw [hs, he]; rfl, fun p z hp => ?_⟩
  rw [hs] at hp
  obtain ⟨rfl, rfl⟩ : p = [] ∧ z = sz := by simpa [SX.Sh.sls] using hp
  refine ⟨h1, h2, .inl (h3.resolve_right ?_)⟩
  rintro ⟨y, hy, _⟩
  cases hy
theorem SX.SlRet.ext0 {w W : World} {hp : List (Option SX.Blk)} {ps : List (World → Prop)} {ρ : List Value} {α : Nat → SX.AV} {sz : Nat} {C : SX.Cx} (hS : St ⟨w, [], SX.Af C, SX.Bf C⟩ (SX.chs ρ α 0 hp) [] (SX.exs ⟨w, [], SX.Af C, SX.Bf C⟩ ρ α 0 hp ++ ps) W) {n : Nat} {b : SX.Blk} (hb : hp[n]? = some (some b)) (hk : b.k = .ext sz) (hr : b.rowOk ρ α n) {cells : List Value} (hc : b.xs ρ α = cells) (hA : ∀ W2, SX.Af C W2) (hB : ∀ B, SX.Bf C B) : SX.SlRet w W [] ((α n).h) sz cells := by
  obtain ⟨h1, h2, h3⟩ := SX.SlRet.ext hS hb hk hr hc (roots := [⟨.slice none 0 0, 0, []⟩]) (x := ⟨.slice none 0 0, 0, []⟩) (by simp) (fun W2 _ => hA W2) (fun B _ => hB B)
  refine ⟨h1, h2, .inl ?_⟩
  rcases h3 with h3 | ⟨x, hx, _, h4⟩
  · exact h3
  obtain rfl : x = ⟨.slice none 0 0, 0, []⟩ := by simpa using hx
  exact h4 _ (fun ad n c e _ => by cases e)
theorem sg_fitS (l : List Sg) : SX.Sh.fit (.sl 14) (.agg (sgsL l).toArray) = true := by
  have h1 : (sgsL l).length % 14 = 0 := by rw [sgsL_len]; omega
  have h2 : (sgsL l).all (·.oneCell') = true := List.all_eq_true.2 (sg_one l)
  simp only [SX.Sh.fit, h1, h2]
  rfl
theorem chg_work {d : Ed} {z y : Sg} {b : Bool} (h1 : 1 ≤ d.kind) (h7 : d.kind ≤ 7) (h5 : d.kind ≠ 5) (h3 : ¬ (d.kind = 3 ∧ d.fr ≤ z.bar ∧ z.bar ≤ d.to)) (h : chgE d z = (y, b)) : workE d z = if b then some [y] else none := by
  obtain ⟨k, a1, a2, a3, a4, a5, a6, a7, a8⟩ := d
  simp only at h1 h7 h5 h3
  have hk : k = 1 ∨ k = 2 ∨ k = 3 ∨ k = 4 ∨ k = 6 ∨ k = 7 := by omega
  rcases hk with rfl | rfl | rfl | rfl | rfl | rfl <;>
    simp only [chgE, workE, if_true, if_false, Int.reduceEq, reduceCtorEq] at h ⊢ <;>
    (repeat' split at h) <;> cases h <;> (repeat' split) <;> first | rfl | (exfalso; omega) | (simp_all; done) | (exfalso; simp_all; omega)
theorem chg_five {d : Ed} {z : Sg} (h : d.kind = 5) : chgE d z = (z, true) := by
  unfold chgE
  rw [h]
  simp
theorem cut_work {d : Ed} {z : Sg} (h : d.kind = 3) (h2 : d.fr ≤ z.bar ∧ z.bar ≤ d.to) : workE d z = some [] := by
  unfold workE
  rw [h]
  simp only [if_false, if_true, Int.reduceEq, reduceCtorEq]
  rw [if_pos h2]
theorem addS_len (ss : List Sg) (x : Sg) : (addS ss x).length = ss.length + 1 := by
  unfold addS
  exact insS_len (by unfold posS; exact List.Sublist.length_le (List.takeWhile_sublist _))
def RX1 (f : FuncId) (xs : List SX.Arg) (v : Value) : Prop :=
  (f = 15 ∧ ∃ (u : Value) (ss : List Sg), xs = [⟨u, 14, sgsL ss⟩] ∧ ss.length ≤ 9223372036854775807 ∧ v = .int .i64 (chkS ss)) ∨
  (f = 34 ∧ ∃ d : Ed, xs = [⟨valE d, 0, []⟩] ∧ v = .bool (okEB d)) ∨
  (f = 35 ∧ ∃ (u : Value) (ss : List Sg) (id : Int), xs = [⟨u, 14, sgsL ss⟩, ⟨.int .i64 id, 0, []⟩] ∧ ss.length ≤ 9223372036854775807 ∧ v = .int .i64 (findS ss id)) ∨
  (f = 36 ∧ ∃ (k : Sg) (d : Ed), xs = [⟨valSg k, 0, []⟩, ⟨valE d, 0, []⟩] ∧ k.ok ∧ okE d ∧ v = .tuple #[valSg (chgE d k).1, .bool (chgE d k).2]) ∨
  (f = 37 ∧ ∃ (u : Value) (ss : List Sg) (x : Sg), xs = [⟨u, 14, sgsL ss⟩, ⟨valSg x, 0, []⟩] ∧ ss.length ≤ 1000000 ∧ v = .agg (sgsL (addS ss x)).toArray)
def shpX1 : FuncId → Option SX.Sh := fun f => if f = 15 then some .one else if f = 34 then some .one else if f = 35 then some .one else if f = 36 then some (.tp [.ag 14, .one]) else if f = 37 then some (.sl 14) else none
noncomputable def cxX1 (K A : Value → Nat → List Value → Prop) : SX.Cx := { P := Try.prog, R := fun _ => RX1, shp := shpX1, K := K, A := A, trm := true }
theorem okX1 (K A : Value → Nat → List Value → Prop) : (cxX1 K A).Ok := by
  refine SX.Cx.ok_of (fun _ => rfl) ?_
  intro K f xs v W hR hrd hKf
  rcases hR with ⟨rfl, u, ss, rfl, hl, rfl⟩ | ⟨rfl, d, rfl, rfl⟩ | ⟨rfl, u, ss, id, rfl, hl, rfl⟩ | ⟨rfl, k, d, rfl, hk, hd, rfl⟩ | ⟨rfl, u, ss, x, rfl, hl, rfl⟩
  · obtain ⟨A, n, c, rfl, h2, h3, h4⟩ := sgs_arg (hrd ⟨u, 14, sgsL ss⟩ (by simp))
    exact (rrchk_any ss A n c W h2 (by omega) h3).mono fun e w' h => SX.plainOk rfl h
  · exact (redit_any d W).mono fun e w' h => SX.plainOk rfl h
  · obtain ⟨A, n, c, rfl, h2, h3, h4⟩ := sgs_arg (hrd ⟨u, 14, sgsL ss⟩ (by simp))
    exact (rfind_any ss A n c id W h2 (by omega) h3).mono fun e w' h => SX.plainOk rfl h
  · exact (rchg_any k d W hk hd).mono fun e w' h => SX.plainOk rfl h
  refine Calls.mono ?_ fun e w' h => SX.SlRet.ok1 rfl h
  obtain ⟨A, n, c, rfl, h2, h3, h4⟩ := sgs_arg (hrd ⟨u, 14, sgsL ss⟩ (by simp))
  exact rput_any ss A n c x W h2 (by omega) h3 hl
def tree_rapply : SX.Tree :=
(.df (.call 15 [(.ext 14)]) [(.q 0)] .one
(.df (.bin .neq 31) [(.q 23), (.i 0)] .one
(.br 24 []
(.ret (.t [(.k (.slice none 0 0)), (.q 23)]) [none] [])
(.df (.call 34 [.no]) [(.a (SX.Z 1 22))] .one
(.df .not [(.q 25)] .one
(.br 26 []
(.ret (.t [(.k (.slice none 0 0)), (.i 360)]) [none] [])
(.df (.bin .eql 3) [(.q 1), (.i 5)] .one
(.br 27 []
(.df (.call 35 [(.ext 14), .no]) [(.q 0), (.q 9)] .one
(.df (.bin .geq 3) [(.q 28), (.i 0)] .one
(.br 29 []
(.ret (.t [(.k (.slice none 0 0)), (.i 360)]) [none] [])
(.loop [(.i 0), (.cat [])] [.one, .any]
(.df (.len false) [(.q 0)] .one
(.df (.bin .lss 3) [(.q 30), (.q 32)] .one
(.br 33 []
(.df (.bin .eql 3) [(.q 1), (.i 3)] .one
(.br 34 []
(.df .bnd [(.q 0), (.q 30)] .one
(.df .bnd [(.q 0), (.q 30)] .one
(.df (.elem 14 2) [(.q 0), (.q 30)] .one
(.df (.bin .geq 3) [(.q 37), (.q 4)] .one
(.br 38 []
(.df .bnd [(.q 0), (.q 30)] .one
(.df .bnd [(.q 0), (.q 30)] .one
(.df (.elem 14 2) [(.q 0), (.q 30)] .one
(.df (.bin .leq 3) [(.q 41), (.q 5)] .one
(.br 42 []
(.df (.bin .add 3) [(.q 30), (.i 1)] .one
(.again 0 [(.q 43), (.cat [(.q 31)])]))
(.df .bnd [(.q 0), (.q 30)] .one
(.df (.elems 14 0 14) [(.q 0), (.q 30)] (.ag 14)
(.df (.call 36 [.no, .no]) [(.a (SX.Y 44 0 14)), (.a (SX.Z 1 22))] (.tp [(.ag 14), .one])
(.df .not [(.x 45 [1])] .one
(.br 46 []
(.ret (.t [(.k (.slice none 0 0)), (.i 360)]) (List.replicate 14 none) [])
(.df (.app 14 112 (.own 14 [(.x 45 [0, 0]), (.x 45 [0, 1]), (.x 45 [0, 2]), (.x 45 [0, 3]), (.x 45 [0, 4]), (.x 45 [0, 5]), (.x 45 [0, 6]), (.x 45 [0, 7]), (.x 45 [0, 8]), (.x 45 [0, 9]), (.x 45 [0, 10]), (.x 45 [0, 11]), (.x 45 [0, 12]), (.x 45 [0, 13])])) [(.cat [(.q 31)]), (.sl 14 0 1 1)] .any
(.df (.bin .add 3) [(.q 30), (.i 1)] .one
(.again 0 [(.q 48), (.cat [(.q 31), (.q 47)])])))))))))))))
(.df .bnd [(.q 0), (.q 30)] .one
(.df (.elems 14 0 14) [(.q 0), (.q 30)] (.ag 14)
(.df (.call 36 [.no, .no]) [(.a (SX.Y 40 0 14)), (.a (SX.Z 1 22))] (.tp [(.ag 14), .one])
(.df .not [(.x 41 [1])] .one
(.br 42 []
(.ret (.t [(.k (.slice none 0 0)), (.i 360)]) (List.replicate 14 none) [])
(.df (.app 14 112 (.own 14 [(.x 41 [0, 0]), (.x 41 [0, 1]), (.x 41 [0, 2]), (.x 41 [0, 3]), (.x 41 [0, 4]), (.x 41 [0, 5]), (.x 41 [0, 6]), (.x 41 [0, 7]), (.x 41 [0, 8]), (.x 41 [0, 9]), (.x 41 [0, 10]), (.x 41 [0, 11]), (.x 41 [0, 12]), (.x 41 [0, 13])])) [(.cat [(.q 31)]), (.sl 14 0 1 1)] .any
(.df (.bin .add 3) [(.q 30), (.i 1)] .one
(.again 0 [(.q 44), (.cat [(.q 31), (.q 43)])])))))))))))))
(.df .bnd [(.q 0), (.q 30)] .one
(.df (.elems 14 0 14) [(.q 0), (.q 30)] (.ag 14)
(.df (.call 36 [.no, .no]) [(.a (SX.Y 36 0 14)), (.a (SX.Z 1 22))] (.tp [(.ag 14), .one])
(.df .not [(.x 37 [1])] .one
(.br 38 []
(.ret (.t [(.k (.slice none 0 0)), (.i 360)]) (List.replicate 14 none) [])
(.df (.app 14 112 (.own 14 [(.x 37 [0, 0]), (.x 37 [0, 1]), (.x 37 [0, 2]), (.x 37 [0, 3]), (.x 37 [0, 4]), (.x 37 [0, 5]), (.x 37 [0, 6]), (.x 37 [0, 7]), (.x 37 [0, 8]), (.x 37 [0, 9]), (.x 37 [0, 10]), (.x 37 [0, 11]), (.x 37 [0, 12]), (.x 37 [0, 13])])) [(.cat [(.q 31)]), (.sl 14 0 1 1)] .any
(.df (.bin .add 3) [(.q 30), (.i 1)] .one
(.again 0 [(.q 40), (.cat [(.q 31), (.q 39)])]))))))))))
(.df (.bin .eql 3) [(.q 1), (.i 5)] .one
(.br 34 []
(.df (.call 37 [(.row 14 [(.q 31)]), .no]) [(.row 3), (.a (SX.Z 9 14))] (.sl 14)
(.df (.call 15 [(.row 14 [(.q 35)])]) [(.row 4)] .one
(.df (.bin .neq 31) [(.q 36), (.i 0)] .one
(.br 37 []
(.ret (.t [(.k (.slice none 0 0)), (.q 36)]) [none, none, none, none, none] [])
(.ret (.t [(.row 4), (.i 0)]) [none, none, none, none, (some ⟨[(.q 35)], 0, (.ext 14)⟩)] [])))))
(.df (.call 15 [(.row 14 [(.q 31)])]) [(.row 3)] .one
(.df (.bin .neq 31) [(.q 35), (.i 0)] .one
(.br 36 []
(.ret (.t [(.k (.slice none 0 0)), (.q 35)]) [none, none, none, none] [])
(.ret (.t [(.row 3), (.i 0)]) [none, none, none, (some ⟨[(.q 31)], 26, (.row 14)⟩)] [])))))))))))))
(.loop [(.i 0), (.cat [])] [.one, .any]
(.df (.len false) [(.q 0)] .one
(.df (.bin .lss 3) [(.q 28), (.q 30)] .one
(.br 31 []
(.df (.bin .eql 3) [(.q 1), (.i 3)] .one
(.br 32 []
(.df .bnd [(.q 0), (.q 28)] .one
(.df .bnd [(.q 0), (.q 28)] .one
(.df (.elem 14 2) [(.q 0), (.q 28)] .one
(.df (.bin .geq 3) [(.q 35), (.q 4)] .one
(.br 36 []
(.df .bnd [(.q 0), (.q 28)] .one
(.df .bnd [(.q 0), (.q 28)] .one
(.df (.elem 14 2) [(.q 0), (.q 28)] .one
(.df (.bin .leq 3) [(.q 39), (.q 5)] .one
(.br 40 []
(.df (.bin .add 3) [(.q 28), (.i 1)] .one
(.again 0 [(.q 41), (.cat [(.q 29)])]))
(.df .bnd [(.q 0), (.q 28)] .one
(.df (.elems 14 0 14) [(.q 0), (.q 28)] (.ag 14)
(.df (.call 36 [.no, .no]) [(.a (SX.Y 42 0 14)), (.a (SX.Z 1 22))] (.tp [(.ag 14), .one])
(.df .not [(.x 43 [1])] .one
(.br 44 []
(.ret (.t [(.k (.slice none 0 0)), (.i 360)]) (List.replicate 14 none) [])
(.df (.app 14 112 (.own 14 [(.x 43 [0, 0]), (.x 43 [0, 1]), (.x 43 [0, 2]), (.x 43 [0, 3]), (.x 43 [0, 4]), (.x 43 [0, 5]), (.x 43 [0, 6]), (.x 43 [0, 7]), (.x 43 [0, 8]), (.x 43 [0, 9]), (.x 43 [0, 10]), (.x 43 [0, 11]), (.x 43 [0, 12]), (.x 43 [0, 13])])) [(.cat [(.q 29)]), (.sl 14 0 1 1)] .any
(.df (.bin .add 3) [(.q 28), (.i 1)] .one
(.again 0 [(.q 46), (.cat [(.q 29), (.q 45)])])))))))))))))
(.df .bnd [(.q 0), (.q 28)] .one
(.df (.elems 14 0 14) [(.q 0), (.q 28)] (.ag 14)
(.df (.call 36 [.no, .no]) [(.a (SX.Y 38 0 14)), (.a (SX.Z 1 22))] (.tp [(.ag 14), .one])
(.df .not [(.x 39 [1])] .one
(.br 40 []
(.ret (.t [(.k (.slice none 0 0)), (.i 360)]) (List.replicate 14 none) [])
(.df (.app 14 112 (.own 14 [(.x 39 [0, 0]), (.x 39 [0, 1]), (.x 39 [0, 2]), (.x 39 [0, 3]), (.x 39 [0, 4]), (.x 39 [0, 5]), (.x 39 [0, 6]), (.x 39 [0, 7]), (.x 39 [0, 8]), (.x 39 [0, 9]), (.x 39 [0, 10]), (.x 39 [0, 11]), (.x 39 [0, 12]), (.x 39 [0, 13])])) [(.cat [(.q 29)]), (.sl 14 0 1 1)] .any
(.df (.bin .add 3) [(.q 28), (.i 1)] .one
(.again 0 [(.q 42), (.cat [(.q 29), (.q 41)])])))))))))))))
(.df .bnd [(.q 0), (.q 28)] .one
(.df (.elems 14 0 14) [(.q 0), (.q 28)] (.ag 14)
(.df (.call 36 [.no, .no]) [(.a (SX.Y 34 0 14)), (.a (SX.Z 1 22))] (.tp [(.ag 14), .one])
(.df .not [(.x 35 [1])] .one
(.br 36 []
(.ret (.t [(.k (.slice none 0 0)), (.i 360)]) (List.replicate 14 none) [])
(.df (.app 14 112 (.own 14 [(.x 35 [0, 0]), (.x 35 [0, 1]), (.x 35 [0, 2]), (.x 35 [0, 3]), (.x 35 [0, 4]), (.x 35 [0, 5]), (.x 35 [0, 6]), (.x 35 [0, 7]), (.x 35 [0, 8]), (.x 35 [0, 9]), (.x 35 [0, 10]), (.x 35 [0, 11]), (.x 35 [0, 12]), (.x 35 [0, 13])])) [(.cat [(.q 29)]), (.sl 14 0 1 1)] .any
(.df (.bin .add 3) [(.q 28), (.i 1)] .one
(.again 0 [(.q 38), (.cat [(.q 29), (.q 37)])]))))))))))
(.df (.bin .eql 3) [(.q 1), (.i 5)] .one
(.br 32 []
(.df (.call 37 [(.row 14 [(.q 29)]), .no]) [(.row 3), (.a (SX.Z 9 14))] (.sl 14)
(.df (.call 15 [(.row 14 [(.q 33)])]) [(.row 4)] .one
(.df (.bin .neq 31) [(.q 34), (.i 0)] .one
(.br 35 []
(.ret (.t [(.k (.slice none 0 0)), (.q 34)]) [none, none, none, none, none] [])
(.ret (.t [(.row 4), (.i 0)]) [none, none, none, none, (some ⟨[(.q 33)], 0, (.ext 14)⟩)] [])))))
(.df (.call 15 [(.row 14 [(.q 29)])]) [(.row 3)] .one
(.df (.bin .neq 31) [(.q 33), (.i 0)] .one
(.br 34 []
(.ret (.t [(.k (.slice none 0 0)), (.q 33)]) [none, none, none, none] [])
(.ret (.t [(.row 3), (.i 0)]) [none, none, none, (some ⟨[(.q 29)], 26, (.row 14)⟩)] []))))))))))))))))))
def args_rapply : List SX.V := [.x 0 [], .a ((List.range 22).map fun j => .x (1+j) [])]
set_option maxRecDepth 100000 in
theorem run_rapply (K A : Value → Nat → List Value → Prop) : (SX.run (cxX1 K A) ⟨fun f => true, [⟨13, 9, [(.s 9, .one), (.s 8, .row 14 26)]⟩], 2, 100⟩ 100000 0 (SX.door 13 Try.f13 args_rapply (List.replicate 23 .one)) [.code (Try.f13.body.getD .skip), .top Try.f13]).strip = tree_rapply := by kernel_rfl
set_option maxRecDepth 100000 in
set_option maxHeartbeats 4000000 in
theorem rapply_any (ss : List Sg) (A : Option Addr) (n c : Nat) (d : Ed) (w : World) (hr : Rd w 14 A n (sgsL ss)) (hn : n ≤ 9223372036854775807) (hc : n ≤ c) : Calls Try.prog 13 #[.slice A n c, valE d] w fun e w' => Below w.heap.size w w' ∧ ∃ hdr, e = .returned (.tuple #[hdr, .int .i64 (applyF d ss).2]) ∧ SX.SlRet w w' [] hdr 14 (sgsL (applyF d ss).1) := by
  refine SX.calls_of_run (C := cxX1 (fun s sz cells => s = .slice A n c ∧ sz = 14 ∧ cells = sgsL ss) (fun _ _ _ => False)) (G := ⟨fun f => true, [⟨13, 9, [(.s 9, .one), (.s 8, .row 14 26)]⟩], 2, 100⟩) (args := args_rapply) (sh := (List.replicate 23 .one)) (ρ := (.slice A n c :: cellsE d)) 100000 tree_rapply (okX1 _ _) Try.func13 rfl (run_rapply _ _) (by kernel_rfl) (by kernel_rfl) (by kernel_rfl) ?_ ?_
  · rintro W hW s sz cells ⟨rfl, rfl, rfl⟩; exact ⟨hr.same0 hW, hc⟩
  have hA := SX.rd_some hr
  have hln : ss.length = n := by have := hr.1; rw [sgsL_len] at this; omega
  have k1 : (fun s sz cells => s = .slice A n c ∧ sz = 14 ∧ cells = sgsL ss) (Value.slice A n c) 14 (sgsL ss) := ⟨rfl, rfl, rfl⟩
  unfold tree_rapply
  refine SX.E (.int .i64 ((chkS ss))) (fun α => ⟨[⟨.slice A n c, 14, sgsL ss⟩], ⟨by kernel_rfl, rfl, cast (by kernel_rfl) k1, trivial⟩, .inl ⟨rfl, .slice A n c, ss, rfl, by omega, rfl⟩, SX.noAli rfl⟩) ?_
  refine SX.D (.bool (((chkS ss) : Int) != 0)) ?_
  refine SX.B (((chkS ss) : Int) != 0) (fun h24 => ?_) (fun h24 => ?_)
  · try simp only [NRM] at h24
    have hfact : applyF d ss = ([], chkS ss) := by by_cases hk : d.kind = 5; exact applyF_chk hk (by simpa using h24); (unfold applyF; rw [if_neg hk]; exact applyE_chk (by simpa using h24))
    exact SX.VC_ret fun α W _ hR hS => ⟨hS.below, (.slice none 0 0), Eq.trans (b := Ending.returned (.tuple #[(.slice none 0 0), .int .i64 ((chkS ss))])) (by kernel_rfl) (by rw [hfact]), (by rw [hfact]; exact SX.SlRet.nil)⟩
  try simp only [NRM] at h24
  refine SX.E (.bool (okEB d)) (fun α => ⟨[⟨valE d, 0, []⟩], ⟨by kernel_rfl, by kernel_rfl, trivial⟩, .inr (.inl ⟨rfl, d, rfl, rfl⟩), SX.noAli rfl⟩) ?_
  refine SX.D (.bool (!(okEB d))) ?_
  refine SX.B (!(okEB d)) (fun h26 => ?_) (fun h26 => ?_)
  · try simp only [NRM] at h26
    have hfact : applyF d ss = ([], 360) := by have hno : ¬ okE d := (fun hk => by have q := okEB_iff.2 hk; simp [q] at h26); by_cases hk : d.kind = 5; exact applyF_no hk (by simpa using h24) hno; (unfold applyF; rw [if_neg hk]; exact applyE_no (by simpa using h24) hno)
    exact SX.VC_ret fun α W _ hR hS => ⟨hS.below, (.slice none 0 0), Eq.trans (b := Ending.returned (.tuple #[(.slice none 0 0), .int .i64 360])) (by kernel_rfl) (by rw [hfact]), (by rw [hfact]; exact SX.SlRet.nil)⟩
  try simp only [NRM] at h26
  refine SX.D (.bool ((d.kind : Int) == 5)) ?_
  refine SX.B ((d.kind : Int) == 5) (fun h27 => ?_) (fun h27 => ?_)
  · try simp only [NRM] at h27
    refine SX.E (.int .i64 ((findS ss d.sign.id))) (fun α => ⟨[⟨.slice A n c, 14, sgsL ss⟩, ⟨.int .i64 d.sign.id, 0, []⟩], ⟨by kernel_rfl, rfl, cast (by kernel_rfl) k1, by kernel_rfl, by kernel_rfl, trivial⟩, .inr (.inr (.inl ⟨rfl, _, ss, d.sign.id, rfl, by omega, rfl⟩)), SX.noAli rfl⟩) ?_
    refine SX.D (.bool (decide ((findS ss d.sign.id) ≥ 0))) ?_
    refine SX.B (decide ((findS ss d.sign.id) ≥ 0)) (fun h29 => ?_) (fun h29 => ?_)
    · try simp only [NRM] at h29
      have hfact : applyF d ss = ([], 360) := applyF_met (by simpa using h27) (by simpa using h24) (okEB_iff.1 (by simpa using h26)) (findS_iff.1 (by omega))
      exact SX.VC_ret fun α W _ hR hS => ⟨hS.below, (.slice none 0 0), Eq.trans (b := Ending.returned (.tuple #[(.slice none 0 0), .int .i64 360])) (by kernel_rfl) (by rw [hfact]), (by rw [hfact]; exact SX.SlRet.nil)⟩
    try simp only [NRM] at h29
    have hk5 : d.kind = 5 := by simpa using h27
    have hok : okE d := okEB_iff.1 (by simpa using h26)
    have hnm : ¬ ∃ y ∈ ss, y.id = d.sign.id := fun h => absurd (findS_iff.2 h) (by omega)
    obtain ⟨hss, hs4⟩ := chkS_ok (show chkS ss = 0 by simpa using h24)
    refine SX.VC_loop (fun xs => ∃ (i : Nat), xs = [.int .i64 (i : Int), .agg (sgsL (ss.take i)).toArray] ∧ i ≤ n) (fun xs => match xs with | [.int _ i, _] => n - i.toNat | _ => 0) (fun α => ⟨0, Eq.trans (b := [.int .i64 0, .agg #[]]) (by kernel_rfl) (by simp [sgsL]), by omega⟩) ?_
    rintro xs - ⟨i, rfl, hin⟩
    refine SX.D (.int .i64 (((n : Nat) : Int))) ?_
    refine SX.D (.bool (decide (((i : Nat) : Int) < ((n : Nat) : Int)))) ?_
    refine SX.B (decide (((i : Nat) : Int) < ((n : Nat) : Int))) (fun h33 => ?_) (fun h33 => ?_)
    · try simp only [NRM] at h33
      refine SX.D (.bool ((d.kind : Int) == 3)) ?_
      refine SX.B ((d.kind : Int) == 3) (fun h34 => absurd h34 (by simp [hk5])) (fun h34 => ?_)
      try simp only [NRM] at h34
      obtain ⟨z, hz⟩ : ∃ z, ss[i]? = some z := ⟨_, List.getElem?_eq_getElem (by omega)⟩
      refine SX.E (.bool true) (fun α => SX.extBnd (A := A) (n := n) (c := c) (j := i) hA (by kernel_rfl) (by kernel_rfl) (by omega)) ?_
      refine SX.E (.agg (cellsSg z).toArray) (fun α => SX.extElems (f := cellsSg) (l := ss) (A := A) (n := n) (c := c) (j := i) (z := z) (fun _ => rfl) hA (by kernel_rfl) (by kernel_rfl) (by omega) (cast (by kernel_rfl) k1) hz) ?_
      have hzk := hss.1 z (List.mem_of_getElem? hz)
      refine SX.E (.tuple #[(valSg z), .bool true]) (fun α => ⟨[⟨valSg z, 0, []⟩, ⟨valE d, 0, []⟩], ⟨by kernel_rfl, by kernel_rfl, by kernel_rfl, by kernel_rfl, trivial⟩, .inr (.inr (.inr (.inl ⟨rfl, z, d, rfl, hzk, hok, by rw [chg_five hk5]⟩))), SX.noAli rfl⟩) ?_
      refine SX.D (.bool (!(true))) ?_
      refine SX.B (!(true)) (fun h38 => absurd h38 (by simp)) (fun h38 => ?_)
      try simp only [NRM] at h38
      refine SX.E (Value.agg (([z]).flatMap cellsSg).toArray) (fun α => SX.app_rel (f := cellsSg) (l1 := ss.take i) (l2 := [z]) (fun _ => rfl) cellsSg_one (by decide) (SX.cat1 (by kernel_rfl)) (SX.src_own (by kernel_rfl)) (by simp only [LL]; omega) (by simp only [LL]; omega)) ?_
      refine SX.E (.int .i64 (((i + 1 : Nat) : Int))) (fun α => SX.W1 i) ?_
      exact SX.VC_again fun α => ⟨⟨i + 1, Eq.trans (b := [.int .i64 ((i + 1 : Nat) : Int), .agg ([Value.agg (sgsL (ss.take i)).toArray, Value.agg (([z]).flatMap cellsSg).toArray].flatMap SX.cellsV).toArray]) (by kernel_rfl) (by rw [List.take_add_one, hz]; simp [SX.cellsV, sgsL]), by omega⟩, cast (by kernel_rfl) (show n - ((i + 1 : Nat) : Int).toNat < n - (i : Int).toNat by omega)⟩
    try simp only [NRM] at h33
    refine SX.D (.bool ((d.kind : Int) == 5)) ?_
    refine SX.B ((d.kind : Int) == 5) (fun h34 => ?_) (fun h34 => absurd h34 (by simp [hk5]))
    try simp only [NRM] at h34
    have htk : ss.take i = ss := List.take_of_length_le (by omega)
    refine SX.VC_df (Value.agg (sgsL (addS ss d.sign)).toArray) (fun α => ⟨[⟨(α 3).h, 14, sgsL ss⟩, ⟨valSg d.sign, 0, []⟩], ⟨Eq.trans (b := (⟨(α 3).h, 14, [Value.agg (sgsL (ss.take i)).toArray].flatMap SX.cellsV⟩ : SX.Arg)) (by rw [htk]; simp [SX.cellsV]) (by kernel_rfl), by kernel_rfl, by kernel_rfl, trivial⟩, .inr (.inr (.inr (.inr (⟨rfl, _, ss, d.sign, rfl, by omega, rfl⟩)))), SX.noAli rfl⟩) (sg_fitS _) ?_
    refine SX.E (.int .i64 ((chkS (addS ss d.sign)))) (fun α => ⟨[⟨(α 4).h, 14, sgsL (addS ss d.sign)⟩], ⟨Eq.trans (b := (⟨(α 4).h, 14, [Value.agg (sgsL (addS ss d.sign)).toArray].flatMap SX.cellsV⟩ : SX.Arg)) (by simp [SX.cellsV]) (by kernel_rfl), trivial⟩, .inl ⟨rfl, _, addS ss d.sign, rfl, by rw [addS_len]; omega, rfl⟩, SX.noAli rfl⟩) ?_
    refine SX.D (.bool (((chkS (addS ss d.sign)) : Int) != 0)) ?_
    refine SX.B (((chkS (addS ss d.sign)) : Int) != 0) (fun h37 => ?_) (fun h37 => ?_)
    · try simp only [NRM] at h37
      have hfact : applyF d ss = ([], chkS (addS ss d.sign)) := applyF_out hk5 (by simpa using h24) hok hnm (by simpa using h37)
      exact SX.VC_ret fun α W _ hR hS => ⟨hS.below, (.slice none 0 0), Eq.trans (b := Ending.returned (.tuple #[(.slice none 0 0), .int .i64 ((chkS (addS ss d.sign)))])) (by kernel_rfl) (by rw [hfact]), (by rw [hfact]; exact SX.SlRet.nil)⟩
    try simp only [NRM] at h37
    have hfact : applyF d ss = (addS ss d.sign, 0) := applyF_ok hk5 (by simpa using h24) hok hnm (by simpa using h37)
    exact SX.VC_ret fun α W _ hR hS => ⟨hS.below, (α 4).h, Eq.trans (b := Ending.returned (.tuple #[(α 4).h, .int .i64 0])) (by kernel_rfl) (by rw [hfact]), SX.SlRet.ext0 hS (n := 4) (b := (⟨[(.x 35 [])], 0, (.ext 14)⟩ : SX.Blk)) (by kernel_rfl) rfl (hR 4 _ (by kernel_rfl)) (Eq.trans (b := [Value.agg (sgsL (addS ss d.sign)).toArray].flatMap SX.cellsV) (by kernel_rfl) (by rw [hfact]; simp [SX.cellsV])) (fun W2 s z xs hk => nomatch hk) (fun B s z xs hk => nomatch hk)⟩
  try simp only [NRM] at h27
  have hk5 : d.kind ≠ 5 := by simpa using h27
  have hok : okE d := okEB_iff.1 (by simpa using h26)
  obtain ⟨hss, hs4⟩ := chkS_ok (show chkS ss = 0 by simpa using h24)
  refine SX.VC_loop (fun xs => ∃ (i : Nat) (cur : List Sg), xs = [.int .i64 (i : Int), .agg (sgsL cur).toArray] ∧ i ≤ n ∧ accE d (ss.take i) = some cur) (fun xs => match xs with | [.int _ i, _] => n - i.toNat | _ => 0) (fun α => ⟨0, [], by kernel_rfl, by omega, rfl⟩) ?_
  rintro xs - ⟨i, cur, rfl, hin, hacc⟩
  have hcl := acc_len hacc
  refine SX.D (.int .i64 (((n : Nat) : Int))) ?_
  refine SX.D (.bool (decide (((i : Nat) : Int) < ((n : Nat) : Int)))) ?_
  refine SX.B (decide (((i : Nat) : Int) < ((n : Nat) : Int))) (fun h31 => ?_) (fun h31 => ?_)
  · try simp only [NRM] at h31
    refine SX.D (.bool ((d.kind : Int) == 3)) ?_
    refine SX.B ((d.kind : Int) == 3) (fun h32 => ?_) (fun h32 => ?_)
    · try simp only [NRM] at h32
      obtain ⟨z, hz⟩ : ∃ z, ss[i]? = some z := ⟨_, List.getElem?_eq_getElem (by omega)⟩
      refine SX.E (.bool true) (fun α => SX.extBnd (A := A) (n := n) (c := c) (j := i) hA (by kernel_rfl) (by kernel_rfl) (by omega)) ?_
      refine SX.E (.bool true) (fun α => SX.extBnd (A := A) (n := n) (c := c) (j := i) hA (by kernel_rfl) (by kernel_rfl) (by omega)) ?_
      refine SX.E (.int .i64 z.bar) (fun α => SX.extElem (o := 2) (v := .int .i64 z.bar) (f := cellsSg) (l := ss) (A := A) (n := n) (c := c) (j := i) (z := z) (fun _ => rfl) hA (by kernel_rfl) (by kernel_rfl) (by omega) (cast (by kernel_rfl) k1) hz (by decide) (by kernel_rfl)) ?_
      refine SX.D (.bool (decide (z.bar ≥ d.fr))) ?_
      refine SX.B (decide (z.bar ≥ d.fr)) (fun h36 => ?_) (fun h36 => ?_)
      · try simp only [NRM] at h36
        refine SX.E (.bool true) (fun α => SX.extBnd (A := A) (n := n) (c := c) (j := i) hA (by kernel_rfl) (by kernel_rfl) (by omega)) ?_
        refine SX.E (.bool true) (fun α => SX.extBnd (A := A) (n := n) (c := c) (j := i) hA (by kernel_rfl) (by kernel_rfl) (by omega)) ?_
        refine SX.E (.int .i64 z.bar) (fun α => SX.extElem (o := 2) (v := .int .i64 z.bar) (f := cellsSg) (l := ss) (A := A) (n := n) (c := c) (j := i) (z := z) (fun _ => rfl) hA (by kernel_rfl) (by kernel_rfl) (by omega) (cast (by kernel_rfl) k1) hz (by decide) (by kernel_rfl)) ?_
        refine SX.D (.bool (decide (z.bar ≤ d.to))) ?_
        refine SX.B (decide (z.bar ≤ d.to)) (fun h40 => ?_) (fun h40 => ?_)
        · try simp only [NRM] at h40
          refine SX.E (.int .i64 (((i + 1 : Nat) : Int))) (fun α => SX.W1 i) ?_
          exact SX.VC_again fun α => ⟨⟨i + 1, cur ++ [], Eq.trans (b := [.int .i64 ((i + 1 : Nat) : Int), .agg ([Value.agg (sgsL cur).toArray].flatMap SX.cellsV).toArray]) (by kernel_rfl) (by simp [SX.cellsV, sgsL]), by omega, acc_step hz hacc (cut_work (by simpa using h32) ⟨by omega, by omega⟩)⟩, cast (by kernel_rfl) (show n - ((i + 1 : Nat) : Int).toNat < n - (i : Int).toNat by omega)⟩
        try simp only [NRM] at h40
        refine SX.E (.bool true) (fun α => SX.extBnd (A := A) (n := n) (c := c) (j := i) hA (by kernel_rfl) (by kernel_rfl) (by omega)) ?_
        refine SX.E (.agg (cellsSg z).toArray) (fun α => SX.extElems (f := cellsSg) (l := ss) (A := A) (n := n) (c := c) (j := i) (z := z) (fun _ => rfl) hA (by kernel_rfl) (by kernel_rfl) (by omega) (cast (by kernel_rfl) k1) hz) ?_
        obtain ⟨y, b, hch⟩ : ∃ y b, chgE d z = (y, b) := ⟨_, _, rfl⟩
        have hzk := hss.1 z (List.mem_of_getElem? hz)
        have hwk := chg_work hok.1 hok.2.1 hk5 (by omega) hch
        refine SX.E (.tuple #[(valSg y), .bool b]) (fun α => ⟨[⟨valSg z, 0, []⟩, ⟨valE d, 0, []⟩], ⟨by kernel_rfl, by kernel_rfl, by kernel_rfl, by kernel_rfl, trivial⟩, .inr (.inr (.inr (.inl ⟨rfl, z, d, rfl, hzk, hok, by rw [hch]⟩))), SX.noAli rfl⟩) ?_
        refine SX.D (.bool (!(b))) ?_
        refine SX.B (!(b)) (fun h44 => ?_) (fun h44 => ?_)
        · try simp only [NRM] at h44
          have hfact : applyF d ss = ([], 360) := by unfold applyF; rw [if_neg hk5]; exact applyE_fail (by simpa using h24) hok (acc_fail hz hacc (by rw [hwk, if_neg (by simpa using h44)]))
          exact SX.VC_ret fun α W _ hR hS => ⟨hS.below, (.slice none 0 0), Eq.trans (b := Ending.returned (.tuple #[(.slice none 0 0), .int .i64 360])) (by kernel_rfl) (by rw [hfact]), (by rw [hfact]; exact SX.SlRet.nil)⟩
        try simp only [NRM] at h44
        refine SX.E (Value.agg (([y]).flatMap cellsSg).toArray) (fun α => SX.app_rel (f := cellsSg) (l1 := cur) (l2 := [y]) (fun _ => rfl) cellsSg_one (by decide) (SX.cat1 (by kernel_rfl)) (SX.src_own (by kernel_rfl)) (by simp only [LL]; omega) (by simp only [LL]; omega)) ?_
        refine SX.E (.int .i64 (((i + 1 : Nat) : Int))) (fun α => SX.W1 i) ?_
        exact SX.VC_again fun α => ⟨⟨i + 1, cur ++ [y], Eq.trans (b := [.int .i64 ((i + 1 : Nat) : Int), .agg ([Value.agg (sgsL cur).toArray, Value.agg (([y]).flatMap cellsSg).toArray].flatMap SX.cellsV).toArray]) (by kernel_rfl) (by simp [SX.cellsV, sgsL]), by omega, acc_step hz hacc (by rw [hwk, if_pos (by simpa using h44)])⟩, cast (by kernel_rfl) (show n - ((i + 1 : Nat) : Int).toNat < n - (i : Int).toNat by omega)⟩
      try simp only [NRM] at h36
      refine SX.E (.bool true) (fun α => SX.extBnd (A := A) (n := n) (c := c) (j := i) hA (by kernel_rfl) (by kernel_rfl) (by omega)) ?_
      refine SX.E (.agg (cellsSg z).toArray) (fun α => SX.extElems (f := cellsSg) (l := ss) (A := A) (n := n) (c := c) (j := i) (z := z) (fun _ => rfl) hA (by kernel_rfl) (by kernel_rfl) (by omega) (cast (by kernel_rfl) k1) hz) ?_
      obtain ⟨y, b, hch⟩ : ∃ y b, chgE d z = (y, b) := ⟨_, _, rfl⟩
      have hzk := hss.1 z (List.mem_of_getElem? hz)
      have hwk := chg_work hok.1 hok.2.1 hk5 (by omega) hch
      refine SX.E (.tuple #[(valSg y), .bool b]) (fun α => ⟨[⟨valSg z, 0, []⟩, ⟨valE d, 0, []⟩], ⟨by kernel_rfl, by kernel_rfl, by kernel_rfl, by kernel_rfl, trivial⟩, .inr (.inr (.inr (.inl ⟨rfl, z, d, rfl, hzk, hok, by rw [hch]⟩))), SX.noAli rfl⟩) ?_
      refine SX.D (.bool (!(b))) ?_
      refine SX.B (!(b)) (fun h40 => ?_) (fun h40 => ?_)
      · try simp only [NRM] at h40
        have hfact : applyF d ss = ([], 360) := by unfold applyF; rw [if_neg hk5]; exact applyE_fail (by simpa using h24) hok (acc_fail hz hacc (by rw [hwk, if_neg (by simpa using h40)]))
        exact SX.VC_ret fun α W _ hR hS => ⟨hS.below, (.slice none 0 0), Eq.trans (b := Ending.returned (.tuple #[(.slice none 0 0), .int .i64 360])) (by kernel_rfl) (by rw [hfact]), (by rw [hfact]; exact SX.SlRet.nil)⟩
      try simp only [NRM] at h40
      refine SX.E (Value.agg (([y]).flatMap cellsSg).toArray) (fun α => SX.app_rel (f := cellsSg) (l1 := cur) (l2 := [y]) (fun _ => rfl) cellsSg_one (by decide) (SX.cat1 (by kernel_rfl)) (SX.src_own (by kernel_rfl)) (by simp only [LL]; omega) (by simp only [LL]; omega)) ?_
      refine SX.E (.int .i64 (((i + 1 : Nat) : Int))) (fun α => SX.W1 i) ?_
      exact SX.VC_again fun α => ⟨⟨i + 1, cur ++ [y], Eq.trans (b := [.int .i64 ((i + 1 : Nat) : Int), .agg ([Value.agg (sgsL cur).toArray, Value.agg (([y]).flatMap cellsSg).toArray].flatMap SX.cellsV).toArray]) (by kernel_rfl) (by simp [SX.cellsV, sgsL]), by omega, acc_step hz hacc (by rw [hwk, if_pos (by simpa using h40)])⟩, cast (by kernel_rfl) (show n - ((i + 1 : Nat) : Int).toNat < n - (i : Int).toNat by omega)⟩
    try simp only [NRM] at h32
    obtain ⟨z, hz⟩ : ∃ z, ss[i]? = some z := ⟨_, List.getElem?_eq_getElem (by omega)⟩
    refine SX.E (.bool true) (fun α => SX.extBnd (A := A) (n := n) (c := c) (j := i) hA (by kernel_rfl) (by kernel_rfl) (by omega)) ?_
    refine SX.E (.agg (cellsSg z).toArray) (fun α => SX.extElems (f := cellsSg) (l := ss) (A := A) (n := n) (c := c) (j := i) (z := z) (fun _ => rfl) hA (by kernel_rfl) (by kernel_rfl) (by omega) (cast (by kernel_rfl) k1) hz) ?_
    obtain ⟨y, b, hch⟩ : ∃ y b, chgE d z = (y, b) := ⟨_, _, rfl⟩
    have hzk := hss.1 z (List.mem_of_getElem? hz)
    have hwk := chg_work hok.1 hok.2.1 hk5 (by omega) hch
    refine SX.E (.tuple #[(valSg y), .bool b]) (fun α => ⟨[⟨valSg z, 0, []⟩, ⟨valE d, 0, []⟩], ⟨by kernel_rfl, by kernel_rfl, by kernel_rfl, by kernel_rfl, trivial⟩, .inr (.inr (.inr (.inl ⟨rfl, z, d, rfl, hzk, hok, by rw [hch]⟩))), SX.noAli rfl⟩) ?_
    refine SX.D (.bool (!(b))) ?_
    refine SX.B (!(b)) (fun h36 => ?_) (fun h36 => ?_)
    · try simp only [NRM] at h36
      have hfact : applyF d ss = ([], 360) := by unfold applyF; rw [if_neg hk5]; exact applyE_fail (by simpa using h24) hok (acc_fail hz hacc (by rw [hwk, if_neg (by simpa using h36)]))
      exact SX.VC_ret fun α W _ hR hS => ⟨hS.below, (.slice none 0 0), Eq.trans (b := Ending.returned (.tuple #[(.slice none 0 0), .int .i64 360])) (by kernel_rfl) (by rw [hfact]), (by rw [hfact]; exact SX.SlRet.nil)⟩
    try simp only [NRM] at h36
    refine SX.E (Value.agg (([y]).flatMap cellsSg).toArray) (fun α => SX.app_rel (f := cellsSg) (l1 := cur) (l2 := [y]) (fun _ => rfl) cellsSg_one (by decide) (SX.cat1 (by kernel_rfl)) (SX.src_own (by kernel_rfl)) (by simp only [LL]; omega) (by simp only [LL]; omega)) ?_
    refine SX.E (.int .i64 (((i + 1 : Nat) : Int))) (fun α => SX.W1 i) ?_
    exact SX.VC_again fun α => ⟨⟨i + 1, cur ++ [y], Eq.trans (b := [.int .i64 ((i + 1 : Nat) : Int), .agg ([Value.agg (sgsL cur).toArray, Value.agg (([y]).flatMap cellsSg).toArray].flatMap SX.cellsV).toArray]) (by kernel_rfl) (by simp [SX.cellsV, sgsL]), by omega, acc_step hz hacc (by rw [hwk, if_pos (by simpa using h36)])⟩, cast (by kernel_rfl) (show n - ((i + 1 : Nat) : Int).toNat < n - (i : Int).toNat by omega)⟩
  try simp only [NRM] at h31
  refine SX.D (.bool ((d.kind : Int) == 5)) ?_
  refine SX.B ((d.kind : Int) == 5) (fun h32 => absurd h32 (by simpa using hk5)) (fun h32 => ?_)
  try simp only [NRM] at h32
  refine SX.E (.int .i64 ((chkS cur))) (fun α => ⟨[⟨(α 3).h, 14, sgsL cur⟩], ⟨Eq.trans (b := (⟨(α 3).h, 14, [Value.agg (sgsL cur).toArray].flatMap SX.cellsV⟩ : SX.Arg)) (by simp [SX.cellsV]) (by kernel_rfl), trivial⟩, .inl ⟨rfl, _, cur, rfl, by omega, rfl⟩, SX.noAli rfl⟩) ?_
  refine SX.D (.bool (((chkS cur) : Int) != 0)) ?_
  refine SX.B (((chkS cur) : Int) != 0) (fun h34 => ?_) (fun h34 => ?_)
  · try simp only [NRM] at h34
    have hfact : applyF d ss = ([], chkS cur) := by unfold applyF; rw [if_neg hk5]; exact applyE_out (by simpa using h24) hok (by rw [← hacc, List.take_of_length_le (by omega)]) (by simpa using h34)
    exact SX.VC_ret fun α W _ hR hS => ⟨hS.below, (.slice none 0 0), Eq.trans (b := Ending.returned (.tuple #[(.slice none 0 0), .int .i64 ((chkS cur))])) (by kernel_rfl) (by rw [hfact]), (by rw [hfact]; exact SX.SlRet.nil)⟩
  try simp only [NRM] at h34
  have hfact : applyF d ss = (cur, 0) := by unfold applyF; rw [if_neg hk5]; exact applyE_ok (by simpa using h24) hok (by rw [← hacc, List.take_of_length_le (by omega)]) (by simpa using h34)
  exact SX.VC_ret fun α W _ hR hS => ⟨hS.below, (α 3).h, Eq.trans (b := Ending.returned (.tuple #[(α 3).h, .int .i64 0])) (by kernel_rfl) (by rw [hfact]), SX.SlRet.row hS (n := 3) (b := (⟨[(.x 29 [])], 26, (.row 14)⟩ : SX.Blk)) (by kernel_rfl) rfl (hR 3 _ (by kernel_rfl)) (Eq.trans (b := [Value.agg (sgsL cur).toArray].flatMap SX.cellsV) (by kernel_rfl) (by rw [hfact]; simp [SX.cellsV]))⟩
def tree_same : SX.Tree :=
(.df (.len false) [(.q 0)] .one
(.df (.len false) [(.q 1)] .one
(.df (.bin .neq 3) [(.q 2), (.q 3)] .one
(.br 4 []
(.ret (.k (.bool false)) [] [])
(.loop [(.i 0)] [.one]
(.df (.len false) [(.q 0)] .one
(.df (.bin .lss 3) [(.q 5), (.q 6)] .one
(.br 7 []
(.df .bnd [(.q 0), (.q 5)] .one
(.df (.elems 14 0 14) [(.q 0), (.q 5)] (.ag 14)
(.df .bnd [(.q 1), (.q 5)] .one
(.df (.elems 14 0 14) [(.q 1), (.q 5)] (.ag 14)
(.df (.eqr true 14 [(.i .i64), (.i .i64), (.i .i64), (.i .i64), (.i .i64), (.i .i64), (.i .i64), (.i .i64), (.i .i64), (.i .i64), (.i .i64), (.i .i64), (.i .i64), (.i .i64)]) (SX.Y 9 0 14 ++ SX.Y 11 0 14) .one
(.br 12 []
(.ret (.k (.bool false)) [] [])
(.df (.bin .add 3) [(.q 5), (.i 1)] .one
(.again 0 [(.q 13)]))))))))
(.ret (.k (.bool true)) [] [])))))))))
def args_same : List SX.V := [.x 0 [], .x 1 []]
set_option maxRecDepth 100000 in
theorem run_same (K A : Value → Nat → List Value → Prop) : (SX.run (cx0 K A) ⟨fun _ => false, [⟨16, 4, [(.s 5, .one)]⟩], 0, 100⟩ 100000 0 (SX.door 16 Try.f16 args_same [.one, .one]) [.code (Try.f16.body.getD .skip), .top Try.f16]).strip = tree_same := by kernel_rfl
set_option maxRecDepth 100000 in
set_option maxHeartbeats 4000000 in
theorem same_any (ss tt : List Sg) (A A' : Option Addr) (n c n' c' : Nat) (w : World) (hr : Rd w 14 A n (sgsL ss)) (hn : n ≤ 9223372036854775807) (hc : n ≤ c) (hr' : Rd w 14 A' n' (sgsL tt)) (hn' : n' ≤ 9223372036854775807) (hc' : n' ≤ c') : Calls Try.prog 16 #[.slice A n c, .slice A' n' c'] w fun e w' => e = .returned (.bool (decide (ss = tt))) ∧ Below w.heap.size w w' := by
  refine SX.calls_of_run (C := cx0 (fun s sz cells => (s = .slice A n c ∧ sz = 14 ∧ cells = sgsL ss) ∨ (s = .slice A' n' c' ∧ sz = 14 ∧ cells = sgsL tt)) (fun _ _ _ => False)) (G := ⟨fun _ => false, [⟨16, 4, [(.s 5, .one)]⟩], 0, 100⟩) (args := args_same) (sh := [.one, .one]) (ρ := [.slice A n c, .slice A' n' c']) 100000 tree_same (cx0_ok _ _) Try.func16 rfl (run_same _ _) (by kernel_rfl) (by kernel_rfl) (by kernel_rfl) ?_ ?_
  · rintro W hW s sz cells (⟨rfl, rfl, rfl⟩ | ⟨rfl, rfl, rfl⟩)
    · exact ⟨hr.same0 hW, hc⟩
    exact ⟨hr'.same0 hW, hc'⟩
  have hA := SX.rd_some hr
  have hln : ss.length = n := by have := hr.1; rw [sgsL_len] at this; omega
  have hA' := SX.rd_some hr'
  have hln' : tt.length = n' := by have := hr'.1; rw [sgsL_len] at this; omega
  unfold tree_same
  refine SX.D (.int .i64 (((n : Nat) : Int))) ?_
  refine SX.D (.int .i64 (((n' : Nat) : Int))) ?_
  refine SX.D (.bool ((((n : Nat) : Int) : Int) != ((n' : Nat) : Int))) ?_
  refine SX.B ((((n : Nat) : Int) : Int) != ((n' : Nat) : Int)) (fun h4 => ?_) (fun h4 => ?_)
  · try simp only [NRM] at h4
    exact SX.F (.bool false) (by congr 1; symm; first | (rw [decide_eq_false_iff_not]; rintro rfl; omega) | (rw [decide_eq_false_iff_not]; rintro rfl; rw [hy] at hz; cases hz; simp at h12) | (have hi : i = n := (by omega); subst hi; rw [List.take_of_length_le (by omega), List.take_of_length_le (by omega)] at htk; rw [decide_eq_true_eq]; exact htk))
  try simp only [NRM] at h4
  refine SX.VC_loop (fun xs => ∃ i : Nat, xs = [.int .i64 (i : Int)] ∧ i ≤ n ∧ ss.take i = tt.take i) (fun xs => match xs with | [.int _ i] => n - i.toNat | _ => 0) (fun α => ⟨0, by kernel_rfl, by omega, by simp⟩) ?_
  rintro xs - ⟨i, rfl, hin, htk⟩
  refine SX.D (.int .i64 (((n : Nat) : Int))) ?_
  refine SX.D (.bool (decide (((i : Nat) : Int) < ((n : Nat) : Int)))) ?_
  refine SX.B (decide (((i : Nat) : Int) < ((n : Nat) : Int))) (fun h7 => ?_) (fun h7 => ?_)
  · try simp only [NRM] at h7
    obtain ⟨y, hy⟩ : ∃ z, ss[i]? = some z := ⟨_, List.getElem?_eq_getElem (by omega)⟩
    obtain ⟨z, hz⟩ : ∃ z, tt[i]? = some z := ⟨_, List.getElem?_eq_getElem (by omega)⟩
    refine SX.E (.bool true) (fun α => SX.extBnd (A := A) (n := n) (c := c) (j := i) hA (by kernel_rfl) (by kernel_rfl) (by omega)) ?_
    refine SX.E (.agg (cellsSg y).toArray) (fun α => SX.extElems (f := cellsSg) (l := ss) (A := A) (n := n) (c := c) (j := i) (z := y) (fun _ => rfl) hA (by kernel_rfl) (by kernel_rfl) (by omega) (.inl ⟨rfl, rfl, rfl⟩) hy) ?_
    refine SX.E (.bool true) (fun α => SX.extBnd (A := A') (n := n') (c := c') (j := i) hA' (by kernel_rfl) (by kernel_rfl) (by omega)) ?_
    refine SX.E (.agg (cellsSg z).toArray) (fun α => SX.extElems (f := cellsSg) (l := tt) (A := A') (n := n') (c := c') (j := i) (z := z) (fun _ => rfl) hA' (by kernel_rfl) (by kernel_rfl) (by omega) (.inr ⟨rfl, rfl, rfl⟩) hz) ?_
    refine SX.E (.bool (true ^^ decide (y = z))) (fun α => SX.eqr_rel (f := cellsSg) cellsSg_inj (y := y) (z := z) (by kernel_rfl) (by kernel_rfl) (by kernel_rfl)) ?_
    refine SX.B (true ^^ decide (y = z)) (fun h12 => ?_) (fun h12 => ?_)
    · try simp only [NRM] at h12
      exact SX.F (.bool false) (by congr 1; symm; first | (rw [decide_eq_false_iff_not]; rintro rfl; omega) | (rw [decide_eq_false_iff_not]; rintro rfl; rw [hy] at hz; cases hz; simp at h12) | (have hi : i = n := (by omega); subst hi; rw [List.take_of_length_le (by omega), List.take_of_length_le (by omega)] at htk; rw [decide_eq_true_eq]; exact htk))
    try simp only [NRM] at h12
    refine SX.E (.int .i64 (((i + 1 : Nat) : Int))) (fun α => SX.W1 i) ?_
    exact SX.VC_again fun α => ⟨⟨i + 1, by kernel_rfl, by omega, by rw [List.take_add_one, List.take_add_one, htk, hy, hz, h12]⟩, cast (by kernel_rfl) (show n - ((i + 1 : Nat) : Int).toNat < n - (i : Int).toNat by omega)⟩
  try simp only [NRM] at h7
  exact SX.F (.bool true) (by congr 1; symm; first | (rw [decide_eq_false_iff_not]; rintro rfl; omega) | (rw [decide_eq_false_iff_not]; rintro rfl; rw [hy] at hz; cases hz; simp at h12) | (have hi : i = n := (by omega); subst hi; rw [List.take_of_length_le (by omega), List.take_of_length_le (by omega)] at htk; rw [decide_eq_true_eq]; exact htk))
theorem SX.SlRet.ok0 {C : SX.Cx} {f : FuncId} {as' : List SX.Arg} {W W' : World} {e : Ending} {k : Int} {cells : List Value} {sz : Nat} (hs : C.sh f = .tp [.sl sz, .one]) (h : Below W.heap.size W W' ∧ ∃ hdr, e = .returned (.tuple #[hdr, .int .i64 k]) ∧ SX.SlRet W W' [] hdr sz cells) :
    Below W.heap.size W W' ∧ ∃ hdr, e = .returned ((C.sh f).fill hdr (.tuple #[.agg cells.toArray, .int .i64 k])) ∧ ∀ p z, (p, z) ∈ (C.sh f).sls [] → SX.HdrOk C f as' W W' hdr z (SX.cellsV (p.foldl SX.comp (.tuple #[.agg cells.toArray, .int .i64 k]))) := by
  obtain ⟨hb, hdr, he, h1, h2, h3⟩ := h
  refine ⟨hb, hdr, by rw [hs, he]; rfl, fun p z hp => ?_⟩
  rw [hs] at hp
  obtain ⟨rfl, rfl⟩ : p = [0] ∧ z = sz := by simpa [SX.Sh.sls, SX.Sh.slsL] using hp
  refine ⟨h1, h2, .inl (h3.resolve_right ?_)⟩
  rintro ⟨y, hy, _⟩
  cases hy
theorem applyE_len (d : Ed) (ss : List Sg) : (applyE d ss).1.length ≤ ss.length := by
  by_cases h : chkS ss = 0
  · by_cases h2 : okE d
    · cases h3 : accE d ss with
      | none => rw [applyE_fail h h2 h3]; simp
      | some y =>
        have h5 : y.length ≤ ss.length := acc_len (i := ss.length) (by rw [List.take_length]; exact h3)
        by_cases h4 : chkS y = 0
        · rw [applyE_ok h h2 h3 h4]; exact h5
        rw [applyE_out h h2 h3 h4]; simp
    rw [applyE_no h h2]; simp
  rw [applyE_chk h]; simp
def intI (l : List Int) : List Value := l.map (.int .i64)
theorem intI_inj : ∀ (a b : List Int), intI a = intI b → a = b
  | [], [], _ => rfl
  | [], _ :: _, h => by simp [intI] at h
  | _ :: _, [], h => by simp [intI] at h
  | x :: a, y :: b, h => by
    simp only [intI, List.map_cons, List.cons.injEq, Value.int.injEq, true_and] at h
    rw [h.1, intI_inj a b h.2]
namespace SX
variable {C : Cx} {ρ : List Value} {α : Nat → AV}
theorem rbnd_k {c i : V} {sz L j : Nat} (h : (cellsV (c.den ρ α)).length = L) (hi : i.den ρ α = .int .i64 (j : Int)) (hlt : j < L / sz) : Opq.rel C ρ α (.rbnd sz) [c, i] (.bool true) := by
  refine ⟨?_, rfl⟩
  rw [hi, h]
  show 0 ≤ (j : Int) ∧ (j : Int) < ((L / sz : Nat) : Int)
  omega
theorem app_k {vs : List V} {y : V} {sz by' : Nat} {cs : List Value} (h : denL ρ α vs = cs) (h1 : cs.all (·.oneCell') = true) (h2 : (0 + cs.length) / sz * by' ≤ 140737488355328) (h3 : (0 + cs.length) / sz ≤ 140737488355328) : Opq.rel C ρ α (.app sz by' (.own sz vs)) [.cat [], y] (.agg cs.toArray) := by
  subst h
  exact ⟨⟨y.den ρ α, sz, denL ρ α vs⟩, ⟨rfl, trivial⟩, rfl, fun u hu => List.all_eq_true.1 h1 u hu, h2, h3, rfl⟩
end SX
theorem made_flat (z : Array Value) : ∀ n : Nat, (madeCells z (n * z.size)).toList = (List.replicate n z.toList).flatten
  | 0 => by simp [madeCells]
  | n + 1 => by
    have ih := made_flat z n
    rw [List.replicate_succ, List.flatten_cons, ← ih]
    unfold madeCells
    rw [show (n + 1) * z.size = z.size + n * z.size by rw [Nat.add_mul]; omega]
    simp only [Array.toList_map, Array.toList_range, List.range_add, List.map_append, List.map_map]
    congr 1
    · apply List.ext_getElem
      · simp
      intro i h1 h2
      have hi : i < z.size := by simpa using h2
      simp [Nat.mod_eq_of_lt hi, hi]
    apply List.map_congr_left
    intro i _
    simp [Nat.add_mod_left]
theorem mks_sg : sgsL (List.replicate 4097 zeroSg) = (madeCells (cellsSg zeroSg).toArray (4097 * 14)).toList := by
  have h := made_flat (cellsSg zeroSg).toArray 4097
  rw [show (cellsSg zeroSg).toArray.size = 14 from rfl] at h
  rw [h]
  unfold sgsL
  rw [List.flatMap_def, List.map_replicate]
theorem mks_val : Value.agg (sgsL (List.replicate 4097 zeroSg)).toArray = .agg (madeCells (cellsSg zeroSg).toArray (4097 * 14)) := by
  rw [mks_sg, Array.toArray_toList]
theorem sane_a1 : applyE (⟨1, 0, 0, 0, 9, 0, 0, 0, zeroSg⟩ : Ed) ([⟨4, 1, 2, 1, 4, 1, 7, 2, 0, 0, 0, 1, 1, 2⟩] : List Sg) = (([⟨4, 1, 2, 1, 4, 2, 3, 2, 0, 0, 0, 1, 1, 2⟩] : List Sg), 0) := applyE_ok (by decide +kernel) (by refine ⟨by decide, by decide, rfl, ?_⟩; simp only [rightE, roleE, barsE]; decide +kernel) (by decide +kernel) (by decide +kernel)
theorem sane_a7 : applyE (⟨7, 2, 0, 0, 2, 0, 1, 2, zeroSg⟩ : Ed) ([⟨4, 1, 2, 1, 4, 1, 7, 2, 0, 0, 0, 1, 1, 2⟩] : List Sg) = (([⟨4, 1, 2, 1, 4, 1, 7, 2, 0, 0, 0, 1, 1, 4⟩] : List Sg), 0) := applyE_ok (by decide +kernel) (by refine ⟨by decide, by decide, rfl, ?_⟩; simp only [rightE, roleE, barsE]; decide +kernel) (by decide +kernel) (by decide +kernel)
theorem sane_a3 : applyE (⟨3, 0, 0, 2, 3, 0, 0, 0, zeroSg⟩ : Ed) ([⟨4, 1, 2, 1, 4, 1, 7, 2, 0, 0, 0, 1, 1, 2⟩] : List Sg) = (([] : List Sg), 0) := applyE_ok (by decide +kernel) (by refine ⟨by decide, by decide, rfl, ?_⟩; simp only [rightE, roleE, barsE]; decide +kernel) (by decide +kernel) (by decide +kernel)
theorem sane_a0 : applyE (⟨0, 0, 0, 0, 0, 0, 0, 0, zeroSg⟩ : Ed) ([] : List Sg) = (([] : List Sg), 360) := applyE_no (by decide +kernel) (by rintro ⟨h1, h2, h3, h4⟩; revert h1 h2 h3 h4; simp only [rightE, roleE, barsE]; decide +kernel)
theorem sane_a2 : applyE (⟨2, 0, 0, 0, 0, 8, 0, 0, zeroSg⟩ : Ed) ([] : List Sg) = (([] : List Sg), 360) := applyE_no (by decide +kernel) (by rintro ⟨h1, h2, h3, h4⟩; revert h1 h2 h3 h4; simp only [rightE, roleE, barsE]; decide +kernel)
theorem sane_rep : chkS (List.replicate 4097 zeroSg) = 2 := by unfold chkS; rw [if_pos (by rw [List.length_replicate]; decide)]
def RE5 (f : FuncId) (xs : List SX.Arg) (v : Value) : Prop :=
  (f = 12 ∧ ∃ (u : Value) (ss : List Sg) (d : Ed), xs = [⟨u, 14, sgsL ss⟩, ⟨valE d, 0, []⟩] ∧ ss.length ≤ 9223372036854775807 ∧ d.kind ≠ 5 ∧ v = .tuple #[.agg (sgsL (applyE d ss).1).toArray, .int .i64 (applyE d ss).2]) ∨
  (f = 14 ∧ ∃ (u : Value) (ss : List Sg), xs = [⟨u, 14, sgsL ss⟩] ∧ ss.length ≤ 9223372036854775807 ∧ v = .int .i64 (chkS ss)) ∨
  (f = 16 ∧ ∃ (u u2 : Value) (ss tt : List Sg), xs = [⟨u, 14, sgsL ss⟩, ⟨u2, 14, sgsL tt⟩] ∧ ss.length ≤ 9223372036854775807 ∧ tt.length ≤ 9223372036854775807 ∧ v = .bool (decide (ss = tt)))
def shpE5 : FuncId → Option SX.Sh := fun f => if f = 12 then some (.tp [.sl 14, .one]) else if f = 14 then some .one else if f = 16 then some .one else none
noncomputable def cxE5 (K A : Value → Nat → List Value → Prop) : SX.Cx := { P := Try.prog, R := fun _ => RE5, shp := shpE5, K := K, A := A, stc := true, trm := true, cut := [(7, 0, true), (8, 1, true), (10, 2, true), (11, 3, true), (13, 4, true), (17, 5, true), (19, 6, false), (20, 7, true), (26, 8, true), (29, 9, true), (30, 10, true), (31, 11, true), (32, 12, true), (35, 13, true), (36, 14, true), (37, 15, true), (38, 16, true), (39, 17, true), (40, 18, true), (41, 19, true), (43, 20, true), (45, 21, true), (47, 22, true), (50, 23, true), (51, 24, false), (52, 25, false), (54, 26, true), (56, 27, false), (58, 28, false), (60, 29, true), (62, 30, false), (65, 31, false), (68, 32, true), (70, 33, true)], tl := [47, 57, 42, 41] }
theorem okE5 (K A : Value → Nat → List Value → Prop) : (cxE5 K A).Ok := by
  refine SX.Cx.ok_of (fun _ => rfl) ?_
  intro K f xs v W hR hrd hKf
  rcases hR with ⟨rfl, u, ss, d, rfl, hl, hd, rfl⟩ | ⟨rfl, u, ss, rfl, hl, rfl⟩ | ⟨rfl, u, u2, ss, tt, rfl, hl, hl2, rfl⟩
  · refine Calls.mono ?_ fun e w' h => SX.SlRet.ok0 rfl h
    obtain ⟨A, n, c, rfl, h2, h3, h4⟩ := sgs_arg (hrd ⟨u, 14, sgsL ss⟩ (by simp))
    exact apply_any ss A n c d W h2 (by omega) h3 hd
  · obtain ⟨A, n, c, rfl, h2, h3, h4⟩ := sgs_arg (hrd ⟨u, 14, sgsL ss⟩ (by simp))
    exact (echeck_any ss A n c W h2 (by omega) h3).mono fun e w' h => SX.plainOk rfl h
  obtain ⟨A, n, c, rfl, h2, h3, h4⟩ := sgs_arg (hrd ⟨u, 14, sgsL ss⟩ (by simp))
  obtain ⟨A', n', c', rfl, h2', h3', h4'⟩ := sgs_arg (hrd ⟨u2, 14, sgsL tt⟩ (by simp))
  exact (same_any ss tt A A' n c n' c' W h2 (by omega) h3 h2' (by omega) h3').mono fun e w' h => SX.plainOk rfl h
def tree_sane36 : SX.Tree :=
(.df (.call 12 [(.own 14 [(.i 4), (.i 1), (.i 2), (.i 1), (.i 4), (.i 1), (.i 7), (.i 2), (.i 0), (.i 0), (.i 0), (.i 1), (.i 1), (.i 2)]), .no]) [(.sl 1 0 1 1), (.a [(.i 1), (.i 0), (.i 0), (.i 0), (.i 9), (.i 0), (.i 0), (.i 0), (.i 0), (.i 0), (.i 0), (.i 0), (.i 0), (.i 0), (.i 0), (.i 0), (.i 0), (.i 0), (.i 0), (.i 0), (.i 0), (.i 0)])] (.tp [(.sl 14), .one])
(.df (.call 12 [(.own 14 [(.i 4), (.i 1), (.i 2), (.i 1), (.i 4), (.i 1), (.i 7), (.i 2), (.i 0), (.i 0), (.i 0), (.i 1), (.i 1), (.i 2)]), .no]) [(.sl 1 0 1 1), (.a [(.i 7), (.i 2), (.i 0), (.i 0), (.i 2), (.i 0), (.i 1), (.i 2), (.i 0), (.i 0), (.i 0), (.i 0), (.i 0), (.i 0), (.i 0), (.i 0), (.i 0), (.i 0), (.i 0), (.i 0), (.i 0), (.i 0)])] (.tp [(.sl 14), .one])
(.df (.call 12 [(.own 14 [(.i 4), (.i 1), (.i 2), (.i 1), (.i 4), (.i 1), (.i 7), (.i 2), (.i 0), (.i 0), (.i 0), (.i 1), (.i 1), (.i 2)]), .no]) [(.sl 1 0 1 1), (.a [(.i 3), (.i 0), (.i 0), (.i 2), (.i 3), (.i 0), (.i 0), (.i 0), (.i 0), (.i 0), (.i 0), (.i 0), (.i 0), (.i 0), (.i 0), (.i 0), (.i 0), (.i 0), (.i 0), (.i 0), (.i 0), (.i 0)])] (.tp [(.sl 14), .one])
(.df (.call 12 [(.own 14 []), .no]) [(.k (.slice none 0 0)), (.a [(.i 0), (.i 0), (.i 0), (.i 0), (.i 0), (.i 0), (.i 0), (.i 0), (.i 0), (.i 0), (.i 0), (.i 0), (.i 0), (.i 0), (.i 0), (.i 0), (.i 0), (.i 0), (.i 0), (.i 0), (.i 0), (.i 0)])] (.tp [(.sl 14), .one])
(.df (.call 12 [(.own 14 []), .no]) [(.k (.slice none 0 0)), (.a [(.i 2), (.i 0), (.i 0), (.i 0), (.i 0), (.i 8), (.i 0), (.i 0), (.i 0), (.i 0), (.i 0), (.i 0), (.i 0), (.i 0), (.i 0), (.i 0), (.i 0), (.i 0), (.i 0), (.i 0), (.i 0), (.i 0)])] (.tp [(.sl 14), .one])
(.df (.call 14 [(.own 14 [(.i 4), (.i 1), (.i 2), (.i 1), (.i 4), (.i 1), (.i 7), (.i 2), (.i 0), (.i 0), (.i 0), (.i 1), (.i 1), (.i 2)])]) [(.sl 1 0 1 1)] .one
(.df (.call 14 [(.own 14 [(.i 4), (.i 1), (.i 2), (.i 1), (.i 4), (.i 1), (.i 7), (.i 3), (.i 0), (.i 0), (.i 0), (.i 1), (.i 1), (.i 2)])]) [(.sl 10 0 1 1)] .one
(.df (.bin .neq 31) [(.q 5), (.i 0)] .one
(.br 7 [] (.bad 70 [])
(.df (.bin .neq 31) [(.q 6), (.i 0)] .one
(.br 8 [] (.bad 70 [])
(.df (.app 19 168 (.own 19 [(.i 0), (.i 1), (.i 4), (.i 6), (.i 0), (.i 0), (.i 0), (.i 0), (.i 0), (.i 0), (.i 0), (.i 3), (.i 0), (.i 0), (.i 0), (.i 0), (.i 0), (.i 0), (.k (.slice none 0 0))])) [(.cat []), (.sl 26 0 1 1)] .any
(.df (.eqr true 2 [(.i .i64), (.i .i64)]) [(.i 0), (.i 1), (.i 0), (.i 1)] .one
(.br 10 [] (.bad 70 [])
(.df (.eqr true 2 [(.i .i64), (.i .i64)]) [(.i 1), (.i 2), (.i 1), (.i 2)] .one
(.br 11 [] (.bad 70 [])
(.df (.rlen 19) [(.cat [(.a [(.i 0), (.i 1), (.i 4), (.i 6), (.i 0), (.i 0), (.i 0), (.i 0), (.i 0), (.i 0), (.i 0), (.i 3), (.i 0), (.i 0), (.i 0), (.i 0), (.i 0), (.i 0), (.k (.slice none 0 0))])])] .one
(.df (.bin .gtr 3) [(.q 12), (.i 512)] .one
(.br 13 [] (.bad 70 [])
(.df (.rlen 19) [(.cat [(.a [(.i 0), (.i 1), (.i 4), (.i 6), (.i 0), (.i 0), (.i 0), (.i 0), (.i 0), (.i 0), (.i 0), (.i 3), (.i 0), (.i 0), (.i 0), (.i 0), (.i 0), (.i 0), (.k (.slice none 0 0))])])] .one
(.df (.bin .add 3) [(.i 7), (.q 14)] .one
(.df (.bin .sub 3) [(.q 15), (.i 1)] .one
(.df (.bin .gtr 3) [(.q 16), (.i 1048576)] .one
(.br 17 [] (.bad 70 [])
(.df (.rlen 19) [(.cat [(.a [(.i 0), (.i 1), (.i 4), (.i 6), (.i 0), (.i 0), (.i 0), (.i 0), (.i 0), (.i 0), (.i 0), (.i 3), (.i 0), (.i 0), (.i 0), (.i 0), (.i 0), (.i 0), (.k (.slice none 0 0))])])] .one
(.df (.bin .lss 3) [(.i 0), (.q 18)] .one
(.br 19 []
(.df (.snil false) [(.sl 11 0 2 2)] .one
(.br 20 [] (.bad 70 [])
(.df (.app 1 8 (.own 1 [(.i 2), (.i 5)])) [(.cat []), (.sl 11 0 2 2)] .any
(.df (.rbnd 19) [(.cat [(.a [(.i 0), (.i 1), (.i 4), (.i 6), (.i 0), (.i 0), (.i 0), (.i 0), (.i 0), (.i 0), (.i 0), (.i 3), (.i 0), (.i 0), (.i 0), (.i 0), (.i 0), (.i 0), (.k (.slice none 0 0))])]), (.i 0)] .one
(.df (.rbnd 19) [(.cat [(.a [(.i 0), (.i 1), (.i 4), (.i 6), (.i 0), (.i 0), (.i 0), (.i 0), (.i 0), (.i 0), (.i 0), (.i 3), (.i 0), (.i 0), (.i 0), (.i 0), (.i 0), (.i 0), (.k (.slice none 0 0))])]), (.i 0)] .one
(.df (.rbnd 19) [(.cat [(.a [(.i 0), (.i 1), (.i 4), (.i 6), (.i 0), (.i 0), (.i 0), (.i 0), (.i 0), (.i 0), (.i 0), (.i 3), (.i 0), (.i 0), (.i 0), (.i 0), (.i 0), (.i 0), (.k (.slice none 0 0))])]), (.i 0)] .one
(.df (.rbnd 19) [(.cat [(.a [(.i 0), (.i 1), (.i 4), (.i 6), (.i 0), (.i 0), (.i 0), (.i 0), (.i 0), (.i 0), (.i 0), (.i 3), (.i 0), (.i 0), (.i 0), (.i 0), (.i 0), (.i 0), (.k (.slice none 0 0))])]), (.i 0)] .one
(.df (.bin .lss 3) [(.i 1), (.q 18)] .one
(.br 26 [] (.bad 70 [])
(.df (.call 14 [(.own 14 [(.i 4), (.i 1), (.i 2), (.i 1), (.i 4), (.i 1), (.i 7), (.i 2), (.i 0), (.i 0), (.i 0), (.i 1), (.i 1), (.i 2)])]) [(.sl 1 0 1 1)] .one
(.df (.call 14 [(.own 14 [(.i 4), (.i 1), (.i 2), (.i 1), (.i 4), (.i 1), (.i 7), (.i 2), (.i 0), (.i 0), (.i 0), (.i 1), (.i 1), (.i 2)])]) [(.sl 1 0 1 1)] .one
(.df (.bin .neq 31) [(.q 27), (.i 0)] .one
(.br 29 [] (.bad 70 [])
(.df (.bin .neq 31) [(.q 28), (.i 0)] .one
(.br 30 [] (.bad 70 [])
(.df (.eqr true 2 [(.i .i64), (.i .i64)]) [(.i 0), (.i 1), (.i 0), (.i 1)] .one
(.br 31 [] (.bad 70 [])
(.df (.eqr true 2 [(.i .i64), (.i .i64)]) [(.i 1), (.i 2), (.i 1), (.i 2)] .one
(.br 32 [] (.bad 70 [])
(.df (.call 14 [(.own 14 [(.i 4), (.i 1), (.i 2), (.i 1), (.i 4), (.i 1), (.i 7), (.i 2), (.i 0), (.i 0), (.i 0), (.i 1), (.i 1), (.i 2)])]) [(.sl 1 0 1 1)] .one
(.df (.call 14 [(.own 14 [(.i 4), (.i 1), (.i 2), (.i 1), (.i 4), (.i 1), (.i 7), (.i 2), (.i 0), (.i 0), (.i 0), (.i 1), (.i 1), (.i 2)])]) [(.sl 1 0 1 1)] .one
(.df (.bin .neq 31) [(.q 33), (.i 0)] .one
(.br 35 [] (.bad 70 [])
(.df (.bin .neq 31) [(.q 34), (.i 0)] .one
(.br 36 [] (.bad 70 [])
(.df (.bin .neq 31) [(.x 0 [1]), (.i 0)] .one
(.br 37 [] (.bad 70 [])
(.df (.bin .neq 31) [(.x 1 [1]), (.i 0)] .one
(.br 38 [] (.bad 70 [])
(.df (.bin .neq 31) [(.x 2 [1]), (.i 0)] .one
(.br 39 [] (.bad 70 [])
(.df (.bin .neq 31) [(.x 3 [1]), (.i 360)] .one
(.br 40 [] (.bad 70 [])
(.df (.bin .neq 31) [(.x 4 [1]), (.i 360)] .one
(.br 41 [] (.bad 70 [])
(.df (.rlen 14) [(.cat [(.x 2 [0])])] .one
(.df (.bin .neq 3) [(.q 42), (.i 0)] .one
(.br 43 [] (.bad 70 [])
(.df (.call 14 [(.own 14 [])]) [(.k (.slice none 0 0))] .one
(.df (.bin .neq 31) [(.q 44), (.i 0)] .one
(.br 45 [] (.bad 70 [])
(.df (.call 14 [(.own 14 [(.i 4), (.i 1), (.i 2), (.i 1), (.i 4), (.i 1), (.i 7), (.i 2), (.i 0), (.i 0), (.i 0), (.i 1), (.i 1), (.i 2), (.i 4), (.i 1), (.i 2), (.i 1), (.i 4), (.i 1), (.i 7), (.i 2), (.i 0), (.i 0), (.i 0), (.i 1), (.i 1), (.i 2)])]) [(.sl 48 0 2 2)] .one
(.df (.bin .neq 31) [(.q 46), (.i 360)] .one
(.br 47 [] (.bad 70 [])
(.df (.mks (.agg #[(.int .i64 0), (.int .i64 0), (.int .i64 0), (.int .i64 0), (.int .i64 0), (.int .i64 0), (.int .i64 0), (.int .i64 0), (.int .i64 0), (.int .i64 0), (.int .i64 0), (.int .i64 0), (.int .i64 0), (.int .i64 0)]) 14 112) [(.i 4097), (.i 4097)] .any
(.df (.call 14 [(.row 14 [(.q 48)])]) [(.row 49)] .one
(.df (.bin .neq 31) [(.q 49), (.i 2)] .one
(.br 50 [] (.bad 70 [])
(.df (.call 16 [(.row 14 [(.x 0 [0])]), (.own 14 [(.i 4), (.i 1), (.i 2), (.i 1), (.i 4), (.i 2), (.i 3), (.i 2), (.i 0), (.i 0), (.i 0), (.i 1), (.i 1), (.i 2)])]) [(.row 5), (.sl 50 0 1 1)] .one
(.br 51 []
(.df (.call 16 [(.row 14 [(.x 1 [0])]), (.own 14 [(.i 4), (.i 1), (.i 2), (.i 1), (.i 4), (.i 1), (.i 7), (.i 2), (.i 0), (.i 0), (.i 0), (.i 1), (.i 1), (.i 4)])]) [(.row 6), (.sl 51 0 1 1)] .one
(.br 52 []
(.df (.rlen 19) [(.cat [(.a [(.i 0), (.i 1), (.i 4), (.i 6), (.i 0), (.i 0), (.i 0), (.i 0), (.i 0), (.i 0), (.i 0), (.i 3), (.i 0), (.i 0), (.i 0), (.i 0), (.i 0), (.i 0), (.k (.slice none 0 0))])])] .one
(.df (.bin .neq 3) [(.q 53), (.i 1)] .one
(.br 54 [] (.bad 70 [])
(.df (.rlen 19) [(.cat [(.a [(.i 0), (.i 1), (.i 4), (.i 6), (.i 0), (.i 0), (.i 0), (.i 0), (.i 0), (.i 0), (.i 0), (.i 3), (.i 0), (.i 0), (.i 0), (.i 0), (.i 0), (.i 0), (.k (.slice none 0 0))])])] .one
(.df (.bin .lss 3) [(.i 0), (.q 55)] .one
(.br 56 []
(.df (.rbnd 19) [(.cat [(.a [(.i 0), (.i 1), (.i 4), (.i 6), (.i 0), (.i 0), (.i 0), (.i 0), (.i 0), (.i 0), (.i 0), (.i 3), (.i 0), (.i 0), (.i 0), (.i 0), (.i 0), (.i 0), (.k (.slice none 0 0))])]), (.i 0)] .one
(.df (.eqr false 14 [(.i .i64), (.i .i64), (.i .i64), (.i .i64), (.i .i64), (.i .i64), (.i .i64), (.i .i64), (.i .i64), (.i .i64), (.i .i64), (.i .i64), (.i .i64), (.i .i64)]) [(.i 0), (.i 0), (.i 0), (.i 0), (.i 0), (.i 0), (.i 0), (.i 3), (.i 0), (.i 0), (.i 0), (.i 0), (.i 0), (.i 0), (.i 0), (.i 0), (.i 0), (.i 0), (.i 0), (.i 0), (.i 0), (.i 3), (.i 0), (.i 0), (.i 0), (.i 0), (.i 0), (.i 0)] .one
(.br 58 []
(.df (.rlen 1) [(.cat [(.a [(.i 2), (.i 5)])])] .one
(.df (.bin .neq 3) [(.q 59), (.i 2)] .one
(.br 60 [] (.bad 70 [])
(.df (.rlen 1) [(.cat [(.a [(.i 2), (.i 5)])])] .one
(.df (.bin .lss 3) [(.i 0), (.q 61)] .one
(.br 62 []
(.df (.rbnd 1) [(.cat [(.a [(.i 2), (.i 5)])]), (.i 0)] .one
(.df (.rlen 1) [(.cat [(.a [(.i 2), (.i 5)])])] .one
(.df (.bin .lss 3) [(.i 1), (.q 64)] .one
(.br 65 []
(.df (.rbnd 1) [(.cat [(.a [(.i 2), (.i 5)])]), (.i 1)] .one
(.df (.rlen 1) [(.cat [(.a [(.i 2), (.i 5)])])] .one
(.df (.bin .lss 3) [(.i 2), (.q 67)] .one
(.br 68 [] (.bad 70 [])
(.df (.rlen 19) [(.cat [(.a [(.i 0), (.i 1), (.i 4), (.i 6), (.i 0), (.i 0), (.i 0), (.i 0), (.i 0), (.i 0), (.i 0), (.i 3), (.i 0), (.i 0), (.i 0), (.i 0), (.i 0), (.i 0), (.k (.slice none 0 0))])])] .one
(.df (.bin .lss 3) [(.i 1), (.q 69)] .one
(.br 70 [] (.bad 70 [])
(.ret (.k (.bool true)) [] [])))))))) (.bad 70 []))))) (.bad 70 []))))))) (.bad 70 [])))) (.bad 70 []))))))) (.bad 70 []))) (.bad 70 []))))))))))))))))))))))))))))))))))))))))))))))))))) (.bad 70 []))))))))))))))))))))))))))))
set_option maxRecDepth 100000 in
theorem run_sane36 (K A : Value → Nat → List Value → Prop) : (SX.run (cxE5 K A) ⟨fun _ => true, [], 0, 100⟩ 100000 0 (SX.door 10 Try.f10 [] []) [.code (Try.f10.body.getD .skip), .top Try.f10]).strip = tree_sane36 := by kernel_rfl
set_option maxRecDepth 100000 in
set_option maxHeartbeats 4000000 in
theorem sane36_any (w : World) : Calls Try.prog 10 #[] w fun e w' => e = .returned (.bool true) ∧ Below w.heap.size w w' := by
  refine SX.calls_of_run (C := cxE5 (fun _ _ _ => False) (fun _ _ _ => False)) (G := ⟨fun _ => true, [], 0, 100⟩) (args := []) (sh := []) (ρ := []) 100000 tree_sane36 (okE5 _ _) Try.func10 rfl (run_sane36 _ _) (by kernel_rfl) (by kernel_rfl) (by kernel_rfl) (fun W _ => SX.Kf_none (fun _ _ _ h => h) W) ?_
  unfold tree_sane36
  refine SX.VC_df (.tuple #[.agg (sgsL ([⟨4, 1, 2, 1, 4, 2, 3, 2, 0, 0, 0, 1, 1, 2⟩] : List Sg)).toArray, .int .i64 0]) (fun α => ⟨[⟨(.slice (some ⟨(α 1).b, 0, none⟩) 1 1), 14, sgsL ([⟨4, 1, 2, 1, 4, 1, 7, 2, 0, 0, 0, 1, 1, 2⟩] : List Sg)⟩, ⟨valE (⟨1, 0, 0, 0, 9, 0, 0, 0, zeroSg⟩ : Ed), 0, []⟩], ⟨by kernel_rfl, by kernel_rfl, by kernel_rfl, trivial⟩, .inl ⟨rfl, _, ([⟨4, 1, 2, 1, 4, 1, 7, 2, 0, 0, 0, 1, 1, 2⟩] : List Sg), (⟨1, 0, 0, 0, 9, 0, 0, 0, zeroSg⟩ : Ed), rfl, by decide, by decide, by rw [sane_a1]⟩, SX.noAli rfl⟩) (sgs_fit _ _) ?_
  refine SX.VC_df (.tuple #[.agg (sgsL ([⟨4, 1, 2, 1, 4, 1, 7, 2, 0, 0, 0, 1, 1, 4⟩] : List Sg)).toArray, .int .i64 0]) (fun α => ⟨[⟨(.slice (some ⟨(α 1).b, 0, none⟩) 1 1), 14, sgsL ([⟨4, 1, 2, 1, 4, 1, 7, 2, 0, 0, 0, 1, 1, 2⟩] : List Sg)⟩, ⟨valE (⟨7, 2, 0, 0, 2, 0, 1, 2, zeroSg⟩ : Ed), 0, []⟩], ⟨by kernel_rfl, by kernel_rfl, by kernel_rfl, trivial⟩, .inl ⟨rfl, _, ([⟨4, 1, 2, 1, 4, 1, 7, 2, 0, 0, 0, 1, 1, 2⟩] : List Sg), (⟨7, 2, 0, 0, 2, 0, 1, 2, zeroSg⟩ : Ed), rfl, by decide, by decide, by rw [sane_a7]⟩, SX.noAli rfl⟩) (sgs_fit _ _) ?_
  refine SX.VC_df (.tuple #[.agg (sgsL ([] : List Sg)).toArray, .int .i64 0]) (fun α => ⟨[⟨(.slice (some ⟨(α 1).b, 0, none⟩) 1 1), 14, sgsL ([⟨4, 1, 2, 1, 4, 1, 7, 2, 0, 0, 0, 1, 1, 2⟩] : List Sg)⟩, ⟨valE (⟨3, 0, 0, 2, 3, 0, 0, 0, zeroSg⟩ : Ed), 0, []⟩], ⟨by kernel_rfl, by kernel_rfl, by kernel_rfl, trivial⟩, .inl ⟨rfl, _, ([⟨4, 1, 2, 1, 4, 1, 7, 2, 0, 0, 0, 1, 1, 2⟩] : List Sg), (⟨3, 0, 0, 2, 3, 0, 0, 0, zeroSg⟩ : Ed), rfl, by decide, by decide, by rw [sane_a3]⟩, SX.noAli rfl⟩) (sgs_fit _ _) ?_
  refine SX.VC_df (.tuple #[.agg (sgsL ([] : List Sg)).toArray, .int .i64 360]) (fun α => ⟨[⟨(.slice none 0 0), 14, sgsL ([] : List Sg)⟩, ⟨valE (⟨0, 0, 0, 0, 0, 0, 0, 0, zeroSg⟩ : Ed), 0, []⟩], ⟨by kernel_rfl, by kernel_rfl, by kernel_rfl, trivial⟩, .inl ⟨rfl, _, ([] : List Sg), (⟨0, 0, 0, 0, 0, 0, 0, 0, zeroSg⟩ : Ed), rfl, by decide, by decide, by rw [sane_a0]⟩, SX.noAli rfl⟩) (sgs_fit _ _) ?_
  refine SX.VC_df (.tuple #[.agg (sgsL ([] : List Sg)).toArray, .int .i64 360]) (fun α => ⟨[⟨(.slice none 0 0), 14, sgsL ([] : List Sg)⟩, ⟨valE (⟨2, 0, 0, 0, 0, 8, 0, 0, zeroSg⟩ : Ed), 0, []⟩], ⟨by kernel_rfl, by kernel_rfl, by kernel_rfl, trivial⟩, .inl ⟨rfl, _, ([] : List Sg), (⟨2, 0, 0, 0, 0, 8, 0, 0, zeroSg⟩ : Ed), rfl, by decide, by decide, by rw [sane_a2]⟩, SX.noAli rfl⟩) (sgs_fit _ _) ?_
  refine SX.E (.int .i64 0) (fun α => ⟨[⟨(.slice (some ⟨(α 1).b, 0, none⟩) 1 1), 14, sgsL ([⟨4, 1, 2, 1, 4, 1, 7, 2, 0, 0, 0, 1, 1, 2⟩] : List Sg)⟩], ⟨by kernel_rfl, trivial⟩, .inr (.inl ⟨rfl, _, ([⟨4, 1, 2, 1, 4, 1, 7, 2, 0, 0, 0, 1, 1, 2⟩] : List Sg), rfl, by decide, by kernel_rfl⟩), SX.noAli rfl⟩) ?_
  refine SX.E (.int .i64 0) (fun α => ⟨[⟨(.slice (some ⟨(α 10).b, 0, none⟩) 1 1), 14, sgsL ([⟨4, 1, 2, 1, 4, 1, 7, 3, 0, 0, 0, 1, 1, 2⟩] : List Sg)⟩], ⟨by kernel_rfl, trivial⟩, .inr (.inl ⟨rfl, _, ([⟨4, 1, 2, 1, 4, 1, 7, 3, 0, 0, 0, 1, 1, 2⟩] : List Sg), rfl, by decide, by kernel_rfl⟩), SX.noAli rfl⟩) ?_
  refine SX.D (.bool false) ?_
  refine SX.B false (fun h => Bool.noConfusion h) (fun _ => ?_)
  refine SX.D (.bool false) ?_
  refine SX.B false (fun h => Bool.noConfusion h) (fun _ => ?_)
  refine SX.E (.agg ([.int .i64 0, .int .i64 1, .int .i64 4, .int .i64 6, .int .i64 0, .int .i64 0, .int .i64 0, .int .i64 0, .int .i64 0, .int .i64 0, .int .i64 0, .int .i64 3, .int .i64 0, .int .i64 0, .int .i64 0, .int .i64 0, .int .i64 0, .int .i64 0, .slice none 0 0] : List Value).toArray) (fun α => SX.app_k (cs := [.int .i64 0, .int .i64 1, .int .i64 4, .int .i64 6, .int .i64 0, .int .i64 0, .int .i64 0, .int .i64 0, .int .i64 0, .int .i64 0, .int .i64 0, .int .i64 3, .int .i64 0, .int .i64 0, .int .i64 0, .int .i64 0, .int .i64 0, .int .i64 0, .slice none 0 0]) (by kernel_rfl) (by kernel_rfl) (by decide) (by decide)) ?_
  refine SX.E (.bool (true ^^ decide (([0, 1] : List Int) = [0, 1]))) (fun α => SX.eqr_rel (f := intI) intI_inj (y := [0, 1]) (z := [0, 1]) (by kernel_rfl) (by kernel_rfl) (by kernel_rfl)) ?_
  refine SX.B false (fun h => Bool.noConfusion h) (fun _ => ?_)
  refine SX.E (.bool (true ^^ decide (([1, 2] : List Int) = [1, 2]))) (fun α => SX.eqr_rel (f := intI) intI_inj (y := [1, 2]) (z := [1, 2]) (by kernel_rfl) (by kernel_rfl) (by kernel_rfl)) ?_
  refine SX.B false (fun h => Bool.noConfusion h) (fun _ => ?_)
  refine SX.E (.int .i64 1) (fun α => (by show _ = _; kernel_rfl)) ?_
  refine SX.D (.bool false) ?_
  refine SX.B false (fun h => Bool.noConfusion h) (fun _ => ?_)
  refine SX.E (.int .i64 1) (fun α => (by show _ = _; kernel_rfl)) ?_
  refine SX.D (.int .i64 8) ?_
  refine SX.D (.int .i64 7) ?_
  refine SX.D (.bool false) ?_
  refine SX.B false (fun h => Bool.noConfusion h) (fun _ => ?_)
  refine SX.E (.int .i64 1) (fun α => (by show _ = _; kernel_rfl)) ?_
  refine SX.D (.bool true) ?_
  refine SX.B true (fun _ => ?_) (fun h => Bool.noConfusion h)
  refine SX.E (.bool false) (fun α => ⟨some ⟨(α 11).b, 0, none⟩, 2, 2, by kernel_rfl, rfl⟩) ?_
  refine SX.B false (fun h => Bool.noConfusion h) (fun _ => ?_)
  refine SX.E (.agg ([.int .i64 2, .int .i64 5] : List Value).toArray) (fun α => SX.app_k (cs := [.int .i64 2, .int .i64 5]) (by kernel_rfl) (by kernel_rfl) (by decide) (by decide)) ?_
  refine SX.E (.bool true) (fun α => SX.rbnd_k (L := 19) (j := 0) (by kernel_rfl) (by kernel_rfl) (by decide)) ?_
  refine SX.E (.bool true) (fun α => SX.rbnd_k (L := 19) (j := 0) (by kernel_rfl) (by kernel_rfl) (by decide)) ?_
  refine SX.E (.bool true) (fun α => SX.rbnd_k (L := 19) (j := 0) (by kernel_rfl) (by kernel_rfl) (by decide)) ?_
  refine SX.E (.bool true) (fun α => SX.rbnd_k (L := 19) (j := 0) (by kernel_rfl) (by kernel_rfl) (by decide)) ?_
  refine SX.D (.bool false) ?_
  refine SX.B false (fun h => Bool.noConfusion h) (fun _ => ?_)
  refine SX.E (.int .i64 0) (fun α => ⟨[⟨(.slice (some ⟨(α 1).b, 0, none⟩) 1 1), 14, sgsL ([⟨4, 1, 2, 1, 4, 1, 7, 2, 0, 0, 0, 1, 1, 2⟩] : List Sg)⟩], ⟨by kernel_rfl, trivial⟩, .inr (.inl ⟨rfl, _, ([⟨4, 1, 2, 1, 4, 1, 7, 2, 0, 0, 0, 1, 1, 2⟩] : List Sg), rfl, by decide, by kernel_rfl⟩), SX.noAli rfl⟩) ?_
  refine SX.E (.int .i64 0) (fun α => ⟨[⟨(.slice (some ⟨(α 1).b, 0, none⟩) 1 1), 14, sgsL ([⟨4, 1, 2, 1, 4, 1, 7, 2, 0, 0, 0, 1, 1, 2⟩] : List Sg)⟩], ⟨by kernel_rfl, trivial⟩, .inr (.inl ⟨rfl, _, ([⟨4, 1, 2, 1, 4, 1, 7, 2, 0, 0, 0, 1, 1, 2⟩] : List Sg), rfl, by decide, by kernel_rfl⟩), SX.noAli rfl⟩) ?_
  refine SX.D (.bool false) ?_
  refine SX.B false (fun h => Bool.noConfusion h) (fun _ => ?_)
  refine SX.D (.bool false) ?_
  refine SX.B false (fun h => Bool.noConfusion h) (fun _ => ?_)
  refine SX.E (.bool (true ^^ decide (([0, 1] : List Int) = [0, 1]))) (fun α => SX.eqr_rel (f := intI) intI_inj (y := [0, 1]) (z := [0, 1]) (by kernel_rfl) (by kernel_rfl) (by kernel_rfl)) ?_
  refine SX.B false (fun h => Bool.noConfusion h) (fun _ => ?_)
  refine SX.E (.bool (true ^^ decide (([1, 2] : List Int) = [1, 2]))) (fun α => SX.eqr_rel (f := intI) intI_inj (y := [1, 2]) (z := [1, 2]) (by kernel_rfl) (by kernel_rfl) (by kernel_rfl)) ?_
  refine SX.B false (fun h => Bool.noConfusion h) (fun _ => ?_)
  refine SX.E (.int .i64 0) (fun α => ⟨[⟨(.slice (some ⟨(α 1).b, 0, none⟩) 1 1), 14, sgsL ([⟨4, 1, 2, 1, 4, 1, 7, 2, 0, 0, 0, 1, 1, 2⟩] : List Sg)⟩], ⟨by kernel_rfl, trivial⟩, .inr (.inl ⟨rfl, _, ([⟨4, 1, 2, 1, 4, 1, 7, 2, 0, 0, 0, 1, 1, 2⟩] : List Sg), rfl, by decide, by kernel_rfl⟩), SX.noAli rfl⟩) ?_
  refine SX.E (.int .i64 0) (fun α => ⟨[⟨(.slice (some ⟨(α 1).b, 0, none⟩) 1 1), 14, sgsL ([⟨4, 1, 2, 1, 4, 1, 7, 2, 0, 0, 0, 1, 1, 2⟩] : List Sg)⟩], ⟨by kernel_rfl, trivial⟩, .inr (.inl ⟨rfl, _, ([⟨4, 1, 2, 1, 4, 1, 7, 2, 0, 0, 0, 1, 1, 2⟩] : List Sg), rfl, by decide, by kernel_rfl⟩), SX.noAli rfl⟩) ?_
  refine SX.D (.bool false) ?_
  refine SX.B false (fun h => Bool.noConfusion h) (fun _ => ?_)
  refine SX.D (.bool false) ?_
  refine SX.B false (fun h => Bool.noConfusion h) (fun _ => ?_)
  refine SX.D (.bool false) ?_
  refine SX.B false (fun h => Bool.noConfusion h) (fun _ => ?_)
  refine SX.D (.bool false) ?_
  refine SX.B false (fun h => Bool.noConfusion h) (fun _ => ?_)
  refine SX.D (.bool false) ?_
  refine SX.B false (fun h => Bool.noConfusion h) (fun _ => ?_)
  refine SX.D (.bool false) ?_
  refine SX.B false (fun h => Bool.noConfusion h) (fun _ => ?_)
  refine SX.D (.bool false) ?_
  refine SX.B false (fun h => Bool.noConfusion h) (fun _ => ?_)
  refine SX.E (.int .i64 0) (fun α => (by show _ = _; kernel_rfl)) ?_
  refine SX.D (.bool false) ?_
  refine SX.B false (fun h => Bool.noConfusion h) (fun _ => ?_)
  refine SX.E (.int .i64 0) (fun α => ⟨[⟨(.slice none 0 0), 14, sgsL ([] : List Sg)⟩], ⟨by kernel_rfl, trivial⟩, .inr (.inl ⟨rfl, _, ([] : List Sg), rfl, by decide, by kernel_rfl⟩), SX.noAli rfl⟩) ?_
  refine SX.D (.bool false) ?_
  refine SX.B false (fun h => Bool.noConfusion h) (fun _ => ?_)
  refine SX.E (.int .i64 360) (fun α => ⟨[⟨(.slice (some ⟨(α 48).b, 0, none⟩) 2 2), 14, sgsL ([⟨4, 1, 2, 1, 4, 1, 7, 2, 0, 0, 0, 1, 1, 2⟩, ⟨4, 1, 2, 1, 4, 1, 7, 2, 0, 0, 0, 1, 1, 2⟩] : List Sg)⟩], ⟨by kernel_rfl, trivial⟩, .inr (.inl ⟨rfl, _, ([⟨4, 1, 2, 1, 4, 1, 7, 2, 0, 0, 0, 1, 1, 2⟩, ⟨4, 1, 2, 1, 4, 1, 7, 2, 0, 0, 0, 1, 1, 2⟩] : List Sg), rfl, by decide, by kernel_rfl⟩), SX.noAli rfl⟩) ?_
  refine SX.D (.bool false) ?_
  refine SX.B false (fun h => Bool.noConfusion h) (fun _ => ?_)
  refine SX.E (.agg (sgsL (List.replicate 4097 zeroSg)).toArray) (fun α => ⟨.i64, .i64, 4097, 4097, by kernel_rfl, by kernel_rfl, by decide, by decide, by decide, by decide, mks_val.trans (by kernel_rfl)⟩) ?_
  refine SX.E (.int .i64 2) (fun α => ⟨[⟨(α 49).h, 14, sgsL (List.replicate 4097 zeroSg)⟩], ⟨Eq.trans (b := ⟨(α 49).h, 14, [Value.agg (sgsL (List.replicate 4097 zeroSg)).toArray].flatMap SX.cellsV⟩) (by simp [SX.cellsV]) (by kernel_rfl), trivial⟩, .inr (.inl ⟨rfl, _, List.replicate 4097 zeroSg, rfl, (by rw [List.length_replicate]; decide), by rw [sane_rep]⟩), SX.noAli rfl⟩) ?_
  refine SX.D (.bool false) ?_
  refine SX.B false (fun h => Bool.noConfusion h) (fun _ => ?_)
  refine SX.E (.bool true) (fun α => ⟨[⟨(α 5).h, 14, sgsL ([⟨4, 1, 2, 1, 4, 2, 3, 2, 0, 0, 0, 1, 1, 2⟩] : List Sg)⟩, ⟨(.slice (some ⟨(α 50).b, 0, none⟩) 1 1), 14, sgsL ([⟨4, 1, 2, 1, 4, 2, 3, 2, 0, 0, 0, 1, 1, 2⟩] : List Sg)⟩], ⟨by kernel_rfl, by kernel_rfl, trivial⟩, .inr (.inr (⟨rfl, _, _, ([⟨4, 1, 2, 1, 4, 2, 3, 2, 0, 0, 0, 1, 1, 2⟩] : List Sg), ([⟨4, 1, 2, 1, 4, 2, 3, 2, 0, 0, 0, 1, 1, 2⟩] : List Sg), rfl, by decide, by decide, by kernel_rfl⟩)), SX.noAli rfl⟩) ?_
  refine SX.B true (fun _ => ?_) (fun h => Bool.noConfusion h)
  refine SX.E (.bool true) (fun α => ⟨[⟨(α 6).h, 14, sgsL ([⟨4, 1, 2, 1, 4, 1, 7, 2, 0, 0, 0, 1, 1, 4⟩] : List Sg)⟩, ⟨(.slice (some ⟨(α 51).b, 0, none⟩) 1 1), 14, sgsL ([⟨4, 1, 2, 1, 4, 1, 7, 2, 0, 0, 0, 1, 1, 4⟩] : List Sg)⟩], ⟨by kernel_rfl, by kernel_rfl, trivial⟩, .inr (.inr (⟨rfl, _, _, ([⟨4, 1, 2, 1, 4, 1, 7, 2, 0, 0, 0, 1, 1, 4⟩] : List Sg), ([⟨4, 1, 2, 1, 4, 1, 7, 2, 0, 0, 0, 1, 1, 4⟩] : List Sg), rfl, by decide, by decide, by kernel_rfl⟩)), SX.noAli rfl⟩) ?_
  refine SX.B true (fun _ => ?_) (fun h => Bool.noConfusion h)
  refine SX.E (.int .i64 1) (fun α => (by show _ = _; kernel_rfl)) ?_
  refine SX.D (.bool false) ?_
  refine SX.B false (fun h => Bool.noConfusion h) (fun _ => ?_)
  refine SX.E (.int .i64 1) (fun α => (by show _ = _; kernel_rfl)) ?_
  refine SX.D (.bool true) ?_
  refine SX.B true (fun _ => ?_) (fun h => Bool.noConfusion h)
  refine SX.E (.bool true) (fun α => SX.rbnd_k (L := 19) (j := 0) (by kernel_rfl) (by kernel_rfl) (by decide)) ?_
  refine SX.E (.bool (false ^^ decide (([0, 0, 0, 0, 0, 0, 0, 3, 0, 0, 0, 0, 0, 0] : List Int) = [0, 0, 0, 0, 0, 0, 0, 3, 0, 0, 0, 0, 0, 0]))) (fun α => SX.eqr_rel (f := intI) intI_inj (y := [0, 0, 0, 0, 0, 0, 0, 3, 0, 0, 0, 0, 0, 0]) (z := [0, 0, 0, 0, 0, 0, 0, 3, 0, 0, 0, 0, 0, 0]) (by kernel_rfl) (by kernel_rfl) (by kernel_rfl)) ?_
  refine SX.B true (fun _ => ?_) (fun h => Bool.noConfusion h)
  refine SX.E (.int .i64 2) (fun α => (by show _ = _; kernel_rfl)) ?_
  refine SX.D (.bool false) ?_
  refine SX.B false (fun h => Bool.noConfusion h) (fun _ => ?_)
  refine SX.E (.int .i64 2) (fun α => (by show _ = _; kernel_rfl)) ?_
  refine SX.D (.bool true) ?_
  refine SX.B true (fun _ => ?_) (fun h => Bool.noConfusion h)
  refine SX.E (.bool true) (fun α => SX.rbnd_k (L := 2) (j := 0) (by kernel_rfl) (by kernel_rfl) (by decide)) ?_
  refine SX.E (.int .i64 2) (fun α => (by show _ = _; kernel_rfl)) ?_
  refine SX.D (.bool true) ?_
  refine SX.B true (fun _ => ?_) (fun h => Bool.noConfusion h)
  refine SX.E (.bool true) (fun α => SX.rbnd_k (L := 2) (j := 1) (by kernel_rfl) (by kernel_rfl) (by decide)) ?_
  refine SX.E (.int .i64 2) (fun α => (by show _ = _; kernel_rfl)) ?_
  refine SX.D (.bool false) ?_
  refine SX.B false (fun h => Bool.noConfusion h) (fun _ => ?_)
  refine SX.E (.int .i64 1) (fun α => (by show _ = _; kernel_rfl)) ?_
  refine SX.D (.bool false) ?_
  refine SX.B false (fun h => Bool.noConfusion h) (fun _ => ?_)
  exact SX.VC_ret fun α W _ _ hS => SX.ret_of hS (x := .bool true) (by kernel_rfl) rfl
theorem applyF_len (d : Ed) (ss : List Sg) : (applyF d ss).1.length ≤ 4096 ∨ (applyF d ss).1.length ≤ ss.length := by
  by_cases h : d.kind = 5
  · left
    by_cases h1 : chkS ss = 0
    · by_cases h2 : okE d
      · by_cases h3 : ∃ y ∈ ss, y.id = d.sign.id
        · rw [applyF_met h h1 h2 h3]; simp
        by_cases h4 : chkS (addS ss d.sign) = 0
        · rw [applyF_ok h h1 h2 h3 h4]; exact (chkS_ok h4).2
        rw [applyF_out h h1 h2 h3 h4]; simp
      rw [applyF_no h h1 h2]; simp
    rw [applyF_chk h h1]; simp
  right
  have q : applyF d ss = applyE d ss := by unfold applyF; rw [if_neg h]
  rw [q]; exact applyE_len d ss
def RY1 (f : FuncId) (xs : List SX.Arg) (v : Value) : Prop :=
  (f = 10 ∧ xs = [] ∧ v = .bool true) ∨
  (f = 14 ∧ ∃ (u : Value) (ss : List Sg), xs = [⟨u, 14, sgsL ss⟩] ∧ ss.length ≤ 9223372036854775807 ∧ v = .int .i64 (chkS ss)) ∨
  (f = 15 ∧ ∃ (u : Value) (ss : List Sg), xs = [⟨u, 14, sgsL ss⟩] ∧ ss.length ≤ 9223372036854775807 ∧ v = .int .i64 (chkS ss)) ∨
  (f = 16 ∧ ∃ (u u2 : Value) (ss tt : List Sg), xs = [⟨u, 14, sgsL ss⟩, ⟨u2, 14, sgsL tt⟩] ∧ ss.length ≤ 9223372036854775807 ∧ tt.length ≤ 9223372036854775807 ∧ v = .bool (decide (ss = tt))) ∨
  (f = 12 ∧ ∃ (u : Value) (ss : List Sg) (d : Ed), xs = [⟨u, 14, sgsL ss⟩, ⟨valE d, 0, []⟩] ∧ ss.length ≤ 9223372036854775807 ∧ v = .tuple #[.agg (sgsL (applyF d ss).1).toArray, .int .i64 (applyF d ss).2]) ∨
  (f = 13 ∧ ∃ (u : Value) (ss : List Sg) (d : Ed), xs = [⟨u, 14, sgsL ss⟩, ⟨valE d, 0, []⟩] ∧ ss.length ≤ 9223372036854775807 ∧ v = .tuple #[.agg (sgsL (applyF d ss).1).toArray, .int .i64 (applyF d ss).2])
def shpY1 : FuncId → Option SX.Sh := fun f => if f = 10 then some .one else if f = 14 then some .one else if f = 15 then some .one else if f = 16 then some .one else if f = 12 then some (.tp [.sl 14, .one]) else if f = 13 then some (.tp [.sl 14, .one]) else none
noncomputable def cxY1 (K A : Value → Nat → List Value → Prop) : SX.Cx := { P := Try.prog, R := fun _ => RY1, shp := shpY1, K := K, A := A, trm := true }
theorem okY1 (K A : Value → Nat → List Value → Prop) : (cxY1 K A).Ok := by
  refine SX.Cx.ok_of (fun _ => rfl) ?_
  intro K f xs v W hR hrd hKf
  rcases hR with ⟨rfl, rfl, rfl⟩ | ⟨rfl, u, ss, rfl, hl, rfl⟩ | ⟨rfl, u, ss, rfl, hl, rfl⟩ | ⟨rfl, u, u2, ss, tt, rfl, hl, hl2, rfl⟩ | ⟨rfl, u, ss, d, rfl, hl, rfl⟩ | ⟨rfl, u, ss, d, rfl, hl, rfl⟩
  · exact (sane36_any W).mono fun e w' h => SX.plainOk rfl h
  · obtain ⟨A, n, c, rfl, h2, h3, h4⟩ := sgs_arg (hrd ⟨u, 14, sgsL ss⟩ (by simp))
    exact (echeck_any ss A n c W h2 (by omega) h3).mono fun e w' h => SX.plainOk rfl h
  · obtain ⟨A, n, c, rfl, h2, h3, h4⟩ := sgs_arg (hrd ⟨u, 14, sgsL ss⟩ (by simp))
    exact (rrchk_any ss A n c W h2 (by omega) h3).mono fun e w' h => SX.plainOk rfl h
  · obtain ⟨A, n, c, rfl, h2, h3, h4⟩ := sgs_arg (hrd ⟨u, 14, sgsL ss⟩ (by simp))
    obtain ⟨A', n', c', rfl, h2', h3', h4'⟩ := sgs_arg (hrd ⟨u2, 14, sgsL tt⟩ (by simp))
    exact (same_any ss tt A A' n c n' c' W h2 (by omega) h3 h2' (by omega) h3').mono fun e w' h => SX.plainOk rfl h
  · refine Calls.mono ?_ fun e w' h => SX.SlRet.ok0 rfl h
    obtain ⟨A, n, c, rfl, h2, h3, h4⟩ := sgs_arg (hrd ⟨u, 14, sgsL ss⟩ (by simp))
    exact applyF_any ss A n c d W h2 (by omega) h3
  refine Calls.mono ?_ fun e w' h => SX.SlRet.ok0 rfl h
  obtain ⟨A, n, c, rfl, h2, h3, h4⟩ := sgs_arg (hrd ⟨u, 14, sgsL ss⟩ (by simp))
  exact rapply_any ss A n c d W h2 (by omega) h3
def tree_specE : SX.Tree :=
(.df (.call 10 []) [] .one
(.df .not [(.q 23)] .one
(.br 24 []
(.ret (.k (.bool false)) [] [])
(.df (.len false) [(.q 0)] .one
(.df (.bin .leq 3) [(.q 25), (.i 200)] .one
(.br 26 []
(.df (.call 12 [(.ext 14), .no]) [(.q 0), (.a (SX.Z 1 22))] (.tp [(.sl 14), .one])
(.df (.call 13 [(.ext 14), .no]) [(.q 0), (.a (SX.Z 1 22))] (.tp [(.sl 14), .one])
(.df (.call 14 [(.ext 14)]) [(.q 0)] .one
(.df (.call 15 [(.ext 14)]) [(.q 0)] .one
(.df (.bin .eql 31) [(.q 29), (.q 30)] .one
(.br 31 []
(.df (.call 16 [(.row 14 [(.x 27 [0])]), (.row 14 [(.x 28 [0])])]) [(.row 1), (.row 2)] .one
(.br 32 []
(.df (.bin .eql 31) [(.x 27 [1]), (.x 28 [1])] .one
(.ret (.q 33) [] []))
(.ret (.k (.bool false)) [] [])))
(.ret (.k (.bool false)) [] [])))))))
(.df (.len false) [(.q 0)] .one
(.df (.bin .gtr 3) [(.q 27), (.i 4096)] .one
(.br 28 []
(.df (.len false) [(.q 0)] .one
(.df (.bin .leq 3) [(.q 29), (.i 5000)] .one
(.df .not [(.q 30)] .one
(.br 31 []
(.ret (.k (.bool true)) [] [])
(.df (.call 12 [(.ext 14), .no]) [(.q 0), (.a (SX.Z 1 22))] (.tp [(.sl 14), .one])
(.df (.call 13 [(.ext 14), .no]) [(.q 0), (.a (SX.Z 1 22))] (.tp [(.sl 14), .one])
(.df (.call 14 [(.ext 14)]) [(.q 0)] .one
(.df (.call 15 [(.ext 14)]) [(.q 0)] .one
(.df (.bin .eql 31) [(.q 34), (.q 35)] .one
(.br 36 []
(.df (.call 16 [(.row 14 [(.x 32 [0])]), (.row 14 [(.x 33 [0])])]) [(.row 1), (.row 2)] .one
(.br 37 []
(.df (.bin .eql 31) [(.x 32 [1]), (.x 33 [1])] .one
(.ret (.q 38) [] []))
(.ret (.k (.bool false)) [] [])))
(.ret (.k (.bool false)) [] [])))))))))))
(.ret (.k (.bool true)) [] []))))))))))
def args_specE : List SX.V := [.x 0 [], .a ((List.range 22).map fun j => .x (1+j) [])]
set_option maxRecDepth 100000 in
theorem run_specE (K A : Value → Nat → List Value → Prop) : (SX.run (cxY1 K A) ⟨fun f => true, [], 0, 100⟩ 100000 0 (SX.door 3 Try.f3 args_specE (List.replicate 23 .one)) [.code (Try.f3.body.getD .skip), .top Try.f3]).strip = tree_specE := by kernel_rfl
set_option maxRecDepth 100000 in
set_option maxHeartbeats 4000000 in
theorem specE_any (ss : List Sg) (A : Option Addr) (n c : Nat) (d : Ed) (w : World) (hr : Rd w 14 A n (sgsL ss)) (hn : n ≤ 9223372036854775807) (hc : n ≤ c) : Calls Try.prog 3 #[.slice A n c, valE d] w fun e w' => e = .returned (.bool true) ∧ Below w.heap.size w w' := by
  refine SX.calls_of_run (C := cxY1 (fun s sz cells => s = .slice A n c ∧ sz = 14 ∧ cells = sgsL ss) (fun _ _ _ => False)) (G := ⟨fun f => true, [], 0, 100⟩) (args := args_specE) (sh := (List.replicate 23 .one)) (ρ := (.slice A n c :: cellsE d)) 100000 tree_specE (okY1 _ _) Try.func3 rfl (run_specE _ _) (by kernel_rfl) (by kernel_rfl) (by kernel_rfl) ?_ ?_
  · rintro W hW s sz cells ⟨rfl, rfl, rfl⟩; exact ⟨hr.same0 hW, hc⟩
  have hA := SX.rd_some hr
  have hln : ss.length = n := by have := hr.1; rw [sgsL_len] at this; omega
  have k1 : (fun s sz cells => s = .slice A n c ∧ sz = 14 ∧ cells = sgsL ss) (Value.slice A n c) 14 (sgsL ss) := ⟨rfl, rfl, rfl⟩
  unfold tree_specE
  refine SX.E (.bool true) (fun α => ⟨[], trivial, .inl ⟨rfl, rfl, rfl⟩, SX.noAli rfl⟩) ?_
  refine SX.D (.bool (!(true))) ?_
  refine SX.B (!(true)) (fun h24 => absurd h24 (by simp)) (fun h24 => ?_)
  try simp only [NRM] at h24
  refine SX.D (.int .i64 (((n : Nat) : Int))) ?_
  refine SX.D (.bool (decide (((n : Nat) : Int) ≤ 200))) ?_
  refine SX.B (decide (((n : Nat) : Int) ≤ 200)) (fun h26 => ?_) (fun h26 => ?_)
  · try simp only [NRM] at h26
    refine SX.VC_df (.tuple #[Value.agg (sgsL (applyF d ss).1).toArray, .int .i64 ((applyF d ss).2)]) (fun α => ⟨[⟨.slice A n c, 14, sgsL ss⟩, ⟨valE d, 0, []⟩], ⟨by kernel_rfl, rfl, cast (by kernel_rfl) k1, by kernel_rfl, by kernel_rfl, trivial⟩, .inr (.inr (.inr (.inr (.inl ⟨rfl, _, ss, d, rfl, by omega, rfl⟩)))), SX.noAli rfl⟩) (sgs_fit _ _) ?_
    refine SX.VC_df (.tuple #[Value.agg (sgsL (applyF d ss).1).toArray, .int .i64 ((applyF d ss).2)]) (fun α => ⟨[⟨.slice A n c, 14, sgsL ss⟩, ⟨valE d, 0, []⟩], ⟨by kernel_rfl, rfl, cast (by kernel_rfl) k1, by kernel_rfl, by kernel_rfl, trivial⟩, .inr (.inr (.inr (.inr (.inr (⟨rfl, _, ss, d, rfl, by omega, rfl⟩))))), SX.noAli rfl⟩) (sgs_fit _ _) ?_
    refine SX.E (.int .i64 ((chkS ss))) (fun α => ⟨[⟨.slice A n c, 14, sgsL ss⟩], ⟨by kernel_rfl, rfl, cast (by kernel_rfl) k1, trivial⟩, .inr (.inl ⟨rfl, _, ss, rfl, by omega, rfl⟩), SX.noAli rfl⟩) ?_
    refine SX.E (.int .i64 ((chkS ss))) (fun α => ⟨[⟨.slice A n c, 14, sgsL ss⟩], ⟨by kernel_rfl, rfl, cast (by kernel_rfl) k1, trivial⟩, .inr (.inr (.inl ⟨rfl, _, ss, rfl, by omega, rfl⟩)), SX.noAli rfl⟩) ?_
    refine SX.D (.bool (((chkS ss) : Int) == (chkS ss))) ?_
    refine SX.B (((chkS ss) : Int) == (chkS ss)) (fun h31 => ?_) (fun h31 => absurd h31 (by simp))
    try simp only [NRM] at h31
    refine SX.E (.bool true) (fun α => ⟨[⟨(α 1).h, 14, sgsL ((applyF d ss).1)⟩, ⟨(α 2).h, 14, sgsL ((applyF d ss).1)⟩], ⟨Eq.trans (b := (⟨(α 1).h, 14, [Value.agg (sgsL ((applyF d ss).1)).toArray].flatMap SX.cellsV⟩ : SX.Arg)) (by simp [SX.cellsV]) (by kernel_rfl), Eq.trans (b := (⟨(α 2).h, 14, [Value.agg (sgsL ((applyF d ss).1)).toArray].flatMap SX.cellsV⟩ : SX.Arg)) (by simp [SX.cellsV]) (by kernel_rfl), trivial⟩, .inr (.inr (.inr (.inl ⟨rfl, _, _, _, _, rfl, by have := applyF_len d ss; omega, by have := applyF_len d ss; omega, by simp⟩))), SX.noAli rfl⟩) ?_
    refine SX.B true (fun h32 => ?_) (fun h32 => absurd h32 (by simp))
    try simp only [NRM] at h32
    refine SX.D (.bool (((applyF d ss).2 : Int) == (applyF d ss).2)) ?_
    exact SX.F (.bool (((applyF d ss).2 : Int) == (applyF d ss).2)) (by simp)
  try simp only [NRM] at h26
  refine SX.D (.int .i64 (((n : Nat) : Int))) ?_
  refine SX.D (.bool (decide (((n : Nat) : Int) > 4096))) ?_
  refine SX.B (decide (((n : Nat) : Int) > 4096)) (fun h28 => ?_) (fun h28 => ?_)
  · try simp only [NRM] at h28
    refine SX.D (.int .i64 (((n : Nat) : Int))) ?_
    refine SX.D (.bool (decide (((n : Nat) : Int) ≤ 5000))) ?_
    refine SX.D (.bool (!(decide (((n : Nat) : Int) ≤ 5000)))) ?_
    refine SX.B (!(decide (((n : Nat) : Int) ≤ 5000))) (fun h31 => ?_) (fun h31 => ?_)
    · try simp only [NRM] at h31
      exact SX.F (.bool true) (by simp)
    try simp only [NRM] at h31
    refine SX.VC_df (.tuple #[Value.agg (sgsL (applyF d ss).1).toArray, .int .i64 ((applyF d ss).2)]) (fun α => ⟨[⟨.slice A n c, 14, sgsL ss⟩, ⟨valE d, 0, []⟩], ⟨by kernel_rfl, rfl, cast (by kernel_rfl) k1, by kernel_rfl, by kernel_rfl, trivial⟩, .inr (.inr (.inr (.inr (.inl ⟨rfl, _, ss, d, rfl, by omega, rfl⟩)))), SX.noAli rfl⟩) (sgs_fit _ _) ?_
    refine SX.VC_df (.tuple #[Value.agg (sgsL (applyF d ss).1).toArray, .int .i64 ((applyF d ss).2)]) (fun α => ⟨[⟨.slice A n c, 14, sgsL ss⟩, ⟨valE d, 0, []⟩], ⟨by kernel_rfl, rfl, cast (by kernel_rfl) k1, by kernel_rfl, by kernel_rfl, trivial⟩, .inr (.inr (.inr (.inr (.inr (⟨rfl, _, ss, d, rfl, by omega, rfl⟩))))), SX.noAli rfl⟩) (sgs_fit _ _) ?_
    refine SX.E (.int .i64 ((chkS ss))) (fun α => ⟨[⟨.slice A n c, 14, sgsL ss⟩], ⟨by kernel_rfl, rfl, cast (by kernel_rfl) k1, trivial⟩, .inr (.inl ⟨rfl, _, ss, rfl, by omega, rfl⟩), SX.noAli rfl⟩) ?_
    refine SX.E (.int .i64 ((chkS ss))) (fun α => ⟨[⟨.slice A n c, 14, sgsL ss⟩], ⟨by kernel_rfl, rfl, cast (by kernel_rfl) k1, trivial⟩, .inr (.inr (.inl ⟨rfl, _, ss, rfl, by omega, rfl⟩)), SX.noAli rfl⟩) ?_
    refine SX.D (.bool (((chkS ss) : Int) == (chkS ss))) ?_
    refine SX.B (((chkS ss) : Int) == (chkS ss)) (fun h36 => ?_) (fun h36 => absurd h36 (by simp))
    try simp only [NRM] at h36
    refine SX.E (.bool true) (fun α => ⟨[⟨(α 1).h, 14, sgsL ((applyF d ss).1)⟩, ⟨(α 2).h, 14, sgsL ((applyF d ss).1)⟩], ⟨Eq.trans (b := (⟨(α 1).h, 14, [Value.agg (sgsL ((applyF d ss).1)).toArray].flatMap SX.cellsV⟩ : SX.Arg)) (by simp [SX.cellsV]) (by kernel_rfl), Eq.trans (b := (⟨(α 2).h, 14, [Value.agg (sgsL ((applyF d ss).1)).toArray].flatMap SX.cellsV⟩ : SX.Arg)) (by simp [SX.cellsV]) (by kernel_rfl), trivial⟩, .inr (.inr (.inr (.inl ⟨rfl, _, _, _, _, rfl, by have := applyF_len d ss; omega, by have := applyF_len d ss; omega, by simp⟩))), SX.noAli rfl⟩) ?_
    refine SX.B true (fun h37 => ?_) (fun h37 => absurd h37 (by simp))
    try simp only [NRM] at h37
    refine SX.D (.bool (((applyF d ss).2 : Int) == (applyF d ss).2)) ?_
    exact SX.F (.bool (((applyF d ss).2 : Int) == (applyF d ss).2)) (by simp)
  try simp only [NRM] at h28
  exact SX.F (.bool true) (by simp)
end Go.Proofs.Ytnaooclbphaelaa
namespace Go.Proofs.Ytnaooclbphaelaa
set_option maxRecDepth 20000
open Go Go.RowKit Go.ChangeShapes Go.WideShapes Go.ChangeAt
theorem max_eq : maxLen = 9223372036854775807 := by unfold maxLen; rfl
section
variable {H : Type} {enc : TypeId × Value → H} {P : Program} {w : World} {base : Nat} {spare : Nat → Bool} {held : Bool} {fuel : Nat} {t : TypeId} {cs : List Value}
theorem take_at {off : Nat} {v : Value} (h : (cs.drop off).take 1 = [v]) : cs[off]? = some v := by
  have : ((cs.drop off).take 1)[0]? = some v := by rw [h]; rfl
  simpa [List.getElem?_take, List.getElem?_drop] using this
theorem int_at {off : Nat} (hu : P.underlying t = some (.int .i64)) {y : DataW H × List MemPlace} (h : DataW.trod enc P w base spare held fuel t ((cs.drop off).take 1) = some y) : ∃ n, cs[off]? = some (.int .i64 n) := by
  obtain ⟨n, e, _⟩ := DataW.trod_int hu h
  exact ⟨n, take_at e⟩
theorem ints2_at {off : Nat} {m k : Int} (h : (cs.drop off).take 2 = [.int .i64 m, .int .i64 k]) : cs[off]? = some (.int .i64 m) ∧ cs[off + 1]? = some (.int .i64 k) := by
  have h0 : ((cs.drop off).take 2)[0]? = some (.int .i64 m) := by rw [h]; rfl
  have h1 : ((cs.drop off).take 2)[1]? = some (.int .i64 k) := by rw [h]; rfl
  simp [List.getElem?_take, List.getElem?_drop] at h0 h1
  exact ⟨h0, h1⟩
end
section
variable {H : Type} {enc : TypeId × Value → H} {w : World} {base : Nat} {sp : Nat → Bool} {held : Bool} {r : Reach} {b0 : Nat} {v : Value} {d : DataW H} {ps : List MemPlace}
theorem ratio_cells {n : Nat} {cs : List Value} {y : DataW H × List MemPlace} (hf : DataW.trod enc Try.prog w base sp held n 24 cs = some y) : ∃ m k : Int, cs = [.int .i64 m, .int .i64 k] := by
  obtain ⟨xs, n, _, _, hlen, hl, hx⟩ := DataW.trod_struct Try.underlying24 hf
  have hC : Try.prog.cellsOf 24 = 2 := by kernel_rfl
  rw [hC] at hlen
  have hl' : xs.length = 2 := hl
  have g0 : DataW.trod enc Try.prog w base sp held n 3 ((cs.drop 0).take 1) = some (xs[0]'(by omega)) := (hx 0 _ rfl).trans (List.getElem?_eq_getElem _)
  obtain ⟨v0, e0⟩ := int_at Try.underlying3 g0
  have g1 : DataW.trod enc Try.prog w base sp held n 3 ((cs.drop 1).take 1) = some (xs[1]'(by omega)) := (hx 1 _ rfl).trans (List.getElem?_eq_getElem _)
  obtain ⟨v1, e1⟩ := int_at Try.underlying3 g1
  refine ⟨v0, v1, ?_⟩
  apply List.ext_getElem?
  intro i
  by_cases hi : i < 2
  · have hc : i = 0 ∨ i = 1 := by omega
    rcases hc with rfl | rfl
    · exact e0
    exact e1
  rw [List.getElem?_eq_none (by omega), List.getElem?_eq_none (by show 2 ≤ i; omega)]
theorem sign_cells {n : Nat} {cs : List Value} {y : DataW H × List MemPlace} (hf : DataW.trod enc Try.prog w base sp held n 26 cs = some y) : ∃ s : Sg, cs = cellsSg s := by
  obtain ⟨xs, n, _, _, hlen, hl, hx⟩ := DataW.trod_struct Try.underlying26 hf
  have hC : Try.prog.cellsOf 26 = 14 := by kernel_rfl
  rw [hC] at hlen
  have hl' : xs.length = 12 := hl
  have g0 : DataW.trod enc Try.prog w base sp held n 3 ((cs.drop 0).take 1) = some (xs[0]'(by omega)) := (hx 0 _ rfl).trans (List.getElem?_eq_getElem _)
  obtain ⟨v0, e0⟩ := int_at Try.underlying3 g0
  have g1 : DataW.trod enc Try.prog w base sp held n 3 ((cs.drop 1).take 1) = some (xs[1]'(by omega)) := (hx 1 _ rfl).trans (List.getElem?_eq_getElem _)
  obtain ⟨v1, e1⟩ := int_at Try.underlying3 g1
  have g2 : DataW.trod enc Try.prog w base sp held n 3 ((cs.drop 2).take 1) = some (xs[2]'(by omega)) := (hx 2 _ rfl).trans (List.getElem?_eq_getElem _)
  obtain ⟨v2, e2⟩ := int_at Try.underlying3 g2
  have g3 : DataW.trod enc Try.prog w base sp held n 3 ((cs.drop 3).take 1) = some (xs[3]'(by omega)) := (hx 3 _ rfl).trans (List.getElem?_eq_getElem _)
  obtain ⟨v3, e3⟩ := int_at Try.underlying3 g3
  have g4 : DataW.trod enc Try.prog w base sp held n 3 ((cs.drop 4).take 1) = some (xs[4]'(by omega)) := (hx 4 _ rfl).trans (List.getElem?_eq_getElem _)
  obtain ⟨v4, e4⟩ := int_at Try.underlying3 g4
  have g5 : DataW.trod enc Try.prog w base sp held n 3 ((cs.drop 5).take 1) = some (xs[5]'(by omega)) := (hx 5 _ rfl).trans (List.getElem?_eq_getElem _)
  obtain ⟨v5, e5⟩ := int_at Try.underlying3 g5
  have g6 : DataW.trod enc Try.prog w base sp held n 3 ((cs.drop 6).take 1) = some (xs[6]'(by omega)) := (hx 6 _ rfl).trans (List.getElem?_eq_getElem _)
  obtain ⟨v6, e6⟩ := int_at Try.underlying3 g6
  have g7 : DataW.trod enc Try.prog w base sp held n 3 ((cs.drop 7).take 1) = some (xs[7]'(by omega)) := (hx 7 _ rfl).trans (List.getElem?_eq_getElem _)
  obtain ⟨v7, e7⟩ := int_at Try.underlying3 g7
  have g8 : DataW.trod enc Try.prog w base sp held n 3 ((cs.drop 8).take 1) = some (xs[8]'(by omega)) := (hx 8 _ rfl).trans (List.getElem?_eq_getElem _)
  obtain ⟨v8, e8⟩ := int_at Try.underlying3 g8
  have g9 : DataW.trod enc Try.prog w base sp held n 3 ((cs.drop 9).take 1) = some (xs[9]'(by omega)) := (hx 9 _ rfl).trans (List.getElem?_eq_getElem _)
  obtain ⟨v9, e9⟩ := int_at Try.underlying3 g9
  have g10 : DataW.trod enc Try.prog w base sp held n 24 ((cs.drop 10).take 2) = some (xs[10]'(by omega)) := (hx 10 _ rfl).trans (List.getElem?_eq_getElem _)
  obtain ⟨v10, v11, r10⟩ := ratio_cells g10
  obtain ⟨e10, e11⟩ := ints2_at r10
  have g12 : DataW.trod enc Try.prog w base sp held n 24 ((cs.drop 12).take 2) = some (xs[11]'(by omega)) := (hx 11 _ rfl).trans (List.getElem?_eq_getElem _)
  obtain ⟨v12, v13, r12⟩ := ratio_cells g12
  obtain ⟨e12, e13⟩ := ints2_at r12
  refine ⟨⟨v0, v1, v2, v3, v4, v5, v6, v7, v8, v9, v10, v11, v12, v13⟩, ?_⟩
  apply List.ext_getElem?
  intro i
  by_cases hi : i < 14
  · have hc : i = 0 ∨ i = 1 ∨ i = 2 ∨ i = 3 ∨ i = 4 ∨ i = 5 ∨ i = 6 ∨ i = 7 ∨ i = 8 ∨ i = 9 ∨ i = 10 ∨ i = 11 ∨ i = 12 ∨ i = 13 := by omega
    rcases hc with rfl | rfl | rfl | rfl | rfl | rfl | rfl | rfl | rfl | rfl | rfl | rfl | rfl | rfl
    · exact e0
    · exact e1
    · exact e2
    · exact e3
    · exact e4
    · exact e5
    · exact e6
    · exact e7
    · exact e8
    · exact e9
    · exact e10
    · exact e11
    · exact e12
    exact e13
  rw [List.getElem?_eq_none (by omega), List.getElem?_eq_none (by show 14 ≤ i; omega)]
theorem els_of {β : Type} {f : β → List Value} {Q : β → Prop} {sz : Nat} (a : Addr) : ∀ (len : Nat), (∀ i, i < len → ∃ c : β, Q c ∧ w.cells? base (a.add (i * sz)) sz = some (f c)) →
    ∃ l : List β, l.length = len ∧ (∀ c ∈ l, Q c) ∧ ∀ i c, l[i]? = some c → w.cells? base (a.add (i * sz)) sz = some (f c)
  | 0, _ => ⟨[], rfl, (fun _ h => nomatch h), by simp⟩
  | len + 1, h => by
    obtain ⟨l, hl, hq, hx⟩ := els_of a len (fun i hi => h i (by omega))
    obtain ⟨c, hqc, hc⟩ := h len (by omega)
    refine ⟨l ++ [c], by simp [hl], fun c' hc' => ?_, fun i c' hc' => ?_⟩
    · rcases List.mem_append.1 hc' with h1 | h1
      · exact hq c' h1
      obtain rfl : c' = c := by simpa using h1
      exact hqc
    rw [List.getElem?_append] at hc'
    split at hc'
    · exact hx i c' hc'
    have : i - l.length = 0 := by
      rcases Nat.eq_zero_or_pos (i - l.length) with h0 | h0
      · exact h0
      rw [List.getElem?_eq_none (by simp; omega)] at hc'; cases hc'
    rw [this] at hc'
    obtain rfl : c = c' := by simpa using hc'
    obtain rfl : i = len := by omega
    exact hc
theorem slice_of {β : Type} {f : β → List Value} {Q : β → Prop} {sz : Nat} {t e : TypeId} {n : Nat} {cs : List Value} {y : DataW H × List MemPlace} (hu : Try.prog.underlying t = some (.slice e)) (hC : Try.prog.cellsOf e = sz) (h0 : 0 < sz) (hlen : ∀ c, (f c).length = sz)
    (hel : ∀ (n : Nat) (cs : List Value) (y : DataW H × List MemPlace), DataW.trod enc Try.prog w base sp held n e cs = some y → ∃ c, Q c ∧ cs = f c) (hf : DataW.trod enc Try.prog w base sp held n t cs = some y) :
    ∃ (A : Option Addr) (k cap : Nat) (l : List β), cs = [.slice A k cap] ∧ Rd w sz A k (l.flatMap f) ∧ k ≤ cap ∧ cap ≤ maxLen ∧ ∀ c ∈ l, Q c := by
  rcases DataW.trod_slice hu hf with ⟨he, _⟩ | ⟨a, len, cap', elems, rest, m, _, he, _, _, hlc, hcm, hel', hcell, _, _⟩
  · exact ⟨none, 0, 0, [], he, ⟨by simp, fun h => absurd h (by omega)⟩, Nat.le_refl _, by omega, fun _ h => nomatch h⟩
  rw [hC] at hcell
  obtain ⟨l, hl, hq, hx⟩ := els_of (w := w) (base := base) (f := f) (Q := Q) (sz := sz) a len fun i hi => by
    have h1 := hcell i hi
    rw [List.getElem?_eq_getElem (by omega)] at h1
    cases hq : w.cells? base (a.add (i * sz)) sz with
    | none => rw [hq] at h1; simp at h1
    | some cs =>
      rw [hq] at h1
      obtain ⟨c, hqc, rfl⟩ := hel _ _ _ (by simpa using h1)
      exact ⟨c, hqc, rfl⟩
  have hll : (l.flatMap f).length = len * sz := by rw [SX.flat_len hlen, hl]
  refine ⟨some a, len, cap', l, he, ⟨hll, fun hn => ⟨a, rfl, ?_, fun j u hu => ?_⟩⟩, by omega, by omega, hq⟩
  · obtain ⟨c, hc⟩ : ∃ c, l[0]? = some c := ⟨_, List.getElem?_eq_getElem (by omega)⟩
    have := World.cells?_block (hx 0 c hc) (by omega)
    rwa [block_of_add] at this
  have hj : j < len * sz := by
    have := (List.getElem?_eq_some_iff.1 hu).1
    rwa [hll] at this
  have hd : j / sz < len := Nat.div_lt_of_lt_mul (by rw [Nat.mul_comm]; exact hj)
  have hm : j % sz < sz := Nat.mod_lt _ h0
  obtain ⟨c, hc⟩ : ∃ c, l[j / sz]? = some c := ⟨_, List.getElem?_eq_getElem (by omega)⟩
  have hw := hx _ c hc
  have hjj : j / sz * sz + j % sz = j := by rw [Nat.mul_comm]; exact Nat.div_add_mod j sz
  have h4 : (f c)[j % sz]? = some u := by
    rw [← hjj, ← List.getElem?_drop, SX.flat_elem hlen hc, List.getElem?_append_left (by rw [hlen]; exact hm)] at hu
    exact hu
  obtain ⟨_, _, h5⟩ := World.cells?_some hw
  have h6 := (h5 (j % sz) hm).trans h4
  have h7 : (a.add (j / sz * sz)).add (j % sz) = a.add j := by rw [Addr.add_add, hjj]
  rw [h7] at h6
  exact h6
theorem open_sgs (hd : DataW.Trod enc Try.prog w base sp held 22 v d ps) : ∃ (A : Option Addr) (n cap : Nat) (l : List Sg), v.cells.toList = [.slice A n cap] ∧ Rd w 14 A n (sgsL l) ∧ n ≤ cap ∧ cap ≤ maxLen := by
  obtain ⟨fuel, hf⟩ := hd
  obtain ⟨A, k, cap, l, h1, h2, h3, h4, _⟩ := slice_of (f := cellsSg) (sz := 14) (Q := fun _ => True) Try.underlying22 (by kernel_rfl) (by decide) (fun _ => rfl) (fun n cs y h => by obtain ⟨s, e⟩ := sign_cells h; exact ⟨s, trivial, e⟩) hf
  exact ⟨A, k, cap, l, h1, h2, h3, h4⟩
theorem v_slice {r : Reach} {b0 : Nat} {t e : TypeId} (hu : Try.prog.underlying t = some (.slice e)) (hval : Value.okWide Try.prog w r b0 t v) {A : Option Addr} {n cap : Nat} (h : v.cells.toList = [.slice A n cap]) : v = .slice A n cap := by
  obtain ⟨A', n', c', rfl⟩ := okWide_slice hu hval
  simpa [Value.cells] using h
theorem edit_cells {n : Nat} {cs : List Value} {y : DataW H × List MemPlace} (hf : DataW.trod enc Try.prog w base sp held n 28 cs = some y) : ∃ q : Ed, cs = cellsE q := by
  obtain ⟨xs, n, _, _, hlen, hl, hx⟩ := DataW.trod_struct Try.underlying28 hf
  have hC : Try.prog.cellsOf 28 = 22 := by kernel_rfl
  rw [hC] at hlen
  have hl' : xs.length = 8 := hl
  have g0 : DataW.trod enc Try.prog w base sp held n 3 ((cs.drop 0).take 1) = some (xs[0]'(by omega)) := (hx 0 _ rfl).trans (List.getElem?_eq_getElem _)
  obtain ⟨v0, e0⟩ := int_at Try.underlying3 g0
  have g1 : DataW.trod enc Try.prog w base sp held n 3 ((cs.drop 1).take 1) = some (xs[1]'(by omega)) := (hx 1 _ rfl).trans (List.getElem?_eq_getElem _)
  obtain ⟨v1, e1⟩ := int_at Try.underlying3 g1
  have g2 : DataW.trod enc Try.prog w base sp held n 3 ((cs.drop 2).take 1) = some (xs[2]'(by omega)) := (hx 2 _ rfl).trans (List.getElem?_eq_getElem _)
  obtain ⟨v2, e2⟩ := int_at Try.underlying3 g2
  have g3 : DataW.trod enc Try.prog w base sp held n 3 ((cs.drop 3).take 1) = some (xs[3]'(by omega)) := (hx 3 _ rfl).trans (List.getElem?_eq_getElem _)
  obtain ⟨v3, e3⟩ := int_at Try.underlying3 g3
  have g4 : DataW.trod enc Try.prog w base sp held n 3 ((cs.drop 4).take 1) = some (xs[4]'(by omega)) := (hx 4 _ rfl).trans (List.getElem?_eq_getElem _)
  obtain ⟨v4, e4⟩ := int_at Try.underlying3 g4
  have g5 : DataW.trod enc Try.prog w base sp held n 3 ((cs.drop 5).take 1) = some (xs[5]'(by omega)) := (hx 5 _ rfl).trans (List.getElem?_eq_getElem _)
  obtain ⟨v5, e5⟩ := int_at Try.underlying3 g5
  have g6 : DataW.trod enc Try.prog w base sp held n 24 ((cs.drop 6).take 2) = some (xs[6]'(by omega)) := (hx 6 _ rfl).trans (List.getElem?_eq_getElem _)
  obtain ⟨m, k, e6⟩ := ratio_cells g6
  have g7 : DataW.trod enc Try.prog w base sp held n 26 ((cs.drop 8).take 14) = some (xs[7]'(by omega)) := (hx 7 _ rfl).trans (List.getElem?_eq_getElem _)
  obtain ⟨s, es⟩ := sign_cells g7
  refine ⟨⟨v0, v1, v2, v3, v4, v5, m, k, s⟩, ?_⟩
  show cs = [.int .i64 v0, .int .i64 v1, .int .i64 v2, .int .i64 v3, .int .i64 v4, .int .i64 v5, .int .i64 m, .int .i64 k] ++ cellsSg s
  have h0 : cs = cs.take 6 ++ ((cs.drop 6).take 2 ++ cs.drop 8) := by
    rw [show cs.drop 8 = (cs.drop 6).drop 2 by rw [List.drop_drop], List.take_append_drop, List.take_append_drop]
  have h1 : cs.take 6 = [.int .i64 v0, .int .i64 v1, .int .i64 v2, .int .i64 v3, .int .i64 v4, .int .i64 v5] := by
    apply List.ext_getElem?
    intro i
    rw [List.getElem?_take]
    split
    · have hc : i = 0 ∨ i = 1 ∨ i = 2 ∨ i = 3 ∨ i = 4 ∨ i = 5 := by omega
      rcases hc with rfl | rfl | rfl | rfl | rfl | rfl
      · exact e0
      · exact e1
      · exact e2
      · exact e3
      · exact e4
      exact e5
    rw [List.getElem?_eq_none (by show 6 ≤ i; omega)]
  have h2 : cs.drop 8 = cellsSg s := by
    rw [← es, List.take_of_length_le (by simp; omega)]
  rw [h0, h1, e6, h2]
  simp only [List.cons_append, List.nil_append]
theorem open_edit (hd : DataW.Trod enc Try.prog w base sp held 28 v d ps) : ∃ q : Ed, v.cells.toList = cellsE q := by
  obtain ⟨fuel, hf⟩ := hd
  exact edit_cells hf
theorem v_edit {r : Reach} {b0 : Nat} (hval : Value.okWide Try.prog w r b0 28 v) {q : Ed} (h : v.cells.toList = cellsE q) : v = valE q := by
  obtain ⟨cs, rfl, hsz⟩ := okWide_struct Try.underlying28 hval
  have : cs = (cellsE q).toArray := by rw [← h]; rfl
  rw [this]; rfl
end
end Go.Proofs.Ytnaooclbphaelaa
