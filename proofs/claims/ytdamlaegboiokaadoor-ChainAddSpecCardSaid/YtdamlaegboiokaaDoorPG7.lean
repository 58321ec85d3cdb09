/-
  The statement 'ChainAddSpec' as its tied card: for every input the law returns true, and each argument reads as it read before; the listed variables are as the program's text lays them. No other condition.
-/
import Derived.Test.YtdamlaegboiokaaDoorPG6
import Derived.Test.YtdamlaegboiokaaDoorPG1
import Derived.LaidMore
import Derived.Stop.Joined
import Derived.Stop.LaidErr
import Derived.Lib.LaidTab
import Derived.ChangeSlices
import Derived.MakeChecks
import Derived.DataElems
import Derived.Test.YtdamlaegboiokaaDoorCards
import Derived.Test.YtdamlaegboiokaaDoorTie
import Derived.SevenTiedAt
set_option linter.unusedSimpArgs false
set_option linter.unusedVariables false
namespace Go.Proofs.YtdamlaegboiokaaDoor
open Go Go.RowKit
def tree_sane : SX.Tree :=
(.df (.callq 10 [(.own 35 []), .no, (.row 1 [(.a [(.k (.int .u8 120))])])]) [(.k (.slice none 0 0)), (.i 3), (.row 1)] (.tp [.one, .one])
(.df (.callq 10 [(.ext 35), .no, (.row 1 [(.a [(.k (.int .u8 121))])])]) [(.x 0 [0]), (.i 3), (.row 3)] (.tp [.one, .one])
(.df (.callq 10 [(.ext 35), .no, (.row 1 [(.a [(.k (.int .u8 122))])])]) [(.x 0 [0]), (.i 3), (.row 5)] (.tp [.one, .one])
(.df (.callq 10 [(.own 35 []), .no, (.own 1 [])]) [(.k (.slice none 0 0)), (.i 24), (.k (.slice none 0 0))] (.tp [.one, .one])
(.df (.callq 10 [(.ext 35), .no, (.own 1 [])]) [(.x 0 [0]), (.i 4), (.k (.slice none 0 0))] (.tp [.one, .one])
(.df (.call 12 [(.ext 35), (.ext 35)]) [(.x 1 [0]), (.x 2 [0])] (.tp [.one, .one, .one])
(.df (.call 12 [(.ext 35), (.ext 35)]) [(.x 0 [0]), (.x 1 [0])] (.tp [.one, .one, .one])
(.df (.call 12 [(.own 35 []), (.ext 35)]) [(.k (.slice none 0 0)), (.x 0 [0])] (.tp [.one, .one, .one])
(.df (.bin .neq 26) [(.x 0 [1]), (.i 0)] .one
(.br 8 []
(.ret (.k (.bool false)) (List.replicate 6 none) [])
(.df (.bin .neq 26) [(.x 1 [1]), (.i 0)] .one
(.br 9 []
(.ret (.k (.bool false)) (List.replicate 6 none) [])
(.df (.bin .neq 26) [(.x 2 [1]), (.i 0)] .one
(.br 10 []
(.ret (.k (.bool false)) (List.replicate 6 none) [])
(.df (.bin .neq 26) [(.x 3 [1]), (.i 1)] .one
(.br 11 []
(.ret (.k (.bool false)) (List.replicate 6 none) [])
(.df (.bin .neq 26) [(.x 4 [1]), (.i 1)] .one
(.br 12 []
(.ret (.k (.bool false)) (List.replicate 6 none) [])
(.df (.bin .neq 26) [(.x 5 [2]), (.i 0)] .one
(.br 13 []
(.ret (.k (.bool false)) (List.replicate 6 none) [])
(.df (.bin .neq 26) [(.x 6 [2]), (.i 0)] .one
(.br 14 []
(.ret (.k (.bool false)) (List.replicate 6 none) [])
(.df (.bin .neq 26) [(.x 7 [2]), (.i 0)] .one
(.br 15 []
(.ret (.k (.bool false)) (List.replicate 6 none) [])
(.df (.len false) [(.x 0 [0])] .one
(.df (.bin .neq 3) [(.q 16), (.i 1)] .one
(.br 17 []
(.ret (.k (.bool false)) (List.replicate 6 none) [])
(.df (.len false) [(.x 1 [0])] .one
(.df (.bin .neq 3) [(.q 18), (.i 2)] .one
(.br 19 []
(.ret (.k (.bool false)) (List.replicate 6 none) [])
(.df (.len false) [(.x 2 [0])] .one
(.df (.bin .neq 3) [(.q 20), (.i 2)] .one
(.br 21 []
(.ret (.k (.bool false)) (List.replicate 6 none) [])
(.df (.bin .neq 3) [(.x 5 [0]), (.i 1)] .one
(.br 22 []
(.ret (.k (.bool false)) (List.replicate 6 none) [])
(.df .not [(.x 5 [1])] .one
(.br 23 []
(.ret (.k (.bool false)) (List.replicate 6 none) [])
(.br 6 [1]
(.ret (.k (.bool false)) (List.replicate 6 none) [])
(.br 7 [1]
(.ret (.k (.bool false)) (List.replicate 6 none) [])
(.df (.call 16 [(.own 35 [])]) [(.k (.slice none 0 0))] .one
(.df (.bin .neq 26) [(.q 24), (.i 0)] .one
(.br 25 []
(.ret (.k (.bool false)) (List.replicate 6 none) [])
(.df (.call 16 [(.ext 35)]) [(.x 1 [0])] .one
(.df (.bin .neq 26) [(.q 26), (.i 0)] .one
(.br 27 []
(.ret (.k (.bool false)) (List.replicate 6 none) [])
(.df (.call 16 [(.own 35 [(.i 0), (.i 1), (.k (.int .u8 0)), (.k (.int .u8 0)), (.k (.int .u8 0)), (.k (.int .u8 0)), (.k (.int .u8 0)), (.k (.int .u8 0)), (.k (.int .u8 0)), (.k (.int .u8 0)), (.k (.int .u8 0)), (.k (.int .u8 0)), (.k (.int .u8 0)), (.k (.int .u8 0)), (.k (.int .u8 0)), (.k (.int .u8 0)), (.k (.int .u8 0)), (.k (.int .u8 0)), (.k (.int .u8 0)), (.k (.int .u8 0)), (.k (.int .u8 0)), (.k (.int .u8 0)), (.k (.int .u8 0)), (.k (.int .u8 0)), (.k (.int .u8 0)), (.k (.int .u8 0)), (.k (.int .u8 0)), (.k (.int .u8 0)), (.k (.int .u8 0)), (.k (.int .u8 0)), (.k (.int .u8 0)), (.k (.int .u8 0)), (.k (.int .u8 0)), (.k (.int .u8 0)), (.k (.slice none 0 0))])]) [(.sl 6 0 1 1)] .one
(.df (.bin .neq 26) [(.q 28), (.i 80)] .one
(.br 29 []
(.ret (.k (.bool false)) (List.replicate 7 none) [])
(.df (.slc false 35 true false false) [(.x 1 [0]), (.i 1)] .one
(.df (.call 16 [(.ext 35)]) [(.q 30)] .one
(.df (.bin .neq 26) [(.q 31), (.i 80)] .one
(.br 32 []
(.ret (.k (.bool false)) (List.replicate 7 none) [])
(.df (.call 19 [.no, (.own 1 [])]) [(.k (.string ⟨#[110, 111, 110, 101]⟩)), (.k (.slice none 0 0))] (.ag 32)
(.df (.app 1 1 (.own 1 (SX.Y 33 0 32))) [(.cat [(.a [(.k (.int .u8 3)), (.k (.int .u8 4)), (.k (.int .u8 1)), (.k (.int .u8 6)), (.k (.int .u8 1)), (.k (.int .u8 0)), (.k (.int .u8 2)), (.k (.int .u8 32))])]), (.sl 7 0 32 32)] .any
(.df (.app 1 1 (.row 1 [(.a [(.k (.int .u8 2)), (.k (.int .u8 1)), (.k (.int .u8 120))])])) [(.cat [(.a [(.k (.int .u8 3)), (.k (.int .u8 4)), (.k (.int .u8 1)), (.k (.int .u8 6)), (.k (.int .u8 1)), (.k (.int .u8 0)), (.k (.int .u8 2)), (.k (.int .u8 32))]), (.q 34)]), (.row 10)] .any
(.df .bnd [(.x 0 [0]), (.i 0)] .one
(.df .bnd [(.x 0 [0]), (.i 0)] .one
(.df (.elems 35 2 32) [(.x 0 [0]), (.i 0)] (.ag 32)
(.df (.eqr false 32 [(.i .u8), (.i .u8), (.i .u8), (.i .u8), (.i .u8), (.i .u8), (.i .u8), (.i .u8), (.i .u8), (.i .u8), (.i .u8), (.i .u8), (.i .u8), (.i .u8), (.i .u8), (.i .u8), (.i .u8), (.i .u8), (.i .u8), (.i .u8), (.i .u8), (.i .u8), (.i .u8), (.i .u8), (.i .u8), (.i .u8), (.i .u8), (.i .u8), (.i .u8), (.i .u8), (.i .u8), (.i .u8)]) (SX.Y 38 0 32 ++ SX.Y 33 0 32) .one
(.br 39 []
(.df (.call 15 [(.own 35 [])]) [(.k (.slice none 0 0))] (.ag 32)
(.df (.eqr false 32 [(.i .u8), (.i .u8), (.i .u8), (.i .u8), (.i .u8), (.i .u8), (.i .u8), (.i .u8), (.i .u8), (.i .u8), (.i .u8), (.i .u8), (.i .u8), (.i .u8), (.i .u8), (.i .u8), (.i .u8), (.i .u8), (.i .u8), (.i .u8), (.i .u8), (.i .u8), (.i .u8), (.i .u8), (.i .u8), (.i .u8), (.i .u8), (.i .u8), (.i .u8), (.i .u8), (.i .u8), (.i .u8)]) (SX.Y 40 0 32 ++ SX.Y 33 0 32) .one
(.br 41 []
(.df (.call 15 [(.ext 35)]) [(.x 0 [0])] (.ag 32)
(.df (.call 19 [.no, (.row 1 [(.a [(.k (.int .u8 3)), (.k (.int .u8 4)), (.k (.int .u8 1)), (.k (.int .u8 6)), (.k (.int .u8 1)), (.k (.int .u8 0)), (.k (.int .u8 2)), (.k (.int .u8 32))]), (.q 34), (.q 35)])]) [(.k (.string ⟨#[108, 105, 110, 107]⟩)), (.row 11)] (.ag 32)
(.df (.eqr false 32 [(.i .u8), (.i .u8), (.i .u8), (.i .u8), (.i .u8), (.i .u8), (.i .u8), (.i .u8), (.i .u8), (.i .u8), (.i .u8), (.i .u8), (.i .u8), (.i .u8), (.i .u8), (.i .u8), (.i .u8), (.i .u8), (.i .u8), (.i .u8), (.i .u8), (.i .u8), (.i .u8), (.i .u8), (.i .u8), (.i .u8), (.i .u8), (.i .u8), (.i .u8), (.i .u8), (.i .u8), (.i .u8)]) (SX.Y 42 0 32 ++ SX.Y 43 0 32) .one
(.br 44 []
(.df .bnd [(.x 1 [0]), (.i 1)] .one
(.df .bnd [(.x 1 [0]), (.i 1)] .one
(.df (.elems 35 2 32) [(.x 1 [0]), (.i 1)] (.ag 32)
(.df (.call 15 [(.ext 35)]) [(.x 0 [0])] (.ag 32)
(.df (.eqr false 32 [(.i .u8), (.i .u8), (.i .u8), (.i .u8), (.i .u8), (.i .u8), (.i .u8), (.i .u8), (.i .u8), (.i .u8), (.i .u8), (.i .u8), (.i .u8), (.i .u8), (.i .u8), (.i .u8), (.i .u8), (.i .u8), (.i .u8), (.i .u8), (.i .u8), (.i .u8), (.i .u8), (.i .u8), (.i .u8), (.i .u8), (.i .u8), (.i .u8), (.i .u8), (.i .u8), (.i .u8), (.i .u8)]) (SX.Y 47 0 32 ++ SX.Y 48 0 32) .one
(.br 49 []
(.df .bnd [(.x 1 [0]), (.i 1)] .one
(.df .bnd [(.x 1 [0]), (.i 1)] .one
(.df (.elem 35 1) [(.x 1 [0]), (.i 1)] .one
(.df (.bin .eql 3) [(.q 52), (.i 1)] .one
(.br 53 []
(.df .bnd [(.x 1 [0]), (.i 1)] .one
(.df .bnd [(.x 1 [0]), (.i 1)] .one
(.df (.elem 35 34) [(.x 1 [0]), (.i 1)] .one
(.df .b2sx [(.q 56)] .one
(.df (.bin .eql 9) [(.q 57), (.k (.string ⟨#[121]⟩))] .one
(.ret (.q 58) (List.replicate 55 none) []))))))
(.ret (.k (.bool false)) (List.replicate 55 none) []))))))
(.ret (.k (.bool false)) (List.replicate 55 none) [])))))))
(.ret (.k (.bool false)) (List.replicate 55 none) [])))))
(.ret (.k (.bool false)) (List.replicate 55 none) []))))
(.ret (.k (.bool false)) (List.replicate 55 none) [])))))))))))))))))))))))))))))))))))))))))))))))))))))))))))))
def args_sane : List SX.V := []
set_option maxRecDepth 100000 in
theorem run_sane (K A : Value → Nat → List Value → Prop) : (SX.run (cxQB K A) ⟨fun f => true, [], 12, 100⟩ 100000 0 (SX.door 8 Tryd.f8 args_sane []) [.code (Tryd.f8.body.getD .skip), .top Tryd.f8]).strip = tree_sane := by kernel_rfl
set_option maxRecDepth 100000 in
set_option maxHeartbeats 4000000 in
theorem sane_any  (w : World) (hlaid : Laid w) : Calls Tryd.prog 8 #[] w fun e w' => e = .returned (.bool true) ∧ Below w.heap.size w w' := by
  refine SX.calls_of_run (C := cxQB KS0 (fun _ _ _ => False)) (G := ⟨fun f => true, [], 12, 100⟩) (args := args_sane) (sh := []) (ρ := []) 100000 tree_sane (okQB _ _) Tryd.func8 rfl (run_sane _ _) (by kernel_rfl) (by kernel_rfl) (by kernel_rfl) ?_ ?_
  · rintro W hW s sz cells (⟨rfl, rfl, rfl⟩ | ⟨rfl, rfl, rfl⟩)
    · exact ⟨hlaid.1.same0 hW, Nat.le_refl _⟩
    exact ⟨hlaid.2.same0 hW, Nat.le_refl _⟩
  unfold tree_sane
  refine SX.VC_dn (fun v N => ∃ A1 c1 A2 c2, A1.isSome = true ∧ 1 ≤ c1 ∧ v = .tuple #[.slice A1 1 c1, .int .i64 0] ∧ N = (ndN ([] : List Lk) 3 A1 c1 A2 c2 xT)) (fun _ => rfl) (fun α => ⟨[⟨.slice none 0 0, 35, lkL []⟩, ⟨.int .i64 3, 0, []⟩, ⟨(α 1).h, 1, (sb xT).flatMap c8⟩], ⟨by kernel_rfl, by kernel_rfl, by kernel_rfl, by kernel_rfl, trivial⟩, rfl, _, ([] : List Lk), 3, _, xT, rfl, ⟨(ks0_1), (ks0_2)⟩, (by simp [addL]), (fun z h => nomatch h), by decide, by decide, fun h => absurd (add_nil (by decide) (by decide) (by decide)) h, fun _ A c A' c' g1 g2 g3 => ⟨A, c, A', c', g1, g2, rfl, rfl⟩⟩) ?_
  rintro _ _ - ⟨A1, c1, A2, c2, g1, gg1, rfl, rfl⟩
  refine SX.VC_dn (fun v N => ∃ A3 c3 A4 c4, A3.isSome = true ∧ 2 ≤ c3 ∧ v = .tuple #[.slice A3 2 c3, .int .i64 0] ∧ N = (ndN (addL [] 3 A2 c2 xT) 3 A3 c3 A4 c4 yT)) (fun _ => rfl) (fun α => ⟨[⟨.slice A1 1 c1, 35, lkL (addL [] 3 A2 c2 xT)⟩, ⟨.int .i64 3, 0, []⟩, ⟨(α 3).h, 1, (sb yT).flatMap c8⟩], ⟨by kernel_rfl, by kernel_rfl, K_in (y := ⟨.slice A1 1 c1, 35, lkL (addL [] 3 A2 c2 xT)⟩) (by kernel_rfl) (List.mem_append_left _ (ndN_a ..)), by kernel_rfl, by kernel_rfl, by kernel_rfl, trivial⟩, rfl, _, (addL [] 3 A2 c2 xT), 3, _, yT, rfl, ⟨(.inl (ks0_1)), (.inl (ks0_2))⟩, (by simp [addL]), (addL_all (fun z h => nomatch h) ⟨.inl (.inr (List.mem_append_left _ (ndN_d ..))), mk_fit (by decide) (by simp [addL]) (by decide)⟩), by decide, by decide, fun h => absurd (add_b ..) h, fun _ A c A' c' g1 g2 g3 => ⟨A, c, A', c', g1, g2, rfl, rfl⟩⟩) ?_
  rintro _ _ - ⟨A3, c3, A4, c4, g3, gg3, rfl, rfl⟩
  refine SX.VC_dn (fun v N => ∃ A5 c5 A6 c6, A5.isSome = true ∧ 2 ≤ c5 ∧ v = .tuple #[.slice A5 2 c5, .int .i64 0] ∧ N = (ndN (addL [] 3 A2 c2 xT) 3 A5 c5 A6 c6 zT)) (fun _ => rfl) (fun α => ⟨[⟨.slice A1 1 c1, 35, lkL (addL [] 3 A2 c2 xT)⟩, ⟨.int .i64 3, 0, []⟩, ⟨(α 5).h, 1, (sb zT).flatMap c8⟩], ⟨by kernel_rfl, by kernel_rfl, K_in (y := ⟨.slice A1 1 c1, 35, lkL (addL [] 3 A2 c2 xT)⟩) (by kernel_rfl) (List.mem_append_right _ (List.mem_append_left _ (ndN_a ..))), by kernel_rfl, by kernel_rfl, by kernel_rfl, trivial⟩, rfl, _, (addL [] 3 A2 c2 xT), 3, _, zT, rfl, ⟨(.inl (.inl (ks0_1))), (.inl (.inl (ks0_2)))⟩, (by simp [addL]), (addL_all (fun z h => nomatch h) ⟨.inl (.inr (List.mem_append_right _ (List.mem_append_left _ (ndN_d ..)))), mk_fit (by decide) (by simp [addL]) (by decide)⟩), by decide, by decide, fun h => absurd (add_c ..) h, fun _ A c A' c' g1 g2 g3 => ⟨A, c, A', c', g1, g2, rfl, rfl⟩⟩) ?_
  rintro _ _ - ⟨A5, c5, A6, c6, g5, gg5, rfl, rfl⟩
  refine SX.VC_dn (fun v N => v = .tuple #[.slice none 0 0, .int .i64 1] ∧ N = []) (fun _ => rfl) (fun α => ⟨[⟨.slice none 0 0, 35, lkL []⟩, ⟨.int .i64 24, 0, []⟩, ⟨.slice none 0 0, 1, (sb ⟨#[]⟩).flatMap c8⟩], ⟨by kernel_rfl, by kernel_rfl, by kernel_rfl, by kernel_rfl, trivial⟩, rfl, _, ([] : List Lk), 24, _, ⟨#[]⟩, rfl, ⟨(.inl (.inl (.inl (ks0_1)))), (.inl (.inl (.inl (ks0_2))))⟩, (by simp [addL]), (fun z h => nomatch h), by decide, by decide, fun _ => ⟨by rw [show addE ([] : List Lk) 24 (ByteArray.size ⟨#[]⟩) = 1 from add_24], rfl⟩, fun h => absurd (h.symm.trans add_24) (by decide)⟩) ?_
  rintro _ _ - ⟨rfl, rfl⟩
  refine SX.VC_dn (fun v N => v = .tuple #[.slice none 0 0, .int .i64 1] ∧ N = []) (fun _ => rfl) (fun α => ⟨[⟨.slice A1 1 c1, 35, lkL (addL [] 3 A2 c2 xT)⟩, ⟨.int .i64 4, 0, []⟩, ⟨.slice none 0 0, 1, (sb ⟨#[]⟩).flatMap c8⟩], ⟨by kernel_rfl, by kernel_rfl, K_in (y := ⟨.slice A1 1 c1, 35, lkL (addL [] 3 A2 c2 xT)⟩) (by kernel_rfl) (List.mem_append_right _ (List.mem_append_right _ (List.mem_append_right _ (List.mem_append_left _ (ndN_a ..))))), by kernel_rfl, by kernel_rfl, by kernel_rfl, trivial⟩, rfl, _, (addL [] 3 A2 c2 xT), 4, _, ⟨#[]⟩, rfl, ⟨(.inl (.inl (.inl (.inl (ks0_1))))), (.inl (.inl (.inl (.inl (ks0_2)))))⟩, (by simp [addL]), (addL_all (fun z h => nomatch h) ⟨.inl (.inr (List.mem_append_right _ (List.mem_append_right _ (List.mem_append_right _ (List.mem_append_left _ (ndN_d ..)))))), mk_fit (by decide) (by simp [addL]) (by decide)⟩), by decide, by decide, fun _ => ⟨by rw [show addE (addL [] 3 A2 c2 xT) 4 (ByteArray.size ⟨#[]⟩) = 1 from (add_4 A2 c2)], rfl⟩, fun h => absurd (h.symm.trans (add_4 A2 c2)) (by decide)⟩) ?_
  rintro _ _ - ⟨rfl, rfl⟩
  refine SX.E (.tuple #[.int .i64 1, .bool true, .int .i64 0]) (fun α => ⟨[⟨.slice A3 2 c3, 35, lkL (addL (addL [] 3 A2 c2 xT) 3 A4 c4 yT)⟩, ⟨.slice A5 2 c5, 35, lkL (addL (addL [] 3 A2 c2 xT) 3 A6 c6 zT)⟩], ⟨by kernel_rfl, by kernel_rfl, K_in (y := ⟨.slice A3 2 c3, 35, lkL (addL (addL [] 3 A2 c2 xT) 3 A4 c4 yT)⟩) (by kernel_rfl) (List.mem_append_right _ (List.mem_append_right _ (List.mem_append_right _ (List.mem_append_left _ (ndN_a ..))))), by kernel_rfl, by kernel_rfl, K_in (y := ⟨.slice A5 2 c5, 35, lkL (addL (addL [] 3 A2 c2 xT) 3 A6 c6 zT)⟩) (by kernel_rfl) (List.mem_append_right _ (List.mem_append_right _ (List.mem_append_left _ (ndN_a ..)))), trivial⟩, .inl ⟨rfl, _, _, (addL (addL [] 3 A2 c2 xT) 3 A4 c4 yT), (addL (addL [] 3 A2 c2 xT) 3 A6 c6 zT), rfl, ⟨(.inl (.inl (.inl (.inl (.inl (ks0_1)))))), (.inl (.inl (.inl (.inl (.inl (ks0_2))))))⟩, (by simp [addL]), (by simp [addL]), (addL_all (addL_all (fun z h => nomatch h) ⟨.inl (.inr (List.mem_append_right _ (List.mem_append_right _ (List.mem_append_right _ (List.mem_append_right _ (List.mem_append_left _ (ndN_d ..))))))), mk_fit (by decide) (by simp [addL]) (by decide)⟩) ⟨.inl (.inr (List.mem_append_right _ (List.mem_append_right _ (List.mem_append_right _ (List.mem_append_left _ (ndN_d ..)))))), mk_fit (by decide) (by simp [addL]) (by decide)⟩), (addL_all (addL_all (fun z h => nomatch h) ⟨.inl (.inr (List.mem_append_right _ (List.mem_append_right _ (List.mem_append_right _ (List.mem_append_right _ (List.mem_append_left _ (ndN_d ..))))))), mk_fit (by decide) (by simp [addL]) (by decide)⟩) ⟨.inl (.inr (List.mem_append_right _ (List.mem_append_right _ (List.mem_append_left _ (ndN_d ..))))), mk_fit (by decide) (by simp [addL]) (by decide)⟩), by rw [(part_bc A2 A4 A6 c2 c4 c6)]⟩, SX.noAli rfl⟩) ?_
  refine SX.E (.tuple #[.int .i64 0, .bool false, .int .i64 0]) (fun α => ⟨[⟨.slice A1 1 c1, 35, lkL (addL [] 3 A2 c2 xT)⟩, ⟨.slice A3 2 c3, 35, lkL (addL (addL [] 3 A2 c2 xT) 3 A4 c4 yT)⟩], ⟨by kernel_rfl, by kernel_rfl, K_in (y := ⟨.slice A1 1 c1, 35, lkL (addL [] 3 A2 c2 xT)⟩) (by kernel_rfl) (List.mem_append_right _ (List.mem_append_right _ (List.mem_append_right _ (List.mem_append_right _ (List.mem_append_left _ (ndN_a ..)))))), by kernel_rfl, by kernel_rfl, K_in (y := ⟨.slice A3 2 c3, 35, lkL (addL (addL [] 3 A2 c2 xT) 3 A4 c4 yT)⟩) (by kernel_rfl) (List.mem_append_right _ (List.mem_append_right _ (List.mem_append_right _ (List.mem_append_left _ (ndN_a ..))))), trivial⟩, .inl ⟨rfl, _, _, (addL [] 3 A2 c2 xT), (addL (addL [] 3 A2 c2 xT) 3 A4 c4 yT), rfl, ⟨(.inl (.inl (.inl (.inl (.inl (ks0_1)))))), (.inl (.inl (.inl (.inl (.inl (ks0_2))))))⟩, (by simp [addL]), (by simp [addL]), (addL_all (fun z h => nomatch h) ⟨.inl (.inr (List.mem_append_right _ (List.mem_append_right _ (List.mem_append_right _ (List.mem_append_right _ (List.mem_append_left _ (ndN_d ..))))))), mk_fit (by decide) (by simp [addL]) (by decide)⟩), (addL_all (addL_all (fun z h => nomatch h) ⟨.inl (.inr (List.mem_append_right _ (List.mem_append_right _ (List.mem_append_right _ (List.mem_append_right _ (List.mem_append_left _ (ndN_d ..))))))), mk_fit (by decide) (by simp [addL]) (by decide)⟩) ⟨.inl (.inr (List.mem_append_right _ (List.mem_append_right _ (List.mem_append_right _ (List.mem_append_left _ (ndN_d ..)))))), mk_fit (by decide) (by simp [addL]) (by decide)⟩), by rw [(part_ab A2 A4 c2 c4)]⟩, SX.noAli rfl⟩) ?_
  refine SX.E (.tuple #[.int .i64 0, .bool false, .int .i64 0]) (fun α => ⟨[⟨.slice none 0 0, 35, lkL []⟩, ⟨.slice A1 1 c1, 35, lkL (addL [] 3 A2 c2 xT)⟩], ⟨by kernel_rfl, by kernel_rfl, by kernel_rfl, K_in (y := ⟨.slice A1 1 c1, 35, lkL (addL [] 3 A2 c2 xT)⟩) (by kernel_rfl) (List.mem_append_right _ (List.mem_append_right _ (List.mem_append_right _ (List.mem_append_right _ (List.mem_append_left _ (ndN_a ..)))))), trivial⟩, .inl ⟨rfl, _, _, ([] : List Lk), (addL [] 3 A2 c2 xT), rfl, ⟨(.inl (.inl (.inl (.inl (.inl (ks0_1)))))), (.inl (.inl (.inl (.inl (.inl (ks0_2))))))⟩, (by simp [addL]), (by simp [addL]), (fun z h => nomatch h), (addL_all (fun z h => nomatch h) ⟨.inl (.inr (List.mem_append_right _ (List.mem_append_right _ (List.mem_append_right _ (List.mem_append_right _ (List.mem_append_left _ (ndN_d ..))))))), mk_fit (by decide) (by simp [addL]) (by decide)⟩), by rw [(part_ea A2 c2)]⟩, SX.noAli rfl⟩) ?_
  refine SX.D (.bool ((0 : Int) != 0)) ?_
  refine SX.B ((0 : Int) != 0) (fun h8 => absurd h8 (by decide)) (fun h8 => ?_)
  try simp only [NRM] at h8
  refine SX.D (.bool ((0 : Int) != 0)) ?_
  refine SX.B ((0 : Int) != 0) (fun h9 => absurd h9 (by decide)) (fun h9 => ?_)
  try simp only [NRM] at h9
  refine SX.D (.bool ((0 : Int) != 0)) ?_
  refine SX.B ((0 : Int) != 0) (fun h10 => absurd h10 (by decide)) (fun h10 => ?_)
  try simp only [NRM] at h10
  refine SX.D (.bool ((1 : Int) != 1)) ?_
  refine SX.B ((1 : Int) != 1) (fun h11 => absurd h11 (by decide)) (fun h11 => ?_)
  try simp only [NRM] at h11
  refine SX.D (.bool ((1 : Int) != 1)) ?_
  refine SX.B ((1 : Int) != 1) (fun h12 => absurd h12 (by decide)) (fun h12 => ?_)
  try simp only [NRM] at h12
  refine SX.D (.bool ((0 : Int) != 0)) ?_
  refine SX.B ((0 : Int) != 0) (fun h13 => absurd h13 (by decide)) (fun h13 => ?_)
  try simp only [NRM] at h13
  refine SX.D (.bool ((0 : Int) != 0)) ?_
  refine SX.B ((0 : Int) != 0) (fun h14 => absurd h14 (by decide)) (fun h14 => ?_)
  try simp only [NRM] at h14
  refine SX.D (.bool ((0 : Int) != 0)) ?_
  refine SX.B ((0 : Int) != 0) (fun h15 => absurd h15 (by decide)) (fun h15 => ?_)
  try simp only [NRM] at h15
  refine SX.D (.int .i64 (((1 : Nat) : Int))) ?_
  refine SX.D (.bool ((((1 : Nat) : Int) : Int) != 1)) ?_
  refine SX.B ((((1 : Nat) : Int) : Int) != 1) (fun h17 => absurd h17 (by decide)) (fun h17 => ?_)
  try simp only [NRM] at h17
  refine SX.D (.int .i64 (((2 : Nat) : Int))) ?_
  refine SX.D (.bool ((((2 : Nat) : Int) : Int) != 2)) ?_
  refine SX.B ((((2 : Nat) : Int) : Int) != 2) (fun h19 => absurd h19 (by decide)) (fun h19 => ?_)
  try simp only [NRM] at h19
  refine SX.D (.int .i64 (((2 : Nat) : Int))) ?_
  refine SX.D (.bool ((((2 : Nat) : Int) : Int) != 2)) ?_
  refine SX.B ((((2 : Nat) : Int) : Int) != 2) (fun h21 => absurd h21 (by decide)) (fun h21 => ?_)
  try simp only [NRM] at h21
  refine SX.D (.bool ((1 : Int) != 1)) ?_
  refine SX.B ((1 : Int) != 1) (fun h22 => absurd h22 (by decide)) (fun h22 => ?_)
  try simp only [NRM] at h22
  refine SX.D (.bool (!(true))) ?_
  refine SX.B (!(true)) (fun h23 => absurd h23 (by decide)) (fun h23 => ?_)
  try simp only [NRM] at h23
  refine SX.B false (fun h6_1 => absurd h6_1 (by decide)) (fun h6_1 => ?_)
  try simp only [NRM] at h6_1
  refine SX.B false (fun h7_1 => absurd h7_1 (by decide)) (fun h7_1 => ?_)
  try simp only [NRM] at h7_1
  refine SX.E (.int .i64 0) (fun α => ⟨[⟨.slice none 0 0, 35, lkL []⟩], ⟨by kernel_rfl, trivial⟩, .inr (.inl ⟨rfl, _, ([] : List Lk), rfl, ⟨(.inl (.inl (.inl (.inl (.inl (ks0_1)))))), (.inl (.inl (.inl (.inl (.inl (ks0_2))))))⟩, (by simp [addL]), (fun z h => nomatch h), by rw [chk_nil]⟩), SX.noAli rfl⟩) ?_
  refine SX.D (.bool ((0 : Int) != 0)) ?_
  refine SX.B ((0 : Int) != 0) (fun h25 => absurd h25 (by decide)) (fun h25 => ?_)
  try simp only [NRM] at h25
  refine SX.E (.int .i64 0) (fun α => ⟨[⟨.slice A3 2 c3, 35, lkL (addL (addL [] 3 A2 c2 xT) 3 A4 c4 yT)⟩], ⟨by kernel_rfl, by kernel_rfl, K_in (y := ⟨.slice A3 2 c3, 35, lkL (addL (addL [] 3 A2 c2 xT) 3 A4 c4 yT)⟩) (by kernel_rfl) (List.mem_append_right _ (List.mem_append_right _ (List.mem_append_right _ (List.mem_append_left _ (ndN_a ..))))), trivial⟩, .inr (.inl ⟨rfl, _, (addL (addL [] 3 A2 c2 xT) 3 A4 c4 yT), rfl, ⟨(.inl (.inl (.inl (.inl (.inl (ks0_1)))))), (.inl (.inl (.inl (.inl (.inl (ks0_2))))))⟩, (by simp [addL]), (addL_all (addL_all (fun z h => nomatch h) ⟨.inl (.inr (List.mem_append_right _ (List.mem_append_right _ (List.mem_append_right _ (List.mem_append_right _ (List.mem_append_left _ (ndN_d ..))))))), mk_fit (by decide) (by simp [addL]) (by decide)⟩) ⟨.inl (.inr (List.mem_append_right _ (List.mem_append_right _ (List.mem_append_right _ (List.mem_append_left _ (ndN_d ..)))))), mk_fit (by decide) (by simp [addL]) (by decide)⟩), by rw [(chk_b A2 A4 c2 c4)]⟩), SX.noAli rfl⟩) ?_
  refine SX.D (.bool ((0 : Int) != 0)) ?_
  refine SX.B ((0 : Int) != 0) (fun h27 => absurd h27 (by decide)) (fun h27 => ?_)
  try simp only [NRM] at h27
  refine SX.E (.int .i64 80) (fun α => ⟨[⟨.slice (some ⟨(α 6).b, 0, none⟩) 1 1, 35, lkL [lk0]⟩], ⟨by kernel_rfl, trivial⟩, .inr (.inl ⟨rfl, _, [lk0], rfl, ⟨(.inl (.inl (.inl (.inl (.inl (ks0_1)))))), (.inl (.inl (.inl (.inl (.inl (ks0_2))))))⟩, by decide, fun z hz => by obtain rfl := List.mem_singleton.1 hz; exact ⟨.inr ⟨rfl, rfl⟩, ⟨by decide, by decide⟩, ⟨by decide, by decide⟩, by decide⟩, by rw [chk_0]⟩), SX.noAli rfl⟩) ?_
  refine SX.D (.bool ((80 : Int) != 80)) ?_
  refine SX.B ((80 : Int) != 80) (fun h29 => absurd h29 (by decide)) (fun h29 => ?_)
  try simp only [NRM] at h29
  refine SX.E ((SX.subS A3 35 1 2 c3)) (fun α => SX.slc_lo (A := A3) (n := 2) (c := c3) (k := 1) (by kernel_rfl) (by kernel_rfl) (by omega)) ?_
  refine SX.E (.int .i64 80) (fun α => ⟨[⟨SX.subS A3 35 1 2 c3, 35, lkL ((addL (addL [] 3 A2 c2 xT) 3 A4 c4 yT).drop 1)⟩], ⟨by kernel_rfl, by kernel_rfl, K_in (y := ⟨SX.subS A3 35 1 2 c3, 35, lkL ((addL (addL [] 3 A2 c2 xT) 3 A4 c4 yT).drop 1)⟩) (by kernel_rfl) (List.mem_append_right _ (List.mem_append_right _ (List.mem_append_right _ (List.mem_append_left _ (ndN_t ..))))), trivial⟩, .inr (.inl ⟨rfl, _, (addL (addL [] 3 A2 c2 xT) 3 A4 c4 yT).drop 1, rfl, ⟨(.inl (.inl (.inl (.inl (.inl (ks0_1)))))), (.inl (.inl (.inl (.inl (.inl (ks0_2))))))⟩, by simp [addL], drop_all (addL_all (addL_all (fun z h => nomatch h) ⟨.inl (.inr (List.mem_append_right _ (List.mem_append_right _ (List.mem_append_right _ (List.mem_append_right _ (List.mem_append_left _ (ndN_d ..))))))), mk_fit (by decide) (by simp [addL]) (by decide)⟩) ⟨.inl (.inr (List.mem_append_right _ (List.mem_append_right _ (List.mem_append_right _ (List.mem_append_left _ (ndN_d ..)))))), mk_fit (by decide) (by simp [addL]) (by decide)⟩), by rw [chk_t A2 A4 c2 c4]⟩), SX.noAli rfl⟩) ?_
  refine SX.D (.bool ((80 : Int) != 80)) ?_
  refine SX.B ((80 : Int) != 80) (fun h32 => absurd h32 (by decide)) (fun h32 => ?_)
  try simp only [NRM] at h32
  refine SX.VC_df (dgV (headF ([] : List Lk))) (fun α => ⟨[⟨.string noneT, 0, []⟩, ⟨.slice none 0 0, 1, ([] : List W8).flatMap c8⟩], ⟨by kernel_rfl, by kernel_rfl, by kernel_rfl, trivial⟩, .inr (.inr (.inl ⟨rfl, ⟨(.inl (.inl (.inl (.inl (.inl (ks0_1)))))), (.inl (.inl (.inl (.inl (.inl (ks0_2))))))⟩, noneT, _, [], rfl, by decide, by decide, rfl⟩)), SX.noAli rfl⟩) ((dgV_fit _)) ?_
  refine SX.VC_df (Value.agg ((dgL (headF [])).flatMap c8).toArray) (fun α => SX.app_rel (f := c8) (l1 := [3#8, 4, 1, 6, 1, 0, 2, 32]) (l2 := dgL (headF [])) c8_len c8o (by decide) (by kernel_rfl) (SX.src_own (by kernel_rfl)) (by simp only [List.length_append, List.length_cons, List.length_nil, dgL_len]; decide) (by simp only [List.length_append, List.length_cons, List.length_nil, dgL_len]; decide)) (rfl) ?_
  refine SX.VC_df (Value.agg (([2#8, 1, 120]).flatMap c8).toArray) (fun α => SX.app_rel (f := c8) (l1 := [3#8, 4, 1, 6, 1, 0, 2, 32] ++ dgL (headF [])) (l2 := [2#8, 1, 120]) c8_len c8o (by decide) (by kernel_rfl) ⟨⟨_, 1, _⟩, ⟨rfl, trivial⟩, rfl, by kernel_rfl⟩ (by simp only [List.length_append, List.length_cons, List.length_nil, dgL_len]; decide) (by simp only [List.length_append, List.length_cons, List.length_nil, dgL_len]; decide)) (rfl) ?_
  refine SX.E (.bool true) (fun α => SX.extBnd (A := A1) (n := 1) (c := c1) (j := 0) (fun _ => g1) (by kernel_rfl) (by kernel_rfl) (by omega)) ?_
  refine SX.E (.bool true) (fun α => SX.extBnd (A := A1) (n := 1) (c := c1) (j := 0) (fun _ => g1) (by kernel_rfl) (by kernel_rfl) (by omega)) ?_
  refine SX.VC_df (dgV (headF ([] : List Lk))) (fun α => partElems (o := 2) (k := 32) (cells := lkL (addL [] 3 A2 c2 xT)) (A := A1) (n := 1) (c := c1) (j := 0) g1 (by kernel_rfl) (by kernel_rfl) (by omega) (K_in (y := ⟨.slice A1 1 c1, 35, lkL (addL [] 3 A2 c2 xT)⟩) rfl (List.mem_append_right _ (List.mem_append_right _ (List.mem_append_right _ (List.mem_append_right _ (List.mem_append_left _ (ndN_a ..))))))) (by rw [lkL_len]; simp [addL]) (by kernel_rfl)) ((dgV_fit _)) ?_
  refine SX.E (.bool (false ^^ decide (dgL (headF ([] : List Lk)) = dgL (headF ([] : List Lk))))) (fun α => SX.eqr_rel (f := (fun l : List W8 => l.map w8)) w8_map_inj (y := dgL (headF ([] : List Lk))) (z := dgL (headF ([] : List Lk))) (by kernel_rfl) (by kernel_rfl) (by kernel_rfl)) ?_
  refine SX.B (false ^^ decide (dgL (headF ([] : List Lk)) = dgL (headF ([] : List Lk)))) (fun h39 => ?_) (fun h39 => absurd h39 (by simp))
  try simp only [NRM] at h39
  refine SX.VC_df (dgV (headF ([] : List Lk))) (fun α => ⟨[⟨.slice none 0 0, 35, lkL []⟩], ⟨by kernel_rfl, trivial⟩, .inr (.inr (.inr (⟨rfl, _, ([] : List Lk), rfl, ⟨(.inl (.inl (.inl (.inl (.inl (ks0_1)))))), (.inl (.inl (.inl (.inl (.inl (ks0_2))))))⟩, (by simp [addL]), (fun z h => nomatch h), rfl⟩))), SX.noAli rfl⟩) ((dgV_fit _)) ?_
  refine SX.E (.bool (false ^^ decide (dgL (headF ([] : List Lk)) = dgL (headF ([] : List Lk))))) (fun α => SX.eqr_rel (f := (fun l : List W8 => l.map w8)) w8_map_inj (y := dgL (headF ([] : List Lk))) (z := dgL (headF ([] : List Lk))) (by kernel_rfl) (by kernel_rfl) (by kernel_rfl)) ?_
  refine SX.B (false ^^ decide (dgL (headF ([] : List Lk)) = dgL (headF ([] : List Lk)))) (fun h41 => ?_) (fun h41 => absurd h41 (by simp))
  try simp only [NRM] at h41
  refine SX.VC_df (dgV (headF (addL [] 3 A2 c2 xT))) (fun α => ⟨[⟨.slice A1 1 c1, 35, lkL (addL [] 3 A2 c2 xT)⟩], ⟨by kernel_rfl, by kernel_rfl, K_in (y := ⟨.slice A1 1 c1, 35, lkL (addL [] 3 A2 c2 xT)⟩) (by kernel_rfl) (List.mem_append_right _ (List.mem_append_right _ (List.mem_append_right _ (List.mem_append_right _ (List.mem_append_left _ (ndN_a ..)))))), trivial⟩, .inr (.inr (.inr (⟨rfl, _, (addL [] 3 A2 c2 xT), rfl, ⟨(.inl (.inl (.inl (.inl (.inl (ks0_1)))))), (.inl (.inl (.inl (.inl (.inl (ks0_2))))))⟩, (by simp [addL]), (addL_all (fun z h => nomatch h) ⟨.inl (.inr (List.mem_append_right _ (List.mem_append_right _ (List.mem_append_right _ (List.mem_append_right _ (List.mem_append_left _ (ndN_d ..))))))), mk_fit (by decide) (by simp [addL]) (by decide)⟩), rfl⟩))), SX.noAli rfl⟩) ((dgV_fit _)) ?_
  refine SX.VC_df (dgV (headF (addL [] 3 A2 c2 xT))) (fun α => ⟨[⟨.string linkT, 0, []⟩, ⟨(α 11).h, 1, (encL (flLk (mkLk [] 3 A2 c2 xT))).flatMap c8⟩], ⟨by kernel_rfl, by kernel_rfl, Eq.trans (b := (⟨(α 11).h, 1, ([3#8, 4, 1, 6, 1, 0, 2, 32] ++ dgL (headF []) ++ [2, 1, 120]).flatMap c8⟩ : SX.Arg)) (by rw [enc_x]) (by kernel_rfl), trivial⟩, .inr (.inr (.inl ⟨rfl, ⟨(.inl (.inl (.inl (.inl (.inl (ks0_1)))))), (.inl (.inl (.inl (.inl (.inl (ks0_2))))))⟩, linkT, _, encL (flLk (mkLk [] 3 A2 c2 xT)), rfl, by decide, by rw [enc_x]; simp only [List.length_append, List.length_cons, List.length_nil, dgL_len]; decide, rfl⟩)), SX.noAli rfl⟩) ((dgV_fit _)) ?_
  refine SX.E (.bool (false ^^ decide (dgL (headF (addL [] 3 A2 c2 xT)) = dgL (headF (addL [] 3 A2 c2 xT))))) (fun α => SX.eqr_rel (f := (fun l : List W8 => l.map w8)) w8_map_inj (y := dgL (headF (addL [] 3 A2 c2 xT))) (z := dgL (headF (addL [] 3 A2 c2 xT))) (by kernel_rfl) (by kernel_rfl) (by kernel_rfl)) ?_
  refine SX.B (false ^^ decide (dgL (headF (addL [] 3 A2 c2 xT)) = dgL (headF (addL [] 3 A2 c2 xT)))) (fun h44 => ?_) (fun h44 => absurd h44 (by simp))
  try simp only [NRM] at h44
  refine SX.E (.bool true) (fun α => SX.extBnd (A := A3) (n := 2) (c := c3) (j := 1) (fun _ => g3) (by kernel_rfl) (by kernel_rfl) (by omega)) ?_
  refine SX.E (.bool true) (fun α => SX.extBnd (A := A3) (n := 2) (c := c3) (j := 1) (fun _ => g3) (by kernel_rfl) (by kernel_rfl) (by omega)) ?_
  refine SX.VC_df (dgV (headF (addL [] 3 A2 c2 xT))) (fun α => partElems (o := 2) (k := 32) (cells := lkL (addL (addL [] 3 A2 c2 xT) 3 A4 c4 yT)) (A := A3) (n := 2) (c := c3) (j := 1) g3 (by kernel_rfl) (by kernel_rfl) (by omega) (K_in (y := ⟨.slice A3 2 c3, 35, lkL (addL (addL [] 3 A2 c2 xT) 3 A4 c4 yT)⟩) rfl (List.mem_append_right _ (List.mem_append_right _ (List.mem_append_right _ (List.mem_append_left _ (ndN_a ..)))))) (by rw [lkL_len]; simp [addL]) (by kernel_rfl)) ((dgV_fit _)) ?_
  refine SX.VC_df (dgV (headF (addL [] 3 A2 c2 xT))) (fun α => ⟨[⟨.slice A1 1 c1, 35, lkL (addL [] 3 A2 c2 xT)⟩], ⟨by kernel_rfl, by kernel_rfl, K_in (y := ⟨.slice A1 1 c1, 35, lkL (addL [] 3 A2 c2 xT)⟩) (by kernel_rfl) (List.mem_append_right _ (List.mem_append_right _ (List.mem_append_right _ (List.mem_append_right _ (List.mem_append_left _ (ndN_a ..)))))), trivial⟩, .inr (.inr (.inr (⟨rfl, _, (addL [] 3 A2 c2 xT), rfl, ⟨(.inl (.inl (.inl (.inl (.inl (ks0_1)))))), (.inl (.inl (.inl (.inl (.inl (ks0_2))))))⟩, (by simp [addL]), (addL_all (fun z h => nomatch h) ⟨.inl (.inr (List.mem_append_right _ (List.mem_append_right _ (List.mem_append_right _ (List.mem_append_right _ (List.mem_append_left _ (ndN_d ..))))))), mk_fit (by decide) (by simp [addL]) (by decide)⟩), rfl⟩))), SX.noAli rfl⟩) ((dgV_fit _)) ?_
  refine SX.E (.bool (false ^^ decide (dgL (headF (addL [] 3 A2 c2 xT)) = dgL (headF (addL [] 3 A2 c2 xT))))) (fun α => SX.eqr_rel (f := (fun l : List W8 => l.map w8)) w8_map_inj (y := dgL (headF (addL [] 3 A2 c2 xT))) (z := dgL (headF (addL [] 3 A2 c2 xT))) (by kernel_rfl) (by kernel_rfl) (by kernel_rfl)) ?_
  refine SX.B (false ^^ decide (dgL (headF (addL [] 3 A2 c2 xT)) = dgL (headF (addL [] 3 A2 c2 xT)))) (fun h49 => ?_) (fun h49 => absurd h49 (by simp))
  try simp only [NRM] at h49
  refine SX.E (.bool true) (fun α => SX.extBnd (A := A3) (n := 2) (c := c3) (j := 1) (fun _ => g3) (by kernel_rfl) (by kernel_rfl) (by omega)) ?_
  refine SX.E (.bool true) (fun α => SX.extBnd (A := A3) (n := 2) (c := c3) (j := 1) (fun _ => g3) (by kernel_rfl) (by kernel_rfl) (by omega)) ?_
  refine SX.E (.int .i64 ((mkLk (addL [] 3 A2 c2 xT) 3 A4 c4 yT).no)) (fun α => SX.extElem (o := 1) (v := .int .i64 ((mkLk (addL [] 3 A2 c2 xT) 3 A4 c4 yT).no)) (f := cellsLk) (l := (addL (addL [] 3 A2 c2 xT) 3 A4 c4 yT)) (A := A3) (n := 2) (c := c3) (j := 1) (z := (mkLk (addL [] 3 A2 c2 xT) 3 A4 c4 yT)) (fun _ => rfl) (fun _ => g3) (by kernel_rfl) (by kernel_rfl) (by omega) (K_in (y := ⟨.slice A3 2 c3, 35, lkL (addL (addL [] 3 A2 c2 xT) 3 A4 c4 yT)⟩) rfl (List.mem_append_right _ (List.mem_append_right _ (List.mem_append_right _ (List.mem_append_left _ (ndN_a ..)))))) (by kernel_rfl) (by decide) (by kernel_rfl)) ?_
  refine SX.D (.bool (((mkLk (addL [] 3 A2 c2 xT) 3 A4 c4 yT).no : Int) == 1)) ?_
  refine SX.B (((mkLk (addL [] 3 A2 c2 xT) 3 A4 c4 yT).no : Int) == 1) (fun h53 => ?_) (fun h53 => absurd h53 (by show ¬ (((1 : Nat) : Int) == 1) = false; decide))
  try simp only [NRM] at h53
  refine SX.E (.bool true) (fun α => SX.extBnd (A := A3) (n := 2) (c := c3) (j := 1) (fun _ => g3) (by kernel_rfl) (by kernel_rfl) (by omega)) ?_
  refine SX.E (.bool true) (fun α => SX.extBnd (A := A3) (n := 2) (c := c3) (j := 1) (fun _ => g3) (by kernel_rfl) (by kernel_rfl) (by omega)) ?_
  refine SX.E ((.slice A4 yT.size c4)) (fun α => SX.extElem (o := 34) (v := .slice A4 yT.size c4) (f := cellsLk) (l := (addL (addL [] 3 A2 c2 xT) 3 A4 c4 yT)) (A := A3) (n := 2) (c := c3) (j := 1) (z := (mkLk (addL [] 3 A2 c2 xT) 3 A4 c4 yT)) (fun _ => rfl) (fun _ => g3) (by kernel_rfl) (by kernel_rfl) (by omega) (K_in (y := ⟨.slice A3 2 c3, 35, lkL (addL (addL [] 3 A2 c2 xT) 3 A4 c4 yT)⟩) rfl (List.mem_append_right _ (List.mem_append_right _ (List.mem_append_right _ (List.mem_append_left _ (ndN_a ..)))))) (by kernel_rfl) (by decide) (by kernel_rfl)) ?_
  refine SX.E (.string yT) (fun α => b2sx_of (tx := yT) (A := A4) (n := yT.size) (c := c4) (by kernel_rfl) (K_in (y := ⟨.slice A4 yT.size c4, 1, (sb yT).flatMap c8⟩) rfl (List.mem_append_right _ (List.mem_append_right _ (List.mem_append_right _ (List.mem_append_left _ (ndN_d ..))))))) ?_
  refine SX.D (.bool (decide (yT = ⟨#[121]⟩))) ?_
  exact SX.F (.bool (decide (yT = ⟨#[121]⟩))) (by first | rfl | (congr 1; decide))
def clashP (a b : List Lk) : Prop := (textT a ≠ textT b ∨ textB a ≠ textB b) ∧ dgL (headF a) = dgL (headF b)
noncomputable instance (a b : List Lk) : Decidable (clashP a b) := Classical.propDecidable _
theorem K_of {C : SX.Cx} {v : Value} {y : SX.Arg} (hv : v = y.v) (h : C.K y.v y.sz y.cells) : C.K v y.sz y.cells := by subst hv; exact h
def Lk.num (z : Lk) : Prop := (-9223372036854775808 ≤ z.node ∧ z.node ≤ 9223372036854775807) ∧ (-9223372036854775808 ≤ z.no ∧ z.no ≤ 9223372036854775807)
theorem few_fit {w : World} {ls : List Lk} (h : fewB ls = true) (hd : ∀ z ∈ ls, z.rd w) (hn : ∀ z ∈ ls, z.num) : ∀ z ∈ ls, z.fit := fun z hz => by
  refine ⟨(hn z hz).1, (hn z hz).2, ?_⟩
  have h1 := (fewB_iff.1 h).2 z hz
  have h2 : ((sb z.tx).flatMap c8).length = z.n * 1 := (lk_bytes (hd z hz)).1.1
  rw [SX.flat_len c8_len, sb_len] at h2
  omega
end Go.Proofs.YtdamlaegboiokaaDoor
namespace Go.Proofs.YtdamlaegboiokaaDoor
set_option maxRecDepth 20000
open Go Go.RowKit Go.ChangeShapes Go.WideShapes Go.ChangeAt
theorem max_eq : maxLen = 9223372036854775807 := by unfold maxLen; rfl
section
variable {H : Type} {enc : TypeId × Value → H} {P : Program} {w : World} {base : Nat} {spare : Nat → Bool} {held : Bool} {fuel : Nat} {t : TypeId} {cs : List Value}
theorem take_at {off : Nat} {v : Value} (h : (cs.drop off).take 1 = [v]) : cs[off]? = some v := by
  have : ((cs.drop off).take 1)[0]? = some v := by rw [h]; rfl
  simpa [List.getElem?_take, List.getElem?_drop] using this
end
section
variable {H : Type} {enc : TypeId × Value → H} {w : World} {base : Nat} {sp : Nat → Bool} {held : Bool} {r : Reach} {b0 : Nat} {v : Value} {d : DataW H} {ps : List MemPlace}
theorem els_of {β : Type} {f : β → List Value} {Q : β → Prop} {sz : Nat} (a : Addr) : ∀ (len : Nat), (∀ i, i < len → ∃ c : β, Q c ∧ w.cells? base (a.add (i * sz)) sz = some (f c)) →
    ∃ l : List β, l.length = len ∧ (∀ c ∈ l, Q c) ∧ ∀ i c, l[i]? = some c → w.cells? base (a.add (i * sz)) sz = some (f c)
  | 0, _ => ⟨[], rfl, (fun _ h => nomatch h), by simp⟩
  | len + 1, h => by
    obtain ⟨l, hl, hq, hx⟩ := els_of a len (fun i hi => h i (by omega))
    obtain ⟨c, hqc, hc⟩ := h len (by omega)
    refine ⟨l ++ [c], by simp [hl], fun c' hc' => ?_, fun i c' hc' => ?_⟩
    · rcases List.mem_append.1 hc' with h1 | h1
      · exact hq c' h1
      obtain rfl : c' = c := by simpa using h1
      exact hqc
    rw [List.getElem?_append] at hc'
    split at hc'
    · exact hx i c' hc'
    have : i - l.length = 0 := by
      rcases Nat.eq_zero_or_pos (i - l.length) with h0 | h0
      · exact h0
      rw [List.getElem?_eq_none (by simp; omega)] at hc'; cases hc'
    rw [this] at hc'
    obtain rfl : c = c' := by simpa using hc'
    obtain rfl : i = len := by omega
    exact hc
theorem slice_of {β : Type} {f : β → List Value} {Q : β → Prop} {sz : Nat} {t e : TypeId} {n : Nat} {cs : List Value} {y : DataW H × List MemPlace} (hu : Tryd.prog.underlying t = some (.slice e)) (hC : Tryd.prog.cellsOf e = sz) (h0 : 0 < sz) (hlen : ∀ c, (f c).length = sz)
    (hel : ∀ (n : Nat) (cs : List Value) (y : DataW H × List MemPlace), DataW.trod enc Tryd.prog w base sp held n e cs = some y → ∃ c, Q c ∧ cs = f c) (hf : DataW.trod enc Tryd.prog w base sp held n t cs = some y) :
    ∃ (A : Option Addr) (k cap : Nat) (l : List β), cs = [.slice A k cap] ∧ Rd w sz A k (l.flatMap f) ∧ k ≤ cap ∧ cap ≤ maxLen ∧ ∀ c ∈ l, Q c := by
  rcases DataW.trod_slice hu hf with ⟨he, _⟩ | ⟨a, len, cap', elems, rest, m, _, he, _, _, hlc, hcm, hel', hcell, _, _⟩
  · exact ⟨none, 0, 0, [], he, ⟨by simp, fun h => absurd h (by omega)⟩, Nat.le_refl _, by omega, fun _ h => nomatch h⟩
  rw [hC] at hcell
  obtain ⟨l, hl, hq, hx⟩ := els_of (w := w) (base := base) (f := f) (Q := Q) (sz := sz) a len fun i hi => by
    have h1 := hcell i hi
    rw [List.getElem?_eq_getElem (by omega)] at h1
    cases hq : w.cells? base (a.add (i * sz)) sz with
    | none => rw [hq] at h1; simp at h1
    | some cs =>
      rw [hq] at h1
      obtain ⟨c, hqc, rfl⟩ := hel _ _ _ (by simpa using h1)
      exact ⟨c, hqc, rfl⟩
  have hll : (l.flatMap f).length = len * sz := by rw [SX.flat_len hlen, hl]
  refine ⟨some a, len, cap', l, he, ⟨hll, fun hn => ⟨a, rfl, ?_, fun j u hu => ?_⟩⟩, by omega, by omega, hq⟩
  · obtain ⟨c, hc⟩ : ∃ c, l[0]? = some c := ⟨_, List.getElem?_eq_getElem (by omega)⟩
    have := World.cells?_block (hx 0 c hc) (by omega)
    rwa [block_of_add] at this
  have hj : j < len * sz := by
    have := (List.getElem?_eq_some_iff.1 hu).1
    rwa [hll] at this
  have hd : j / sz < len := Nat.div_lt_of_lt_mul (by rw [Nat.mul_comm]; exact hj)
  have hm : j % sz < sz := Nat.mod_lt _ h0
  obtain ⟨c, hc⟩ : ∃ c, l[j / sz]? = some c := ⟨_, List.getElem?_eq_getElem (by omega)⟩
  have hw := hx _ c hc
  have hjj : j / sz * sz + j % sz = j := by rw [Nat.mul_comm]; exact Nat.div_add_mod j sz
  have h4 : (f c)[j % sz]? = some u := by
    rw [← hjj, ← List.getElem?_drop, SX.flat_elem hlen hc, List.getElem?_append_left (by rw [hlen]; exact hm)] at hu
    exact hu
  obtain ⟨_, _, h5⟩ := World.cells?_some hw
  have h6 := (h5 (j % sz) hm).trans h4
  have h7 : (a.add (j / sz * sz)).add (j % sz) = a.add j := by rw [Addr.add_add, hjj]
  rw [h7] at h6
  exact h6
theorem u8_cell {n : Nat} {cs : List Value} {y : DataW H × List MemPlace} (hf : DataW.trod enc Tryd.prog w base sp held n 5 cs = some y) : ∃ b : W8, True ∧ cs = c8 b := by
  obtain ⟨n, e, _, hw⟩ := DataW.trod_int Tryd.underlying5 hf
  have hb := bounds_u8 hw
  refine ⟨BitVec.ofNat 8 n.toNat, trivial, e.trans ?_⟩
  show [Value.int .u8 n] = [Value.int .u8 ((BitVec.ofNat 8 n.toNat).toNat : Int)]
  rw [BitVec.toNat_ofNat]
  congr 2
  omega
theorem u8s_of {n : Nat} {cs : List Value} {y : DataW H × List MemPlace} (hf : DataW.trod enc Tryd.prog w base sp held n 23 cs = some y) : ∃ (A : Option Addr) (k cap : Nat) (l : List W8), cs = [.slice A k cap] ∧ Rd w 1 A k (l.flatMap c8) ∧ k ≤ cap ∧ cap ≤ maxLen := by
  obtain ⟨A, k, cap, l, h1, h2, h3, h4, _⟩ := slice_of (f := c8) (sz := 1) (Q := fun _ => True) Tryd.underlying23 (by kernel_rfl) (by decide) (fun _ => rfl) (fun n cs y h => u8_cell h) hf
  exact ⟨A, k, cap, l, h1, h2, h3, h4⟩
theorem dig_cells {n : Nat} {cs : List Value} {y : DataW H × List MemPlace} (hf : DataW.trod enc Tryd.prog w base sp held n 35 cs = some y) : ∃ f : Nat → W8, cs = (List.range 32).map fun j => w8 (f j) := by
  obtain ⟨xs, m, _, _, hlen, hl, hx⟩ := DataW.trod_array Tryd.underlying35 hf
  have hC : Tryd.prog.cellsOf 35 = 32 := by kernel_rfl
  have hE : Tryd.prog.cellsOf 5 = 1 := by kernel_rfl
  rw [hC] at hlen
  have hb : ∀ j, j < 32 → ∃ b : W8, cs[j]? = some (w8 b) := fun j hj => by
    have g := (hx j hj).trans (List.getElem?_eq_getElem (by omega))
    rw [hE, Nat.mul_one] at g
    obtain ⟨b, _, e⟩ := u8_cell g
    exact ⟨b, take_at e⟩
  refine ⟨fun j => if h : j < 32 then (hb j h).choose else 0, ?_⟩
  apply List.ext_getElem?
  intro j
  by_cases hj : j < 32
  · rw [(hb j hj).choose_spec, List.getElem?_map, List.getElem?_range hj]
    simp only [Option.map_some, dif_pos hj]
  rw [List.getElem?_eq_none (by omega), List.getElem?_eq_none (by rw [List.length_map, List.length_range]; omega)]
theorem i64_wf {a : Int} (h : (Lit.int .i64 a).wf = true) : -9223372036854775808 ≤ a ∧ a ≤ 9223372036854775807 := by
  have h : (decide (IntKind.i64.min ≤ a) && decide (a ≤ IntKind.i64.max)) = true := h
  rw [Bool.and_eq_true, decide_eq_true_eq, decide_eq_true_eq] at h
  exact ⟨h.1, h.2⟩
theorem i64_at {t : TypeId} {fuel off : Nat} {cs : List Value} (hu : Tryd.prog.underlying t = some (.int .i64)) {y : DataW H × List MemPlace} (h : DataW.trod enc Tryd.prog w base sp held fuel t ((cs.drop off).take 1) = some y) : ∃ n, cs[off]? = some (.int .i64 n) ∧ (-9223372036854775808 ≤ n ∧ n ≤ 9223372036854775807) := by
  obtain ⟨n, e, _, hw⟩ := DataW.trod_int hu h
  exact ⟨n, take_at e, i64_wf hw⟩
theorem sb_of (l : List W8) : ∃ tx : ByteArray, sb tx = l := ⟨bt l, sb_bt l⟩
def LkOk (w : World) (z : Lk) : Prop := z.rd w ∧ z.num
theorem link_cells {n : Nat} {cs : List Value} {y : DataW H × List MemPlace} (hf : DataW.trod enc Tryd.prog w base sp held n 37 cs = some y) : ∃ z : Lk, LkOk w z ∧ cs = cellsLk z := by
  obtain ⟨xs, n, _, _, hlen, hl, hx⟩ := DataW.trod_struct Tryd.underlying37 hf
  have hC : Tryd.prog.cellsOf 37 = 35 := by kernel_rfl
  rw [hC] at hlen
  have hl' : xs.length = 4 := hl
  have g0 : DataW.trod enc Tryd.prog w base sp held n 3 ((cs.drop 0).take 1) = some (xs[0]'(by omega)) := (hx 0 _ rfl).trans (List.getElem?_eq_getElem _)
  obtain ⟨v0, e0, b0⟩ := i64_at Tryd.underlying3 g0
  have g1 : DataW.trod enc Tryd.prog w base sp held n 3 ((cs.drop 1).take 1) = some (xs[1]'(by omega)) := (hx 1 _ rfl).trans (List.getElem?_eq_getElem _)
  obtain ⟨v1, e1, b1⟩ := i64_at Tryd.underlying3 g1
  have g2 : DataW.trod enc Tryd.prog w base sp held n 35 ((cs.drop 2).take 32) = some (xs[2]'(by omega)) := (hx 2 _ rfl).trans (List.getElem?_eq_getElem _)
  obtain ⟨f, e2⟩ := dig_cells g2
  have g3 : DataW.trod enc Tryd.prog w base sp held n 23 ((cs.drop 34).take 1) = some (xs[3]'(by omega)) := (hx 3 _ rfl).trans (List.getElem?_eq_getElem _)
  obtain ⟨A, k, cap, l, e3, hr, hk, _⟩ := u8s_of g3
  obtain ⟨tx, rfl⟩ := sb_of l
  refine ⟨⟨v0, v1, f, A, k, cap, tx⟩, ⟨⟨hr, hk⟩, b0, b1⟩, ?_⟩
  show cs = [.int .i64 v0, .int .i64 v1] ++ (List.range 32).map (fun j => w8 (f j)) ++ [.slice A k cap]
  have h0 : cs = cs.take 2 ++ ((cs.drop 2).take 32 ++ cs.drop 34) := by
    rw [show cs.drop 34 = (cs.drop 2).drop 32 by rw [List.drop_drop], List.take_append_drop, List.take_append_drop]
  have h1 : cs.take 2 = [.int .i64 v0, .int .i64 v1] := by
    apply List.ext_getElem?
    intro i
    rw [List.getElem?_take]
    split
    · have hc : i = 0 ∨ i = 1 := by omega
      rcases hc with rfl | rfl
      · exact e0
      exact e1
    rw [List.getElem?_eq_none (by show 2 ≤ i; omega)]
  have h2 : cs.drop 34 = [.slice A k cap] := by
    rw [← e3, List.take_of_length_le (by simp; omega)]
  rw [h0, h1, e2, h2, List.append_assoc]
theorem open_links (hd : DataW.Trod enc Tryd.prog w base sp held 22 v d ps) : ∃ (A : Option Addr) (n cap : Nat) (l : List Lk), v.cells.toList = [.slice A n cap] ∧ Rd w 35 A n (lkL l) ∧ n ≤ cap ∧ cap ≤ maxLen ∧ ∀ z ∈ l, LkOk w z := by
  obtain ⟨fuel, hf⟩ := hd
  exact slice_of (f := cellsLk) (sz := 35) (Q := LkOk w) Tryd.underlying22 (by kernel_rfl) (by decide) (fun _ => rfl) (fun n cs y h => link_cells h) hf
theorem open_u8s (hd : DataW.Trod enc Tryd.prog w base sp held 23 v d ps) : ∃ (A : Option Addr) (n cap : Nat) (l : List W8), v.cells.toList = [.slice A n cap] ∧ Rd w 1 A n (l.flatMap c8) ∧ n ≤ cap ∧ cap ≤ maxLen := by
  obtain ⟨fuel, hf⟩ := hd
  exact u8s_of hf
theorem v_slice {r : Reach} {b0 : Nat} {t e : TypeId} (hu : Tryd.prog.underlying t = some (.slice e)) (hval : Value.okWide Tryd.prog w r b0 t v) {A : Option Addr} {n cap : Nat} (h : v.cells.toList = [.slice A n cap]) : v = .slice A n cap := by
  obtain ⟨A', n', c', rfl⟩ := okWide_slice hu hval
  simpa [Value.cells] using h
end
def laidL : List (String × DataW Unit) := [("kinesphere/digest.start", Rows.laid_kinesphere_digest_start), ("kinesphere/digest.numbers", Rows.laid_kinesphere_digest_numbers)]
theorem gStart : Tryd.prog.globalNamed "kinesphere/digest.start" = some 0 := by kernel_rfl
theorem gNums : Tryd.prog.globalNamed "kinesphere/digest.numbers" = some 1 := by kernel_rfl
theorem laid_world {W : World} (h : laidMetH Tryd.prog laidL W) : Laid W := by
  rw [MakeChecks.laidMetH_plain _ _ _ (by kernel_rfl)] at h
  have h0 : laidMet Tryd.prog (("kinesphere/digest.start", Lib.tabData .u32 (startS.cells.map fun v => match v with | .int _ i => i | _ => 0)) :: [("kinesphere/digest.numbers", Rows.laid_kinesphere_digest_numbers)]) W := cast (by kernel_rfl) h
  have h1 : laidMet Tryd.prog (("kinesphere/digest.numbers", Lib.tabData .u32 (numbersK.map fun x => (x.toNat : Int))) :: []) W := cast (by kernel_rfl) (laidMet.tail h0)
  have T0 := Lib.tabIs_of_head gStart (t := 71) (e := 70) (n := 8) (by kernel_rfl) Tryd.underlying71 Tryd.underlying70 (by kernel_rfl) (by kernel_rfl) h0
  have T1 := Lib.tabIs_of_head gNums (t := 84) (e := 70) (n := 64) (by kernel_rfl) Tryd.underlying84 Tryd.underlying70 (by kernel_rfl) (by kernel_rfl) h1
  have lt : ∀ {b : Nat} {v : Value}, W.cell? ⟨b, 0, none⟩ = some v → b < W.heap.size := fun {b v} h1 => by
    unfold World.cell? at h1
    cases hb : W.heap[b]? with
    | none => simp only [hb] at h1; simp at h1
    | some o => exact (Array.getElem?_eq_some_iff.1 hb).1
  have ad : ∀ b j : Nat, (⟨b, 0, none⟩ : Addr).add j = ⟨b, j, none⟩ := fun b j => by unfold Addr.add; split <;> simp_all
  refine ⟨⟨rfl, fun _ => ⟨_, rfl, lt (T0.cell gStart 0 (by decide)), fun j u hu => ?_⟩⟩, ⟨by rw [SX.flat_len c32_len]; rfl, fun _ => ⟨_, rfl, lt (T1.cell gNums 0 (by decide)), fun j u hu => ?_⟩⟩⟩
  · have hj : j < 8 := (List.getElem?_eq_some_iff.1 hu).1
    rw [ad, T0.cell gStart j (by rw [List.length_map]; exact hj), ← hu]
    have : ∀ j, j < 8 → some (Value.int .u32 ((startS.cells.map fun v => match v with | .int _ i => i | _ => 0).getD j 0)) = startS.cells[j]? := by
      intro j hj
      match j, hj with
      | 0, _ => rfl
      | 1, _ => rfl
      | 2, _ => rfl
      | 3, _ => rfl
      | 4, _ => rfl
      | 5, _ => rfl
      | 6, _ => rfl
      | 7, _ => rfl
    exact this j hj
  have hj : j < 64 := by have := (List.getElem?_eq_some_iff.1 hu).1; rw [SX.flat_len c32_len] at this; exact this
  rw [ad, T1.cell gNums j (by rw [List.length_map]; exact hj), ← hu, flat_c32, List.getElem?_map, List.getD_eq_getElem?_getD, List.getElem?_map, List.getElem?_eq_getElem (show j < numbersK.length from hj)]
  rfl
theorem door_met (os : Os) (args : Array Value) : laidMetH Tryd.prog laidL ((World.doorLaid Tryd.prog 400 os).forCall (fun _ _ => 0) ⟨#[], args, []⟩).memory :=
  laidMetH_of_parts3 (fuel := 8) (laidMet_of_run' 8 (by kernel_rfl) (by kernel_rfl)) (by kernel_rfl) (by kernel_rfl)
def RQE (K : Value → Nat → List Value → Prop) (f : FuncId) (xs : List SX.Arg) (v : Value) : Prop :=
  (f = 8 ∧ LaidK K ∧ xs = [] ∧ v = .bool true) ∨
  (f = 9 ∧ ∃ (u : Value) (ls : List Lk), xs = [⟨u, 35, lkL ls⟩] ∧ LaidK K ∧ ls.length ≤ 9223372036854775807 ∧ v = .bool (fewB ls)) ∨
  (f = 11 ∧ ∃ (u : Value) (ls : List Lk) (node : Int) (tx : ByteArray) (B : Option Addr) (m d : Nat), xs = [⟨u, 35, lkL ls⟩, ⟨.int .i64 node, 0, []⟩, ⟨.slice B m d, 1, (sb tx).flatMap c8⟩] ∧ LaidK K ∧ ls.length ≤ 4611686018427387904 ∧ (∀ z ∈ ls, z.kn K ∧ z.fit) ∧ (-9223372036854775808 ≤ node ∧ node ≤ 9223372036854775807) ∧ v = .tuple #[.agg (lkL (raddL ls node tx B m d)).toArray, .int .i64 (addE ls node m)]) ∨
  (f = 12 ∧ ∃ (u1 u2 : Value) (la lb : List Lk), xs = [⟨u1, 35, lkL la⟩, ⟨u2, 35, lkL lb⟩] ∧ LaidK K ∧ la.length ≤ 4611686018427387904 ∧ lb.length ≤ 4611686018427387904 ∧ (∀ z ∈ la, z.kn K ∧ z.fit) ∧ (∀ z ∈ lb, z.kn K ∧ z.fit) ∧ v = .tuple #[.int .i64 (partE la lb).1, .bool (partE la lb).2.1, .int .i64 (partE la lb).2.2]) ∨
  (f = 13 ∧ ∃ (u1 u2 : Value) (la lb : List Lk), xs = [⟨u1, 35, lkL la⟩, ⟨u2, 35, lkL lb⟩] ∧ LaidK K ∧ la.length ≤ 4611686018427387904 ∧ lb.length ≤ 4611686018427387904 ∧ (∀ z ∈ la, z.kn K ∧ z.fit) ∧ (∀ z ∈ lb, z.kn K ∧ z.fit) ∧ v = .tuple #[.int .i64 (partE la lb).1, .bool (partE la lb).2.1, .int .i64 (partE la lb).2.2]) ∨
  (f = 14 ∧ ∃ (u1 u2 : Value) (la lb : List Lk), xs = [⟨u1, 35, lkL la⟩, ⟨u2, 35, lkL lb⟩] ∧ LaidK K ∧ la.length ≤ 4611686018427387904 ∧ lb.length ≤ 4611686018427387904 ∧ (∀ z ∈ la, z.kn K ∧ z.fit) ∧ (∀ z ∈ lb, z.kn K ∧ z.fit) ∧ v = .bool (sameB la lb))
def shpQE : FuncId → Option SX.Sh := fun f => if f = 8 then some .one else if f = 9 then some .one else if f = 11 then some (.tp [.sl 35, .one]) else if f = 12 then some (.tp [.one, .one, .one]) else if f = 13 then some (.tp [.one, .one, .one]) else if f = 14 then some .one else none
noncomputable def cxQE (K A : Value → Nat → List Value → Prop) : SX.Cx := { nsh := nshA, Rn := RnA, P := Tryd.prog, R := RQE, shp := shpQE, K := K, A := A }
theorem okQE (K A : Value → Nat → List Value → Prop) : (cxQE K A).Ok := by
  refine SX.Cx.ok_nd (fun _ => rfl) ?_ (rnA_ok _ rfl rfl rfl)
  intro K f xs v W hR hrd hKf
  rcases hR with ⟨rfl, hL, rfl, rfl⟩ | ⟨rfl, u, ls, rfl, hL, hb, rfl⟩ | ⟨rfl, u, ls, node, tx, B, m, d, rfl, hL, hb, hk, hnode, rfl⟩ | ⟨rfl, u1, u2, la, lb, rfl, hL, hb, hb2, hk, hk2, rfl⟩ | ⟨rfl, u1, u2, la, lb, rfl, hL, hb, hb2, hk, hk2, rfl⟩ | ⟨rfl, u1, u2, la, lb, rfl, hL, hb, hb2, hk, hk2, rfl⟩
  · exact (sane_any W (laid_of hL hKf)).mono fun e w' h => SX.plainOk rfl h
  · obtain ⟨A, n, c, rfl, hr, hc, hln⟩ := lk_arg (hrd ⟨u, 35, lkL ls⟩ (by simp))
    exact (rfew_any ls A n c W hr hc (by omega) (laid_of hL hKf)).mono fun e w' h => SX.plainOk rfl h
  · obtain ⟨A, n, c, rfl, hr, hc, hln⟩ := lk_arg (hrd ⟨u, 35, lkL ls⟩ (by simp))
    have hx : Rd W 1 B m ((sb tx).flatMap c8) ∧ m ≤ d := hrd ⟨.slice B m d, 1, (sb tx).flatMap c8⟩ (by simp)
    exact (radd_any ls A n c node tx B m d W hr hc (by omega) (fun z hz => (hk z hz).1.rd hKf) (fun z hz => (hk z hz).2) (laid_of hL hKf) hx.1 hx.2 hnode).mono fun e w' h => SX.SlRet.ok0 rfl h
  · obtain ⟨A, n, c, rfl, hr, hc, hln⟩ := lk_arg (hrd ⟨u1, 35, lkL la⟩ (by simp))
    obtain ⟨B, m, d, rfl, hr2, hc2, hlm⟩ := lk_arg (hrd ⟨u2, 35, lkL lb⟩ (by simp))
    exact (part_any la A n c lb B m d W hr hc (by omega) (fun z hz => (hk z hz).1.rd hKf) (fun z hz => (hk z hz).2) hr2 hc2 (by omega) (fun z hz => (hk2 z hz).1.rd hKf) (fun z hz => (hk2 z hz).2) (laid_of hL hKf)).mono fun e w' h => SX.plainOk rfl h
  · obtain ⟨A, n, c, rfl, hr, hc, hln⟩ := lk_arg (hrd ⟨u1, 35, lkL la⟩ (by simp))
    obtain ⟨B, m, d, rfl, hr2, hc2, hlm⟩ := lk_arg (hrd ⟨u2, 35, lkL lb⟩ (by simp))
    exact (rpart_any la A n c lb B m d W hr hc (by omega) (fun z hz => (hk z hz).1.rd hKf) (fun z hz => (hk z hz).2) hr2 hc2 (by omega) (fun z hz => (hk2 z hz).1.rd hKf) (fun z hz => (hk2 z hz).2) (laid_of hL hKf)).mono fun e w' h => SX.plainOk rfl h
  obtain ⟨A, n, c, rfl, hr, hc, hln⟩ := lk_arg (hrd ⟨u1, 35, lkL la⟩ (by simp))
  obtain ⟨B, m, d, rfl, hr2, hc2, hlm⟩ := lk_arg (hrd ⟨u2, 35, lkL lb⟩ (by simp))
  exact (rsame_any la A n c lb B m d W hr hc (by omega) (fun z hz => (hk z hz).1.rd hKf) (fun z hz => (hk z hz).2) hr2 hc2 (by omega) (fun z hz => (hk2 z hz).1.rd hKf) (fun z hz => (hk2 z hz).2) (laid_of hL hKf)).mono fun e w' h => SX.plainOk rfl h
theorem lk_fit (l : List Lk) (k : Int) : SX.Sh.fit (.tp [.sl 35, .one]) (.tuple #[.agg (lkL l).toArray, .int .i64 k]) = true := by
  have h2 : (lkL l).all (·.oneCell') = true := by
    rw [List.all_eq_true]
    intro u hu
    obtain ⟨a, _, h⟩ := List.mem_flatMap.1 hu
    exact cellsLk_one a u h
  have h1 : (lkL l).length % 35 = 0 := by rw [lkL_len]; exact Nat.mul_mod_left _ _
  simp only [SX.Sh.fit, SX.Sh.fitL, h1, h2]
  rfl
theorem addE_sm {ls : List Lk} {node : Int} {m : Nat} (h : addE ls node m = 0) : m ≤ 65536 := by
  by_cases hc : chkE ls = 0
  · exact Classical.byContradiction fun k => by rw [addE_arg hc (.inr (.inr (.inr (by omega))))] at h; exact absurd h (by decide)
  rw [addE_chk hc] at h; exact absurd h hc
theorem raddL_all {P : Lk → Prop} {ls : List Lk} {node : Int} {tx : ByteArray} {B : Option Addr} {m d : Nat} (h : ∀ z ∈ ls, P z) (h2 : addE ls node m = 0 → P ⟨node, (ls.length : Int), headF ls, B, m, d, tx⟩) : ∀ z ∈ raddL ls node tx B m d, P z := fun z hz => by
  unfold raddL at hz
  split at hz
  · rename_i he
    rcases List.mem_append.1 hz with hz | hz
    · exact h z hz
    obtain rfl := List.mem_singleton.1 hz
    exact h2 he
  cases hz
theorem raddL_len (ls : List Lk) (node : Int) (tx : ByteArray) (B : Option Addr) (m d : Nat) : (raddL ls node tx B m d).length ≤ ls.length + 1 := by
  unfold raddL
  split
  · simp
  exact Nat.zero_le _
theorem same_snoc (ls : List Lk) {x y : Lk} (h : slE x y) : sameB (ls ++ [x]) (ls ++ [y]) = true := by
  refine sameB_yes ⟨by simp, fun j u v hj h1 h2 => ?_⟩
  by_cases hl : j < ls.length
  · rw [List.getElem?_append_left hl] at h1 h2
    rw [h1] at h2
    cases h2
    exact slE_refl _
  rw [List.length_append, List.length_singleton] at hj
  obtain rfl : j = ls.length := by omega
  simp at h1 h2
  subst h1 h2
  exact h
theorem same_add {ls : List Lk} {node : Int} {tx : ByteArray} {A2 B : Option Addr} {c2 d : Nat} (h : addE ls node tx.size = 0) : sameB (addL ls node A2 c2 tx) (raddL ls node tx B tx.size d) = true := by
  unfold raddL addL
  rw [if_pos h]
  exact same_snoc ls ⟨rfl, rfl, rfl, rfl⟩
theorem same_none {ls : List Lk} {node : Int} {tx : ByteArray} {B : Option Addr} {d : Nat} (h : addE ls node tx.size ≠ 0) : sameB [] (raddL ls node tx B tx.size d) = true := by
  unfold raddL
  rw [if_neg h]
  exact sameB_yes ⟨rfl, fun j y z hj => absurd hj (Nat.not_lt_zero _)⟩
def KAS (A : Option Addr) (n c : Nat) (la : List Lk) (B : Option Addr) (m d : Nat) (lb : List Lk) (D : Option Addr) (k e : Nat) (tx : ByteArray) (s : Value) (z : Nat) (xs : List Value) : Prop := K2 A n c la B m d lb s z xs ∨ (s = .slice D k e ∧ z = 1 ∧ xs = (sb tx).flatMap c8) ∨ (s = .slice none 0 0 ∧ z = 35 ∧ xs = [])
theorem KAS_laid (A : Option Addr) (n c : Nat) (la : List Lk) (B : Option Addr) (m d : Nat) (lb : List Lk) (D : Option Addr) (k e : Nat) (tx : ByteArray) : LaidK (KAS A n c la B m d lb D k e tx) := ⟨.inl (K2_laid A n c la B m d lb).1, .inl (K2_laid A n c la B m d lb).2⟩
theorem laid_plus {C : SX.Cx} {N : List SX.Arg} (h : LaidK C.K) : LaidK (C.plus N).K := ⟨.inl h.1, .inl h.2⟩
def tree_addspec : SX.Tree :=
(.df (.call 8 []) [] .one
(.df .not [(.q 4)] .one
(.br 5 []
(.ret (.k (.bool false)) [] [])
(.df (.call 9 [(.ext 35)]) [(.q 0)] .one
(.df .not [(.q 6)] .one
(.br 7 []
(.ret (.k (.bool true)) [] [])
(.df (.call 9 [(.ext 35)]) [(.q 1)] .one
(.df .not [(.q 8)] .one
(.br 9 []
(.ret (.k (.bool true)) [] [])
(.df (.len false) [(.q 3)] .one
(.df (.bin .gtr 3) [(.q 10), (.i 300)] .one
(.br 11 []
(.df (.len false) [(.q 3)] .one
(.df (.bin .leq 3) [(.q 12), (.i 65536)] .one
(.br 13 []
(.ret (.k (.bool true)) [] [])
(.df (.callq 10 [(.ext 35), .no, (.ext 1)]) [(.q 0), (.q 2), (.q 3)] (.tp [.one, .one])
(.df (.call 11 [(.ext 35), .no, (.ext 1)]) [(.q 0), (.q 2), (.q 3)] (.tp [(.sl 35), .one])
(.df (.call 12 [(.ext 35), (.ext 35)]) [(.q 0), (.q 1)] (.tp [.one, .one, .one])
(.df (.call 13 [(.ext 35), (.ext 35)]) [(.q 0), (.q 1)] (.tp [.one, .one, .one])
(.df (.call 14 [(.ext 35), (.row 35 [(.x 15 [0])])]) [(.x 14 [0]), (.row 0)] .one
(.br 18 []
(.df (.bin .eql 26) [(.x 14 [1]), (.x 15 [1])] .one
(.br 19 []
(.df (.bin .eql 3) [(.x 16 [0]), (.x 17 [0])] .one
(.br 20 []
(.df (.binb .eql) [(.x 16 [1]), (.x 17 [1])] .one
(.br 21 []
(.df (.bin .eql 26) [(.x 16 [2]), (.x 17 [2])] .one
(.ret (.q 22) [] []))
(.ret (.k (.bool false)) [] [])))
(.ret (.k (.bool false)) [] [])))
(.ret (.k (.bool false)) [] [])))
(.ret (.k (.bool false)) [] []))))))))))
(.df (.callq 10 [(.ext 35), .no, (.ext 1)]) [(.q 0), (.q 2), (.q 3)] (.tp [.one, .one])
(.df (.call 11 [(.ext 35), .no, (.ext 1)]) [(.q 0), (.q 2), (.q 3)] (.tp [(.sl 35), .one])
(.df (.call 12 [(.ext 35), (.ext 35)]) [(.q 0), (.q 1)] (.tp [.one, .one, .one])
(.df (.call 13 [(.ext 35), (.ext 35)]) [(.q 0), (.q 1)] (.tp [.one, .one, .one])
(.df (.call 14 [(.ext 35), (.row 35 [(.x 13 [0])])]) [(.x 12 [0]), (.row 0)] .one
(.br 16 []
(.df (.bin .eql 26) [(.x 12 [1]), (.x 13 [1])] .one
(.br 17 []
(.df (.bin .eql 3) [(.x 14 [0]), (.x 15 [0])] .one
(.br 18 []
(.df (.binb .eql) [(.x 14 [1]), (.x 15 [1])] .one
(.br 19 []
(.df (.bin .eql 26) [(.x 14 [2]), (.x 15 [2])] .one
(.ret (.q 20) [] []))
(.ret (.k (.bool false)) [] [])))
(.ret (.k (.bool false)) [] [])))
(.ret (.k (.bool false)) [] [])))
(.ret (.k (.bool false)) [] [])))))))))))))))))))
def args_addspec : List SX.V := [.x 0 [], .x 1 [], .x 2 [], .x 3 []]
set_option maxRecDepth 100000 in
theorem run_addspec (K A : Value → Nat → List Value → Prop) : (SX.run (cxQE K A) ⟨fun f => true, [], 0, 100⟩ 100000 0 (SX.door 3 Tryd.f3 args_addspec [.one, .one, .one, .one]) [.code (Tryd.f3.body.getD .skip), .top Tryd.f3]).strip = tree_addspec := by kernel_rfl
set_option maxRecDepth 100000 in
set_option maxHeartbeats 4000000 in
theorem addspec_any (la : List Lk) (A : Option Addr) (n c : Nat) (lb : List Lk) (B : Option Addr) (m d : Nat) (node : Int) (tx : ByteArray) (D : Option Addr) (e : Nat) (w : World) (hr : Rd w 35 A n (lkL la)) (hc : n ≤ c) (hn : n ≤ 9223372036854775807) (hd : ∀ z ∈ la, z.rd w) (hnum : ∀ z ∈ la, z.num) (hr2 : Rd w 35 B m (lkL lb)) (hc2 : m ≤ d) (hn2 : m ≤ 9223372036854775807) (hd2 : ∀ z ∈ lb, z.rd w) (hnum2 : ∀ z ∈ lb, z.num) (hlaid : Laid w) (hrb : Rd w 1 D tx.size ((sb tx).flatMap c8)) (hme : tx.size ≤ e) (htx : tx.size ≤ 9223372036854775807) (hnode : -9223372036854775808 ≤ node ∧ node ≤ 9223372036854775807) : Calls Tryd.prog 3 #[.slice A n c, .slice B m d, .int .i64 node, .slice D tx.size e] w fun e w' => e = .returned (.bool true) ∧ Below w.heap.size w w' := by
  refine SX.calls_of_run (C := cxQE (KAS A n c la B m d lb D tx.size e tx) (fun _ _ _ => False)) (G := ⟨fun f => true, [], 0, 100⟩) (args := args_addspec) (sh := [.one, .one, .one, .one]) (ρ := [.slice A n c, .slice B m d, .int .i64 node, .slice D tx.size e]) 100000 tree_addspec (okQE _ _) Tryd.func3 rfl (run_addspec _ _) (by kernel_rfl) (by kernel_rfl) (by kernel_rfl) ?_ ?_
  · rintro W hW s sz cells ((h | h) | ⟨rfl, rfl, rfl⟩ | ⟨rfl, rfl, rfl⟩)
    · exact KL_rd hW hr hd hlaid s sz cells h
    · exact KL_rd hW hr2 hd2 hlaid s sz cells h
    · exact ⟨hrb.same0 hW, hme⟩
    exact SX.rd_empty
  have hA := SX.rd_some hr
  have hlc : (lkL la).length = n * 35 := hr.1
  have hln : la.length = n := by rw [lkL_len] at hlc; omega
  have hB := SX.rd_some hr2
  have hlc2 : (lkL lb).length = m * 35 := hr2.1
  have hlm : lb.length = m := by rw [lkL_len] at hlc2; omega
  unfold tree_addspec
  refine SX.E (.bool true) (fun α => ⟨[], trivial, .inl ⟨rfl, KAS_laid _ _ _ _ _ _ _ _ _ _ _ _, rfl, rfl⟩, SX.noAli rfl⟩) ?_
  refine SX.D (.bool (!(true))) ?_
  refine SX.B (!(true)) (fun h5 => absurd h5 (by decide)) (fun h5 => ?_)
  try simp only [NRM] at h5
  refine SX.E (.bool (fewB la)) (fun α => ⟨[⟨.slice A n c, 35, lkL la⟩], ⟨by kernel_rfl, by kernel_rfl, K_of (y := ⟨.slice A n c, 35, lkL la⟩) (by kernel_rfl) ((.inl (.inl (.inl (SX.SubK.full hlc hc))))), trivial⟩, .inr (.inl ⟨rfl, _, la, rfl, KAS_laid _ _ _ _ _ _ _ _ _ _ _ _, by omega, rfl⟩), SX.noAli rfl⟩) ?_
  refine SX.D (.bool (!(fewB la))) ?_
  refine SX.B (!(fewB la)) (fun h7 => ?_) (fun h7 => ?_)
  · try simp only [NRM] at h7
    exact SX.F (.bool true) (rfl)
  try simp only [NRM] at h7
  refine SX.E (.bool (fewB lb)) (fun α => ⟨[⟨.slice B m d, 35, lkL lb⟩], ⟨by kernel_rfl, by kernel_rfl, K_of (y := ⟨.slice B m d, 35, lkL lb⟩) (by kernel_rfl) ((.inl (.inr (.inl (SX.SubK.full hlc2 hc2))))), trivial⟩, .inr (.inl ⟨rfl, _, lb, rfl, KAS_laid _ _ _ _ _ _ _ _ _ _ _ _, by omega, rfl⟩), SX.noAli rfl⟩) ?_
  refine SX.D (.bool (!(fewB lb))) ?_
  refine SX.B (!(fewB lb)) (fun h9 => ?_) (fun h9 => ?_)
  · try simp only [NRM] at h9
    exact SX.F (.bool true) (rfl)
  try simp only [NRM] at h9
  refine SX.D (.int .i64 (((tx.size : Nat) : Int))) ?_
  refine SX.D (.bool (decide (((tx.size : Nat) : Int) > 300))) ?_
  refine SX.B (decide (((tx.size : Nat) : Int) > 300)) (fun h11 => ?_) (fun h11 => ?_)
  · try simp only [NRM] at h11
    refine SX.D (.int .i64 (((tx.size : Nat) : Int))) ?_
    refine SX.D (.bool (decide (((tx.size : Nat) : Int) ≤ 65536))) ?_
    refine SX.B (decide (((tx.size : Nat) : Int) ≤ 65536)) (fun h13 => ?_) (fun h13 => ?_)
    · try simp only [NRM] at h13
      exact SX.F (.bool true) (rfl)
    try simp only [NRM] at h13
    have hfit := few_fit (by simpa using h7) hd hnum
    have hfit2 := few_fit (by simpa using h9) hd2 hnum2
    have hf16 := (fewB_iff.1 (by simpa using h7 : fewB la = true)).1
    have hf17 := (fewB_iff.1 (by simpa using h9 : fewB lb = true)).1
    refine SX.VC_dn (fun v N => ∃ (A1 : Option Addr) (n1 c1 : Nat) (X : List Lk), v = .tuple #[.slice A1 n1 c1, .int .i64 (addE la node tx.size)] ∧ ((cxQE (KAS A n c la B m d lb D tx.size e tx) (fun _ _ _ => False)).plus (N ++ (cxQE (KAS A n c la B m d lb D tx.size e tx) (fun _ _ _ => False)).N)).K (.slice A1 n1 c1) 35 (lkL X) ∧ X.length ≤ 4611686018427387904 ∧ (∀ z ∈ X, z.kn ((cxQE (KAS A n c la B m d lb D tx.size e tx) (fun _ _ _ => False)).plus (N ++ (cxQE (KAS A n c la B m d lb D tx.size e tx) (fun _ _ _ => False)).N)).K ∧ z.fit) ∧ sameB X (raddL la node tx D tx.size e) = true) (fun _ => rfl) (fun α => ⟨[⟨.slice A n c, 35, lkL la⟩, ⟨.int .i64 node, 0, []⟩, ⟨.slice D tx.size e, 1, (sb tx).flatMap c8⟩], ⟨by kernel_rfl, by kernel_rfl, K_of (y := ⟨.slice A n c, 35, lkL la⟩) (by kernel_rfl) ((.inl (.inl (.inl (SX.SubK.full hlc hc))))), by kernel_rfl, by kernel_rfl, by kernel_rfl, by kernel_rfl, K_of (y := ⟨.slice D tx.size e, 1, (sb tx).flatMap c8⟩) (by kernel_rfl) (.inr (.inl ⟨rfl, rfl, rfl⟩)), trivial⟩, rfl, _, la, node, _, tx, rfl, KAS_laid _ _ _ _ _ _ _ _ _ _ _ _, by omega, (fun y hy => ⟨.inl (.inl (.inl (KL_data hy))), hfit y hy⟩), htx, hnode, (fun hne => ⟨none, 0, 0, [], rfl, .inl (.inr (.inr ⟨rfl, rfl, rfl⟩)), Nat.zero_le _, (fun z hz => nomatch hz), same_none hne⟩), (fun he A1 c1 A2 c2 g1 g2 g3 => ⟨A1, _, c1, addL la node A2 c2 tx, (by rw [he]), .inr (List.mem_append_left _ (List.mem_cons_self ..)), (by rw [addL_len]; omega), addL_all (fun z hz => ⟨.inl (.inl (.inl (.inl (KL_data hz)))), hfit z hz⟩) ⟨.inl (.inr (List.mem_append_left _ (List.mem_cons_of_mem _ (List.mem_cons_self ..)))), hnode, ⟨by show -9223372036854775808 ≤ ((la.length : Nat) : Int); omega, by show ((la.length : Nat) : Int) ≤ 9223372036854775807; omega⟩, Nat.le_trans (addE_sm he) (by decide)⟩, same_add he⟩)⟩) ?_
    rintro _ N - ⟨A1, n1, c1, X, rfl, hXK, hXl, hXk, hXs⟩
    refine SX.VC_df (.tuple #[Value.agg (lkL (raddL la node tx D tx.size e)).toArray, .int .i64 ((addE la node tx.size))]) (fun α => ⟨[⟨.slice A n c, 35, lkL la⟩, ⟨.int .i64 node, 0, []⟩, ⟨.slice D tx.size e, 1, (sb tx).flatMap c8⟩], ⟨by kernel_rfl, by kernel_rfl, K_of (y := ⟨.slice A n c, 35, lkL la⟩) (by kernel_rfl) ((.inl (.inl (.inl (.inl (SX.SubK.full hlc hc)))))), by kernel_rfl, by kernel_rfl, by kernel_rfl, by kernel_rfl, K_of (y := ⟨.slice D tx.size e, 1, (sb tx).flatMap c8⟩) (by kernel_rfl) (.inl (.inr (.inl ⟨rfl, rfl, rfl⟩))), trivial⟩, .inr (.inr (.inl ⟨rfl, _, la, node, tx, D, tx.size, e, rfl, (laid_plus (KAS_laid _ _ _ _ _ _ _ _ _ _ _ _)), by omega, (fun y hy => ⟨.inl (.inl (.inl (.inl (KL_data hy)))), hfit y hy⟩), hnode, rfl⟩)), SX.noAli rfl⟩) ((lk_fit _ _)) ?_
    refine SX.E (.tuple #[.int .i64 ((partE la lb).1), .bool ((partE la lb).2.1), .int .i64 ((partE la lb).2.2)]) (fun α => ⟨[⟨.slice A n c, 35, lkL la⟩, ⟨.slice B m d, 35, lkL lb⟩], ⟨by kernel_rfl, by kernel_rfl, K_of (y := ⟨.slice A n c, 35, lkL la⟩) (by kernel_rfl) ((.inl (.inl (.inl (.inl (SX.SubK.full hlc hc)))))), by kernel_rfl, by kernel_rfl, K_of (y := ⟨.slice B m d, 35, lkL lb⟩) (by kernel_rfl) ((.inl (.inl (.inr (.inl (SX.SubK.full hlc2 hc2)))))), trivial⟩, .inr (.inr (.inr (.inl ⟨rfl, _, _, la, lb, rfl, (laid_plus (KAS_laid _ _ _ _ _ _ _ _ _ _ _ _)), by omega, by omega, fun y hy => ⟨.inl (.inl (.inl (.inl (KL_data hy)))), hfit y hy⟩, fun y hy => ⟨.inl (.inl (.inl (.inr (KL_data hy)))), hfit2 y hy⟩, rfl⟩))), SX.noAli rfl⟩) ?_
    refine SX.E (.tuple #[.int .i64 ((partE la lb).1), .bool ((partE la lb).2.1), .int .i64 ((partE la lb).2.2)]) (fun α => ⟨[⟨.slice A n c, 35, lkL la⟩, ⟨.slice B m d, 35, lkL lb⟩], ⟨by kernel_rfl, by kernel_rfl, K_of (y := ⟨.slice A n c, 35, lkL la⟩) (by kernel_rfl) ((.inl (.inl (.inl (.inl (SX.SubK.full hlc hc)))))), by kernel_rfl, by kernel_rfl, K_of (y := ⟨.slice B m d, 35, lkL lb⟩) (by kernel_rfl) ((.inl (.inl (.inr (.inl (SX.SubK.full hlc2 hc2)))))), trivial⟩, .inr (.inr (.inr (.inr (.inl ⟨rfl, _, _, la, lb, rfl, (laid_plus (KAS_laid _ _ _ _ _ _ _ _ _ _ _ _)), by omega, by omega, fun y hy => ⟨.inl (.inl (.inl (.inl (KL_data hy)))), hfit y hy⟩, fun y hy => ⟨.inl (.inl (.inl (.inr (KL_data hy)))), hfit2 y hy⟩, rfl⟩)))), SX.noAli rfl⟩) ?_
    refine SX.E (.bool (sameB X (raddL la node tx D tx.size e))) (fun α => ⟨[⟨.slice A1 n1 c1, 35, lkL X⟩, ⟨(α 0).h, 35, lkL (raddL la node tx D tx.size e)⟩], ⟨by kernel_rfl, by kernel_rfl, K_of (y := ⟨.slice A1 n1 c1, 35, lkL X⟩) (by kernel_rfl) hXK, Eq.trans (b := (⟨(α 0).h, 35, [Value.agg (lkL (raddL la node tx D tx.size e)).toArray].flatMap SX.cellsV⟩ : SX.Arg)) (by simp [SX.cellsV]) (by kernel_rfl), trivial⟩, .inr (.inr (.inr (.inr (.inr (⟨rfl, _, _, X, raddL la node tx D tx.size e, rfl, (laid_plus (KAS_laid _ _ _ _ _ _ _ _ _ _ _ _)), hXl, by have := raddL_len la node tx D tx.size e; omega, hXk, raddL_all (fun y hy => ⟨.inl (.inl (.inl (.inl (KL_data hy)))), hfit y hy⟩) (fun he => ⟨.inl (.inl (.inr (.inl ⟨rfl, rfl, rfl⟩))), hnode, ⟨by show -9223372036854775808 ≤ ((la.length : Nat) : Int); omega, by show ((la.length : Nat) : Int) ≤ 9223372036854775807; omega⟩, Nat.le_trans (addE_sm he) (by decide)⟩), rfl⟩))))), SX.noAli rfl⟩) ?_
    refine SX.B (sameB X (raddL la node tx D tx.size e)) (fun h18 => ?_) (fun h18 => absurd h18 (by rw [hXs]; decide))
    try simp only [NRM] at h18
    refine SX.D (.bool (((addE la node tx.size) : Int) == (addE la node tx.size))) ?_
    refine SX.B (((addE la node tx.size) : Int) == (addE la node tx.size)) (fun h19 => ?_) (fun h19 => absurd h19 (by simp))
    try simp only [NRM] at h19
    refine SX.D (.bool (((partE la lb).1 : Int) == (partE la lb).1)) ?_
    refine SX.B (((partE la lb).1 : Int) == (partE la lb).1) (fun h20 => ?_) (fun h20 => absurd h20 (by simp))
    try simp only [NRM] at h20
    refine SX.D (.bool ((((partE la lb).2.1) == ((partE la lb).2.1)))) ?_
    refine SX.B ((((partE la lb).2.1) == ((partE la lb).2.1))) (fun h21 => ?_) (fun h21 => absurd h21 (by simp))
    try simp only [NRM] at h21
    refine SX.D (.bool (((partE la lb).2.2 : Int) == (partE la lb).2.2)) ?_
    exact SX.F (.bool (((partE la lb).2.2 : Int) == (partE la lb).2.2)) (by simp)
  try simp only [NRM] at h11
  have hfit := few_fit (by simpa using h7) hd hnum
  have hfit2 := few_fit (by simpa using h9) hd2 hnum2
  have hf16 := (fewB_iff.1 (by simpa using h7 : fewB la = true)).1
  have hf17 := (fewB_iff.1 (by simpa using h9 : fewB lb = true)).1
  refine SX.VC_dn (fun v N => ∃ (A1 : Option Addr) (n1 c1 : Nat) (X : List Lk), v = .tuple #[.slice A1 n1 c1, .int .i64 (addE la node tx.size)] ∧ ((cxQE (KAS A n c la B m d lb D tx.size e tx) (fun _ _ _ => False)).plus (N ++ (cxQE (KAS A n c la B m d lb D tx.size e tx) (fun _ _ _ => False)).N)).K (.slice A1 n1 c1) 35 (lkL X) ∧ X.length ≤ 4611686018427387904 ∧ (∀ z ∈ X, z.kn ((cxQE (KAS A n c la B m d lb D tx.size e tx) (fun _ _ _ => False)).plus (N ++ (cxQE (KAS A n c la B m d lb D tx.size e tx) (fun _ _ _ => False)).N)).K ∧ z.fit) ∧ sameB X (raddL la node tx D tx.size e) = true) (fun _ => rfl) (fun α => ⟨[⟨.slice A n c, 35, lkL la⟩, ⟨.int .i64 node, 0, []⟩, ⟨.slice D tx.size e, 1, (sb tx).flatMap c8⟩], ⟨by kernel_rfl, by kernel_rfl, K_of (y := ⟨.slice A n c, 35, lkL la⟩) (by kernel_rfl) ((.inl (.inl (.inl (SX.SubK.full hlc hc))))), by kernel_rfl, by kernel_rfl, by kernel_rfl, by kernel_rfl, K_of (y := ⟨.slice D tx.size e, 1, (sb tx).flatMap c8⟩) (by kernel_rfl) (.inr (.inl ⟨rfl, rfl, rfl⟩)), trivial⟩, rfl, _, la, node, _, tx, rfl, KAS_laid _ _ _ _ _ _ _ _ _ _ _ _, by omega, (fun y hy => ⟨.inl (.inl (.inl (KL_data hy))), hfit y hy⟩), htx, hnode, (fun hne => ⟨none, 0, 0, [], rfl, .inl (.inr (.inr ⟨rfl, rfl, rfl⟩)), Nat.zero_le _, (fun z hz => nomatch hz), same_none hne⟩), (fun he A1 c1 A2 c2 g1 g2 g3 => ⟨A1, _, c1, addL la node A2 c2 tx, (by rw [he]), .inr (List.mem_append_left _ (List.mem_cons_self ..)), (by rw [addL_len]; omega), addL_all (fun z hz => ⟨.inl (.inl (.inl (.inl (KL_data hz)))), hfit z hz⟩) ⟨.inl (.inr (List.mem_append_left _ (List.mem_cons_of_mem _ (List.mem_cons_self ..)))), hnode, ⟨by show -9223372036854775808 ≤ ((la.length : Nat) : Int); omega, by show ((la.length : Nat) : Int) ≤ 9223372036854775807; omega⟩, Nat.le_trans (addE_sm he) (by decide)⟩, same_add he⟩)⟩) ?_
  rintro _ N - ⟨A1, n1, c1, X, rfl, hXK, hXl, hXk, hXs⟩
  refine SX.VC_df (.tuple #[Value.agg (lkL (raddL la node tx D tx.size e)).toArray, .int .i64 ((addE la node tx.size))]) (fun α => ⟨[⟨.slice A n c, 35, lkL la⟩, ⟨.int .i64 node, 0, []⟩, ⟨.slice D tx.size e, 1, (sb tx).flatMap c8⟩], ⟨by kernel_rfl, by kernel_rfl, K_of (y := ⟨.slice A n c, 35, lkL la⟩) (by kernel_rfl) ((.inl (.inl (.inl (.inl (SX.SubK.full hlc hc)))))), by kernel_rfl, by kernel_rfl, by kernel_rfl, by kernel_rfl, K_of (y := ⟨.slice D tx.size e, 1, (sb tx).flatMap c8⟩) (by kernel_rfl) (.inl (.inr (.inl ⟨rfl, rfl, rfl⟩))), trivial⟩, .inr (.inr (.inl ⟨rfl, _, la, node, tx, D, tx.size, e, rfl, (laid_plus (KAS_laid _ _ _ _ _ _ _ _ _ _ _ _)), by omega, (fun y hy => ⟨.inl (.inl (.inl (.inl (KL_data hy)))), hfit y hy⟩), hnode, rfl⟩)), SX.noAli rfl⟩) ((lk_fit _ _)) ?_
  refine SX.E (.tuple #[.int .i64 ((partE la lb).1), .bool ((partE la lb).2.1), .int .i64 ((partE la lb).2.2)]) (fun α => ⟨[⟨.slice A n c, 35, lkL la⟩, ⟨.slice B m d, 35, lkL lb⟩], ⟨by kernel_rfl, by kernel_rfl, K_of (y := ⟨.slice A n c, 35, lkL la⟩) (by kernel_rfl) ((.inl (.inl (.inl (.inl (SX.SubK.full hlc hc)))))), by kernel_rfl, by kernel_rfl, K_of (y := ⟨.slice B m d, 35, lkL lb⟩) (by kernel_rfl) ((.inl (.inl (.inr (.inl (SX.SubK.full hlc2 hc2)))))), trivial⟩, .inr (.inr (.inr (.inl ⟨rfl, _, _, la, lb, rfl, (laid_plus (KAS_laid _ _ _ _ _ _ _ _ _ _ _ _)), by omega, by omega, fun y hy => ⟨.inl (.inl (.inl (.inl (KL_data hy)))), hfit y hy⟩, fun y hy => ⟨.inl (.inl (.inl (.inr (KL_data hy)))), hfit2 y hy⟩, rfl⟩))), SX.noAli rfl⟩) ?_
  refine SX.E (.tuple #[.int .i64 ((partE la lb).1), .bool ((partE la lb).2.1), .int .i64 ((partE la lb).2.2)]) (fun α => ⟨[⟨.slice A n c, 35, lkL la⟩, ⟨.slice B m d, 35, lkL lb⟩], ⟨by kernel_rfl, by kernel_rfl, K_of (y := ⟨.slice A n c, 35, lkL la⟩) (by kernel_rfl) ((.inl (.inl (.inl (.inl (SX.SubK.full hlc hc)))))), by kernel_rfl, by kernel_rfl, K_of (y := ⟨.slice B m d, 35, lkL lb⟩) (by kernel_rfl) ((.inl (.inl (.inr (.inl (SX.SubK.full hlc2 hc2)))))), trivial⟩, .inr (.inr (.inr (.inr (.inl ⟨rfl, _, _, la, lb, rfl, (laid_plus (KAS_laid _ _ _ _ _ _ _ _ _ _ _ _)), by omega, by omega, fun y hy => ⟨.inl (.inl (.inl (.inl (KL_data hy)))), hfit y hy⟩, fun y hy => ⟨.inl (.inl (.inl (.inr (KL_data hy)))), hfit2 y hy⟩, rfl⟩)))), SX.noAli rfl⟩) ?_
  refine SX.E (.bool (sameB X (raddL la node tx D tx.size e))) (fun α => ⟨[⟨.slice A1 n1 c1, 35, lkL X⟩, ⟨(α 0).h, 35, lkL (raddL la node tx D tx.size e)⟩], ⟨by kernel_rfl, by kernel_rfl, K_of (y := ⟨.slice A1 n1 c1, 35, lkL X⟩) (by kernel_rfl) hXK, Eq.trans (b := (⟨(α 0).h, 35, [Value.agg (lkL (raddL la node tx D tx.size e)).toArray].flatMap SX.cellsV⟩ : SX.Arg)) (by simp [SX.cellsV]) (by kernel_rfl), trivial⟩, .inr (.inr (.inr (.inr (.inr (⟨rfl, _, _, X, raddL la node tx D tx.size e, rfl, (laid_plus (KAS_laid _ _ _ _ _ _ _ _ _ _ _ _)), hXl, by have := raddL_len la node tx D tx.size e; omega, hXk, raddL_all (fun y hy => ⟨.inl (.inl (.inl (.inl (KL_data hy)))), hfit y hy⟩) (fun he => ⟨.inl (.inl (.inr (.inl ⟨rfl, rfl, rfl⟩))), hnode, ⟨by show -9223372036854775808 ≤ ((la.length : Nat) : Int); omega, by show ((la.length : Nat) : Int) ≤ 9223372036854775807; omega⟩, Nat.le_trans (addE_sm he) (by decide)⟩), rfl⟩))))), SX.noAli rfl⟩) ?_
  refine SX.B (sameB X (raddL la node tx D tx.size e)) (fun h16 => ?_) (fun h16 => absurd h16 (by rw [hXs]; decide))
  try simp only [NRM] at h16
  refine SX.D (.bool (((addE la node tx.size) : Int) == (addE la node tx.size))) ?_
  refine SX.B (((addE la node tx.size) : Int) == (addE la node tx.size)) (fun h17 => ?_) (fun h17 => absurd h17 (by simp))
  try simp only [NRM] at h17
  refine SX.D (.bool (((partE la lb).1 : Int) == (partE la lb).1)) ?_
  refine SX.B (((partE la lb).1 : Int) == (partE la lb).1) (fun h18 => ?_) (fun h18 => absurd h18 (by simp))
  try simp only [NRM] at h18
  refine SX.D (.bool ((((partE la lb).2.1) == ((partE la lb).2.1)))) ?_
  refine SX.B ((((partE la lb).2.1) == ((partE la lb).2.1))) (fun h19 => ?_) (fun h19 => absurd h19 (by simp))
  try simp only [NRM] at h19
  refine SX.D (.bool (((partE la lb).2.2 : Int) == (partE la lb).2.2)) ?_
  exact SX.F (.bool (((partE la lb).2.2 : Int) == (partE la lb).2.2)) (by simp)
theorem addspec_walk (la : List Lk) (A : Option Addr) (n c : Nat) (lb : List Lk) (B : Option Addr) (m d : Nat) (node : Int) (l : List W8) (D : Option Addr) (k e : Nat) (w : World) (hr : Rd w 35 A n (lkL la)) (hc : n ≤ c) (hn : n ≤ 9223372036854775807) (hd : ∀ z ∈ la, z.rd w) (hnum : ∀ z ∈ la, z.num) (hr2 : Rd w 35 B m (lkL lb)) (hc2 : m ≤ d) (hn2 : m ≤ 9223372036854775807) (hd2 : ∀ z ∈ lb, z.rd w) (hnum2 : ∀ z ∈ lb, z.num) (hlaid : Laid w) (hrb : Rd w 1 D k (l.flatMap c8)) (hke : k ≤ e) (he : e ≤ 9223372036854775807) (hnode : -9223372036854775808 ≤ node ∧ node ≤ 9223372036854775807) : Calls Tryd.prog 3 #[.slice A n c, .slice B m d, .int .i64 node, .slice D k e] w fun e w' => e = .returned (.bool true) ∧ Below w.heap.size w w' := by
  obtain ⟨tx, rfl⟩ := sb_of l
  have h : ((sb tx).flatMap c8).length = k * 1 := hrb.1
  rw [SX.flat_len c8_len, sb_len] at h
  obtain rfl : k = tx.size := by omega
  exact addspec_any la A n c lb B m d node tx D e w hr hc hn hd hnum hr2 hc2 hn2 hd2 hnum2 hlaid hrb hke (by omega) hnode
end Go.Proofs.YtdamlaegboiokaaDoor
namespace Go.Proofs.YtdamlaegboiokaaDoor.chainAddSpec
open Go Go.ChangeShapes Go.WideShapes Go.ChangeAt Go.RowKit
set_option maxRecDepth 100000 in
theorem lifted (os : Os) (started : os.Started) (H : Type) (enc : TypeId × Value → H) :
    ReturnsInHanded {} Tryd.checked os 3 .any (fun w args => (Rows.chainAddSpecSpec.pre enc Tryd.prog Tryd.f3 [] false w args ∧ laidMetH Tryd.prog laidL w) ∧ sizedMet enc Tryd.prog Tryd.f3 (OpenSpec.ofChange Rows.chainAddSpecSpec) false w args)
      (Rows.chainAddSpecSpec.post enc Tryd.prog Tryd.f3 false true false false) := by
  refine returnsInHanded_of_change_and (C := Tryd.checked) (X := fun w _ => laidMetH Tryd.prog laidL w) (fun _ _ _ hh h => h.of_heap hh) ownK started (by kernel_rfl) Tryd.func3
    (ChangeSpec.witness_shaped (enc := enc) (C := Tryd.checked) (os := os) (X := fun w _ => laidMetH Tryd.prog laidL w) false (World.doorLaid Tryd.prog 400 os) #[.slice none 0 0, .slice none 0 0, .int .i64 0, .slice none 0 0] 8 rfl (World.shaped_of_RefB (by kernel_rfl) (by kernel_rfl)) (by kernel_rfl) (by kernel_rfl) (by kernel_rfl) (door_met os _)) ?_
  intro W base args ds gs before hval0 hW _ _ hL _
  have hval : ∀ (j : Nat) t v, Tryd.f3.params[j]? = some t → args[j]? = some v → Value.okWide Tryd.prog W .any base t v := hval0
  have hW' := hW
  obtain ⟨p, q, hA0, hV, rfl, hfz, hnd⟩ := hW
  have hA : DataW.TrodAll enc Tryd.prog W 0 (fun _ => true) true Tryd.f3.params.toList args.toList ds p := hA0
  rw [Tryd.params3] at hA hval
  obtain ⟨v0, vs0, d0, ds0, p0, q0, hargs, rfl, rfl, h0, r0⟩ := trodAll_cons hA
  obtain ⟨v1, vs1, d1, ds1, p1, q1, rfl, rfl, rfl, h1, r1⟩ := trodAll_cons r0
  obtain ⟨v2, vs2, d2, ds2, p2, q2, rfl, rfl, rfl, h2, r2⟩ := trodAll_cons r1
  obtain ⟨v3, vs3, d3, ds3, p3, q3, rfl, rfl, rfl, h3, r3⟩ := trodAll_cons r2
  obtain ⟨rfl, rfl, rfl⟩ := trodAll_nil r3
  obtain rfl : args = #[v0, v1, v2, v3] := by cases args; simp_all
  obtain ⟨rfl, rfl⟩ := trodVars_none hV
  obtain ⟨A0, n0, c0, l0, e0, hr0, hc0, hm0, hq0⟩ := open_links h0
  obtain rfl := v_slice Tryd.underlying22 (hval 0 22 v0 rfl rfl) e0
  rw [max_eq] at hm0
  obtain ⟨A1, n1, c1, l1, e1, hr1, hc1, hm1, hq1⟩ := open_links h1
  obtain rfl := v_slice Tryd.underlying22 (hval 1 22 v1 rfl rfl) e1
  rw [max_eq] at hm1
  obtain ⟨a2, rfl, rfl, rfl, w2⟩ := open_int Tryd.underlying3 (hval 2 3 v2 rfl rfl) h2
  obtain ⟨A3, n3, c3, l3, e3, hr3, hc3, hm3⟩ := open_u8s h3
  obtain rfl := v_slice Tryd.underlying23 (hval 3 23 v3 rfl rfl) e3
  rw [max_eq] at hm3
  clear hA0 hval0
  have hlaid := laid_world hL
  refine (addspec_walk l0 A0 n0 c0 l1 A1 n1 c1 a2 l3 A3 n3 c3 W hr0 hc0 (by omega) (fun z hz => (hq0 z hz).1) (fun z hz => (hq0 z hz).2) hr1 hc1 (by omega) (fun z hz => (hq1 z hz).1) (fun z hz => (hq1 z hz).2) hlaid hr3 hc3 hm3 (i64_wf w2)).mono fun e W' ⟨he, hb⟩ => ?_
  subst he
  exact ⟨_, rfl, law_post laidOut (by kernel_rfl) rfl hW' hb rfl rfl Tryd.underlying4⟩
theorem over : Rows.chainAddSpecRow.holds Tryd.pinned (OpenSpec.ofChange Rows.chainAddSpecSpec) :=
  OpenClaim.holds_of_wide 3 Tryd.f3 rfl rfl rfl rfl rfl rfl rfl ⟨rfl, rfl, rfl, rfl, rfl⟩ rfl rfl rfl rfl rfl (by kernel_rfl) Tryd.func3 (by kernel_rfl)
    (of_decide_eq_true (by kernel_rfl)) (by unfold Func.isWrapper; first | (rw [if_pos (by decide +kernel)]; kernel_rfl) | (rw [if_neg (by decide +kernel)]; exact ⟨rfl, rfl⟩))
    (fun os started H enc _ => lifted os started H enc)
theorem proved : Rows.ChainAddSpecCardSaid :=
  Claim7.holds_tied_plain_at .later [] [.data, .data] true (true, "521b2ca88230f32fb39facb778099429df77589fc8ba99baccf153ac95919c22") false
    over (fun _ h => by cases h) (by kernel_rfl) (fun _ h => by cases h) chainAddSpec_row_tie rfl ⟨rfl, rfl⟩ (by kernel_rfl) rfl
    (fun f fn hf hfn => by
      obtain rfl : f = 3 := Option.some.inj ((show Tryd.prog.funcNamed "kinesphere/kinespherelaw08.ChainAddSpec" = some 3 by kernel_rfl).symm.trans hf) |>.symm
      obtain rfl : fn = Tryd.f3 := (Option.some.inj (Tryd.func3.symm.trans hfn)).symm
      exact ⟨by kernel_rfl, fun j t ht => by
        rw [Tryd.params3] at ht
        have hm : t ∈ [22, 22, 3, 23] := by simpa using Array.mem_of_getElem? ht
        have hall : ([22, 22, 3, 23].all fun u => !Tryd.prog.wantsStandIn u) = true := by kernel_rfl
        exact (show Tryd.prog.wantsStandIn t = false by simpa using List.all_eq_true.1 hall t hm)⟩)
    (by kernel_rfl)
#print axioms proved
end Go.Proofs.YtdamlaegboiokaaDoor.chainAddSpec
