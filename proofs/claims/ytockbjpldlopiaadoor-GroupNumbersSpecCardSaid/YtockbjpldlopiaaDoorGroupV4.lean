/-
  Walk: Pow of the program, at every two ints: the power, and the error; it makes memory and changes nothing that was there.
-/
import Derived.Test.YtockbjpldlopiaaDoorGroupV3
import Derived.Test.YtockbjpldlopiaaDoorRange
namespace Go.Proofs.YtockbjpldlopiaaDoor
open Go Go.RowKit Go.Shelf
attribute [local go_sem] Oper.semAt_some

theorem squares_any (a n : Int) (w : World) :
    Calls Tryd.prog 20 #[.int .i64 a, .int .i64 n] w fun e w' =>
      e = .returned (.func (.func 27) #[] #[.pointer (some ⟨w.heap.size + 1, 0, none⟩), .pointer (some ⟨w.heap.size, 0, none⟩)]) ∧
      (w.alloc (.cells #[.int .i64 a] 3)).alloc (.cells #[.int .i64 n] 3) = w' := by
  go_enter Tryd.func20, Tryd.ntmps20
  go_wp2
  go_ret
  exact ⟨rfl, rfl⟩

/-- between two rounds of the loop over squares: B: the heap's size when Pow began; the result lies in B, the square in B + 2, what is left of the exponent in B + 3 -/
def SqSt (w : World) (L : LP) (a n : Nat) (m : Nat) (W : World) : Prop :=
  ∃ x c, Jac.PInv a n c x m ∧ m ≤ n ∧ Boxed W w.heap.size 3 (.int .i64 c) ∧ Boxed W (w.heap.size + 2) 3 (.int .i64 x) ∧ Boxed W (w.heap.size + 3) 3 (.int .i64 m) ∧
    W.heap[w.heap.size + 5]? = some (L.obj .ready none) ∧ W.heap[w.heap.size + 4]? = some (.deferred (some [])) ∧ Below w.heap.size w W

set_option maxHeartbeats 1000000 in
theorem pow_in (a n : Int) (w : World) (hv : Jac.vld a = true) :
    CallsIn Fence.wide 5 Tryd.prog 13 #[.int .i64 a, .int .i64 n] w fun e w' => e = .returned (.tuple #[.int .i64 (Jac.powV a n), .int .i64 (Jac.mulE a a)]) ∧ Below w.heap.size w w' := by
  refine callsIn_of_wp_marks Tryd.func13 rfl trivial ?_ rfl
  simp only [Tryd.ntmps13, List.size_toArray, List.length_cons, List.length_nil, Nat.reduceAdd, Nat.reduceSub, Array.replicate_succ, Array.replicate_zero, List.push_toArray, List.append_toArray, List.nil_append, List.cons_append]
  gi_wp2_with (first | (refine ⟨trivial, ?_⟩; gi_at_call 15; refine CallsIn.mono (callsIn_wide.2 (valid_any _ _)) ?_; rintro e w' ⟨rfl, rfl⟩) | (refine ⟨trivial, ?_⟩; gi_at_call 21; refine CallsIn.mono (callsIn_wide.2 (least_one n _ _ (by simp))) ?_; rintro e w' ⟨rfl, rfl⟩) | (refine ⟨trivial, ?_⟩; gi_at_call 20; refine CallsIn.mono (callsIn_wide.2 (squares_any _ _ _)) ?_; rintro e w' ⟨rfl, rfl⟩))
  have hb := Jac.vld_bounds hv
  obtain ⟨x, rfl⟩ : ∃ x : Nat, a = x := ⟨a.toNat, by omega⟩
  have hr := Jac.red_bounds n
  obtain ⟨m, hm⟩ : ∃ m : Nat, Jac.red n = m := ⟨(Jac.red n).toNat, by omega⟩
  rw [hm]
  refine wpIn_rangeFunc_line rfl (by omega) (gf := 27) rfl trivial (enters_of Tryd.func27 (by kernel_rfl) rfl) ?_
  intro L hLf hLt hLp hLa hLb
  refine callsIn_of_wp Tryd.func27 rfl trivial ?_
  simp only [Tryd.ntmps27, List.size_toArray, List.length_cons, List.length_nil, Nat.reduceAdd, Nat.reduceSub, Array.replicate_succ, Array.replicate_zero, List.push_toArray, List.append_toArray, List.nil_append, List.cons_append]
  gi_wp2
  gi_loopw [5] (fun _ W => ∃ k, SqSt w L x m k W) (fun _ W => boxNat W (w.heap.size + 3))
  case atStart =>
    refine ⟨m, x, 1, Jac.pinv_start (by omega), Nat.le_refl _, ?_, ?_, ?_, ?_, ?_, ?_⟩
    · repeat (first | exact heap_at (by first | rfl | (simp only [World.size_alloc]; done) | (simp only [World.size_alloc]; omega)) | refine heap_ne (by first | (simp only [World.size_alloc]; omega) | omega) ?_)
    · repeat (first | exact heap_at (by first | rfl | (simp only [World.size_alloc]; done) | (simp only [World.size_alloc]; omega)) | refine heap_ne (by first | (simp only [World.size_alloc]; omega) | omega) ?_)
    · repeat (first | exact heap_at (by first | rfl | (simp only [World.size_alloc]; done) | (simp only [World.size_alloc]; omega)) | refine heap_ne (by first | (simp only [World.size_alloc]; omega) | omega) ?_)
    · repeat (first | exact heap_at (by first | rfl | (simp only [World.size_alloc]; done) | (simp only [World.size_alloc]; omega)) | refine heap_ne (by first | (simp only [World.size_alloc]; omega) | omega) ?_)
    · repeat (first | exact heap_at (by first | rfl | (simp only [World.size_alloc]; done) | (simp only [World.size_alloc]; omega)) | refine heap_ne (by first | (simp only [World.size_alloc]; omega) | omega) ?_)
    · repeat (first | exact Below.refl _ _ | (refine Below.alloc ?_ (by first | exact Nat.le_refl _ | (simp only [World.size_alloc]; omega)) _) | (refine Below.setCell ?_ (by simp) _))
  case round =>
    obtain ⟨k, y, c, hi, hkn, hc, hy, hk, hl, hD, hbl⟩ := hrel
    have hm0 := Lib.hid (boxNat_of hk)
    have c1 := hc.cell
    have c2 := hy.cell
    have c3 := hk.cell
    have f1 := hc.frozen
    have f2 := hy.frozen
    have f3 := hk.frozen
    have p1 := hi.1
    have p2 := hi.2.1
    have b1 : c * y ≤ 2147483578 * 2147483578 := Nat.mul_le_mul (by omega) (by omega)
    have b2 : y * y ≤ 2147483578 * 2147483578 := Nat.mul_le_mul (by omega) (by omega)
    by_cases h0 : 0 < k
    · have hks : k < 9223372036854775808 := by omega
      have hb2 := Go.Proofs.and_one k hks
      rcases Nat.mod_two_eq_zero_or_one k with ho | ho
      · have hbit : (bits BinOp.and IntKind.i64 (↑k) 1 == 1) = false := by rw [hb2, ho]; rfl
        have hyd := run_yield_lit (P := Tryd.prog) (args := #[.int .i64 (y : Int), .bool false]) hLp hLt hl rfl
        have hi2 := Jac.pinv_even hi ho
        clear hb2 ho
        gi_wp2
        refine roundIn_line trivial ?_
        rw [hLa.out]
        gi_wp2
        refine ⟨hl, ?_⟩
        rw [hLb.out]
        have hc1 := hc.put (o := L.obj .busy none) (l := w.heap.size + 5) (by omega)
        have hy1 := hy.put (o := L.obj .busy none) (l := w.heap.size + 5) (by omega)
        have hk1 := hk.put (o := L.obj .busy none) (l := w.heap.size + 5) (by omega)
        have hl1 := heap_put_same (o' := L.obj .busy none) hl
        have hD1 := heap_put (l := w.heap.size + 5) (o' := L.obj .busy none) hD (by omega)
        have hbl1 := below_put hbl (l := w.heap.size + 5) (by omega) (L.obj .busy none)
        clear hyd c1 c2 c3 f1 f2 f3 hc hy hk hl hD hbl
        generalize wr.putObj (w.heap.size + 5) (L.obj .busy none) = W1 at *
        have c1 := hc1.cell
        have c2 := hy1.cell
        have c3 := hk1.cell
        have f1 := hc1.frozen
        have f2 := hy1.frozen
        have f3 := hk1.frozen
        gi_wp2
        have HL := hl1
        have HC := hc1
        have HY := hy1
        have HK := hk1
        have HD := hD1
        have HB := hbl1
        clear hl1 hc1 hy1 hk1 hD1 hbl1
        clear c1 c2 c3 f1 f2 f3
        refine ⟨HL, ?_⟩
        have hl2 := heap_put_same (o' := L.obj .ready none) HL
        have hc2 := HC.put (o := L.obj .ready none) (l := w.heap.size + 5) (by omega)
        have hy2 := HY.put (o := L.obj .ready none) (l := w.heap.size + 5) (by omega)
        have hk2 := HK.put (o := L.obj .ready none) (l := w.heap.size + 5) (by omega)
        have hD2 := heap_put (l := w.heap.size + 5) (o' := L.obj .ready none) HD (by omega)
        have hbl2 := below_put HB (l := w.heap.size + 5) (by omega) (L.obj .ready none)
        clear HL HC HY HK HD HB
        dsimp only
        generalize World.putObj _ (w.heap.size + 5) (L.obj .ready none) = W2 at *
        have c1 := hc2.cell
        have c2 := hy2.cell
        have c3 := hk2.cell
        have f1 := hc2.frozen
        have f2 := hy2.frozen
        have f3 := hk2.frozen
        gi_wp2
        refine ⟨⟨k / 2, _, _, hi2, by omega, (hc2.other (by omega) _).other (by omega) _, (hy2.set _).other (by omega) _, (hk2.other (by omega) _).set _,
          heap_set (heap_set hl2 (by omega)) (by omega), heap_set (heap_set hD2 (by omega)) (by omega), (hbl2.setCell (p := ⟨w.heap.size + 2, 0, none⟩) (by simp) _).setCell (p := ⟨w.heap.size + 3, 0, none⟩) (by simp) _⟩, ?_⟩
        rw [hm0.out, boxNat_of ((hk2.other (B' := w.heap.size + 2) (by omega) (.int .i64 ((y : Int) * y % 2147483579))).set (.int .i64 ((k : Int) / 2)))]
        omega
      · have hbit : (bits BinOp.and IntKind.i64 (↑k) 1 == 1) = true := by rw [hb2, ho]; rfl
        have hyd := run_yield_lit (P := Tryd.prog) (args := #[.int .i64 (y : Int), .bool true]) hLp hLt hl rfl
        have hi2 := Jac.pinv_odd hi ho
        clear hb2 ho
        gi_wp2
        refine roundIn_line trivial ?_
        rw [hLa.out]
        gi_wp2
        refine ⟨hl, ?_⟩
        rw [hLb.out]
        have hc1 := hc.put (o := L.obj .busy none) (l := w.heap.size + 5) (by omega)
        have hy1 := hy.put (o := L.obj .busy none) (l := w.heap.size + 5) (by omega)
        have hk1 := hk.put (o := L.obj .busy none) (l := w.heap.size + 5) (by omega)
        have hl1 := heap_put_same (o' := L.obj .busy none) hl
        have hD1 := heap_put (l := w.heap.size + 5) (o' := L.obj .busy none) hD (by omega)
        have hbl1 := below_put hbl (l := w.heap.size + 5) (by omega) (L.obj .busy none)
        clear hyd c1 c2 c3 f1 f2 f3 hc hy hk hl hD hbl
        generalize wr.putObj (w.heap.size + 5) (L.obj .busy none) = W1 at *
        have c1 := hc1.cell
        have c2 := hy1.cell
        have c3 := hk1.cell
        have f1 := hc1.frozen
        have f2 := hy1.frozen
        have f3 := hk1.frozen
        gi_wp2
        have HL := heap_set (v := .int .i64 ((c : Int) * y % 2147483579)) (b := w.heap.size) hl1 (by omega)
        have HC := hc1.set (.int .i64 ((c : Int) * y % 2147483579))
        have HY := hy1.other (B' := w.heap.size) (by omega) (.int .i64 ((c : Int) * y % 2147483579))
        have HK := hk1.other (B' := w.heap.size) (by omega) (.int .i64 ((c : Int) * y % 2147483579))
        have HD := heap_set (v := .int .i64 ((c : Int) * y % 2147483579)) (b := w.heap.size) hD1 (by omega)
        have HB := hbl1.setCell (p := ⟨w.heap.size, 0, none⟩) (Nat.le_refl _) (.int .i64 ((c : Int) * y % 2147483579))
        clear hl1 hc1 hy1 hk1 hD1 hbl1
        clear c1 c2 c3 f1 f2 f3
        refine ⟨HL, ?_⟩
        have hl2 := heap_put_same (o' := L.obj .ready none) HL
        have hc2 := HC.put (o := L.obj .ready none) (l := w.heap.size + 5) (by omega)
        have hy2 := HY.put (o := L.obj .ready none) (l := w.heap.size + 5) (by omega)
        have hk2 := HK.put (o := L.obj .ready none) (l := w.heap.size + 5) (by omega)
        have hD2 := heap_put (l := w.heap.size + 5) (o' := L.obj .ready none) HD (by omega)
        have hbl2 := below_put HB (l := w.heap.size + 5) (by omega) (L.obj .ready none)
        clear HL HC HY HK HD HB
        dsimp only
        generalize World.putObj _ (w.heap.size + 5) (L.obj .ready none) = W2 at *
        have c1 := hc2.cell
        have c2 := hy2.cell
        have c3 := hk2.cell
        have f1 := hc2.frozen
        have f2 := hy2.frozen
        have f3 := hk2.frozen
        gi_wp2
        refine ⟨⟨k / 2, _, _, hi2, by omega, (hc2.other (by omega) _).other (by omega) _, (hy2.set _).other (by omega) _, (hk2.other (by omega) _).set _,
          heap_set (heap_set hl2 (by omega)) (by omega), heap_set (heap_set hD2 (by omega)) (by omega), (hbl2.setCell (p := ⟨w.heap.size + 2, 0, none⟩) (by simp) _).setCell (p := ⟨w.heap.size + 3, 0, none⟩) (by simp) _⟩, ?_⟩
        rw [hm0.out, boxNat_of ((hk2.other (B' := w.heap.size + 2) (by omega) (.int .i64 ((y : Int) * y % 2147483579))).set (.int .i64 ((k : Int) / 2)))]
        omega
    · have hk0 : k = 0 := by omega
      gi_wp2
      go_end0
      refine ⟨_, .ready, none, rfl, by simp, hl, ?_⟩
      unfold lafter lmark
      dsimp only
      have hc2 := hc.put (o := L.obj .exhausted none) (l := w.heap.size + 5) (by omega)
      have hD2 := heap_put (l := w.heap.size + 5) (o' := L.obj .exhausted none) hD (by omega)
      have hbl2 := below_put hbl (l := w.heap.size + 5) (by omega) (L.obj .exhausted none)
      clear hc hl hD hbl hy hk c1 c2 c3 f1 f2 f3
      have e5 : w.heap.size + 1 + 1 + 1 + 1 + 1 = w.heap.size + 5 := rfl
      rw [e5]
      generalize World.putObj _ (w.heap.size + 5) (L.obj .exhausted none) = W2 at *
      have c1 := hc2.cell
      have f1 := hc2.frozen
      gi_wp2
      subst hk0
      have e1 := Jac.pinv_end hi
      have hc3 := hc2.set (.int .i64 (c : Int))
      have hD3 := heap_set (v := .int .i64 (c : Int)) (b := w.heap.size) hD2 (by omega)
      have hb3 := hbl2.setCell (p := ⟨w.heap.size, 0, none⟩) (Nat.le_refl _) (.int .i64 (c : Int))
      generalize World.setCell W2 _ _ = W3 at *
      have hc4 := (hc3.put (o := .deferred none) (l := w.heap.size + 4) (by omega)).cell
      refine ⟨by simp, .inl ⟨_, _, rfl, run_takeDeferred hD3, ?_⟩⟩
      refine ⟨.tuple #[.int .i64 c, .int .i64 0], ?_, ret_ii ?_ ?_, below_put hb3 (by omega) _⟩
      · simp [results, Tryd.f13, go_sem, hc4]
      · rcases Jac.pow_cases x n with ⟨h1, _⟩ | ⟨_, _, _, h2, _⟩
        · rw [hv] at h1; cases h1
        · rw [h2, hm, Int.toNat_natCast, Int.toNat_natCast, e1]
      · rw [Jac.mulE_self, if_pos hv]

theorem pow_any (a n : Int) (w : World) :
    Calls Tryd.prog 13 #[.int .i64 a, .int .i64 n] w fun e w' => e = .returned (.tuple #[.int .i64 (Jac.powV a n), .int .i64 (Jac.mulE a a)]) ∧ Below w.heap.size w w' := by
  rcases Jac.pow_cases a n with ⟨hv, hm⟩ | ⟨hv, _⟩
  · have HM := Lib.hid hm
    clear hm
    go_enter Tryd.func13, Tryd.ntmps13
    go_wp2_with (go_at_call 15; refine (valid_any _ _).mono ?_; rintro e w' ⟨rfl, rfl⟩)
    refine bodyPost_ret (v := .tuple #[.int .i64 0, .int .i64 100]) (by simp [results, Tryd.results13, go_sem]) rfl ⟨ret_ii HM.out.1.symm HM.out.2.symm, ?_⟩
    repeat (first | exact Below.refl _ _ | (refine Below.alloc ?_ (by first | exact Nat.le_refl _ | (simp only [World.size_alloc]; omega)) _) | (refine Below.setCell ?_ (by simp) _))
  · exact callsIn_wide.1 (pow_in a n w hv)
end Go.Proofs.YtockbjpldlopiaaDoor
