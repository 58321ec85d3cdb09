/-
  Plain facts about edits of signs: edits that undo each other, that are one edit together, that do not disturb each other.
-/
import Derived.Test.YtnaooclbphaelaaEl
namespace Go.Proofs.Ytnaooclbphaelaa
set_option linter.unusedSimpArgs false
set_option linter.unusedVariables false
open Go Go.RowKit
theorem acc_flat {e : Ed} {c : Sg → List Sg} : ∀ {l : List Sg} {y : List Sg}, (∀ k ∈ l, workE e k = some (c k)) → l.foldl (fun acc k => acc.bind fun y => (workE e k).map (y ++ ·)) (some y) = some (y ++ l.flatMap c)
  | [], y, _ => by simp
  | k :: l, y, h => by
    rw [List.foldl_cons, Option.bind_some, h k (List.mem_cons_self ..), Option.map_some, acc_flat fun k hk => h k (List.mem_cons_of_mem _ hk)]
    simp
theorem SX.flat_one' {β γ : Type} (f : β → γ) : ∀ l : List β, (l.flatMap fun k => [f k]) = l.map f
  | [] => rfl
  | a :: l => by rw [List.flatMap_cons, SX.flat_one' f l]; rfl
theorem acc_map {e : Ed} {f : Sg → Sg} {l : List Sg} (h : ∀ k ∈ l, workE e k = some [f k]) : accE e l = some (l.map f) := by
  unfold accE
  rw [acc_flat (c := fun k => [f k]) h, List.nil_append]
  congr 1
  exact SX.flat_one' f l
theorem acc_nil {e : Ed} : ∀ {l : List Sg}, (∃ k ∈ l, workE e k = none) → accE e l = none := by
  intro l ⟨k, hk, hw⟩
  obtain ⟨l1, l2, rfl⟩ := List.append_of_mem hk
  unfold accE
  rw [List.foldl_append, List.foldl_cons, hw]
  simp [fold_none]
theorem chkS_of {ss : List Sg} (h : ss.length ≤ 4096) (h2 : okL ss) : chkS ss = 0 := by
  unfold chkS
  rw [if_neg (by omega), if_pos h2]
theorem okL_map {f : Sg → Sg} {ss : List Sg} (h : okL ss) (hid : ∀ k ∈ ss, (f k).id = k.id) (hok : ∀ k ∈ ss, (f k).ok) : okL (ss.map f) := by
  refine ⟨fun s hs => ?_, ?_⟩
  · obtain ⟨k, hk, rfl⟩ := List.mem_map.1 hs
    exact hok k hk
  · rw [List.pairwise_map]
    exact h.2.imp_of_mem fun {a b} ha hb hab => by rw [hid a ha, hid b hb]; exact hab
theorem apply_map {e : Ed} {ss : List Sg} {f : Sg → Sg} (h : chkS ss = 0) (he : okE e) (hw : ∀ k ∈ ss, workE e k = some [f k]) (hid : ∀ k ∈ ss, (f k).id = k.id) (hok : ∀ k ∈ ss, (f k).ok) : applyE e ss = (ss.map f, 0) := by
  obtain ⟨h1, h2⟩ := chkS_ok h
  exact applyE_ok h he (acc_map hw) (chkS_of (by simpa using h2) (okL_map h1 hid hok))
theorem chkS_map {ss : List Sg} {f : Sg → Sg} (h : chkS ss = 0) (hid : ∀ k ∈ ss, (f k).id = k.id) (hok : ∀ k ∈ ss, (f k).ok) : chkS (ss.map f) = 0 := by
  obtain ⟨h1, h2⟩ := chkS_ok h
  exact chkS_of (by simpa using h2) (okL_map h1 hid hok)
theorem run_two {x y : Ed} {ss : List Sg} : runE ss [x, y] = if (applyE x ss).2 = 0 then (if (applyE y (applyE x ss).1).2 = 0 then ((applyE y (applyE x ss).1).1, 0) else ([], (applyE y (applyE x ss).1).2)) else ([], (applyE x ss).2) := by
  simp only [runE]
theorem run_one {x : Ed} {ss : List Sg} : runE ss [x] = if (applyE x ss).2 = 0 then ((applyE x ss).1, 0) else ([], (applyE x ss).2) := by
  simp only [runE]
/-- two edits, one after the other -/
theorem run_maps {x y : Ed} {ss : List Sg} {f g : Sg → Sg} (h : chkS ss = 0) (hx : okE x) (hy : okE y) (hf : ∀ k ∈ ss, workE x k = some [f k] ∧ (f k).id = k.id ∧ (f k).ok) (hg : ∀ k ∈ ss, workE y (f k) = some [g (f k)] ∧ (g (f k)).id = (f k).id ∧ (g (f k)).ok) : runE ss [x, y] = ((ss.map f).map g, 0) := by
  have h1 := apply_map h hx (fun k hk => (hf k hk).1) (fun k hk => (hf k hk).2.1) (fun k hk => (hf k hk).2.2)
  have h2 := apply_map (e := y) (f := g) (chkS_map h (fun k hk => (hf k hk).2.1) (fun k hk => (hf k hk).2.2)) hy
    (fun k hk => by obtain ⟨z, hz, rfl⟩ := List.mem_map.1 hk; exact (hg z hz).1) (fun k hk => by obtain ⟨z, hz, rfl⟩ := List.mem_map.1 hk; exact (hg z hz).2.1) (fun k hk => by obtain ⟨z, hz, rfl⟩ := List.mem_map.1 hk; exact (hg z hz).2.2)
  rw [run_two, h1]
  simp only [if_true, h2]
/-- edits that undo each other -/
theorem run_back {x y : Ed} {ss : List Sg} {f : Sg → Sg} (h : chkS ss = 0) (hx : okE x) (hy : okE y) (hf : ∀ k ∈ ss, workE x k = some [f k] ∧ (f k).id = k.id ∧ (f k).ok) (hg : ∀ k ∈ ss, workE y (f k) = some [k]) : runE ss [x, y] = (ss, 0) := by
  have h1 := apply_map h hx (fun k hk => (hf k hk).1) (fun k hk => (hf k hk).2.1) (fun k hk => (hf k hk).2.2)
  have h2 : accE y (ss.map f) = some ss := by
    unfold accE
    rw [List.foldl_map]
    have : ∀ (l y0 : List Sg), (∀ k ∈ l, workE y (f k) = some [k]) → l.foldl (fun acc k => acc.bind fun y0 => (workE y (f k)).map (y0 ++ ·)) (some y0) = some (y0 ++ l) := by
      intro l
      induction l with
      | nil => intro y0 _; simp
      | cons a l ih =>
        intro y0 hl
        rw [List.foldl_cons, Option.bind_some, hl a (List.mem_cons_self ..), Option.map_some, ih _ fun k hk => hl k (List.mem_cons_of_mem _ hk)]
        simp
    simpa using this ss [] hg
  rw [run_two, h1]
  simp only [if_true, applyE_ok (chkS_map h (fun k hk => (hf k hk).2.1) (fun k hk => (hf k hk).2.2)) hy h2 h]

-- mirrors
def mirF (e : Ed) (k : Sg) : Sg := if inP e k then mirrorS k else k
theorem work1 {e : Ed} (h : e.kind = 1) (k : Sg) : workE e k = some [mirF e k] := by
  unfold workE mirF
  rw [if_pos h]
  split <;> rfl
theorem swapN_le {n a b lo hi : Int} (hn : lo ≤ n ∧ n ≤ hi) (ha : lo ≤ a ∧ a ≤ hi) (hb : lo ≤ b ∧ b ≤ hi) : lo ≤ swapN n a b ∧ swapN n a b ≤ hi := by
  unfold swapN
  split <;> (try split) <;> omega
theorem swapN_two (n a b : Int) : swapN (swapN n a b) a b = n := by
  unfold swapN
  split <;> split <;> (try split) <;> omega
theorem mirror_ok {k : Sg} (h : k.ok) : (mirrorS k).ok := by
  obtain ⟨h1, h2, h3, h4, h5, h6, h7, h8, h9, h10, h11⟩ := h
  refine ⟨h1, h2, h3, h4, h5, swapN_le h6 (by omega) (by omega), ?_, h8, ?_, h10, h11⟩
  · show 0 ≤ (if 1 < k.dir then 10 - k.dir else k.dir) ∧ (if 1 < k.dir then 10 - k.dir else k.dir) ≤ 8
    split <;> omega
  · show 0 ≤ (if k.kind = 6 ∧ 1 ≤ k.size ∧ k.size ≤ 7 then 8 - k.size else k.size) ∧ (if k.kind = 6 ∧ 1 ≤ k.size ∧ k.size ≤ 7 then 8 - k.size else k.size) ≤ 255
    split <;> omega
theorem mirror_two {k : Sg} (h : k.ok) : mirrorS (mirrorS k) = k := by
  obtain ⟨h1, h2, h3, h4, h5, h6, h7, h8, h9, h10, h11⟩ := h
  cases k with
  | mk id role bar mark kind side dir level size with_ fn fd tn td =>
  simp only [mirrorS, Sg.mk.injEq, true_and, and_true]
  refine ⟨swapN_two _ _ _, ?_, ?_⟩
  · simp only at h7
    split <;> (try split) <;> omega
  · simp only at h9 h4
    by_cases hc : kind = 6 ∧ 1 ≤ size ∧ size ≤ 7
    · rw [if_pos hc, if_pos ⟨hc.1, by omega, by omega⟩]; omega
    · rw [if_neg hc, if_neg hc]
theorem mirF_ok {e : Ed} {k : Sg} (h : k.ok) : (mirF e k).id = k.id ∧ (mirF e k).ok := by
  unfold mirF
  split
  · exact ⟨rfl, mirror_ok h⟩
  · exact ⟨rfl, h⟩
theorem mirF_two {e : Ed} {k : Sg} (h : k.ok) : mirF e (mirF e k) = k := by
  by_cases hc : inP e k
  · have h1 : mirF e k = mirrorS k := by unfold mirF; rw [if_pos hc]
    have h2 : inP e (mirrorS k) := hc
    rw [h1]
    unfold mirF
    rw [if_pos h2, mirror_two h]
  · have h1 : mirF e k = k := by unfold mirF; rw [if_neg hc]
    rw [h1, h1]
-- transpositions
def traF (e : Ed) (n : Int) (k : Sg) : Sg := if inP e k ∧ 0 < k.dir then { k with dir := (k.dir - 1 + n) % 8 + 1 } else k
theorem work2 {e : Ed} (h : e.kind = 2) (k : Sg) : workE e k = some [traF e e.n k] := by
  unfold workE traF
  rw [if_neg (by omega), if_pos h]
  split <;> rfl
theorem traF_ok {e : Ed} {n : Int} {k : Sg} (h : k.ok) : (traF e n k).id = k.id ∧ (traF e n k).ok := by
  unfold traF
  split
  · obtain ⟨h1, h2, h3, h4, h5, h6, h7, h8, h9, h10, h11⟩ := h
    exact ⟨rfl, h1, h2, h3, h4, h5, h6, (by show 0 ≤ (k.dir - 1 + n) % 8 + 1 ∧ (k.dir - 1 + n) % 8 + 1 ≤ 8; omega), h8, h9, h10, h11⟩
  · exact ⟨rfl, h⟩
theorem traF_in {e e' : Ed} (h1 : e'.fr = e.fr) (h2 : e'.to = e.to) (h3 : e'.role = e.role) (n : Int) (k : Sg) : traF e' n k = traF e n k := by
  unfold traF inP
  rw [h1, h2, h3]
theorem traF_two {e : Ed} {n m : Int} {k : Sg} (h : k.ok) : traF e m (traF e n k) = traF e ((n + m) % 8) k := by
  by_cases hc : inP e k ∧ 0 < k.dir
  · have h1 : traF e n k = { k with dir := (k.dir - 1 + n) % 8 + 1 } := by unfold traF; rw [if_pos hc]
    rw [h1]
    unfold traF
    have h2 : inP e { k with dir := (k.dir - 1 + n) % 8 + 1 } ∧ 0 < (k.dir - 1 + n) % 8 + 1 := ⟨hc.1, by omega⟩
    rw [if_pos h2, if_pos hc]
    simp only [Sg.mk.injEq, true_and, and_true]
    omega
  · have h1 : ∀ n, traF e n k = k := fun n => by unfold traF; rw [if_neg hc]
    rw [h1, h1, h1]
theorem traF_none {e : Ed} {k : Sg} (h : k.ok) : traF e 0 k = k := by
  unfold traF
  split
  · rename_i hc
    have h7 := h.2.2.2.2.2.2.1
    cases k
    simp only [Sg.mk.injEq, true_and, and_true] at h7 hc ⊢
    omega
  · rfl
theorem mir_tra {e : Ed} {n : Int} {k : Sg} (h : k.ok) (hn : 1 ≤ n ∧ n ≤ 7) : mirF e (traF e n k) = traF e (8 - n) (mirF e k) := by
  have h7 := h.2.2.2.2.2.2.1
  by_cases hp : inP e k
  · by_cases hd : 0 < k.dir
    · have h1 : traF e n k = { k with dir := (k.dir - 1 + n) % 8 + 1 } := by unfold traF; rw [if_pos ⟨hp, hd⟩]
      have h2 : mirF e k = mirrorS k := by unfold mirF; rw [if_pos hp]
      have h3 : mirF e { k with dir := (k.dir - 1 + n) % 8 + 1 } = mirrorS { k with dir := (k.dir - 1 + n) % 8 + 1 } := by unfold mirF; rw [if_pos hp]
      have hd2 : 0 < (mirrorS k).dir := by
        show 0 < (if 1 < k.dir then 10 - k.dir else k.dir)
        split <;> omega
      have h4 : traF e (8 - n) (mirrorS k) = { mirrorS k with dir := ((mirrorS k).dir - 1 + (8 - n)) % 8 + 1 } := by unfold traF; rw [if_pos ⟨hp, hd2⟩]
      rw [h1, h2, h3, h4]
      cases k with
      | mk id role bar mark kind side dir level size with_ fn fd tn td =>
      simp only [mirrorS, Sg.mk.injEq, true_and, and_true] at h7 hd ⊢
      split <;> split <;> omega
    · have h1 : traF e n k = k := by unfold traF; rw [if_neg (fun hc => hd hc.2)]
      have h2 : mirF e k = mirrorS k := by unfold mirF; rw [if_pos hp]
      have hd2 : ¬ 0 < (mirrorS k).dir := by
        show ¬ 0 < (if 1 < k.dir then 10 - k.dir else k.dir)
        split <;> omega
      rw [h1, h2]
      unfold traF
      rw [if_neg (fun hc => hd2 hc.2)]
  · have h1 : traF e n k = k := by unfold traF; rw [if_neg (fun hc => hp hc.1)]
    have h2 : mirF e k = k := by unfold mirF; rw [if_neg hp]
    rw [h1, h2]
    unfold traF
    rw [if_neg (fun hc => hp hc.1)]
theorem pass_ok1 {role fr many : Int} (h1 : 0 ≤ fr ∧ fr ≤ 255) (h2 : 0 ≤ many ∧ many ≤ 255) : okE ⟨1, role % 65, 0, fr, fr + many, 0, 0, 0, zeroSg⟩ := by
  refine ⟨by simp, by simp, rfl, ?_⟩
  simp only [rightE, if_true, roleE, barsE]
  omega
theorem pass_ok2 {role fr many n : Int} (h1 : 0 ≤ fr ∧ fr ≤ 255) (h2 : 0 ≤ many ∧ many ≤ 255) (h3 : 1 ≤ n ∧ n ≤ 7) : okE ⟨2, role % 65, 0, fr, fr + many, n, 0, 0, zeroSg⟩ := by
  refine ⟨by simp, by simp, rfl, ?_⟩
  simp only [rightE, if_true, roleE, barsE]
  rw [if_neg (by decide)]
  omega
theorem undo_mirror {ss : List Sg} (h : chkS ss = 0) {role fr many : Int} (h1 : 0 ≤ fr ∧ fr ≤ 255) (h2 : 0 ≤ many ∧ many ≤ 255) : runE ss [passE 1 role fr many, passE 1 role fr many] = (ss, 0) := by
  have hk := (chkS_ok h).1.1
  exact run_back (f := mirF (passE 1 role fr many)) h (pass_ok1 h1 h2) (pass_ok1 h1 h2) (fun k hk2 => ⟨work1 rfl k, mirF_ok (hk k hk2)⟩) fun k hk2 => by rw [work1 rfl, mirF_two (hk k hk2)]
theorem undo_turn {ss : List Sg} (h : chkS ss = 0) {role fr many n m : Int} (h1 : 0 ≤ fr ∧ fr ≤ 255) (h2 : 0 ≤ many ∧ many ≤ 255) (hn : 1 ≤ n ∧ n ≤ 7) (hm : m = 8 - n) : runE ss [⟨2, role % 65, 0, fr, fr + many, n, 0, 0, zeroSg⟩, ⟨2, role % 65, 0, fr, fr + many, m, 0, 0, zeroSg⟩] = (ss, 0) := by
  have hk := (chkS_ok h).1.1
  subst hm
  refine run_back (f := traF ⟨2, role % 65, 0, fr, fr + many, n, 0, 0, zeroSg⟩ n) h (pass_ok2 h1 h2 hn) (pass_ok2 h1 h2 (by omega)) (fun k hk2 => ⟨work2 rfl k, traF_ok (hk k hk2)⟩) fun k hk2 => ?_
  rw [work2 rfl, traF_in (e := ⟨2, role % 65, 0, fr, fr + many, n, 0, 0, zeroSg⟩) (e' := ⟨2, role % 65, 0, fr, fr + many, 8 - n, 0, 0, zeroSg⟩) rfl rfl rfl]
  show some [traF _ (8 - n) (traF _ n k)] = some [k]
  rw [traF_two (hk k hk2)]
  rw [show (n + (8 - n)) % 8 = 0 by omega, traF_none (hk k hk2)]
-- castings
def casF (e : Ed) (k : Sg) : Sg := if e.fr ≤ k.bar ∧ k.bar ≤ e.to then { k with role := swapN k.role (e.role - 1) (e.other - 1), with_ := swapN k.with_ e.role e.other } else k
theorem work6 {e : Ed} (h : e.kind = 6) (k : Sg) : workE e k = some [casF e k] := by
  unfold workE casF
  rw [if_neg (by omega), if_neg (by omega), if_neg (by omega), if_neg (by omega), if_pos h]
  split <;> rfl
theorem casF_ok {e : Ed} {k : Sg} (h : k.ok) (h1 : 1 ≤ e.role ∧ e.role ≤ 64) (h2 : 1 ≤ e.other ∧ e.other ≤ 64) : (casF e k).id = k.id ∧ (casF e k).ok := by
  unfold casF
  split
  · obtain ⟨g1, g2, g3, g4, g5, g6, g7, g8, g9, g10, g11⟩ := h
    exact ⟨rfl, g1, swapN_le g2 (by omega) (by omega), g3, g4, g5, g6, g7, g8, g9, swapN_le g10 (by omega) (by omega), g11⟩
  · exact ⟨rfl, h⟩
theorem casF_two (e : Ed) (k : Sg) : casF e (casF e k) = k := by
  by_cases hc : e.fr ≤ k.bar ∧ k.bar ≤ e.to
  · have h1 : casF e k = { k with role := swapN k.role (e.role - 1) (e.other - 1), with_ := swapN k.with_ e.role e.other } := by unfold casF; rw [if_pos hc]
    rw [h1]
    unfold casF
    rw [if_pos hc]
    cases k
    simp only [swapN_two]
  · have h1 : casF e k = k := by unfold casF; rw [if_neg hc]
    rw [h1, h1]
theorem undo_cast {ss : List Sg} (h : chkS ss = 0) {role other fr many : Int} (h1 : 0 ≤ fr ∧ fr ≤ 255) (h2 : 0 ≤ many ∧ many ≤ 255) (hr : 1 ≤ role ∧ role ≤ 64) (ho : 1 ≤ other ∧ other ≤ 64) (hne : role ≠ other) : runE ss [⟨6, role, other, fr, fr + many, 0, 0, 0, zeroSg⟩, ⟨6, role, other, fr, fr + many, 0, 0, 0, zeroSg⟩] = (ss, 0) := by
  have hk := (chkS_ok h).1.1
  have hok : okE ⟨6, role, other, fr, fr + many, 0, 0, 0, zeroSg⟩ := by
    refine ⟨by simp, by simp, rfl, ?_⟩
    simp only [rightE, if_true, roleE, barsE]
    rw [if_neg (by decide), if_neg (by decide), if_neg (by decide), if_neg (by decide), if_neg (by decide)]
    omega
  exact run_back (f := casF ⟨6, role, other, fr, fr + many, 0, 0, 0, zeroSg⟩) h hok hok (fun k hk2 => ⟨work6 rfl k, casF_ok (hk k hk2) hr ho⟩) fun k hk2 => by rw [work6 rfl, casF_two]
theorem undo_same {ss : List Sg} (h : chkS ss = 0) {role fr to : Int} : applyE ⟨6, role, role, fr, to, 0, 0, 0, zeroSg⟩ ss = ([], 360) := by
  refine applyE_no h fun hk => ?_
  have := hk.2.2.2
  simp only [rightE, if_true] at this
  rw [if_neg (by decide), if_neg (by decide), if_neg (by decide), if_neg (by decide), if_neg (by decide)] at this
  exact this.2.2.2.2 rfl
-- bars opened, and cut
def opnF (fr n : Int) (k : Sg) : Sg := if fr ≤ k.bar then { k with bar := k.bar + n } else k
theorem work4 {e : Ed} (h : e.kind = 4) (k : Sg) : workE e k = some [opnF e.fr e.n k] := by
  unfold workE opnF
  rw [if_neg (by omega), if_neg (by omega), if_neg (by omega), if_pos h]
  split <;> rfl
theorem open_ok {fr many : Int} (h1 : 0 ≤ fr ∧ fr ≤ 255) (h2 : 0 ≤ many ∧ many ≤ 255) : okE ⟨4, 0, 0, fr, 0, 1 + many, 0, 0, zeroSg⟩ := by
  refine ⟨by simp, by simp, rfl, ?_⟩
  simp only [rightE, if_true]
  rw [if_neg (by decide), if_neg (by decide), if_neg (by decide)]
  omega
theorem undo_open {ss : List Sg} (h : chkS ss = 0) {fr many : Int} (h1 : 0 ≤ fr ∧ fr ≤ 255) (h2 : 0 ≤ many ∧ many ≤ 255) (hl : ∀ k ∈ ss, ¬ (fr ≤ k.bar ∧ 4095 < k.bar + 1 + many)) : runE ss [⟨4, 0, 0, fr, 0, 1 + many, 0, 0, zeroSg⟩, ⟨3, 0, 0, fr, fr + many, 0, 0, 0, zeroSg⟩] = (ss, 0) := by
  have hk := (chkS_ok h).1.1
  have hcut : okE ⟨3, 0, 0, fr, fr + many, 0, 0, 0, zeroSg⟩ := by
    refine ⟨by simp, by simp, rfl, ?_⟩
    simp only [rightE, if_true, barsE]
    rw [if_neg (by decide), if_neg (by decide)]
    omega
  refine run_back (f := opnF fr (1 + many)) h (open_ok h1 h2) hcut (fun k hk2 => ⟨work4 rfl k, ?_⟩) fun k hk2 => ?_
  · obtain ⟨g1, g2, g3, g4⟩ := hk k hk2
    have := hl k hk2
    unfold opnF
    split
    · exact ⟨rfl, g1, g2, ⟨by show 0 ≤ k.bar + (1 + many); omega, by show k.bar + (1 + many) ≤ 4095; omega⟩, g4⟩
    · exact ⟨rfl, g1, g2, g3, g4⟩
  · unfold workE opnF
    rw [if_neg (show ¬ (3 : Int) = 1 by decide), if_neg (show ¬ (3 : Int) = 2 by decide), if_pos rfl]
    by_cases hc : fr ≤ k.bar
    · rw [if_pos hc]
      simp only
      rw [if_neg (by omega), if_pos (by omega)]
      cases k
      simp only [Option.some.injEq, List.cons.injEq, Sg.mk.injEq, true_and, and_true]
      simp only at hc
      omega
    · rw [if_neg hc]
      simp only
      rw [if_neg (by omega), if_neg (by omega)]
theorem late_open {ss : List Sg} (h : chkS ss = 0) {fr many : Int} (h1 : 0 ≤ fr ∧ fr ≤ 255) (h2 : 0 ≤ many ∧ many ≤ 255) (hl : ∃ k ∈ ss, fr ≤ k.bar ∧ 4095 < k.bar + 1 + many) : applyE ⟨4, 0, 0, fr, 0, 1 + many, 0, 0, zeroSg⟩ ss = ([], 360) := by
  have hacc : accE ⟨4, 0, 0, fr, 0, 1 + many, 0, 0, zeroSg⟩ ss = some (ss.map (opnF fr (1 + many))) := acc_map fun k _ => work4 rfl k
  have hn : ¬ okL (ss.map (opnF fr (1 + many))) := fun hk => by
    obtain ⟨k, hm, h3, h4⟩ := hl
    have := (hk.1 _ (List.mem_map_of_mem hm)).2.2.1
    unfold opnF at this
    rw [if_pos h3] at this
    simp only at this
    omega
  have hc : chkS (ss.map (opnF fr (1 + many))) = 360 := by
    unfold chkS
    have := (chkS_ok h).2
    rw [if_neg (by simp; omega), if_neg hn]
  rw [applyE_out h (open_ok h1 h2) hacc (by rw [hc]; decide), hc]
-- edits of different roles, or of different bars
/-- is it a mirror, a transposition, a re-timing -/
def locE (e : Ed) : Prop := e.kind = 1 ∨ e.kind = 2 ∨ e.kind = 7
theorem loc_out {e : Ed} (h : locE e) {k : Sg} (hp : ¬ inP e k) : workE e k = some [k] := by
  unfold workE
  rcases h with h | h | h <;> rw [h]
  · rw [if_pos rfl, if_neg hp]
  · rw [if_neg (by decide), if_pos rfl, if_neg (fun hc => hp hc.1)]
  · rw [if_neg (by decide), if_neg (by decide), if_neg (by decide), if_neg (by decide), if_neg (by decide), if_pos rfl, if_neg hp]
theorem loc_in {e : Ed} (h : locE e) {k : Sg} : workE e k = none ∨ ∃ z, workE e k = some [z] ∧ z.id = k.id ∧ z.bar = k.bar ∧ z.role = k.role := by
  unfold workE
  rcases h with h | h | h <;> rw [h]
  · rw [if_pos rfl]
    split
    · exact .inr ⟨_, rfl, rfl, rfl, rfl⟩
    · exact .inr ⟨_, rfl, rfl, rfl, rfl⟩
  · rw [if_neg (by decide), if_pos rfl]
    split
    · exact .inr ⟨_, rfl, rfl, rfl, rfl⟩
    · exact .inr ⟨_, rfl, rfl, rfl, rfl⟩
  · rw [if_neg (by decide), if_neg (by decide), if_neg (by decide), if_neg (by decide), if_neg (by decide), if_pos rfl]
    split
    · split
      · exact .inr ⟨_, rfl, rfl, rfl, rfl⟩
      · exact .inl rfl
    · exact .inr ⟨_, rfl, rfl, rfl, rfl⟩
/-- what an edit makes of a sign -/
def gE (e : Ed) (k : Sg) : Sg := match workE e k with
  | some [z] => z
  | _ => k
theorem gE_of {e : Ed} {k z : Sg} (h : workE e k = some [z]) : gE e k = z := by unfold gE; rw [h]
def canE (e : Ed) (ss : List Sg) : Prop := okE e ∧ ∀ k ∈ ss, workE e k = some [gE e k] ∧ (gE e k).ok
theorem loc_apply {e : Ed} (hl : locE e) {ss : List Sg} (h : chkS ss = 0) : (canE e ss ∧ applyE e ss = (ss.map (gE e), 0)) ∨ (¬ canE e ss ∧ (applyE e ss).2 ≠ 0) := by
  by_cases hc : canE e ss
  · refine .inl ⟨hc, apply_map h hc.1 (fun k hk => (hc.2 k hk).1) (fun k hk => ?_) fun k hk => (hc.2 k hk).2⟩
    rcases loc_in hl (k := k) with h2 | ⟨z, h2, h3, _⟩
    · rw [(hc.2 k hk).1] at h2; cases h2
    · rw [gE_of h2]; exact h3
  · refine .inr ⟨hc, ?_⟩
    by_cases he : okE e
    · by_cases hn : ∃ k ∈ ss, workE e k = none
      · rw [applyE_fail h he (acc_nil hn)]; decide
      · have hw : ∀ k ∈ ss, workE e k = some [gE e k] := fun k hk => by
          rcases loc_in hl (k := k) with h2 | ⟨z, h2, _⟩
          · exact absurd ⟨k, hk, h2⟩ hn
          · rw [gE_of h2]; exact h2
        have hb : ¬ chkS (ss.map (gE e)) = 0 := fun hb => hc ⟨he, fun k hk => ⟨hw k hk, (chkS_ok hb).1.1 _ (List.mem_map_of_mem hk)⟩⟩
        rw [applyE_out h he (acc_map hw) hb]; exact hb
    · rw [applyE_no h he]; decide
def disE (x y : Ed) : Prop := ∀ k : Sg, ¬ (inP x k ∧ inP y k)
theorem inP_same {e : Ed} {k z : Sg} (h1 : z.bar = k.bar) (h2 : z.role = k.role) : inP e z ↔ inP e k := by unfold inP; rw [h1, h2]
theorem apart_can {x y : Ed} (hx : locE x) (hy : locE y) (hd : disE x y) {ss : List Sg} (h : ∀ k ∈ ss, k.ok) (hc : canE x ss) : canE y (ss.map (gE x)) ↔ canE y ss := by
  have key : ∀ k ∈ ss, (workE y (gE x k) = some [gE y (gE x k)] ∧ (gE y (gE x k)).ok) ↔ (workE y k = some [gE y k] ∧ (gE y k).ok) := fun k hk => by
    obtain ⟨h1, h2⟩ := hc.2 k hk
    by_cases hp : inP x k
    · rcases loc_in hx (k := k) with h3 | ⟨z, h3, h4, h5, h6⟩
      · rw [h1] at h3; cases h3
      · have hz : gE x k = z := gE_of h3
        have hyk : workE y k = some [k] := loc_out hy fun hq => hd k ⟨hp, hq⟩
        have hyz : workE y z = some [z] := loc_out hy fun hq => hd k ⟨hp, (inP_same h5 h6).1 hq⟩
        rw [hz, hyz, gE_of hyz, hyk, gE_of hyk]
        rw [hz] at h2
        exact ⟨fun _ => ⟨rfl, h k hk⟩, fun _ => ⟨rfl, h2⟩⟩
    · have h3 : gE x k = k := gE_of (loc_out hx hp)
      rw [h3]
  constructor
  · exact fun ⟨h1, h2⟩ => ⟨h1, fun k hk => (key k hk).1 (h2 _ (List.mem_map_of_mem hk))⟩
  · exact fun ⟨h1, h2⟩ => ⟨h1, fun z hz => by obtain ⟨k, hk, rfl⟩ := List.mem_map.1 hz; exact (key k hk).2 (h2 k hk)⟩
theorem apart_eq {x y : Ed} (hx : locE x) (hy : locE y) (hd : disE x y) (k : Sg) : gE y (gE x k) = gE x (gE y k) := by
  by_cases hp : inP x k
  · have hyk : workE y k = some [k] := loc_out hy fun hq => hd k ⟨hp, hq⟩
    rw [gE_of hyk]
    rcases loc_in hx (k := k) with h3 | ⟨z, h3, h4, h5, h6⟩
    · have : gE x k = k := by unfold gE; rw [h3]
      rw [this, gE_of hyk]
    · rw [gE_of h3]
      exact gE_of (loc_out hy fun hq => hd k ⟨hp, (inP_same h5 h6).1 hq⟩)
  · rw [gE_of (loc_out hx hp)]
    rcases loc_in hy (k := k) with h3 | ⟨z, h3, h4, h5, h6⟩
    · have : gE y k = k := by unfold gE; rw [h3]
      rw [this, gE_of (loc_out hx hp)]
    · rw [gE_of h3]
      exact (gE_of (loc_out hx fun hq => hp ((inP_same h5 h6).1 hq))).symm
theorem run_loc {x y : Ed} (hx : locE x) (hy : locE y) (hd : disE x y) {ss : List Sg} (h : chkS ss = 0) : (canE x ss ∧ canE y ss ∧ runE ss [x, y] = ((ss.map (gE x)).map (gE y), 0)) ∨ (¬ (canE x ss ∧ canE y ss) ∧ (runE ss [x, y]).1 = [] ∧ (runE ss [x, y]).2 ≠ 0) := by
  have hk := (chkS_ok h).1.1
  rcases loc_apply hx h with ⟨h1, h2⟩ | ⟨h1, h2⟩
  · have hc1 : chkS (ss.map (gE x)) = 0 := chkS_map h (fun k hk => by
      rcases loc_in hx (k := k) with h3 | ⟨z, h3, h4, _⟩
      · rw [(h1.2 k hk).1] at h3; cases h3
      · rw [gE_of h3]; exact h4) fun k hk => (h1.2 k hk).2
    rcases loc_apply hy hc1 with ⟨h3, h4⟩ | ⟨h3, h4⟩
    · exact .inl ⟨h1, (apart_can hx hy hd hk h1).1 h3, by rw [run_two, h2]; simp only [if_true, h4]⟩
    · refine .inr ⟨fun hc => h3 ((apart_can hx hy hd hk h1).2 hc.2), ?_⟩
      rw [run_two, h2]
      simp only [if_true, if_neg h4]
      exact ⟨trivial, h4⟩
  · refine .inr ⟨fun hc => h1 hc.1, ?_⟩
    rw [run_two, if_neg h2]
    exact ⟨rfl, h2⟩
theorem apart_run {x y : Ed} (hx : locE x) (hy : locE y) (hd : disE x y) {ss : List Sg} (h : chkS ss = 0) : (runE ss [x, y]).1 = (runE ss [y, x]).1 ∧ ((runE ss [x, y]).2 = 0 ↔ (runE ss [y, x]).2 = 0) := by
  have hd' : disE y x := fun k hk => hd k ⟨hk.2, hk.1⟩
  rcases run_loc hx hy hd h with ⟨h1, h2, h3⟩ | ⟨h1, h2, h3⟩
  · rcases run_loc hy hx hd' h with ⟨g1, g2, g3⟩ | ⟨g1, _⟩
    · rw [h3, g3]
      refine ⟨?_, Iff.rfl⟩
      simp only [List.map_map]
      exact List.map_congr_left fun k _ => apart_eq hx hy hd k
    · exact absurd ⟨h2, h1⟩ g1
  · rcases run_loc hy hx hd' h with ⟨g1, g2, g3⟩ | ⟨g1, g2, g3⟩
    · exact absurd ⟨g2, g1⟩ h1
    · exact ⟨by rw [h2, g2], fun hh => absurd hh h3, fun hh => absurd hh g3⟩
theorem dis_of {x y : Ed} (h : (0 < x.role ∧ 0 < y.role ∧ x.role ≠ y.role) ∨ ¬ (y.fr ≤ x.to ∧ x.fr ≤ y.to)) : disE x y := by
  rintro k ⟨⟨h1, h2, h3⟩, h4, h5, h6⟩
  rcases h with h | h
  · omega
  · exact h ⟨by omega, by omega⟩
end Go.Proofs.Ytnaooclbphaelaa
