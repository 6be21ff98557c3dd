/- Lemmas for the law's proof: Mc. -/
import Derived.Test.YtdgkhoflajdidaaKeeps14
/- Copper: the conversion, the walk. -/
namespace Go.Proofs.Ytdgkhoflajdidaa
open Go.RowKit Go.Proofs.YtdgkhoflajdidaaW.PrintWords Go.Proofs.YtdgkhoflajdidaaW.PrintMore Go.Proofs.YtdgkhoflajdidaaW.PrintLast Go.Proofs.Ytdgkhoflajdidaa.Print
set_option linter.unusedVariables false
set_option linter.unusedSimpArgs false
set_option maxRecDepth 100000
set_option maxHeartbeats 4000000
/-- What Copper leaves: the coppers themselves. -/
def CpPost (x : S38) (w : World) (e : Ending) (w' : World) : Prop := ∃ ds : List Value, e = .returned (.agg ds.toArray) ∧ Below w.heap.size w w' ∧ k38.K w' x ds
theorem cp_end {x : S38} {w W : World} {B Z : Array Value} {p : Nat} {a5 a6 a9 a10 : Option Addr} {d5 d6 d9 d10 : Nat} (h : CpSt x w B Z p (.slice a5 x.f5.length d5) (.slice a6 x.f6.length d6) (.slice a9 x.f8.length d9) x.f8.length (.slice a10 x.f9.length d10) x.f9.length W) :
    CpPost x w (.returned (.agg #[.int .i64 x.f0, .int .i64 x.f1, .int .i64 x.f2, .int .i64 x.f3, .int .i64 x.f4, .slice a5 x.f5.length d5, .slice a6 x.f6.length d6, .int .i64 x.f7.f0, .int .i64 x.f7.f1, .slice a9 x.f8.length d9, .slice a10 x.f9.length d10])) (((((((((((W.setCell ⟨w.heap.size + 1, 0, none⟩ (.int .i64 x.f0)).setCell ⟨w.heap.size + 1, 1, none⟩ (.int .i64 x.f1)).setCell ⟨w.heap.size + 1, 2, none⟩ (.int .i64 x.f2)).setCell ⟨w.heap.size + 1, 3, none⟩ (.int .i64 x.f3)).setCell ⟨w.heap.size + 1, 4, none⟩ (.int .i64 x.f4)).setCell ⟨w.heap.size + 1, 5, none⟩ (.slice a5 x.f5.length d5)).setCell ⟨w.heap.size + 1, 6, none⟩ (.slice a6 x.f6.length d6)).setCell ⟨w.heap.size + 1, 7, none⟩ (.int .i64 x.f7.f0)).setCell ⟨w.heap.size + 1, 8, none⟩ (.int .i64 x.f7.f1)).setCell ⟨w.heap.size + 1, 9, none⟩ (.slice a9 x.f8.length d9)).setCell ⟨w.heap.size + 1, 10, none⟩ (.slice a10 x.f9.length d10)) := by
  have s5 := blk_row h.res h.r5 (by decide)
  have s6 := blk_row h.res h.r6 (by decide)
  have s9 := blk_row h.res h.r9 (by decide)
  have s10 := blk_row h.res h.r10 (by decide)
  have r5 : ((((((((((((W.setCell ⟨w.heap.size + 1, 0, none⟩ (.int .i64 x.f0)).setCell ⟨w.heap.size + 1, 1, none⟩ (.int .i64 x.f1)).setCell ⟨w.heap.size + 1, 2, none⟩ (.int .i64 x.f2)).setCell ⟨w.heap.size + 1, 3, none⟩ (.int .i64 x.f3)).setCell ⟨w.heap.size + 1, 4, none⟩ (.int .i64 x.f4)).setCell ⟨w.heap.size + 1, 5, none⟩ (.slice a5 x.f5.length d5)).setCell ⟨w.heap.size + 1, 6, none⟩ (.slice a6 x.f6.length d6)).setCell ⟨w.heap.size + 1, 7, none⟩ (.int .i64 x.f7.f0)).setCell ⟨w.heap.size + 1, 8, none⟩ (.int .i64 x.f7.f1)).setCell ⟨w.heap.size + 1, 9, none⟩ (.slice a9 x.f8.length d9)).setCell ⟨w.heap.size + 1, 10, none⟩ (.slice a10 x.f9.length d10))).ownsRow w.heap.size 3 1 (.slice a5 x.f5.length d5) x.f5.length (nums .i64 x.f5) := by
    iterate 11 refine own_setCell ?_ (by exact s5) _
    exact h.r5
  have r6 : ((((((((((((W.setCell ⟨w.heap.size + 1, 0, none⟩ (.int .i64 x.f0)).setCell ⟨w.heap.size + 1, 1, none⟩ (.int .i64 x.f1)).setCell ⟨w.heap.size + 1, 2, none⟩ (.int .i64 x.f2)).setCell ⟨w.heap.size + 1, 3, none⟩ (.int .i64 x.f3)).setCell ⟨w.heap.size + 1, 4, none⟩ (.int .i64 x.f4)).setCell ⟨w.heap.size + 1, 5, none⟩ (.slice a5 x.f5.length d5)).setCell ⟨w.heap.size + 1, 6, none⟩ (.slice a6 x.f6.length d6)).setCell ⟨w.heap.size + 1, 7, none⟩ (.int .i64 x.f7.f0)).setCell ⟨w.heap.size + 1, 8, none⟩ (.int .i64 x.f7.f1)).setCell ⟨w.heap.size + 1, 9, none⟩ (.slice a9 x.f8.length d9)).setCell ⟨w.heap.size + 1, 10, none⟩ (.slice a10 x.f9.length d10))).ownsRow w.heap.size 3 1 (.slice a6 x.f6.length d6) x.f6.length (nums .i64 x.f6) := by
    iterate 11 refine own_setCell ?_ (by exact s6) _
    exact h.r6
  have r9 : ((((((((((((W.setCell ⟨w.heap.size + 1, 0, none⟩ (.int .i64 x.f0)).setCell ⟨w.heap.size + 1, 1, none⟩ (.int .i64 x.f1)).setCell ⟨w.heap.size + 1, 2, none⟩ (.int .i64 x.f2)).setCell ⟨w.heap.size + 1, 3, none⟩ (.int .i64 x.f3)).setCell ⟨w.heap.size + 1, 4, none⟩ (.int .i64 x.f4)).setCell ⟨w.heap.size + 1, 5, none⟩ (.slice a5 x.f5.length d5)).setCell ⟨w.heap.size + 1, 6, none⟩ (.slice a6 x.f6.length d6)).setCell ⟨w.heap.size + 1, 7, none⟩ (.int .i64 x.f7.f0)).setCell ⟨w.heap.size + 1, 8, none⟩ (.int .i64 x.f7.f1)).setCell ⟨w.heap.size + 1, 9, none⟩ (.slice a9 x.f8.length d9)).setCell ⟨w.heap.size + 1, 10, none⟩ (.slice a10 x.f9.length d10))).ownsRow w.heap.size 35 2 (.slice a9 x.f8.length d9) x.f8.length (rgCells (x.f8.take x.f8.length)) := by
    iterate 11 refine own_setCell ?_ (by exact s9) _
    exact h.r9
  have r10 : ((((((((((((W.setCell ⟨w.heap.size + 1, 0, none⟩ (.int .i64 x.f0)).setCell ⟨w.heap.size + 1, 1, none⟩ (.int .i64 x.f1)).setCell ⟨w.heap.size + 1, 2, none⟩ (.int .i64 x.f2)).setCell ⟨w.heap.size + 1, 3, none⟩ (.int .i64 x.f3)).setCell ⟨w.heap.size + 1, 4, none⟩ (.int .i64 x.f4)).setCell ⟨w.heap.size + 1, 5, none⟩ (.slice a5 x.f5.length d5)).setCell ⟨w.heap.size + 1, 6, none⟩ (.slice a6 x.f6.length d6)).setCell ⟨w.heap.size + 1, 7, none⟩ (.int .i64 x.f7.f0)).setCell ⟨w.heap.size + 1, 8, none⟩ (.int .i64 x.f7.f1)).setCell ⟨w.heap.size + 1, 9, none⟩ (.slice a9 x.f8.length d9)).setCell ⟨w.heap.size + 1, 10, none⟩ (.slice a10 x.f9.length d10))).ownsRow w.heap.size 119 3 (.slice a10 x.f9.length d10) x.f9.length (rdCells (x.f9.take x.f9.length)) := by
    iterate 11 refine own_setCell ?_ (by exact s10) _
    exact h.r10
  have hb := put11_below h.bel (Nat.le_succ _) (.int .i64 x.f0) (.int .i64 x.f1) (.int .i64 x.f2) (.int .i64 x.f3) (.int .i64 x.f4) (.slice a5 x.f5.length d5) (.slice a6 x.f6.length d6) (.int .i64 x.f7.f0) (.int .i64 x.f7.f1) (.slice a9 x.f8.length d9) (.slice a10 x.f9.length d10)
  generalize (((((((((((W.setCell ⟨w.heap.size + 1, 0, none⟩ (.int .i64 x.f0)).setCell ⟨w.heap.size + 1, 1, none⟩ (.int .i64 x.f1)).setCell ⟨w.heap.size + 1, 2, none⟩ (.int .i64 x.f2)).setCell ⟨w.heap.size + 1, 3, none⟩ (.int .i64 x.f3)).setCell ⟨w.heap.size + 1, 4, none⟩ (.int .i64 x.f4)).setCell ⟨w.heap.size + 1, 5, none⟩ (.slice a5 x.f5.length d5)).setCell ⟨w.heap.size + 1, 6, none⟩ (.slice a6 x.f6.length d6)).setCell ⟨w.heap.size + 1, 7, none⟩ (.int .i64 x.f7.f0)).setCell ⟨w.heap.size + 1, 8, none⟩ (.int .i64 x.f7.f1)).setCell ⟨w.heap.size + 1, 9, none⟩ (.slice a9 x.f8.length d9)).setCell ⟨w.heap.size + 1, 10, none⟩ (.slice a10 x.f9.length d10)) = V at *
  rw [List.take_length] at r9 r10
  obtain ⟨A5, c5, e5, _, g5⟩ := own_C (Kd.int .i64) (.int .i64) rfl (fun _ _ => rfl) (xs := x.f5) rfl (by simp [nums]) r5
  obtain ⟨A6, c6, e6, _, g6⟩ := own_C (Kd.int .i64) (.int .i64) rfl (fun _ _ => rfl) (xs := x.f6) rfl (by simp [nums]) r6
  obtain ⟨A9, c9, e9, g9⟩ := rg_own_C r9 rfl
  obtain ⟨A10, c10, e10, g10⟩ := rd_own_C r10 rfl
  simp only [Value.slice.injEq, true_and] at e5 e6 e9 e10
  obtain ⟨rfl, rfl⟩ := e5
  obtain ⟨rfl, rfl⟩ := e6
  obtain ⟨rfl, rfl⟩ := e9
  obtain ⟨rfl, rfl⟩ := e10
  exact ⟨_, rfl, hb, k38_mk V x (own_cap r5) g5 (own_cap r6) g6 (own_cap r9) g9 (own_cap r10) g10⟩
theorem copper_calls (x : S38) (cs : List Value) (w : World) (hx : k38.K w x cs) (ht : thinB x = true) : Calls Try.prog 22 #[.agg cs.toArray] w (CpPost x w) := by
  have htn : x.f5.length ≤ 30 ∧ x.f6.length ≤ 30 ∧ x.f8.length ≤ 30 ∧ x.f9.length ≤ 30 := by
    unfold thinB at ht
    simp only [Bool.and_eq_true, decide_eq_true_eq] at ht
    exact ht
  obtain ⟨ht5, ht6, ht8, ht9⟩ := htn
  obtain ⟨A5, c5, A6, c6, A9, c9, A10, c10, rfl, l5, g5, l6, g6, l9, g9, l10, g10⟩ := k38_open hx
  have G5 := Aside0.mk g5
  have G6 := Aside0.mk g6
  have G9 := Aside0.mk g9
  have G10 := Aside0.mk g10
  clear hx g5 g6 g9 g10 l5 l6 l9 l10 ht
  have hu := Try.underlying28
  have hu2 := Try.underlying38
  have hu3 := Try.underlying24
  have hu4 := Try.underlying96
  have hu5 := Try.underlying35
  have HB1 := Aside0.mk (Blk.new w #[.int .i64 x.f0, .int .i64 x.f1, .int .i64 x.f2, .int .i64 x.f3, .int .i64 x.f4, .slice A5 x.f5.length c5, .slice A6 x.f6.length c6, .int .i64 x.f7.f0, .int .i64 x.f7.f1, .slice A9 x.f8.length c9, .slice A10 x.f9.length c10] 28 _ rfl)
  have HB0 := Aside0.mk (below_alloc (below_alloc (Below.refl w.heap.size w) (.cells #[.int .i64 x.f0, .int .i64 x.f1, .int .i64 x.f2, .int .i64 x.f3, .int .i64 x.f4, .slice A5 x.f5.length c5, .slice A6 x.f6.length c6, .int .i64 x.f7.f0, .int .i64 x.f7.f1, .slice A9 x.f8.length c9, .slice A10 x.f9.length c10] 28)) (.cells #[.int .i64 0, .int .i64 0, .int .i64 0, .int .i64 0, .int .i64 0, .slice none 0 0, .slice none 0 0, .int .i64 0, .int .i64 0, .slice none 0 0, .slice none 0 0] 38))
  have HBZ := Aside0.mk (And.intro (HB1.out.alloc (.cells #[.int .i64 0, .int .i64 0, .int .i64 0, .int .i64 0, .int .i64 0, .slice none 0 0, .slice none 0 0, .int .i64 0, .int .i64 0, .slice none 0 0, .slice none 0 0] 38)) (Blk.new (w.alloc (.cells #[.int .i64 x.f0, .int .i64 x.f1, .int .i64 x.f2, .int .i64 x.f3, .int .i64 x.f4, .slice A5 x.f5.length c5, .slice A6 x.f6.length c6, .int .i64 x.f7.f0, .int .i64 x.f7.f1, .slice A9 x.f8.length c9, .slice A10 x.f9.length c10] 28)) #[.int .i64 0, .int .i64 0, .int .i64 0, .int .i64 0, .int .i64 0, .slice none 0 0, .slice none 0 0, .int .i64 0, .int .i64 0, .slice none 0 0, .slice none 0 0] 38 (w.heap.size + 1) (by simp)))
  go_enter Try.func22, Try.ntmps22
  go_wp2
  have hsz0 : w.heap.size + 1 < ((w.alloc (.cells #[.int .i64 x.f0, .int .i64 x.f1, .int .i64 x.f2, .int .i64 x.f3, .int .i64 x.f4, .slice A5 x.f5.length c5, .slice A6 x.f6.length c6, .int .i64 x.f7.f0, .int .i64 x.f7.f1, .slice A9 x.f8.length c9, .slice A10 x.f9.length c10] 28)).alloc (.cells #[.int .i64 0, .int .i64 0, .int .i64 0, .int .i64 0, .int .i64 0, .slice none 0 0, .slice none 0 0, .int .i64 0, .int .i64 0, .slice none 0 0, .slice none 0 0] 38)).heap.size := by simp
  generalize ((w.alloc (.cells #[.int .i64 x.f0, .int .i64 x.f1, .int .i64 x.f2, .int .i64 x.f3, .int .i64 x.f4, .slice A5 x.f5.length c5, .slice A6 x.f6.length c6, .int .i64 x.f7.f0, .int .i64 x.f7.f1, .slice A9 x.f8.length c9, .slice A10 x.f9.length c10] 28)).alloc (.cells #[.int .i64 0, .int .i64 0, .int .i64 0, .int .i64 0, .int .i64 0, .slice none 0 0, .slice none 0 0, .int .i64 0, .int .i64 0, .slice none 0 0, .slice none 0 0] 38)) = W at *
  have k0 := HBZ.out.1.cell 0 _ rfl
  have k1 := HBZ.out.1.cell 1 _ rfl
  have k2 := HBZ.out.1.cell 2 _ rfl
  have k3 := HBZ.out.1.cell 3 _ rfl
  have k4 := HBZ.out.1.cell 4 _ rfl
  have k5 := HBZ.out.1.cell 5 _ rfl
  have k6 := HBZ.out.1.cell 6 _ rfl
  have k7 := HBZ.out.1.cell 7 _ rfl
  have k8 := HBZ.out.1.cell 8 _ rfl
  refine start_ (n := 22) (S := fun w' => w'.cell? ⟨w.heap.size, 0, none⟩ = some (.int .i64 x.f0) ∧ w'.cell? ⟨w.heap.size, 1, none⟩ = some (.int .i64 x.f1) ∧ w'.cell? ⟨w.heap.size, 2, none⟩ = some (.int .i64 x.f2) ∧ w'.cell? ⟨w.heap.size, 3, none⟩ = some (.int .i64 x.f3) ∧ w'.cell? ⟨w.heap.size, 4, none⟩ = some (.int .i64 x.f4) ∧ w'.cell? ⟨w.heap.size, 5, none⟩ = some (.slice A5 x.f5.length c5) ∧ w'.cell? ⟨w.heap.size, 6, none⟩ = some (.slice A6 x.f6.length c6) ∧ w'.cell? ⟨w.heap.size, 7, none⟩ = some (.int .i64 x.f7.f0) ∧ w'.cell? ⟨w.heap.size, 8, none⟩ = some (.int .i64 x.f7.f1)) (ds := [21]) #[false, false, false, false, false, false, false, false, false, false, false, false, false, false, false, false, false, false, false, false, false, false] (by kernel_rfl) rfl rfl ⟨k0, k1, k2, k3, k4, k5, k6, k7, k8⟩ (fun hHeld => ?_)
  refine pure_ (i := 0) (N := some 6) (v := ?_) (a' := ?_) #[true, false, false, false, false, false, false, false, false, false, false, false, false, false, false, false, false, false, false, false, false, false] rfl rfl (by kernel_rfl) (fun _ _ _ h => h) (Or.inl ⟨by rfl, ?_⟩) ?_ ?_
  rotate_left
  · intro w'
    go_simp
    with_reducible rfl
  rotate_left
  · simp only [Act.put, List.setIfInBounds_toArray, List.set_cons_zero, List.set_cons_succ, i64_w, i32_w]
    rfl
  refine pure_ (i := 2) (N := some 8) (v := ?_) (a' := ?_) #[true, false, true, false, false, false, false, false, false, false, false, false, false, false, false, false, false, false, false, false, false, false] rfl rfl (by kernel_rfl) (fun _ _ _ h => h) (Or.inl ⟨by rfl, ?_⟩) ?_ ?_
  rotate_left
  · intro w'
    go_simp
    with_reducible rfl
  rotate_left
  · simp only [Act.put, List.setIfInBounds_toArray, List.set_cons_zero, List.set_cons_succ, i64_w, i32_w]
    rfl
  refine pure_ (i := 4) (N := some 10) (v := ?_) (a' := ?_) #[true, false, true, false, true, false, false, false, false, false, false, false, false, false, false, false, false, false, false, false, false, false] rfl rfl (by kernel_rfl) (fun _ _ _ h => h) (Or.inl ⟨by rfl, ?_⟩) ?_ ?_
  rotate_left
  · intro w'
    go_simp
    with_reducible rfl
  rotate_left
  · simp only [Act.put, List.setIfInBounds_toArray, List.set_cons_zero, List.set_cons_succ, i64_w, i32_w]
    rfl
  refine pure_ (i := 6) (N := some 12) (v := ?_) (a' := ?_) #[true, false, true, false, true, false, true, false, false, false, false, false, false, false, false, false, false, false, false, false, false, false] rfl rfl (by kernel_rfl) (fun _ _ _ h => h) (Or.inl ⟨by rfl, ?_⟩) ?_ ?_
  rotate_left
  · intro w'
    go_simp
    with_reducible rfl
  rotate_left
  · simp only [Act.put, List.setIfInBounds_toArray, List.set_cons_zero, List.set_cons_succ, i64_w, i32_w]
    rfl
  refine pure_ (i := 8) (N := some 14) (v := ?_) (a' := ?_) #[true, false, true, false, true, false, true, false, true, false, false, false, false, false, false, false, false, false, false, false, false, false] rfl rfl (by kernel_rfl) (fun _ _ _ h => h) (Or.inl ⟨by rfl, ?_⟩) ?_ ?_
  rotate_left
  · intro w'
    go_simp
    with_reducible rfl
  rotate_left
  · simp only [Act.put, List.setIfInBounds_toArray, List.set_cons_zero, List.set_cons_succ, i64_w, i32_w]
    rfl
  refine pure_ (i := 10) (N := some 16) (v := ?_) (a' := ?_) #[true, false, true, false, true, false, true, false, true, false, true, false, false, false, false, false, false, false, false, false, false, false] rfl rfl (by kernel_rfl) (fun _ _ _ h => h) (Or.inl ⟨by rfl, ?_⟩) ?_ ?_
  rotate_left
  · intro w'
    go_simp
    with_reducible rfl
  rotate_left
  · simp only [Act.put, List.setIfInBounds_toArray, List.set_cons_zero, List.set_cons_succ, i64_w, i32_w]
    rfl
  refine pure_ (i := 13) (N := some 19) (v := ?_) (a' := ?_) #[true, false, true, false, true, false, true, false, true, false, true, false, false, true, false, false, false, false, false, false, false, false] rfl rfl (by kernel_rfl) (fun _ _ _ h => h) (Or.inl ⟨by rfl, ?_⟩) ?_ ?_
  rotate_left
  · intro w'
    go_simp
    with_reducible rfl
  rotate_left
  · simp only [Act.put, List.setIfInBounds_toArray, List.set_cons_zero, List.set_cons_succ, i64_w, i32_w]
    rfl
  refine pure_ (i := 16) (N := some 22) (v := ?_) (a' := ?_) #[true, false, true, false, true, false, true, false, true, false, true, false, false, true, false, false, true, false, false, false, false, false] rfl rfl (by kernel_rfl) (fun _ _ _ h => h) (Or.inl ⟨by rfl, ?_⟩) ?_ ?_
  rotate_left
  · intro w'
    go_simp
    with_reducible rfl
  rotate_left
  · simp only [Act.put, List.setIfInBounds_toArray, List.set_cons_zero, List.set_cons_succ, i64_w, i32_w]
    rfl
  refine take_ (i := 1) (N := some 7) (v := ?_) (a' := ?_) #[true, true, true, false, true, false, true, false, true, false, true, false, false, true, false, false, true, false, false, false, false, false] rfl rfl (by kernel_rfl) (fun _ _ _ h => h) (Or.inl ⟨by rfl, ?_⟩) hHeld ?_ ?_
  rotate_left
  · rintro w' ⟨s0, s1, s2, s3, s4, s5, s6, s7, s8⟩
    go_simp
    with_reducible rfl
  rotate_left
  · simp only [Act.put, List.setIfInBounds_toArray, List.set_cons_zero, List.set_cons_succ, i64_w, i32_w]
    rfl
  refine take_ (i := 3) (N := some 9) (v := ?_) (a' := ?_) #[true, true, true, true, true, false, true, false, true, false, true, false, false, true, false, false, true, false, false, false, false, false] rfl rfl (by kernel_rfl) (fun _ _ _ h => h) (Or.inl ⟨by rfl, ?_⟩) hHeld ?_ ?_
  rotate_left
  · rintro w' ⟨s0, s1, s2, s3, s4, s5, s6, s7, s8⟩
    go_simp
    with_reducible rfl
  rotate_left
  · simp only [Act.put, List.setIfInBounds_toArray, List.set_cons_zero, List.set_cons_succ, i64_w, i32_w]
    rfl
  refine take_ (i := 5) (N := some 11) (v := ?_) (a' := ?_) #[true, true, true, true, true, true, true, false, true, false, true, false, false, true, false, false, true, false, false, false, false, false] rfl rfl (by kernel_rfl) (fun _ _ _ h => h) (Or.inl ⟨by rfl, ?_⟩) hHeld ?_ ?_
  rotate_left
  · rintro w' ⟨s0, s1, s2, s3, s4, s5, s6, s7, s8⟩
    go_simp
    with_reducible rfl
  rotate_left
  · simp only [Act.put, List.setIfInBounds_toArray, List.set_cons_zero, List.set_cons_succ, i64_w, i32_w]
    rfl
  refine take_ (i := 7) (N := some 13) (v := ?_) (a' := ?_) #[true, true, true, true, true, true, true, true, true, false, true, false, false, true, false, false, true, false, false, false, false, false] rfl rfl (by kernel_rfl) (fun _ _ _ h => h) (Or.inl ⟨by rfl, ?_⟩) hHeld ?_ ?_
  rotate_left
  · rintro w' ⟨s0, s1, s2, s3, s4, s5, s6, s7, s8⟩
    go_simp
    with_reducible rfl
  rotate_left
  · simp only [Act.put, List.setIfInBounds_toArray, List.set_cons_zero, List.set_cons_succ, i64_w, i32_w]
    rfl
  refine take_ (i := 9) (N := some 15) (v := ?_) (a' := ?_) #[true, true, true, true, true, true, true, true, true, true, true, false, false, true, false, false, true, false, false, false, false, false] rfl rfl (by kernel_rfl) (fun _ _ _ h => h) (Or.inl ⟨by rfl, ?_⟩) hHeld ?_ ?_
  rotate_left
  · rintro w' ⟨s0, s1, s2, s3, s4, s5, s6, s7, s8⟩
    go_simp
    with_reducible rfl
  rotate_left
  · simp only [Act.put, List.setIfInBounds_toArray, List.set_cons_zero, List.set_cons_succ, i64_w, i32_w]
    rfl
  refine take_ (i := 11) (N := some 17) (v := ?_) (a' := ?_) #[true, true, true, true, true, true, true, true, true, true, true, true, false, true, false, false, true, false, false, false, false, false] rfl rfl (by kernel_rfl) (fun _ _ _ h => h) (Or.inl ⟨by rfl, ?_⟩) hHeld ?_ ?_
  rotate_left
  · rintro w' ⟨s0, s1, s2, s3, s4, s5, s6, s7, s8⟩
    go_simp
    with_reducible rfl
  rotate_left
  · simp only [Act.put, List.setIfInBounds_toArray, List.set_cons_zero, List.set_cons_succ, i64_w, i32_w]
    rfl
  refine take_ (i := 14) (N := some 20) (v := ?_) (a' := ?_) #[true, true, true, true, true, true, true, true, true, true, true, true, false, true, true, false, true, false, false, false, false, false] rfl rfl (by kernel_rfl) (fun _ _ _ h => h) (Or.inl ⟨by rfl, ?_⟩) hHeld ?_ ?_
  rotate_left
  · rintro w' ⟨s0, s1, s2, s3, s4, s5, s6, s7, s8⟩
    go_simp
    with_reducible rfl
  rotate_left
  · simp only [Act.put, List.setIfInBounds_toArray, List.set_cons_zero, List.set_cons_succ, i64_w, i32_w]
    rfl
  refine take_ (i := 17) (N := some 23) (v := ?_) (a' := ?_) #[true, true, true, true, true, true, true, true, true, true, true, true, false, true, true, false, true, true, false, false, false, false] rfl rfl (by kernel_rfl) (fun _ _ _ h => h) (Or.inl ⟨by rfl, ?_⟩) hHeld ?_ ?_
  rotate_left
  · rintro w' ⟨s0, s1, s2, s3, s4, s5, s6, s7, s8⟩
    go_simp
    with_reducible rfl
  rotate_left
  · simp only [Act.put, List.setIfInBounds_toArray, List.set_cons_zero, List.set_cons_succ, i64_w, i32_w]
    rfl
  refine join_ (σ := (Option Addr × Nat) × (Option Addr × Nat) × Nat) 1 #[true, true, true, true, true, true, true, true, true, true, true, true, true, true, true, true, true, true, true, true, true, false] (fun s => [(18, .slice s.1.1 x.f5.length s.1.2), (21, .slice s.2.1.1 x.f6.length s.2.1.2), (24, .agg #[.int .i64 x.f7.f0, .int .i64 x.f7.f1]), (3, .pointer (some ⟨s.2.2, 0, none⟩)), (25, .agg #[.int .i64 x.f0, .int .i64 x.f1, .int .i64 x.f2, .int .i64 x.f3, .int .i64 x.f4, .slice s.1.1 x.f5.length s.1.2, .slice s.2.1.1 x.f6.length s.2.1.2, .int .i64 x.f7.f0, .int .i64 x.f7.f1, .slice none 0 0, .slice none 0 0])]) (fun s w' => (w'.cell? ⟨w.heap.size, 0, none⟩ = some (.int .i64 x.f0) ∧ w'.cell? ⟨w.heap.size, 1, none⟩ = some (.int .i64 x.f1) ∧ w'.cell? ⟨w.heap.size, 2, none⟩ = some (.int .i64 x.f2) ∧ w'.cell? ⟨w.heap.size, 3, none⟩ = some (.int .i64 x.f3) ∧ w'.cell? ⟨w.heap.size, 4, none⟩ = some (.int .i64 x.f4) ∧ w'.cell? ⟨w.heap.size, 5, none⟩ = some (.slice A5 x.f5.length c5) ∧ w'.cell? ⟨w.heap.size, 6, none⟩ = some (.slice A6 x.f6.length c6) ∧ w'.cell? ⟨w.heap.size, 7, none⟩ = some (.int .i64 x.f7.f0) ∧ w'.cell? ⟨w.heap.size, 8, none⟩ = some (.int .i64 x.f7.f1)) ∧ Below W.heap.size W w' ∧ w'.ownsRow W.heap.size 3 1 (.slice s.1.1 x.f5.length s.1.2) x.f5.length (nums .i64 x.f5) ∧ w'.ownsRow W.heap.size 3 1 (.slice s.2.1.1 x.f6.length s.2.1.2) x.f6.length (nums .i64 x.f6) ∧ Blk w' s.2.2 #[.int .i64 0, .int .i64 0, .int .i64 0, .int .i64 0, .int .i64 0, .slice none 0 0, .slice none 0 0, .int .i64 0, .int .i64 0, .slice none 0 0, .slice none 0 0] 38 ∧ W.heap.size ≤ s.2.2) ?_ ?_
  rotate_left
  · intro hJ12_15_18_20
    refine join_ (σ := (Option Addr × Nat) × (Option Addr × Nat) × Nat) 2 #[true, true, true, true, true, true, true, true, true, true, true, true, true, true, true, true, true, true, true, true, false, false] (fun s => [(18, .slice s.1.1 x.f5.length s.1.2), (21, .slice s.2.1.1 x.f6.length s.2.1.2), (24, .agg #[.int .i64 x.f7.f0, .int .i64 x.f7.f1]), (25, .agg #[.int .i64 x.f0, .int .i64 x.f1, .int .i64 x.f2, .int .i64 x.f3, .int .i64 x.f4, .slice s.1.1 x.f5.length s.1.2, .slice s.2.1.1 x.f6.length s.2.1.2, .int .i64 x.f7.f0, .int .i64 x.f7.f1, .slice none 0 0, .slice none 0 0])]) (fun s w' => (w'.cell? ⟨w.heap.size, 0, none⟩ = some (.int .i64 x.f0) ∧ w'.cell? ⟨w.heap.size, 1, none⟩ = some (.int .i64 x.f1) ∧ w'.cell? ⟨w.heap.size, 2, none⟩ = some (.int .i64 x.f2) ∧ w'.cell? ⟨w.heap.size, 3, none⟩ = some (.int .i64 x.f3) ∧ w'.cell? ⟨w.heap.size, 4, none⟩ = some (.int .i64 x.f4) ∧ w'.cell? ⟨w.heap.size, 5, none⟩ = some (.slice A5 x.f5.length c5) ∧ w'.cell? ⟨w.heap.size, 6, none⟩ = some (.slice A6 x.f6.length c6) ∧ w'.cell? ⟨w.heap.size, 7, none⟩ = some (.int .i64 x.f7.f0) ∧ w'.cell? ⟨w.heap.size, 8, none⟩ = some (.int .i64 x.f7.f1)) ∧ Below W.heap.size W w' ∧ w'.ownsRow W.heap.size 3 1 (.slice s.1.1 x.f5.length s.1.2) x.f5.length (nums .i64 x.f5) ∧ w'.ownsRow W.heap.size 3 1 (.slice s.2.1.1 x.f6.length s.2.1.2) x.f6.length (nums .i64 x.f6)) ?_ ?_
    rotate_left
    · intro hJ12_15_18
      refine join_ (σ := (Option Addr × Nat) × (Option Addr × Nat) × Nat) 3 #[true, true, true, true, true, true, true, true, true, true, true, true, true, true, true, true, true, true, false, false, true, false] (fun s => [(18, .slice s.1.1 x.f5.length s.1.2), (21, .slice s.2.1.1 x.f6.length s.2.1.2), (3, .pointer (some ⟨s.2.2, 0, none⟩))]) (fun s w' => (w'.cell? ⟨w.heap.size, 0, none⟩ = some (.int .i64 x.f0) ∧ w'.cell? ⟨w.heap.size, 1, none⟩ = some (.int .i64 x.f1) ∧ w'.cell? ⟨w.heap.size, 2, none⟩ = some (.int .i64 x.f2) ∧ w'.cell? ⟨w.heap.size, 3, none⟩ = some (.int .i64 x.f3) ∧ w'.cell? ⟨w.heap.size, 4, none⟩ = some (.int .i64 x.f4) ∧ w'.cell? ⟨w.heap.size, 5, none⟩ = some (.slice A5 x.f5.length c5) ∧ w'.cell? ⟨w.heap.size, 6, none⟩ = some (.slice A6 x.f6.length c6) ∧ w'.cell? ⟨w.heap.size, 7, none⟩ = some (.int .i64 x.f7.f0) ∧ w'.cell? ⟨w.heap.size, 8, none⟩ = some (.int .i64 x.f7.f1)) ∧ Below W.heap.size W w' ∧ w'.ownsRow W.heap.size 3 1 (.slice s.1.1 x.f5.length s.1.2) x.f5.length (nums .i64 x.f5) ∧ w'.ownsRow W.heap.size 3 1 (.slice s.2.1.1 x.f6.length s.2.1.2) x.f6.length (nums .i64 x.f6) ∧ Blk w' s.2.2 #[.int .i64 0, .int .i64 0, .int .i64 0, .int .i64 0, .int .i64 0, .slice none 0 0, .slice none 0 0, .int .i64 0, .int .i64 0, .slice none 0 0, .slice none 0 0] 38 ∧ W.heap.size ≤ s.2.2) ?_ ?_
      rotate_left
      · intro hJ12_15_20
        refine join_ (σ := (Option Addr × Nat) × (Option Addr × Nat) × Nat) 4 #[true, true, true, true, true, true, true, true, true, true, true, true, true, true, true, true, true, true, false, false, false, false] (fun s => [(18, .slice s.1.1 x.f5.length s.1.2), (21, .slice s.2.1.1 x.f6.length s.2.1.2)]) (fun s w' => (w'.cell? ⟨w.heap.size, 0, none⟩ = some (.int .i64 x.f0) ∧ w'.cell? ⟨w.heap.size, 1, none⟩ = some (.int .i64 x.f1) ∧ w'.cell? ⟨w.heap.size, 2, none⟩ = some (.int .i64 x.f2) ∧ w'.cell? ⟨w.heap.size, 3, none⟩ = some (.int .i64 x.f3) ∧ w'.cell? ⟨w.heap.size, 4, none⟩ = some (.int .i64 x.f4) ∧ w'.cell? ⟨w.heap.size, 5, none⟩ = some (.slice A5 x.f5.length c5) ∧ w'.cell? ⟨w.heap.size, 6, none⟩ = some (.slice A6 x.f6.length c6) ∧ w'.cell? ⟨w.heap.size, 7, none⟩ = some (.int .i64 x.f7.f0) ∧ w'.cell? ⟨w.heap.size, 8, none⟩ = some (.int .i64 x.f7.f1)) ∧ Below W.heap.size W w' ∧ w'.ownsRow W.heap.size 3 1 (.slice s.1.1 x.f5.length s.1.2) x.f5.length (nums .i64 x.f5) ∧ w'.ownsRow W.heap.size 3 1 (.slice s.2.1.1 x.f6.length s.2.1.2) x.f6.length (nums .i64 x.f6)) ?_ ?_
        rotate_left
        · intro hJ12_15
          refine join_ (σ := (Option Addr × Nat) × (Option Addr × Nat) × Nat) 4 #[true, true, true, true, true, true, true, true, true, true, true, true, true, true, true, false, true, true, false, false, true, false] (fun s => [(18, .slice s.1.1 x.f5.length s.1.2), (3, .pointer (some ⟨s.2.2, 0, none⟩))]) (fun s w' => (w'.cell? ⟨w.heap.size, 0, none⟩ = some (.int .i64 x.f0) ∧ w'.cell? ⟨w.heap.size, 1, none⟩ = some (.int .i64 x.f1) ∧ w'.cell? ⟨w.heap.size, 2, none⟩ = some (.int .i64 x.f2) ∧ w'.cell? ⟨w.heap.size, 3, none⟩ = some (.int .i64 x.f3) ∧ w'.cell? ⟨w.heap.size, 4, none⟩ = some (.int .i64 x.f4) ∧ w'.cell? ⟨w.heap.size, 5, none⟩ = some (.slice A5 x.f5.length c5) ∧ w'.cell? ⟨w.heap.size, 6, none⟩ = some (.slice A6 x.f6.length c6) ∧ w'.cell? ⟨w.heap.size, 7, none⟩ = some (.int .i64 x.f7.f0) ∧ w'.cell? ⟨w.heap.size, 8, none⟩ = some (.int .i64 x.f7.f1)) ∧ Below W.heap.size W w' ∧ w'.ownsRow W.heap.size 3 1 (.slice s.1.1 x.f5.length s.1.2) x.f5.length (nums .i64 x.f5) ∧ Blk w' s.2.2 #[.int .i64 0, .int .i64 0, .int .i64 0, .int .i64 0, .int .i64 0, .slice none 0 0, .slice none 0 0, .int .i64 0, .int .i64 0, .slice none 0 0, .slice none 0 0] 38 ∧ W.heap.size ≤ s.2.2) ?_ ?_
          rotate_left
          · intro hJ12_20
            refine join_ (σ := (Option Addr × Nat) × (Option Addr × Nat) × Nat) 5 #[true, true, true, true, true, true, true, true, true, true, true, true, true, true, true, false, true, true, false, false, false, false] (fun s => [(18, .slice s.1.1 x.f5.length s.1.2)]) (fun s w' => (w'.cell? ⟨w.heap.size, 0, none⟩ = some (.int .i64 x.f0) ∧ w'.cell? ⟨w.heap.size, 1, none⟩ = some (.int .i64 x.f1) ∧ w'.cell? ⟨w.heap.size, 2, none⟩ = some (.int .i64 x.f2) ∧ w'.cell? ⟨w.heap.size, 3, none⟩ = some (.int .i64 x.f3) ∧ w'.cell? ⟨w.heap.size, 4, none⟩ = some (.int .i64 x.f4) ∧ w'.cell? ⟨w.heap.size, 5, none⟩ = some (.slice A5 x.f5.length c5) ∧ w'.cell? ⟨w.heap.size, 6, none⟩ = some (.slice A6 x.f6.length c6) ∧ w'.cell? ⟨w.heap.size, 7, none⟩ = some (.int .i64 x.f7.f0) ∧ w'.cell? ⟨w.heap.size, 8, none⟩ = some (.int .i64 x.f7.f1)) ∧ Below W.heap.size W w' ∧ w'.ownsRow W.heap.size 3 1 (.slice s.1.1 x.f5.length s.1.2) x.f5.length (nums .i64 x.f5)) ?_ ?_
            rotate_left
            · intro hJ12
              refine join_ (σ := (Option Addr × Nat) × (Option Addr × Nat) × Nat) 5 #[true, true, true, true, true, true, true, true, true, true, true, true, false, true, true, false, true, true, false, false, true, false] (fun s => [(3, .pointer (some ⟨s.2.2, 0, none⟩))]) (fun s w' => (w'.cell? ⟨w.heap.size, 0, none⟩ = some (.int .i64 x.f0) ∧ w'.cell? ⟨w.heap.size, 1, none⟩ = some (.int .i64 x.f1) ∧ w'.cell? ⟨w.heap.size, 2, none⟩ = some (.int .i64 x.f2) ∧ w'.cell? ⟨w.heap.size, 3, none⟩ = some (.int .i64 x.f3) ∧ w'.cell? ⟨w.heap.size, 4, none⟩ = some (.int .i64 x.f4) ∧ w'.cell? ⟨w.heap.size, 5, none⟩ = some (.slice A5 x.f5.length c5) ∧ w'.cell? ⟨w.heap.size, 6, none⟩ = some (.slice A6 x.f6.length c6) ∧ w'.cell? ⟨w.heap.size, 7, none⟩ = some (.int .i64 x.f7.f0) ∧ w'.cell? ⟨w.heap.size, 8, none⟩ = some (.int .i64 x.f7.f1)) ∧ Below W.heap.size W w' ∧ Blk w' s.2.2 #[.int .i64 0, .int .i64 0, .int .i64 0, .int .i64 0, .int .i64 0, .slice none 0 0, .slice none 0 0, .int .i64 0, .int .i64 0, .slice none 0 0, .slice none 0 0] 38 ∧ W.heap.size ≤ s.2.2) ?_ ?_
              rotate_left
              · intro hJ20
                refine two_ (i := 12) (j := 20) (Ni := some 18) (Nj := some 3) #[true, true, true, true, true, true, true, true, true, true, true, true, true, true, true, false, true, true, false, false, false, false] #[true, true, true, true, true, true, true, true, true, true, true, true, false, true, true, false, true, true, false, false, true, false] rfl rfl rfl rfl (by kernel_rfl) (by decide) (by decide) (fun K hK => ?_) (fun K hK => ?_)
                · skip
                  refine goes_ Try.func27 (by kernel_rfl) rfl #[.slice A5 x.f5.length c5] (by rfl) rfl rfl (by simp only [List.map_toArray, List.map_cons, List.map_nil]; rfl) ?_
                  with_reducible refine (listS_calls A5 c5 x.f5 _ (Kd.C_below G5.out (bel2 HB0.out (below_drew (Below.refl W.heap.size W)))) (by omega)).mono ?_
                  rintro e w5 ⟨an, dn, rfl, hrn, hb5⟩
                  refine ⟨_, rfl, ?_⟩
                  refine hK.out _ _ ⟨pw_cell_below hb5 (hHeld.1), pw_cell_below hb5 (hHeld.2.1), pw_cell_below hb5 (hHeld.2.2.1), pw_cell_below hb5 (hHeld.2.2.2.1), pw_cell_below hb5 (hHeld.2.2.2.2.1), pw_cell_below hb5 (hHeld.2.2.2.2.2.1), pw_cell_below hb5 (hHeld.2.2.2.2.2.2.1), pw_cell_below hb5 (hHeld.2.2.2.2.2.2.2.1), pw_cell_below hb5 (hHeld.2.2.2.2.2.2.2.2)⟩ (fun hHeld => ?_)
                  clear hK K
                  refine norm_ (a' := ?_) ?_ ?_
                  rotate_left
                  · show Act.put _ (some 18) _ = _
                    simp only [Act.put, List.setIfInBounds_toArray, List.set_cons_zero, List.set_cons_succ, i64_w, i32_w]
                    rfl
                  exact norm_ (by first | (simp only [putAll, Act.put, List.setIfInBounds_toArray, List.set_cons_zero, List.set_cons_succ]; done) | (simp only [putAll, Act.put, List.setIfInBounds_toArray, List.set_cons_zero, List.set_cons_succ]; rfl)) (hJ12 ((an, dn), (none, 0), 0) _ ⟨hHeld, bel2 (below_drew (Below.refl W.heap.size W)) hb5, own_weaken hrn ((below_drew (Below.refl W.heap.size W))).size⟩)
                · skip
                  refine value_ (w1 := ?_) (v := ?_) (by rfl) rfl ?_ ?_
                  rotate_left 2
                  · go_simp
                    constructor
                    · rfl
                    · rfl
                  refine hK.out _ _ ⟨cell_al _ (hHeld.1), cell_al _ (hHeld.2.1), cell_al _ (hHeld.2.2.1), cell_al _ (hHeld.2.2.2.1), cell_al _ (hHeld.2.2.2.2.1), cell_al _ (hHeld.2.2.2.2.2.1), cell_al _ (hHeld.2.2.2.2.2.2.1), cell_al _ (hHeld.2.2.2.2.2.2.2.1), cell_al _ (hHeld.2.2.2.2.2.2.2.2)⟩ (fun hHeld => ?_)
                  clear hK K
                  refine norm_ (a' := ?_) ?_ ?_
                  rotate_left
                  · show Act.put _ (some 3) _ = _
                    simp only [Act.put, List.setIfInBounds_toArray, List.set_cons_zero, List.set_cons_succ, i64_w, i32_w]
                    rfl
                  exact norm_ (by first | (simp only [putAll, Act.put, List.setIfInBounds_toArray, List.set_cons_zero, List.set_cons_succ]; done) | (simp only [putAll, Act.put, List.setIfInBounds_toArray, List.set_cons_zero, List.set_cons_succ]; rfl)) (hJ20 ((none, 0), (none, 0), W.drew.heap.size) _ ⟨hHeld, below_alloc (below_drew (Below.refl W.heap.size W)) _, Blk.new _ _ _ _ rfl, ((below_drew (Below.refl W.heap.size W))).size⟩)
              · skip
                rintro ⟨⟨a5, d5⟩, ⟨a6, d6⟩, p⟩ w4 ⟨hHeld, hB, b20, l20⟩
                try dsimp only at *
                refine norm_ (a' := ?_) ?_ ?_
                rotate_left
                · simp only [putAll, Act.put, List.setIfInBounds_toArray, List.set_cons_zero, List.set_cons_succ]
                  rfl
                refine one_ (i := 12) (N := some 18) #[true, true, true, true, true, true, true, true, true, true, true, true, true, true, true, false, true, true, false, false, true, false] rfl rfl (by kernel_rfl) (by decide) (fun K hK => ?_)
                refine goes_ Try.func27 (by kernel_rfl) rfl #[.slice A5 x.f5.length c5] (by rfl) rfl rfl (by simp only [List.map_toArray, List.map_cons, List.map_nil]; rfl) ?_
                with_reducible refine (listS_calls A5 c5 x.f5 _ (Kd.C_below G5.out (bel2 HB0.out hB)) (by omega)).mono ?_
                rintro e w5 ⟨an, dn, rfl, hrn, hb5⟩
                refine ⟨_, rfl, ?_⟩
                refine hK.out _ _ ⟨pw_cell_below hb5 (hHeld.1), pw_cell_below hb5 (hHeld.2.1), pw_cell_below hb5 (hHeld.2.2.1), pw_cell_below hb5 (hHeld.2.2.2.1), pw_cell_below hb5 (hHeld.2.2.2.2.1), pw_cell_below hb5 (hHeld.2.2.2.2.2.1), pw_cell_below hb5 (hHeld.2.2.2.2.2.2.1), pw_cell_below hb5 (hHeld.2.2.2.2.2.2.2.1), pw_cell_below hb5 (hHeld.2.2.2.2.2.2.2.2)⟩ (fun hHeld => ?_)
                clear hK K
                refine norm_ (a' := ?_) ?_ ?_
                rotate_left
                · show Act.put _ (some 18) _ = _
                  simp only [Act.put, List.setIfInBounds_toArray, List.set_cons_zero, List.set_cons_succ, i64_w, i32_w]
                  rfl
                exact norm_ (by first | (simp only [putAll, Act.put, List.setIfInBounds_toArray, List.set_cons_zero, List.set_cons_succ]; done) | (simp only [putAll, Act.put, List.setIfInBounds_toArray, List.set_cons_zero, List.set_cons_succ]; rfl)) (hJ12_20 ((an, dn), (none, 0), p) _ ⟨hHeld, bel2 hB hb5, own_weaken hrn (hB).size, b20.below hb5, l20⟩)
            · skip
              rintro ⟨⟨a5, d5⟩, ⟨a6, d6⟩, p⟩ w4 ⟨hHeld, hB, r12⟩
              try dsimp only at *
              refine norm_ (a' := ?_) ?_ ?_
              rotate_left
              · simp only [putAll, Act.put, List.setIfInBounds_toArray, List.set_cons_zero, List.set_cons_succ]
                rfl
              refine two_ (i := 15) (j := 20) (Ni := some 21) (Nj := some 3) #[true, true, true, true, true, true, true, true, true, true, true, true, true, true, true, true, true, true, false, false, false, false] #[true, true, true, true, true, true, true, true, true, true, true, true, true, true, true, false, true, true, false, false, true, false] rfl rfl rfl rfl (by kernel_rfl) (by decide) (by decide) (fun K hK => ?_) (fun K hK => ?_)
              · skip
                refine goes_ Try.func27 (by kernel_rfl) rfl #[.slice A6 x.f6.length c6] (by rfl) rfl rfl (by simp only [List.map_toArray, List.map_cons, List.map_nil]; rfl) ?_
                with_reducible refine (listS_calls A6 c6 x.f6 _ (Kd.C_below G6.out (bel2 HB0.out hB)) (by omega)).mono ?_
                rintro e w5 ⟨an, dn, rfl, hrn, hb5⟩
                refine ⟨_, rfl, ?_⟩
                refine hK.out _ _ ⟨pw_cell_below hb5 (hHeld.1), pw_cell_below hb5 (hHeld.2.1), pw_cell_below hb5 (hHeld.2.2.1), pw_cell_below hb5 (hHeld.2.2.2.1), pw_cell_below hb5 (hHeld.2.2.2.2.1), pw_cell_below hb5 (hHeld.2.2.2.2.2.1), pw_cell_below hb5 (hHeld.2.2.2.2.2.2.1), pw_cell_below hb5 (hHeld.2.2.2.2.2.2.2.1), pw_cell_below hb5 (hHeld.2.2.2.2.2.2.2.2)⟩ (fun hHeld => ?_)
                clear hK K
                refine norm_ (a' := ?_) ?_ ?_
                rotate_left
                · show Act.put _ (some 21) _ = _
                  simp only [Act.put, List.setIfInBounds_toArray, List.set_cons_zero, List.set_cons_succ, i64_w, i32_w]
                  rfl
                exact norm_ (by first | (simp only [putAll, Act.put, List.setIfInBounds_toArray, List.set_cons_zero, List.set_cons_succ]; done) | (simp only [putAll, Act.put, List.setIfInBounds_toArray, List.set_cons_zero, List.set_cons_succ]; rfl)) (hJ12_15 ((a5, d5), (an, dn), 0) _ ⟨hHeld, bel2 hB hb5, own_bel r12 hb5, own_weaken hrn (hB).size⟩)
              · skip
                refine value_ (w1 := ?_) (v := ?_) (by rfl) rfl ?_ ?_
                rotate_left 2
                · go_simp
                  constructor
                  · rfl
                  · rfl
                refine hK.out _ _ ⟨cell_al _ (hHeld.1), cell_al _ (hHeld.2.1), cell_al _ (hHeld.2.2.1), cell_al _ (hHeld.2.2.2.1), cell_al _ (hHeld.2.2.2.2.1), cell_al _ (hHeld.2.2.2.2.2.1), cell_al _ (hHeld.2.2.2.2.2.2.1), cell_al _ (hHeld.2.2.2.2.2.2.2.1), cell_al _ (hHeld.2.2.2.2.2.2.2.2)⟩ (fun hHeld => ?_)
                clear hK K
                refine norm_ (a' := ?_) ?_ ?_
                rotate_left
                · show Act.put _ (some 3) _ = _
                  simp only [Act.put, List.setIfInBounds_toArray, List.set_cons_zero, List.set_cons_succ, i64_w, i32_w]
                  rfl
                exact norm_ (by first | (simp only [putAll, Act.put, List.setIfInBounds_toArray, List.set_cons_zero, List.set_cons_succ]; done) | (simp only [putAll, Act.put, List.setIfInBounds_toArray, List.set_cons_zero, List.set_cons_succ]; rfl)) (hJ12_20 ((a5, d5), (none, 0), w4.heap.size) _ ⟨hHeld, below_alloc hB _, r12.alloc _, Blk.new _ _ _ _ rfl, (hB).size⟩)
          · skip
            rintro ⟨⟨a5, d5⟩, ⟨a6, d6⟩, p⟩ w4 ⟨hHeld, hB, r12, b20, l20⟩
            try dsimp only at *
            refine norm_ (a' := ?_) ?_ ?_
            rotate_left
            · simp only [putAll, Act.put, List.setIfInBounds_toArray, List.set_cons_zero, List.set_cons_succ]
              rfl
            refine one_ (i := 15) (N := some 21) #[true, true, true, true, true, true, true, true, true, true, true, true, true, true, true, true, true, true, false, false, true, false] rfl rfl (by kernel_rfl) (by decide) (fun K hK => ?_)
            refine goes_ Try.func27 (by kernel_rfl) rfl #[.slice A6 x.f6.length c6] (by rfl) rfl rfl (by simp only [List.map_toArray, List.map_cons, List.map_nil]; rfl) ?_
            with_reducible refine (listS_calls A6 c6 x.f6 _ (Kd.C_below G6.out (bel2 HB0.out hB)) (by omega)).mono ?_
            rintro e w5 ⟨an, dn, rfl, hrn, hb5⟩
            refine ⟨_, rfl, ?_⟩
            refine hK.out _ _ ⟨pw_cell_below hb5 (hHeld.1), pw_cell_below hb5 (hHeld.2.1), pw_cell_below hb5 (hHeld.2.2.1), pw_cell_below hb5 (hHeld.2.2.2.1), pw_cell_below hb5 (hHeld.2.2.2.2.1), pw_cell_below hb5 (hHeld.2.2.2.2.2.1), pw_cell_below hb5 (hHeld.2.2.2.2.2.2.1), pw_cell_below hb5 (hHeld.2.2.2.2.2.2.2.1), pw_cell_below hb5 (hHeld.2.2.2.2.2.2.2.2)⟩ (fun hHeld => ?_)
            clear hK K
            refine norm_ (a' := ?_) ?_ ?_
            rotate_left
            · show Act.put _ (some 21) _ = _
              simp only [Act.put, List.setIfInBounds_toArray, List.set_cons_zero, List.set_cons_succ, i64_w, i32_w]
              rfl
            exact norm_ (by first | (simp only [putAll, Act.put, List.setIfInBounds_toArray, List.set_cons_zero, List.set_cons_succ]; done) | (simp only [putAll, Act.put, List.setIfInBounds_toArray, List.set_cons_zero, List.set_cons_succ]; rfl)) (hJ12_15_20 ((a5, d5), (an, dn), p) _ ⟨hHeld, bel2 hB hb5, own_bel r12 hb5, own_weaken hrn (hB).size, b20.below hb5, l20⟩)
        · skip
          rintro ⟨⟨a5, d5⟩, ⟨a6, d6⟩, p⟩ w4 ⟨hHeld, hB, r12, r15⟩
          try dsimp only at *
          refine norm_ (a' := ?_) ?_ ?_
          rotate_left
          · simp only [putAll, Act.put, List.setIfInBounds_toArray, List.set_cons_zero, List.set_cons_succ]
            rfl
          refine two_ (i := 18) (j := 20) (Ni := some 24) (Nj := some 3) #[true, true, true, true, true, true, true, true, true, true, true, true, true, true, true, true, true, true, true, false, false, false] #[true, true, true, true, true, true, true, true, true, true, true, true, true, true, true, true, true, true, false, false, true, false] rfl rfl rfl rfl (by kernel_rfl) (by decide) (by decide) (fun K hK => ?_) (fun K hK => ?_)
          · skip
            refine goes_ Try.func25 (by kernel_rfl) rfl #[.agg #[.int .i64 x.f7.f0, .int .i64 x.f7.f1]] (by rfl) rfl rfl (by simp only [List.map_toArray, List.map_cons, List.map_nil]; rfl) ?_
            with_reducible refine (to_calls x.f7 _).mono ?_
            rintro e w5 ⟨rfl, hb5⟩
            refine ⟨_, rfl, ?_⟩
            refine hK.out _ _ ⟨pw_cell_below hb5 (hHeld.1), pw_cell_below hb5 (hHeld.2.1), pw_cell_below hb5 (hHeld.2.2.1), pw_cell_below hb5 (hHeld.2.2.2.1), pw_cell_below hb5 (hHeld.2.2.2.2.1), pw_cell_below hb5 (hHeld.2.2.2.2.2.1), pw_cell_below hb5 (hHeld.2.2.2.2.2.2.1), pw_cell_below hb5 (hHeld.2.2.2.2.2.2.2.1), pw_cell_below hb5 (hHeld.2.2.2.2.2.2.2.2)⟩ (fun hHeld => ?_)
            clear hK K
            refine norm_ (a' := ?_) ?_ ?_
            rotate_left
            · show Act.put _ (some 24) _ = _
              simp only [Act.put, List.setIfInBounds_toArray, List.set_cons_zero, List.set_cons_succ, i64_w, i32_w]
              rfl
            refine pure_ (i := 19) (N := some 25) (v := ?_) (a' := ?_) #[true, true, true, true, true, true, true, true, true, true, true, true, true, true, true, true, true, true, true, true, false, false] rfl rfl (by kernel_rfl) (fun _ _ _ h => h) (Or.inl ⟨by rfl, ?_⟩) ?_ ?_
            rotate_left
            · intro w'
              go_simp
              with_reducible rfl
            rotate_left
            · simp only [Act.put, List.setIfInBounds_toArray, List.set_cons_zero, List.set_cons_succ, i64_w, i32_w]
              rfl
            exact norm_ (by first | (simp only [putAll, Act.put, List.setIfInBounds_toArray, List.set_cons_zero, List.set_cons_succ]; done) | (simp only [putAll, Act.put, List.setIfInBounds_toArray, List.set_cons_zero, List.set_cons_succ]; rfl)) (hJ12_15_18 ((a5, d5), (a6, d6), 0) _ ⟨hHeld, bel2 hB hb5, own_bel r12 hb5, own_bel r15 hb5⟩)
          · skip
            refine value_ (w1 := ?_) (v := ?_) (by rfl) rfl ?_ ?_
            rotate_left 2
            · go_simp
              constructor
              · rfl
              · rfl
            refine hK.out _ _ ⟨cell_al _ (hHeld.1), cell_al _ (hHeld.2.1), cell_al _ (hHeld.2.2.1), cell_al _ (hHeld.2.2.2.1), cell_al _ (hHeld.2.2.2.2.1), cell_al _ (hHeld.2.2.2.2.2.1), cell_al _ (hHeld.2.2.2.2.2.2.1), cell_al _ (hHeld.2.2.2.2.2.2.2.1), cell_al _ (hHeld.2.2.2.2.2.2.2.2)⟩ (fun hHeld => ?_)
            clear hK K
            refine norm_ (a' := ?_) ?_ ?_
            rotate_left
            · show Act.put _ (some 3) _ = _
              simp only [Act.put, List.setIfInBounds_toArray, List.set_cons_zero, List.set_cons_succ, i64_w, i32_w]
              rfl
            exact norm_ (by first | (simp only [putAll, Act.put, List.setIfInBounds_toArray, List.set_cons_zero, List.set_cons_succ]; done) | (simp only [putAll, Act.put, List.setIfInBounds_toArray, List.set_cons_zero, List.set_cons_succ]; rfl)) (hJ12_15_20 ((a5, d5), (a6, d6), w4.heap.size) _ ⟨hHeld, below_alloc hB _, r12.alloc _, r15.alloc _, Blk.new _ _ _ _ rfl, (hB).size⟩)
      · skip
        rintro ⟨⟨a5, d5⟩, ⟨a6, d6⟩, p⟩ w4 ⟨hHeld, hB, r12, r15, b20, l20⟩
        try dsimp only at *
        refine norm_ (a' := ?_) ?_ ?_
        rotate_left
        · simp only [putAll, Act.put, List.setIfInBounds_toArray, List.set_cons_zero, List.set_cons_succ]
          rfl
        refine one_ (i := 18) (N := some 24) #[true, true, true, true, true, true, true, true, true, true, true, true, true, true, true, true, true, true, true, false, true, false] rfl rfl (by kernel_rfl) (by decide) (fun K hK => ?_)
        refine goes_ Try.func25 (by kernel_rfl) rfl #[.agg #[.int .i64 x.f7.f0, .int .i64 x.f7.f1]] (by rfl) rfl rfl (by simp only [List.map_toArray, List.map_cons, List.map_nil]; rfl) ?_
        with_reducible refine (to_calls x.f7 _).mono ?_
        rintro e w5 ⟨rfl, hb5⟩
        refine ⟨_, rfl, ?_⟩
        refine hK.out _ _ ⟨pw_cell_below hb5 (hHeld.1), pw_cell_below hb5 (hHeld.2.1), pw_cell_below hb5 (hHeld.2.2.1), pw_cell_below hb5 (hHeld.2.2.2.1), pw_cell_below hb5 (hHeld.2.2.2.2.1), pw_cell_below hb5 (hHeld.2.2.2.2.2.1), pw_cell_below hb5 (hHeld.2.2.2.2.2.2.1), pw_cell_below hb5 (hHeld.2.2.2.2.2.2.2.1), pw_cell_below hb5 (hHeld.2.2.2.2.2.2.2.2)⟩ (fun hHeld => ?_)
        clear hK K
        refine norm_ (a' := ?_) ?_ ?_
        rotate_left
        · show Act.put _ (some 24) _ = _
          simp only [Act.put, List.setIfInBounds_toArray, List.set_cons_zero, List.set_cons_succ, i64_w, i32_w]
          rfl
        refine pure_ (i := 19) (N := some 25) (v := ?_) (a' := ?_) #[true, true, true, true, true, true, true, true, true, true, true, true, true, true, true, true, true, true, true, true, true, false] rfl rfl (by kernel_rfl) (fun _ _ _ h => h) (Or.inl ⟨by rfl, ?_⟩) ?_ ?_
        rotate_left
        · intro w'
          go_simp
          with_reducible rfl
        rotate_left
        · simp only [Act.put, List.setIfInBounds_toArray, List.set_cons_zero, List.set_cons_succ, i64_w, i32_w]
          rfl
        exact norm_ (by first | (simp only [putAll, Act.put, List.setIfInBounds_toArray, List.set_cons_zero, List.set_cons_succ]; done) | (simp only [putAll, Act.put, List.setIfInBounds_toArray, List.set_cons_zero, List.set_cons_succ]; rfl)) (hJ12_15_18_20 ((a5, d5), (a6, d6), p) _ ⟨hHeld, bel2 hB hb5, own_bel r12 hb5, own_bel r15 hb5, b20.below hb5, l20⟩)
    · skip
      rintro ⟨⟨a5, d5⟩, ⟨a6, d6⟩, p⟩ w4 ⟨hHeld, hB, r12, r15⟩
      try dsimp only at *
      refine norm_ (a' := ?_) ?_ ?_
      rotate_left
      · simp only [putAll, Act.put, List.setIfInBounds_toArray, List.set_cons_zero, List.set_cons_succ]
        rfl
      refine one_ (i := 20) (N := some 3) #[true, true, true, true, true, true, true, true, true, true, true, true, true, true, true, true, true, true, true, true, true, false] rfl rfl (by kernel_rfl) (by decide) (fun K hK => ?_)
      refine value_ (w1 := ?_) (v := ?_) (by rfl) rfl ?_ ?_
      rotate_left 2
      · go_simp
        constructor
        · rfl
        · rfl
      refine hK.out _ _ ⟨cell_al _ (hHeld.1), cell_al _ (hHeld.2.1), cell_al _ (hHeld.2.2.1), cell_al _ (hHeld.2.2.2.1), cell_al _ (hHeld.2.2.2.2.1), cell_al _ (hHeld.2.2.2.2.2.1), cell_al _ (hHeld.2.2.2.2.2.2.1), cell_al _ (hHeld.2.2.2.2.2.2.2.1), cell_al _ (hHeld.2.2.2.2.2.2.2.2)⟩ (fun hHeld => ?_)
      clear hK K
      refine norm_ (a' := ?_) ?_ ?_
      rotate_left
      · show Act.put _ (some 3) _ = _
        simp only [Act.put, List.setIfInBounds_toArray, List.set_cons_zero, List.set_cons_succ, i64_w, i32_w]
        rfl
      exact norm_ (by first | (simp only [putAll, Act.put, List.setIfInBounds_toArray, List.set_cons_zero, List.set_cons_succ]; done) | (simp only [putAll, Act.put, List.setIfInBounds_toArray, List.set_cons_zero, List.set_cons_succ]; rfl)) (hJ12_15_18_20 ((a5, d5), (a6, d6), w4.heap.size) _ ⟨hHeld, below_alloc hB _, r12.alloc _, r15.alloc _, Blk.new _ _ _ _ rfl, (hB).size⟩)
  rintro ⟨⟨a5, d5⟩, ⟨a6, d6⟩, p⟩ w4 ⟨hHeld, hB, r12, r15, b20, l20⟩
  try dsimp only at *
  refine norm_ (a' := ?_) ?_ ?_
  rotate_left
  · simp only [putAll, Act.put, List.setIfInBounds_toArray, List.set_cons_zero, List.set_cons_succ]
    rfl
  refine last_ (i := 21) (N := none) #[true, true, true, true, true, true, true, true, true, true, true, true, true, true, true, true, true, true, true, true, true, true] rfl rfl (by kernel_rfl) (by decide) (fun K hK => ?_)
  have z0 := b20.cell 0 _ rfl
  have z1 := b20.cell 1 _ rfl
  have z2 := b20.cell 2 _ rfl
  have z3 := b20.cell 3 _ rfl
  have z4 := b20.cell 4 _ rfl
  have z5 := b20.cell 5 _ rfl
  have z6 := b20.cell 6 _ rfl
  have z7 := b20.cell 7 _ rfl
  have z8 := b20.cell 8 _ rfl
  have z9 := b20.cell 9 _ rfl
  have z10 := b20.cell 10 _ rfl
  have y0 := b20.frozen 0
  have y1 := b20.frozen 1
  have y2 := b20.frozen 2
  have y3 := b20.frozen 3
  have y4 := b20.frozen 4
  have y5 := b20.frozen 5
  have y6 := b20.frozen 6
  have y7 := b20.frozen 7
  have y8 := b20.frozen 8
  have y9 := b20.frozen 9
  have y10 := b20.frozen 10
  refine skip_ (w1 := ?_) (by rfl) rfl ?_ ?_
  rotate_left
  · go_simp
    rfl
  refine hK.out _ _ ?_
  clear hK K
  refine done_ (by kernel_rfl) ?_
  have hSt : CpSt x w #[.int .i64 x.f0, .int .i64 x.f1, .int .i64 x.f2, .int .i64 x.f3, .int .i64 x.f4, .slice A5 x.f5.length c5, .slice A6 x.f6.length c6, .int .i64 x.f7.f0, .int .i64 x.f7.f1, .slice A9 x.f8.length c9, .slice A10 x.f9.length c10] #[.int .i64 0, .int .i64 0, .int .i64 0, .int .i64 0, .int .i64 0, .slice none 0 0, .slice none 0 0, .int .i64 0, .int .i64 0, .slice none 0 0, .slice none 0 0] p (.slice a5 x.f5.length d5) (.slice a6 x.f6.length d6) (.slice none 0 0) 0 (.slice none 0 0) 0 (((((((((((w4.setCell ⟨p, 0, none⟩ (.int .i64 x.f0)).setCell ⟨p, 1, none⟩ (.int .i64 x.f1)).setCell ⟨p, 2, none⟩ (.int .i64 x.f2)).setCell ⟨p, 3, none⟩ (.int .i64 x.f3)).setCell ⟨p, 4, none⟩ (.int .i64 x.f4)).setCell ⟨p, 5, none⟩ (.slice a5 x.f5.length d5)).setCell ⟨p, 6, none⟩ (.slice a6 x.f6.length d6)).setCell ⟨p, 7, none⟩ (.int .i64 x.f7.f0)).setCell ⟨p, 8, none⟩ (.int .i64 x.f7.f1)).setCell ⟨p, 9, none⟩ (.slice none 0 0)).setCell ⟨p, 10, none⟩ (.slice none 0 0)) := by
    have hp1 : w.heap.size + 1 < p := by omega
    have hbs : some p ≠ Value.ownBlock (.slice a5 x.f5.length d5) := blk_row b20 r12 (by decide)
    have hbs6 : some p ≠ Value.ownBlock (.slice a6 x.f6.length d6) := blk_row b20 r15 (by decide)
    refine ⟨put11_below (bel2 HB0.out hB) (by omega) _ _ _ _ _ _ _ _ _ _ _, put11_other (HBZ.out.1.below hB) (by omega) _ _ _ _ _ _ _ _ _ _ _, put11_other (HBZ.out.2.below hB) (by omega) _ _ _ _ _ _ _ _ _ _ _, put11_blk b20 rfl _ _ _ _ _ _ _ _ _ _ _, ?_, ?_, own_nil _ _ _ _, own_nil _ _ _ _, hp1⟩
    · iterate 11 refine own_setCell ?_ (by exact hbs) _
      exact own_weaken r12 (by have := HB0.out.size; omega)
    · iterate 11 refine own_setCell ?_ (by exact hbs6) _
      exact own_weaken r15 (by have := HB0.out.size; omega)
  have HS := Aside0.mk hSt
  clear hSt hHeld hB b20 l20 r12 r15 k0 k1 k2 k3 k4 k5 k6 k7 k8 z0 z1 z2 z3 z4 z5 z6 z7 z8 z9 z10 y0 y1 y2 y3 y4 y5 y6 y7 y8 y9 y10
  generalize (((((((((((w4.setCell ⟨p, 0, none⟩ (.int .i64 x.f0)).setCell ⟨p, 1, none⟩ (.int .i64 x.f1)).setCell ⟨p, 2, none⟩ (.int .i64 x.f2)).setCell ⟨p, 3, none⟩ (.int .i64 x.f3)).setCell ⟨p, 4, none⟩ (.int .i64 x.f4)).setCell ⟨p, 5, none⟩ (.slice a5 x.f5.length d5)).setCell ⟨p, 6, none⟩ (.slice a6 x.f6.length d6)).setCell ⟨p, 7, none⟩ (.int .i64 x.f7.f0)).setCell ⟨p, 8, none⟩ (.int .i64 x.f7.f1)).setCell ⟨p, 9, none⟩ (.slice none 0 0)).setCell ⟨p, 10, none⟩ (.slice none 0 0)) = W2 at *
  have kb9 := HS.out.box.cell 9 _ rfl
  clear HB0 HBZ HB1
  go_wp2
  go_loopw [4] (fun s4 wr => ∃ k : Nat, k ≤ x.f8.length ∧ s4 = .int .i64 k ∧ Aside0 (∃ v9, CpSt x w #[.int .i64 x.f0, .int .i64 x.f1, .int .i64 x.f2, .int .i64 x.f3, .int .i64 x.f4, .slice A5 x.f5.length c5, .slice A6 x.f6.length c6, .int .i64 x.f7.f0, .int .i64 x.f7.f1, .slice A9 x.f8.length c9, .slice A10 x.f9.length c10] #[.int .i64 0, .int .i64 0, .int .i64 0, .int .i64 0, .int .i64 0, .slice none 0 0, .slice none 0 0, .int .i64 0, .int .i64 0, .slice none 0 0, .slice none 0 0] p (.slice a5 x.f5.length d5) (.slice a6 x.f6.length d6) v9 k (.slice none 0 0) 0 wr)) (fun s4 _ => x.f8.length - (intOf s4).toNat)
  case atStart => exact ⟨0, Nat.zero_le _, rfl, ⟨_, HS.out⟩⟩
  case round =>
    obtain ⟨k, hk, rfl, HW⟩ := hrel
    obtain ⟨v9, hst⟩ := HW.out
    have HT := Aside0.mk hst
    clear HW hst
    have kx9 := HT.out.box.cell 9 _ rfl
    by_cases hlt : k < x.f8.length
    · have hltz : (k : Int) < (x.f8.length : Int) := by omega
      obtain ⟨aA, rfl, q0, q1⟩ := row_at_rg (Kd.C_below G9.out HT.out.bel) k hlt
      have kp9 := HT.out.blk.cell 9 _ rfl
      have HGT := Aside0.mk (row_at_rg (Kd.C_below G9.out HT.out.bel) k hlt)
      generalize hr : x.f8[k] = r at *
      have HR := Lib.hid hr
      clear hr
      go_wp2
      refine start_ (n := 12) (S := fun w' => w'.cell? ⟨p, 9, none⟩ = some v9 ∧ w'.cell? ⟨w.heap.size, 9, none⟩ = some (.slice (some aA) x.f8.length c9) ∧ w'.cell? (aA.add (k * 2)) = some (.int .i64 r.f0) ∧ w'.cell? ⟨(aA.add (k * 2)).block, (aA.add (k * 2)).off + 1, none⟩ = some (.int .i64 r.f1)) (ds := [9, 11]) #[false, false, false, false, false, false, false, false, false, false, false, false] (by kernel_rfl) rfl rfl ⟨kp9, kx9, q0, q1⟩ (fun hHeld => ?_)
      refine pure_ (i := 0) (N := some 33) (v := ?_) (a' := ?_) #[true, false, false, false, false, false, false, false, false, false, false, false] rfl rfl (by kernel_rfl) (fun _ _ _ h => h) (Or.inl ⟨by rfl, ?_⟩) ?_ ?_
      rotate_left
      · intro w'
        go_simp
        with_reducible rfl
      rotate_left
      · simp only [Act.put, List.setIfInBounds_toArray, List.set_cons_zero, List.set_cons_succ, i64_w, i32_w]
        rfl
      refine pure_ (i := 2) (N := some 35) (v := ?_) (a' := ?_) #[true, false, true, false, false, false, false, false, false, false, false, false] rfl rfl (by kernel_rfl) (fun _ _ _ h => h) (Or.inl ⟨by rfl, ?_⟩) ?_ ?_
      rotate_left
      · intro w'
        go_simp
        with_reducible rfl
      rotate_left
      · simp only [Act.put, List.setIfInBounds_toArray, List.set_cons_zero, List.set_cons_succ, i64_w, i32_w]
        rfl
      refine pure_ (i := 4) (N := some 37) (v := ?_) (a' := ?_) #[true, false, true, false, true, false, false, false, false, false, false, false] rfl rfl (by kernel_rfl) (fun _ _ _ h => h) (Or.inl ⟨by rfl, ?_⟩) ?_ ?_
      rotate_left
      · intro w'
        go_simp
        with_reducible rfl
      rotate_left
      · simp only [Act.put, List.setIfInBounds_toArray, List.set_cons_zero, List.set_cons_succ, i64_w, i32_w]
        rfl
      refine take_ (i := 1) (N := some 34) (v := ?_) (a' := ?_) #[true, true, true, false, true, false, false, false, false, false, false, false] rfl rfl (by kernel_rfl) (fun _ _ _ h => h) (Or.inl ⟨by rfl, ?_⟩) hHeld ?_ ?_
      rotate_left
      · rintro w' ⟨s0, s1, s2, s3⟩
        go_simp
        with_reducible rfl
      rotate_left
      · simp only [Act.put, List.setIfInBounds_toArray, List.set_cons_zero, List.set_cons_succ, i64_w, i32_w]
        rfl
      refine take_ (i := 3) (N := some 36) (v := ?_) (a' := ?_) #[true, true, true, true, true, false, false, false, false, false, false, false] rfl rfl (by kernel_rfl) (fun _ _ _ h => h) (Or.inl ⟨by rfl, ?_⟩) hHeld ?_ ?_
      rotate_left
      · rintro w' ⟨s0, s1, s2, s3⟩
        go_simp
        with_reducible rfl
      rotate_left
      · simp only [Act.put, List.setIfInBounds_toArray, List.set_cons_zero, List.set_cons_succ, i64_w, i32_w]
        rfl
      refine pure_ (i := 5) (N := some 38) (v := ?_) (a' := ?_) #[true, true, true, true, true, true, false, false, false, false, false, false] rfl rfl (by kernel_rfl) (fun _ _ _ h => h) (Or.inl ⟨by rfl, ?_⟩) ?_ ?_
      rotate_left
      · intro w'
        go_simp
        with_reducible rfl
      rotate_left
      · simp only [Act.put, List.setIfInBounds_toArray, List.set_cons_zero, List.set_cons_succ, i64_w, i32_w]
        rfl
      refine take_ (i := 6) (N := some 39) (v := ?_) (a' := ?_) #[true, true, true, true, true, true, true, false, false, false, false, false] rfl rfl (by kernel_rfl) (fun _ _ _ h => h) (Or.inl ⟨by rfl, ?_⟩) hHeld ?_ ?_
      rotate_left
      · rintro w' ⟨s0, s1, s2, s3⟩
        go_simp
        with_reducible rfl
      rotate_left
      · simp only [Act.put, List.setIfInBounds_toArray, List.set_cons_zero, List.set_cons_succ, i64_w, i32_w]
        rfl
      refine one_ (i := 7) (N := some 40) #[true, true, true, true, true, true, true, true, false, false, false, false] rfl rfl (by kernel_rfl) (by decide) (fun K hK => ?_)
      refine goes_ Try.func25 (by kernel_rfl) rfl #[.agg #[.int .i64 r.f0, .int .i64 r.f1]] (by rfl) rfl rfl (by simp only [List.map_toArray, List.map_cons, List.map_nil]; rfl) ?_
      with_reducible refine (to_calls ⟨r.f0, r.f1⟩ _).mono ?_
      rintro e w3 ⟨rfl, hb3⟩
      refine ⟨_, rfl, ?_⟩
      refine hK.out _ _ ⟨pw_cell_below hb3 (hHeld.1), pw_cell_below hb3 (hHeld.2.1), pw_cell_below hb3 (hHeld.2.2.1), pw_cell_below hb3 (hHeld.2.2.2)⟩ (fun hHeld => ?_)
      clear hK K
      refine norm_ (a' := ?_) ?_ ?_
      rotate_left
      · show Act.put _ (some 40) _ = _
        simp only [Act.put, List.setIfInBounds_toArray, List.set_cons_zero, List.set_cons_succ, i64_w, i32_w]
        rfl
      refine one_ (i := 8) (N := some 41) #[true, true, true, true, true, true, true, true, true, false, false, false] rfl rfl (by kernel_rfl) (by decide) (fun K hK => ?_)
      refine value_ (w1 := ?_) (v := ?_) (by rfl) rfl ?_ ?_
      rotate_left 2
      · go_simp
        constructor
        · rfl
        · rfl
      refine hK.out _ _ ⟨cell_al _ (hHeld.1), cell_al _ (hHeld.2.1), cell_al _ (hHeld.2.2.1), cell_al _ (hHeld.2.2.2)⟩ (fun hHeld => ?_)
      clear hK K
      refine norm_ (a' := ?_) ?_ ?_
      rotate_left
      · show Act.put _ (some 41) _ = _
        simp only [Act.put, List.setIfInBounds_toArray, List.set_cons_zero, List.set_cons_succ, i64_w, i32_w]
        rfl
      refine last_ (i := 9) (N := some 42) #[true, true, true, true, true, true, true, true, true, true, false, false] rfl rfl (by kernel_rfl) (by decide) (fun K hK => ?_)
      have h4 := HT.out.below (below_alloc (bel2 (below_drew (Below.refl _ _)) hb3) (.cells #[.int .i64 r.f0, .int .i64 r.f1] 35))
      refine appendN_op (w := w3.alloc (.cells #[.int .i64 r.f0, .int .i64 r.f1] 35)) (.tmp 34) (.tmp 41) 31 35 (.agg #[.int .i64 0, .int .i64 0]) 2 16 (by rfl) rfl Try.underlying31 info35 rfl (by decide) (by decide) w.heap.size v9 k (rgCells (x.f8.take k)) [.int .i64 r.f0, .int .i64 r.f1] w3.heap.size 1 rfl rfl h4.r9 rfl (cells2 (Blk.new _ _ _ _ rfl)) (one2 _ _) (by omega) h4.bel.size ?_
      intro v5n w5 ho5 hg5 hat5
      obtain ⟨an, dn, rfl⟩ := own_form ho5
      refine hK.out _ _ ?_
      clear hK K
      refine norm_ (a' := ?_) ?_ ?_
      rotate_left
      · show Act.put _ (some 42) _ = _
        simp only [Act.put, List.setIfInBounds_toArray, List.set_cons_zero, List.set_cons_succ, i64_w, i32_w]
        rfl
      refine pure_ (i := 10) (N := some 43) (v := ?_) (a' := ?_) #[true, true, true, true, true, true, true, true, true, true, true, false] rfl rfl (by kernel_rfl) (fun _ _ _ h => h) (Or.inl ⟨by rfl, ?_⟩) ?_ ?_
      rotate_left
      · intro w'
        go_simp
        with_reducible rfl
      rotate_left
      · simp only [Act.put, List.setIfInBounds_toArray, List.set_cons_zero, List.set_cons_succ, i64_w, i32_w]
        rfl
      refine last_ (i := 11) (N := none) #[true, true, true, true, true, true, true, true, true, true, true, true] rfl rfl (by kernel_rfl) (by decide) (fun K hK => ?_)
      have hblk5 := h4.blk.grown hg5 (blk_row h4.blk h4.r9 (by decide))
      have z9 := hblk5.cell 9 _ rfl
      have y9 := hblk5.frozen 9
      refine skip_ (w1 := ?_) (by rfl) rfl ?_ ?_
      rotate_left
      · go_simp
        rfl
      refine hK.out _ _ ?_
      clear hK K
      refine done_ (by kernel_rfl) ?_
      have HN := Aside0.mk (h4.app9 hlt (by rw [HR.out]; exact ho5) hg5)
      clear hHeld h4 ho5 hg5 hat5 q0 q1 kp9 z9 y9 hb3
      go_wp2
      go_roundw
      case rel => exact ⟨k + 1, hlt, by go_num, ⟨_, HN.out⟩⟩
      case measure => simp [intOf]; omega
    · obtain rfl : k = x.f8.length := by omega
      have hltz : ¬ (x.f8.length : Int) < (x.f8.length : Int) := by omega
      go_wp2
      go_loopw [5] (fun s5 wq => ∃ k : Nat, k ≤ x.f9.length ∧ s5 = .int .i64 k ∧ Aside0 (∃ v10, CpSt x w #[.int .i64 x.f0, .int .i64 x.f1, .int .i64 x.f2, .int .i64 x.f3, .int .i64 x.f4, .slice A5 x.f5.length c5, .slice A6 x.f6.length c6, .int .i64 x.f7.f0, .int .i64 x.f7.f1, .slice A9 x.f8.length c9, .slice A10 x.f9.length c10] #[.int .i64 0, .int .i64 0, .int .i64 0, .int .i64 0, .int .i64 0, .slice none 0 0, .slice none 0 0, .int .i64 0, .int .i64 0, .slice none 0 0, .slice none 0 0] p (.slice a5 x.f5.length d5) (.slice a6 x.f6.length d6) v9 x.f8.length v10 k wq)) (fun s5 _ => x.f9.length - (intOf s5).toNat)
      case atStart => exact ⟨0, Nat.zero_le _, rfl, ⟨_, HT.out⟩⟩
      case round =>
        obtain ⟨k, hk, rfl, HW⟩ := hrel
        obtain ⟨v10, hst⟩ := HW.out
        have HT := Aside0.mk hst
        clear HW hst
        have kx10 := HT.out.box.cell 10 _ rfl
        by_cases hlt : k < x.f9.length
        · have hltz : (k : Int) < (x.f9.length : Int) := by omega
          obtain ⟨aA, rfl, q0, q1, q2⟩ := row_at_rd (Kd.C_below G10.out HT.out.bel) k hlt
          have kp10 := HT.out.blk.cell 10 _ rfl
          generalize hr : x.f9[k] = r at *
          have HR := Lib.hid hr
          clear hr
          go_wp2
          refine start_ (n := 20) (S := fun w' => w'.cell? ⟨p, 10, none⟩ = some v10 ∧ w'.cell? ⟨w.heap.size, 10, none⟩ = some (.slice (some aA) x.f9.length c10) ∧ w'.cell? (aA.add (k * 3)) = some (.int .i64 r.f0) ∧ w'.cell? ⟨(aA.add (k * 3)).block, (aA.add (k * 3)).off + 1, none⟩ = some (.int .i64 r.f1.f0) ∧ w'.cell? ⟨(aA.add (k * 3)).block, (aA.add (k * 3)).off + 2, none⟩ = some (.int .i64 r.f1.f1)) (ds := [17, 19]) #[false, false, false, false, false, false, false, false, false, false, false, false, false, false, false, false, false, false, false, false] (by kernel_rfl) rfl rfl ⟨kp10, kx10, q0, q1, q2⟩ (fun hHeld => ?_)
          refine pure_ (i := 0) (N := some 51) (v := ?_) (a' := ?_) #[true, false, false, false, false, false, false, false, false, false, false, false, false, false, false, false, false, false, false, false] rfl rfl (by kernel_rfl) (fun _ _ _ h => h) (Or.inl ⟨by rfl, ?_⟩) ?_ ?_
          rotate_left
          · intro w'
            go_simp
            with_reducible rfl
          rotate_left
          · simp only [Act.put, List.setIfInBounds_toArray, List.set_cons_zero, List.set_cons_succ, i64_w, i32_w]
            rfl
          refine pure_ (i := 2) (N := some 53) (v := ?_) (a' := ?_) #[true, false, true, false, false, false, false, false, false, false, false, false, false, false, false, false, false, false, false, false] rfl rfl (by kernel_rfl) (fun _ _ _ h => h) (Or.inl ⟨by rfl, ?_⟩) ?_ ?_
          rotate_left
          · intro w'
            go_simp
            with_reducible rfl
          rotate_left
          · simp only [Act.put, List.setIfInBounds_toArray, List.set_cons_zero, List.set_cons_succ, i64_w, i32_w]
            rfl
          refine pure_ (i := 4) (N := some 55) (v := ?_) (a' := ?_) #[true, false, true, false, true, false, false, false, false, false, false, false, false, false, false, false, false, false, false, false] rfl rfl (by kernel_rfl) (fun _ _ _ h => h) (Or.inl ⟨by rfl, ?_⟩) ?_ ?_
          rotate_left
          · intro w'
            go_simp
            with_reducible rfl
          rotate_left
          · simp only [Act.put, List.setIfInBounds_toArray, List.set_cons_zero, List.set_cons_succ, i64_w, i32_w]
            rfl
          refine pure_ (i := 8) (N := some 59) (v := ?_) (a' := ?_) #[true, false, true, false, true, false, false, false, true, false, false, false, false, false, false, false, false, false, false, false] rfl rfl (by kernel_rfl) (fun _ _ _ h => h) (Or.inl ⟨by rfl, ?_⟩) ?_ ?_
          rotate_left
          · intro w'
            go_simp
            with_reducible rfl
          rotate_left
          · simp only [Act.put, List.setIfInBounds_toArray, List.set_cons_zero, List.set_cons_succ, i64_w, i32_w]
            rfl
          refine pure_ (i := 10) (N := some 61) (v := ?_) (a' := ?_) #[true, false, true, false, true, false, false, false, true, false, true, false, false, false, false, false, false, false, false, false] rfl rfl (by kernel_rfl) (fun _ _ _ h => h) (Or.inl ⟨by rfl, ?_⟩) ?_ ?_
          rotate_left
          · intro w'
            go_simp
            with_reducible rfl
          rotate_left
          · simp only [Act.put, List.setIfInBounds_toArray, List.set_cons_zero, List.set_cons_succ, i64_w, i32_w]
            rfl
          refine take_ (i := 1) (N := some 52) (v := ?_) (a' := ?_) #[true, true, true, false, true, false, false, false, true, false, true, false, false, false, false, false, false, false, false, false] rfl rfl (by kernel_rfl) (fun _ _ _ h => h) (Or.inl ⟨by rfl, ?_⟩) hHeld ?_ ?_
          rotate_left
          · rintro w' ⟨s0, s1, s2, s3, s4⟩
            go_simp
            with_reducible rfl
          rotate_left
          · simp only [Act.put, List.setIfInBounds_toArray, List.set_cons_zero, List.set_cons_succ, i64_w, i32_w]
            rfl
          refine take_ (i := 3) (N := some 54) (v := ?_) (a' := ?_) #[true, true, true, true, true, false, false, false, true, false, true, false, false, false, false, false, false, false, false, false] rfl rfl (by kernel_rfl) (fun _ _ _ h => h) (Or.inl ⟨by rfl, ?_⟩) hHeld ?_ ?_
          rotate_left
          · rintro w' ⟨s0, s1, s2, s3, s4⟩
            go_simp
            with_reducible rfl
          rotate_left
          · simp only [Act.put, List.setIfInBounds_toArray, List.set_cons_zero, List.set_cons_succ, i64_w, i32_w]
            rfl
          refine pure_ (i := 5) (N := some 56) (v := ?_) (a' := ?_) #[true, true, true, true, true, true, false, false, true, false, true, false, false, false, false, false, false, false, false, false] rfl rfl (by kernel_rfl) (fun _ _ _ h => h) (Or.inl ⟨by rfl, ?_⟩) ?_ ?_
          rotate_left
          · intro w'
            go_simp
            with_reducible rfl
          rotate_left
          · simp only [Act.put, List.setIfInBounds_toArray, List.set_cons_zero, List.set_cons_succ, i64_w, i32_w]
            rfl
          refine pure_ (i := 6) (N := some 57) (v := ?_) (a' := ?_) #[true, true, true, true, true, true, true, false, true, false, true, false, false, false, false, false, false, false, false, false] rfl rfl (by kernel_rfl) (fun _ _ _ h => h) (Or.inl ⟨by rfl, ?_⟩) ?_ ?_
          rotate_left
          · intro w'
            go_simp
            with_reducible rfl
          rotate_left
          · simp only [Act.put, List.setIfInBounds_toArray, List.set_cons_zero, List.set_cons_succ, i64_w, i32_w]
            rfl
          refine take_ (i := 7) (N := some 58) (v := ?_) (a' := ?_) #[true, true, true, true, true, true, true, true, true, false, true, false, false, false, false, false, false, false, false, false] rfl rfl (by kernel_rfl) (fun _ _ _ h => h) (Or.inl ⟨by rfl, ?_⟩) hHeld ?_ ?_
          rotate_left
          · rintro w' ⟨s0, s1, s2, s3, s4⟩
            go_simp
            with_reducible rfl
          rotate_left
          · simp only [Act.put, List.setIfInBounds_toArray, List.set_cons_zero, List.set_cons_succ, i64_w, i32_w]
            rfl
          refine take_ (i := 9) (N := some 60) (v := ?_) (a' := ?_) #[true, true, true, true, true, true, true, true, true, true, true, false, false, false, false, false, false, false, false, false] rfl rfl (by kernel_rfl) (fun _ _ _ h => h) (Or.inl ⟨by rfl, ?_⟩) hHeld ?_ ?_
          rotate_left
          · rintro w' ⟨s0, s1, s2, s3, s4⟩
            go_simp
            with_reducible rfl
          rotate_left
          · simp only [Act.put, List.setIfInBounds_toArray, List.set_cons_zero, List.set_cons_succ, i64_w, i32_w]
            rfl
          refine pure_ (i := 11) (N := some 62) (v := ?_) (a' := ?_) #[true, true, true, true, true, true, true, true, true, true, true, true, false, false, false, false, false, false, false, false] rfl rfl (by kernel_rfl) (fun _ _ _ h => h) (Or.inl ⟨by rfl, ?_⟩) ?_ ?_
          rotate_left
          · intro w'
            go_simp
            with_reducible rfl
          rotate_left
          · simp only [Act.put, List.setIfInBounds_toArray, List.set_cons_zero, List.set_cons_succ, i64_w, i32_w]
            rfl
          refine pure_ (i := 12) (N := some 63) (v := ?_) (a' := ?_) #[true, true, true, true, true, true, true, true, true, true, true, true, true, false, false, false, false, false, false, false] rfl rfl (by kernel_rfl) (fun _ _ _ h => h) (Or.inl ⟨by rfl, ?_⟩) ?_ ?_
          rotate_left
          · intro w'
            go_simp
            with_reducible rfl
          rotate_left
          · simp only [Act.put, List.setIfInBounds_toArray, List.set_cons_zero, List.set_cons_succ, i64_w, i32_w]
            rfl
          refine take_ (i := 13) (N := some 64) (v := ?_) (a' := ?_) #[true, true, true, true, true, true, true, true, true, true, true, true, true, true, false, false, false, false, false, false] rfl rfl (by kernel_rfl) (fun _ _ _ h => h) (Or.inl ⟨by rfl, ?_⟩) hHeld ?_ ?_
          rotate_left
          · rintro w' ⟨s0, s1, s2, s3, s4⟩
            go_simp
            with_reducible rfl
          rotate_left
          · simp only [Act.put, List.setIfInBounds_toArray, List.set_cons_zero, List.set_cons_succ, i64_w, i32_w]
            rfl
          refine one_ (i := 14) (N := some 65) #[true, true, true, true, true, true, true, true, true, true, true, true, true, true, true, false, false, false, false, false] rfl rfl (by kernel_rfl) (by decide) (fun K hK => ?_)
          refine goes_ Try.func25 (by kernel_rfl) rfl #[.agg #[.int .i64 r.f1.f0, .int .i64 r.f1.f1]] (by rfl) rfl rfl (by simp only [List.map_toArray, List.map_cons, List.map_nil]; rfl) ?_
          with_reducible refine (to_calls ⟨r.f1.f0, r.f1.f1⟩ _).mono ?_
          rintro e w3 ⟨rfl, hb3⟩
          refine ⟨_, rfl, ?_⟩
          refine hK.out _ _ ⟨pw_cell_below hb3 (hHeld.1), pw_cell_below hb3 (hHeld.2.1), pw_cell_below hb3 (hHeld.2.2.1), pw_cell_below hb3 (hHeld.2.2.2.1), pw_cell_below hb3 (hHeld.2.2.2.2)⟩ (fun hHeld => ?_)
          clear hK K
          refine norm_ (a' := ?_) ?_ ?_
          rotate_left
          · show Act.put _ (some 65) _ = _
            simp only [Act.put, List.setIfInBounds_toArray, List.set_cons_zero, List.set_cons_succ, i64_w, i32_w]
            rfl
          refine pure_ (i := 15) (N := some 66) (v := ?_) (a' := ?_) #[true, true, true, true, true, true, true, true, true, true, true, true, true, true, true, true, false, false, false, false] rfl rfl (by kernel_rfl) (fun _ _ _ h => h) (Or.inl ⟨by rfl, ?_⟩) ?_ ?_
          rotate_left
          · intro w'
            go_simp
            with_reducible rfl
          rotate_left
          · simp only [Act.put, List.setIfInBounds_toArray, List.set_cons_zero, List.set_cons_succ, i64_w, i32_w]
            rfl
          refine one_ (i := 16) (N := some 67) #[true, true, true, true, true, true, true, true, true, true, true, true, true, true, true, true, true, false, false, false] rfl rfl (by kernel_rfl) (by decide) (fun K hK => ?_)
          refine value_ (w1 := ?_) (v := ?_) (by rfl) rfl ?_ ?_
          rotate_left 2
          · go_simp
            constructor
            · rfl
            · rfl
          refine hK.out _ _ ⟨cell_al _ (hHeld.1), cell_al _ (hHeld.2.1), cell_al _ (hHeld.2.2.1), cell_al _ (hHeld.2.2.2.1), cell_al _ (hHeld.2.2.2.2)⟩ (fun hHeld => ?_)
          clear hK K
          refine norm_ (a' := ?_) ?_ ?_
          rotate_left
          · show Act.put _ (some 67) _ = _
            simp only [Act.put, List.setIfInBounds_toArray, List.set_cons_zero, List.set_cons_succ, i64_w, i32_w]
            rfl
          refine last_ (i := 17) (N := some 68) #[true, true, true, true, true, true, true, true, true, true, true, true, true, true, true, true, true, true, false, false] rfl rfl (by kernel_rfl) (by decide) (fun K hK => ?_)
          have h4 := HT.out.below (below_alloc (bel2 (below_drew (Below.refl _ _)) hb3) (.cells #[.int .i64 r.f0, .int .i64 r.f1.f0, .int .i64 r.f1.f1] 119))
          refine appendN_op (w := w3.alloc (.cells #[.int .i64 r.f0, .int .i64 r.f1.f0, .int .i64 r.f1.f1] 119)) (.tmp 52) (.tmp 67) 36 119 (.agg #[.int .i64 0, .int .i64 0, .int .i64 0]) 3 24 (by rfl) rfl Try.underlying36 info119 rfl (by decide) (by decide) w.heap.size v10 k (rdCells (x.f9.take k)) [.int .i64 r.f0, .int .i64 r.f1.f0, .int .i64 r.f1.f1] w3.heap.size 1 rfl rfl h4.r10 rfl (cells3 (Blk.new _ _ _ _ rfl)) (one3 _ _ _) (by omega) h4.bel.size ?_
          intro v5n w5 ho5 hg5 hat5
          obtain ⟨an, dn, rfl⟩ := own_form ho5
          refine hK.out _ _ ?_
          clear hK K
          refine norm_ (a' := ?_) ?_ ?_
          rotate_left
          · show Act.put _ (some 68) _ = _
            simp only [Act.put, List.setIfInBounds_toArray, List.set_cons_zero, List.set_cons_succ, i64_w, i32_w]
            rfl
          refine pure_ (i := 18) (N := some 69) (v := ?_) (a' := ?_) #[true, true, true, true, true, true, true, true, true, true, true, true, true, true, true, true, true, true, true, false] rfl rfl (by kernel_rfl) (fun _ _ _ h => h) (Or.inl ⟨by rfl, ?_⟩) ?_ ?_
          rotate_left
          · intro w'
            go_simp
            with_reducible rfl
          rotate_left
          · simp only [Act.put, List.setIfInBounds_toArray, List.set_cons_zero, List.set_cons_succ, i64_w, i32_w]
            rfl
          refine last_ (i := 19) (N := none) #[true, true, true, true, true, true, true, true, true, true, true, true, true, true, true, true, true, true, true, true] rfl rfl (by kernel_rfl) (by decide) (fun K hK => ?_)
          have hblk5 := h4.blk.grown hg5 (blk_row h4.blk h4.r10 (by decide))
          have z10 := hblk5.cell 10 _ rfl
          have y10 := hblk5.frozen 10
          refine skip_ (w1 := ?_) (by rfl) rfl ?_ ?_
          rotate_left
          · go_simp
            rfl
          refine hK.out _ _ ?_
          clear hK K
          refine done_ (by kernel_rfl) ?_
          have HN := Aside0.mk (h4.app10 hlt (by rw [HR.out]; exact ho5) hg5)
          clear hHeld h4 ho5 hg5 hat5 q0 q1 q2 kp10 z10 y10 hb3
          go_wp2
          go_roundw
          case rel => exact ⟨k + 1, hlt, by go_num, ⟨_, HN.out⟩⟩
          case measure => simp [intOf]; omega
        · obtain rfl : k = x.f9.length := by omega
          have hltz : ¬ (x.f9.length : Int) < (x.f9.length : Int) := by omega
          obtain ⟨a9, d9, rfl⟩ := own_form HT.out.r9
          obtain ⟨a10, d10, rfl⟩ := own_form HT.out.r10
          have t0 := HT.out.blk.cell 0 _ rfl
          have z0 := HT.out.res.cell 0 _ rfl
          have y0 := HT.out.res.frozen 0
          have t1 := HT.out.blk.cell 1 _ rfl
          have z1 := HT.out.res.cell 1 _ rfl
          have y1 := HT.out.res.frozen 1
          have t2 := HT.out.blk.cell 2 _ rfl
          have z2 := HT.out.res.cell 2 _ rfl
          have y2 := HT.out.res.frozen 2
          have t3 := HT.out.blk.cell 3 _ rfl
          have z3 := HT.out.res.cell 3 _ rfl
          have y3 := HT.out.res.frozen 3
          have t4 := HT.out.blk.cell 4 _ rfl
          have z4 := HT.out.res.cell 4 _ rfl
          have y4 := HT.out.res.frozen 4
          have t5 := HT.out.blk.cell 5 _ rfl
          have z5 := HT.out.res.cell 5 _ rfl
          have y5 := HT.out.res.frozen 5
          have t6 := HT.out.blk.cell 6 _ rfl
          have z6 := HT.out.res.cell 6 _ rfl
          have y6 := HT.out.res.frozen 6
          have t7 := HT.out.blk.cell 7 _ rfl
          have z7 := HT.out.res.cell 7 _ rfl
          have y7 := HT.out.res.frozen 7
          have t8 := HT.out.blk.cell 8 _ rfl
          have z8 := HT.out.res.cell 8 _ rfl
          have y8 := HT.out.res.frozen 8
          have t9 := HT.out.blk.cell 9 _ rfl
          have z9 := HT.out.res.cell 9 _ rfl
          have y9 := HT.out.res.frozen 9
          have t10 := HT.out.blk.cell 10 _ rfl
          have z10 := HT.out.res.cell 10 _ rfl
          have y10 := HT.out.res.frozen 10
          go_wp2
          have hres := put11_blk HT.out.res rfl (.int .i64 x.f0) (.int .i64 x.f1) (.int .i64 x.f2) (.int .i64 x.f3) (.int .i64 x.f4) (.slice a5 x.f5.length d5) (.slice a6 x.f6.length d6) (.int .i64 x.f7.f0) (.int .i64 x.f7.f1) (.slice a9 x.f8.length d9) (.slice a10 x.f9.length d10)
          refine bodyPost_ret (ret38 Try.results22 rfl hres) rfl (cp_end HT.out)
end Go.Proofs.Ytdgkhoflajdidaa
