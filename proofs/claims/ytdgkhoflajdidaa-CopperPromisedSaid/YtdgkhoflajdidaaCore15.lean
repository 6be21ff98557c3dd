/- Lemmas for the laws' proofs: Mc, Md, Md1. -/
import Derived.Test.YtdgkhoflajdidaaCore14
/- Copper: the conversion, the walk. -/
namespace Go.Proofs.Ytdgkhoflajdidaa
open Go.RowKit Go.Proofs.YtdgkhoflajdidaaW.PrintWords Go.Proofs.YtdgkhoflajdidaaW.PrintMore Go.Proofs.YtdgkhoflajdidaaW.PrintLast Go.Proofs.Ytdgkhoflajdidaa.Print
set_option linter.unusedVariables false
set_option linter.unusedSimpArgs false
set_option maxRecDepth 100000
set_option maxHeartbeats 4000000
/-- What Copper leaves: the coppers themselves. -/
def CpPost (x : S38) (w : World) (e : Ending) (w' : World) : Prop := ∃ ds : List Value, e = .returned (.agg ds.toArray) ∧ Below w.heap.size w w' ∧ k38.K w' x ds
theorem cp_end {x : S38} {w W : World} {B Z : Array Value} {p : Nat} {a5 a6 a9 a10 : Option Addr} {d5 d6 d9 d10 : Nat} (h : CpSt x w B Z p (.slice a5 x.f5.length d5) (.slice a6 x.f6.length d6) (.slice a9 x.f8.length d9) x.f8.length (.slice a10 x.f9.length d10) x.f9.length W) :
    CpPost x w (.returned (.agg #[.int .i64 x.f0, .int .i64 x.f1, .int .i64 x.f2, .int .i64 x.f3, .int .i64 x.f4, .slice a5 x.f5.length d5, .slice a6 x.f6.length d6, .int .i64 x.f7.f0, .int .i64 x.f7.f1, .slice a9 x.f8.length d9, .slice a10 x.f9.length d10])) (((((((((((W.setCell ⟨w.heap.size + 1, 0, none⟩ (.int .i64 x.f0)).setCell ⟨w.heap.size + 1, 1, none⟩ (.int .i64 x.f1)).setCell ⟨w.heap.size + 1, 2, none⟩ (.int .i64 x.f2)).setCell ⟨w.heap.size + 1, 3, none⟩ (.int .i64 x.f3)).setCell ⟨w.heap.size + 1, 4, none⟩ (.int .i64 x.f4)).setCell ⟨w.heap.size + 1, 5, none⟩ (.slice a5 x.f5.length d5)).setCell ⟨w.heap.size + 1, 6, none⟩ (.slice a6 x.f6.length d6)).setCell ⟨w.heap.size + 1, 7, none⟩ (.int .i64 x.f7.f0)).setCell ⟨w.heap.size + 1, 8, none⟩ (.int .i64 x.f7.f1)).setCell ⟨w.heap.size + 1, 9, none⟩ (.slice a9 x.f8.length d9)).setCell ⟨w.heap.size + 1, 10, none⟩ (.slice a10 x.f9.length d10)) := by
 have s5 := blk_row h.res h.r5 (by decide)
 have s6 := blk_row h.res h.r6 (by decide)
 have s9 := blk_row h.res h.r9 (by decide)
 have s10 := blk_row h.res h.r10 (by decide)
 have r5 : ((((((((((((W.setCell ⟨w.heap.size + 1, 0, none⟩ (.int .i64 x.f0)).setCell ⟨w.heap.size + 1, 1, none⟩ (.int .i64 x.f1)).setCell ⟨w.heap.size + 1, 2, none⟩ (.int .i64 x.f2)).setCell ⟨w.heap.size + 1, 3, none⟩ (.int .i64 x.f3)).setCell ⟨w.heap.size + 1, 4, none⟩ (.int .i64 x.f4)).setCell ⟨w.heap.size + 1, 5, none⟩ (.slice a5 x.f5.length d5)).setCell ⟨w.heap.size + 1, 6, none⟩ (.slice a6 x.f6.length d6)).setCell ⟨w.heap.size + 1, 7, none⟩ (.int .i64 x.f7.f0)).setCell ⟨w.heap.size + 1, 8, none⟩ (.int .i64 x.f7.f1)).setCell ⟨w.heap.size + 1, 9, none⟩ (.slice a9 x.f8.length d9)).setCell ⟨w.heap.size + 1, 10, none⟩ (.slice a10 x.f9.length d10))).ownsRow w.heap.size 3 1 (.slice a5 x.f5.length d5) x.f5.length (nums .i64 x.f5) := by
  iterate 11 refine own_setCell ?_ (by exact s5) _
  exact h.r5
 have r6 : ((((((((((((W.setCell ⟨w.heap.size + 1, 0, none⟩ (.int .i64 x.f0)).setCell ⟨w.heap.size + 1, 1, none⟩ (.int .i64 x.f1)).setCell ⟨w.heap.size + 1, 2, none⟩ (.int .i64 x.f2)).setCell ⟨w.heap.size + 1, 3, none⟩ (.int .i64 x.f3)).setCell ⟨w.heap.size + 1, 4, none⟩ (.int .i64 x.f4)).setCell ⟨w.heap.size + 1, 5, none⟩ (.slice a5 x.f5.length d5)).setCell ⟨w.heap.size + 1, 6, none⟩ (.slice a6 x.f6.length d6)).setCell ⟨w.heap.size + 1, 7, none⟩ (.int .i64 x.f7.f0)).setCell ⟨w.heap.size + 1, 8, none⟩ (.int .i64 x.f7.f1)).setCell ⟨w.heap.size + 1, 9, none⟩ (.slice a9 x.f8.length d9)).setCell ⟨w.heap.size + 1, 10, none⟩ (.slice a10 x.f9.length d10))).ownsRow w.heap.size 3 1 (.slice a6 x.f6.length d6) x.f6.length (nums .i64 x.f6) := by
  iterate 11 refine own_setCell ?_ (by exact s6) _
  exact h.r6
 have r9 : ((((((((((((W.setCell ⟨w.heap.size + 1, 0, none⟩ (.int .i64 x.f0)).setCell ⟨w.heap.size + 1, 1, none⟩ (.int .i64 x.f1)).setCell ⟨w.heap.size + 1, 2, none⟩ (.int .i64 x.f2)).setCell ⟨w.heap.size + 1, 3, none⟩ (.int .i64 x.f3)).setCell ⟨w.heap.size + 1, 4, none⟩ (.int .i64 x.f4)).setCell ⟨w.heap.size + 1, 5, none⟩ (.slice a5 x.f5.length d5)).setCell ⟨w.heap.size + 1, 6, none⟩ (.slice a6 x.f6.length d6)).setCell ⟨w.heap.size + 1, 7, none⟩ (.int .i64 x.f7.f0)).setCell ⟨w.heap.size + 1, 8, none⟩ (.int .i64 x.f7.f1)).setCell ⟨w.heap.size + 1, 9, none⟩ (.slice a9 x.f8.length d9)).setCell ⟨w.heap.size + 1, 10, none⟩ (.slice a10 x.f9.length d10))).ownsRow w.heap.size 35 2 (.slice a9 x.f8.length d9) x.f8.length (rgCells (x.f8.take x.f8.length)) := by
  iterate 11 refine own_setCell ?_ (by exact s9) _
  exact h.r9
 have r10 : ((((((((((((W.setCell ⟨w.heap.size + 1, 0, none⟩ (.int .i64 x.f0)).setCell ⟨w.heap.size + 1, 1, none⟩ (.int .i64 x.f1)).setCell ⟨w.heap.size + 1, 2, none⟩ (.int .i64 x.f2)).setCell ⟨w.heap.size + 1, 3, none⟩ (.int .i64 x.f3)).setCell ⟨w.heap.size + 1, 4, none⟩ (.int .i64 x.f4)).setCell ⟨w.heap.size + 1, 5, none⟩ (.slice a5 x.f5.length d5)).setCell ⟨w.heap.size + 1, 6, none⟩ (.slice a6 x.f6.length d6)).setCell ⟨w.heap.size + 1, 7, none⟩ (.int .i64 x.f7.f0)).setCell ⟨w.heap.size + 1, 8, none⟩ (.int .i64 x.f7.f1)).setCell ⟨w.heap.size + 1, 9, none⟩ (.slice a9 x.f8.length d9)).setCell ⟨w.heap.size + 1, 10, none⟩ (.slice a10 x.f9.length d10))).ownsRow w.heap.size 119 3 (.slice a10 x.f9.length d10) x.f9.length (rdCells (x.f9.take x.f9.length)) := by
  iterate 11 refine own_setCell ?_ (by exact s10) _
  exact h.r10
 have hb := put11_below h.bel (Nat.le_succ _) (.int .i64 x.f0) (.int .i64 x.f1) (.int .i64 x.f2) (.int .i64 x.f3) (.int .i64 x.f4) (.slice a5 x.f5.length d5) (.slice a6 x.f6.length d6) (.int .i64 x.f7.f0) (.int .i64 x.f7.f1) (.slice a9 x.f8.length d9) (.slice a10 x.f9.length d10)
 generalize (((((((((((W.setCell ⟨w.heap.size + 1, 0, none⟩ (.int .i64 x.f0)).setCell ⟨w.heap.size + 1, 1, none⟩ (.int .i64 x.f1)).setCell ⟨w.heap.size + 1, 2, none⟩ (.int .i64 x.f2)).setCell ⟨w.heap.size + 1, 3, none⟩ (.int .i64 x.f3)).setCell ⟨w.heap.size + 1, 4, none⟩ (.int .i64 x.f4)).setCell ⟨w.heap.size + 1, 5, none⟩ (.slice a5 x.f5.length d5)).setCell ⟨w.heap.size + 1, 6, none⟩ (.slice a6 x.f6.length d6)).setCell ⟨w.heap.size + 1, 7, none⟩ (.int .i64 x.f7.f0)).setCell ⟨w.heap.size + 1, 8, none⟩ (.int .i64 x.f7.f1)).setCell ⟨w.heap.size + 1, 9, none⟩ (.slice a9 x.f8.length d9)).setCell ⟨w.heap.size + 1, 10, none⟩ (.slice a10 x.f9.length d10)) = V at *
 rw [List.take_length] at r9 r10
 obtain ⟨A5, c5, e5, _, g5⟩ := own_C (Kd.int .i64) (.int .i64) rfl (fun _ _ => rfl) (xs := x.f5) rfl (by simp [nums]) r5
 obtain ⟨A6, c6, e6, _, g6⟩ := own_C (Kd.int .i64) (.int .i64) rfl (fun _ _ => rfl) (xs := x.f6) rfl (by simp [nums]) r6
 obtain ⟨A9, c9, e9, g9⟩ := rg_own_C r9 rfl
 obtain ⟨A10, c10, e10, g10⟩ := rd_own_C r10 rfl
 simp only [Value.slice.injEq, true_and] at e5 e6 e9 e10
 obtain ⟨rfl, rfl⟩ := e5
 obtain ⟨rfl, rfl⟩ := e6
 obtain ⟨rfl, rfl⟩ := e9
 obtain ⟨rfl, rfl⟩ := e10
 exact ⟨_, rfl, hb, k38_mk V x (own_cap r5) g5 (own_cap r6) g6 (own_cap r9) g9 (own_cap r10) g10⟩
theorem copper_calls (x : S38) (cs : List Value) (w : World) (hx : k38.K w x cs) (ht : thinB x = true) : Calls Try.prog 22 #[.agg cs.toArray] w (CpPost x w) := by
 have htn : x.f5.length ≤ 30 ∧ x.f6.length ≤ 30 ∧ x.f8.length ≤ 30 ∧ x.f9.length ≤ 30 := by
  unfold thinB at ht
  simp only [Bool.and_eq_true, decide_eq_true_eq] at ht
  exact ht
 obtain ⟨ht5, ht6, ht8, ht9⟩ := htn
 obtain ⟨A5, c5, A6, c6, A9, c9, A10, c10, rfl, l5, g5, l6, g6, l9, g9, l10, g10⟩ := k38_open hx
 have G5 := Aside0.mk g5
 have G6 := Aside0.mk g6
 have G9 := Aside0.mk g9
 have G10 := Aside0.mk g10
 clear hx g5 g6 g9 g10 l5 l6 l9 l10 ht
 have hu := Try.underlying28
 have hu2 := Try.underlying38
 have hu3 := Try.underlying24
 have hu4 := Try.underlying96
 have hu5 := Try.underlying35
 have HB1 := Aside0.mk (Blk.new w #[.int .i64 x.f0, .int .i64 x.f1, .int .i64 x.f2, .int .i64 x.f3, .int .i64 x.f4, .slice A5 x.f5.length c5, .slice A6 x.f6.length c6, .int .i64 x.f7.f0, .int .i64 x.f7.f1, .slice A9 x.f8.length c9, .slice A10 x.f9.length c10] 28 _ rfl)
 have HB0 := Aside0.mk (below_alloc (below_alloc (Below.refl w.heap.size w) (.cells #[.int .i64 x.f0, .int .i64 x.f1, .int .i64 x.f2, .int .i64 x.f3, .int .i64 x.f4, .slice A5 x.f5.length c5, .slice A6 x.f6.length c6, .int .i64 x.f7.f0, .int .i64 x.f7.f1, .slice A9 x.f8.length c9, .slice A10 x.f9.length c10] 28)) (.cells #[.int .i64 0, .int .i64 0, .int .i64 0, .int .i64 0, .int .i64 0, .slice none 0 0, .slice none 0 0, .int .i64 0, .int .i64 0, .slice none 0 0, .slice none 0 0] 38))
 have HBZ := Aside0.mk (And.intro (HB1.out.alloc (.cells #[.int .i64 0, .int .i64 0, .int .i64 0, .int .i64 0, .int .i64 0, .slice none 0 0, .slice none 0 0, .int .i64 0, .int .i64 0, .slice none 0 0, .slice none 0 0] 38)) (Blk.new (w.alloc (.cells #[.int .i64 x.f0, .int .i64 x.f1, .int .i64 x.f2, .int .i64 x.f3, .int .i64 x.f4, .slice A5 x.f5.length c5, .slice A6 x.f6.length c6, .int .i64 x.f7.f0, .int .i64 x.f7.f1, .slice A9 x.f8.length c9, .slice A10 x.f9.length c10] 28)) #[.int .i64 0, .int .i64 0, .int .i64 0, .int .i64 0, .int .i64 0, .slice none 0 0, .slice none 0 0, .int .i64 0, .int .i64 0, .slice none 0 0, .slice none 0 0] 38 (w.heap.size + 1) (by simp)))
 go_enter Try.func22, Try.ntmps22
 go_wp2
 have hsz0 : w.heap.size + 1 < ((w.alloc (.cells #[.int .i64 x.f0, .int .i64 x.f1, .int .i64 x.f2, .int .i64 x.f3, .int .i64 x.f4, .slice A5 x.f5.length c5, .slice A6 x.f6.length c6, .int .i64 x.f7.f0, .int .i64 x.f7.f1, .slice A9 x.f8.length c9, .slice A10 x.f9.length c10] 28)).alloc (.cells #[.int .i64 0, .int .i64 0, .int .i64 0, .int .i64 0, .int .i64 0, .slice none 0 0, .slice none 0 0, .int .i64 0, .int .i64 0, .slice none 0 0, .slice none 0 0] 38)).heap.size := by simp
 generalize ((w.alloc (.cells #[.int .i64 x.f0, .int .i64 x.f1, .int .i64 x.f2, .int .i64 x.f3, .int .i64 x.f4, .slice A5 x.f5.length c5, .slice A6 x.f6.length c6, .int .i64 x.f7.f0, .int .i64 x.f7.f1, .slice A9 x.f8.length c9, .slice A10 x.f9.length c10] 28)).alloc (.cells #[.int .i64 0, .int .i64 0, .int .i64 0, .int .i64 0, .int .i64 0, .slice none 0 0, .slice none 0 0, .int .i64 0, .int .i64 0, .slice none 0 0, .slice none 0 0] 38)) = W at *
 have k0 := HBZ.out.1.cell 0 _ rfl
 have k1 := HBZ.out.1.cell 1 _ rfl
 have k2 := HBZ.out.1.cell 2 _ rfl
 have k3 := HBZ.out.1.cell 3 _ rfl
 have k4 := HBZ.out.1.cell 4 _ rfl
 have k5 := HBZ.out.1.cell 5 _ rfl
 have k6 := HBZ.out.1.cell 6 _ rfl
 have k7 := HBZ.out.1.cell 7 _ rfl
 have k8 := HBZ.out.1.cell 8 _ rfl
 refine start_ (n := 22) (S := fun w' => w'.cell? ⟨w.heap.size, 0, none⟩ = some (.int .i64 x.f0) ∧ w'.cell? ⟨w.heap.size, 1, none⟩ = some (.int .i64 x.f1) ∧ w'.cell? ⟨w.heap.size, 2, none⟩ = some (.int .i64 x.f2) ∧ w'.cell? ⟨w.heap.size, 3, none⟩ = some (.int .i64 x.f3) ∧ w'.cell? ⟨w.heap.size, 4, none⟩ = some (.int .i64 x.f4) ∧ w'.cell? ⟨w.heap.size, 5, none⟩ = some (.slice A5 x.f5.length c5) ∧ w'.cell? ⟨w.heap.size, 6, none⟩ = some (.slice A6 x.f6.length c6) ∧ w'.cell? ⟨w.heap.size, 7, none⟩ = some (.int .i64 x.f7.f0) ∧ w'.cell? ⟨w.heap.size, 8, none⟩ = some (.int .i64 x.f7.f1)) (ds := [21]) #[false, false, false, false, false, false, false, false, false, false, false, false, false, false, false, false, false, false, false, false, false, false] (by kernel_rfl) rfl rfl ⟨k0, k1, k2, k3, k4, k5, k6, k7, k8⟩ (fun hHeld => ?_)
 refine pure_ (i := 0) (N := some 6) (v := ?_) (a' := ?_) (bs 22 1) rfl rfl (by kernel_rfl) (fun _ _ _ h => h) (Or.inl ⟨by rfl, ?_⟩) ?_ ?_
 rotate_left
 ·intro w'
  go_simp
  with_reducible rfl
 rotate_left
 ·simp only [Act.put, List.setIfInBounds_toArray, List.set_cons_zero, List.set_cons_succ, i64_w, i32_w]
  rfl
 refine pure_ (i := 2) (N := some 8) (v := ?_) (a' := ?_) (bs 22 5) rfl rfl (by kernel_rfl) (fun _ _ _ h => h) (Or.inl ⟨by rfl, ?_⟩) ?_ ?_
 rotate_left
 ·intro w'
  go_simp
  with_reducible rfl
 rotate_left
 ·simp only [Act.put, List.setIfInBounds_toArray, List.set_cons_zero, List.set_cons_succ, i64_w, i32_w]
  rfl
 refine pure_ (i := 4) (N := some 10) (v := ?_) (a' := ?_) (bs 22 21) rfl rfl (by kernel_rfl) (fun _ _ _ h => h) (Or.inl ⟨by rfl, ?_⟩) ?_ ?_
 rotate_left
 ·intro w'
  go_simp
  with_reducible rfl
 rotate_left
 ·simp only [Act.put, List.setIfInBounds_toArray, List.set_cons_zero, List.set_cons_succ, i64_w, i32_w]
  rfl
 refine pure_ (i := 6) (N := some 12) (v := ?_) (a' := ?_) (bs 22 85) rfl rfl (by kernel_rfl) (fun _ _ _ h => h) (Or.inl ⟨by rfl, ?_⟩) ?_ ?_
 rotate_left
 ·intro w'
  go_simp
  with_reducible rfl
 rotate_left
 ·simp only [Act.put, List.setIfInBounds_toArray, List.set_cons_zero, List.set_cons_succ, i64_w, i32_w]
  rfl
 refine pure_ (i := 8) (N := some 14) (v := ?_) (a' := ?_) (bs 22 341) rfl rfl (by kernel_rfl) (fun _ _ _ h => h) (Or.inl ⟨by rfl, ?_⟩) ?_ ?_
 rotate_left
 ·intro w'
  go_simp
  with_reducible rfl
 rotate_left
 ·simp only [Act.put, List.setIfInBounds_toArray, List.set_cons_zero, List.set_cons_succ, i64_w, i32_w]
  rfl
 refine pure_ (i := 10) (N := some 16) (v := ?_) (a' := ?_) (bs 22 1365) rfl rfl (by kernel_rfl) (fun _ _ _ h => h) (Or.inl ⟨by rfl, ?_⟩) ?_ ?_
 rotate_left
 ·intro w'
  go_simp
  with_reducible rfl
 rotate_left
 ·simp only [Act.put, List.setIfInBounds_toArray, List.set_cons_zero, List.set_cons_succ, i64_w, i32_w]
  rfl
 refine pure_ (i := 13) (N := some 19) (v := ?_) (a' := ?_) (bs 22 9557) rfl rfl (by kernel_rfl) (fun _ _ _ h => h) (Or.inl ⟨by rfl, ?_⟩) ?_ ?_
 rotate_left
 ·intro w'
  go_simp
  with_reducible rfl
 rotate_left
 ·simp only [Act.put, List.setIfInBounds_toArray, List.set_cons_zero, List.set_cons_succ, i64_w, i32_w]
  rfl
 refine pure_ (i := 16) (N := some 22) (v := ?_) (a' := ?_) (bs 22 75093) rfl rfl (by kernel_rfl) (fun _ _ _ h => h) (Or.inl ⟨by rfl, ?_⟩) ?_ ?_
 rotate_left
 ·intro w'
  go_simp
  with_reducible rfl
 rotate_left
 ·simp only [Act.put, List.setIfInBounds_toArray, List.set_cons_zero, List.set_cons_succ, i64_w, i32_w]
  rfl
 refine take_ (i := 1) (N := some 7) (v := ?_) (a' := ?_) (bs 22 75095) rfl rfl (by kernel_rfl) (fun _ _ _ h => h) (Or.inl ⟨by rfl, ?_⟩) hHeld ?_ ?_
 rotate_left
 ·rintro w' ⟨s0, s1, s2, s3, s4, s5, s6, s7, s8⟩
  go_simp
  with_reducible rfl
 rotate_left
 ·simp only [Act.put, List.setIfInBounds_toArray, List.set_cons_zero, List.set_cons_succ, i64_w, i32_w]
  rfl
 refine take_ (i := 3) (N := some 9) (v := ?_) (a' := ?_) (bs 22 75103) rfl rfl (by kernel_rfl) (fun _ _ _ h => h) (Or.inl ⟨by rfl, ?_⟩) hHeld ?_ ?_
 rotate_left
 ·rintro w' ⟨s0, s1, s2, s3, s4, s5, s6, s7, s8⟩
  go_simp
  with_reducible rfl
 rotate_left
 ·simp only [Act.put, List.setIfInBounds_toArray, List.set_cons_zero, List.set_cons_succ, i64_w, i32_w]
  rfl
 refine take_ (i := 5) (N := some 11) (v := ?_) (a' := ?_) (bs 22 75135) rfl rfl (by kernel_rfl) (fun _ _ _ h => h) (Or.inl ⟨by rfl, ?_⟩) hHeld ?_ ?_
 rotate_left
 ·rintro w' ⟨s0, s1, s2, s3, s4, s5, s6, s7, s8⟩
  go_simp
  with_reducible rfl
 rotate_left
 ·simp only [Act.put, List.setIfInBounds_toArray, List.set_cons_zero, List.set_cons_succ, i64_w, i32_w]
  rfl
 refine take_ (i := 7) (N := some 13) (v := ?_) (a' := ?_) (bs 22 75263) rfl rfl (by kernel_rfl) (fun _ _ _ h => h) (Or.inl ⟨by rfl, ?_⟩) hHeld ?_ ?_
 rotate_left
 ·rintro w' ⟨s0, s1, s2, s3, s4, s5, s6, s7, s8⟩
  go_simp
  with_reducible rfl
 rotate_left
 ·simp only [Act.put, List.setIfInBounds_toArray, List.set_cons_zero, List.set_cons_succ, i64_w, i32_w]
  rfl
 refine take_ (i := 9) (N := some 15) (v := ?_) (a' := ?_) (bs 22 75775) rfl rfl (by kernel_rfl) (fun _ _ _ h => h) (Or.inl ⟨by rfl, ?_⟩) hHeld ?_ ?_
 rotate_left
 ·rintro w' ⟨s0, s1, s2, s3, s4, s5, s6, s7, s8⟩
  go_simp
  with_reducible rfl
 rotate_left
 ·simp only [Act.put, List.setIfInBounds_toArray, List.set_cons_zero, List.set_cons_succ, i64_w, i32_w]
  rfl
 refine take_ (i := 11) (N := some 17) (v := ?_) (a' := ?_) (bs 22 77823) rfl rfl (by kernel_rfl) (fun _ _ _ h => h) (Or.inl ⟨by rfl, ?_⟩) hHeld ?_ ?_
 rotate_left
 ·rintro w' ⟨s0, s1, s2, s3, s4, s5, s6, s7, s8⟩
  go_simp
  with_reducible rfl
 rotate_left
 ·simp only [Act.put, List.setIfInBounds_toArray, List.set_cons_zero, List.set_cons_succ, i64_w, i32_w]
  rfl
 refine take_ (i := 14) (N := some 20) (v := ?_) (a' := ?_) (bs 22 94207) rfl rfl (by kernel_rfl) (fun _ _ _ h => h) (Or.inl ⟨by rfl, ?_⟩) hHeld ?_ ?_
 rotate_left
 ·rintro w' ⟨s0, s1, s2, s3, s4, s5, s6, s7, s8⟩
  go_simp
  with_reducible rfl
 rotate_left
 ·simp only [Act.put, List.setIfInBounds_toArray, List.set_cons_zero, List.set_cons_succ, i64_w, i32_w]
  rfl
 refine take_ (i := 17) (N := some 23) (v := ?_) (a' := ?_) (bs 22 225279) rfl rfl (by kernel_rfl) (fun _ _ _ h => h) (Or.inl ⟨by rfl, ?_⟩) hHeld ?_ ?_
 rotate_left
 ·rintro w' ⟨s0, s1, s2, s3, s4, s5, s6, s7, s8⟩
  go_simp
  with_reducible rfl
 rotate_left
 ·simp only [Act.put, List.setIfInBounds_toArray, List.set_cons_zero, List.set_cons_succ, i64_w, i32_w]
  rfl
 refine join_ (σ := (Option Addr × Nat) × (Option Addr × Nat) × Nat) 1 (bs 22 2097151) (fun s => [(18, .slice s.1.1 x.f5.length s.1.2), (21, .slice s.2.1.1 x.f6.length s.2.1.2), (24, .agg #[.int .i64 x.f7.f0, .int .i64 x.f7.f1]), (3, .pointer (some ⟨s.2.2, 0, none⟩)), (25, .agg #[.int .i64 x.f0, .int .i64 x.f1, .int .i64 x.f2, .int .i64 x.f3, .int .i64 x.f4, .slice s.1.1 x.f5.length s.1.2, .slice s.2.1.1 x.f6.length s.2.1.2, .int .i64 x.f7.f0, .int .i64 x.f7.f1, .slice none 0 0, .slice none 0 0])]) (fun s w' => (w'.cell? ⟨w.heap.size, 0, none⟩ = some (.int .i64 x.f0) ∧ w'.cell? ⟨w.heap.size, 1, none⟩ = some (.int .i64 x.f1) ∧ w'.cell? ⟨w.heap.size, 2, none⟩ = some (.int .i64 x.f2) ∧ w'.cell? ⟨w.heap.size, 3, none⟩ = some (.int .i64 x.f3) ∧ w'.cell? ⟨w.heap.size, 4, none⟩ = some (.int .i64 x.f4) ∧ w'.cell? ⟨w.heap.size, 5, none⟩ = some (.slice A5 x.f5.length c5) ∧ w'.cell? ⟨w.heap.size, 6, none⟩ = some (.slice A6 x.f6.length c6) ∧ w'.cell? ⟨w.heap.size, 7, none⟩ = some (.int .i64 x.f7.f0) ∧ w'.cell? ⟨w.heap.size, 8, none⟩ = some (.int .i64 x.f7.f1)) ∧ Below W.heap.size W w' ∧ w'.ownsRow W.heap.size 3 1 (.slice s.1.1 x.f5.length s.1.2) x.f5.length (nums .i64 x.f5) ∧ w'.ownsRow W.heap.size 3 1 (.slice s.2.1.1 x.f6.length s.2.1.2) x.f6.length (nums .i64 x.f6) ∧ Blk w' s.2.2 #[.int .i64 0, .int .i64 0, .int .i64 0, .int .i64 0, .int .i64 0, .slice none 0 0, .slice none 0 0, .int .i64 0, .int .i64 0, .slice none 0 0, .slice none 0 0] 38 ∧ W.heap.size ≤ s.2.2) ?_ ?_
 rotate_left
 ·intro hJ12_15_18_20
  refine join_ (σ := (Option Addr × Nat) × (Option Addr × Nat) × Nat) 2 (bs 22 1048575) (fun s => [(18, .slice s.1.1 x.f5.length s.1.2), (21, .slice s.2.1.1 x.f6.length s.2.1.2), (24, .agg #[.int .i64 x.f7.f0, .int .i64 x.f7.f1]), (25, .agg #[.int .i64 x.f0, .int .i64 x.f1, .int .i64 x.f2, .int .i64 x.f3, .int .i64 x.f4, .slice s.1.1 x.f5.length s.1.2, .slice s.2.1.1 x.f6.length s.2.1.2, .int .i64 x.f7.f0, .int .i64 x.f7.f1, .slice none 0 0, .slice none 0 0])]) (fun s w' => (w'.cell? ⟨w.heap.size, 0, none⟩ = some (.int .i64 x.f0) ∧ w'.cell? ⟨w.heap.size, 1, none⟩ = some (.int .i64 x.f1) ∧ w'.cell? ⟨w.heap.size, 2, none⟩ = some (.int .i64 x.f2) ∧ w'.cell? ⟨w.heap.size, 3, none⟩ = some (.int .i64 x.f3) ∧ w'.cell? ⟨w.heap.size, 4, none⟩ = some (.int .i64 x.f4) ∧ w'.cell? ⟨w.heap.size, 5, none⟩ = some (.slice A5 x.f5.length c5) ∧ w'.cell? ⟨w.heap.size, 6, none⟩ = some (.slice A6 x.f6.length c6) ∧ w'.cell? ⟨w.heap.size, 7, none⟩ = some (.int .i64 x.f7.f0) ∧ w'.cell? ⟨w.heap.size, 8, none⟩ = some (.int .i64 x.f7.f1)) ∧ Below W.heap.size W w' ∧ w'.ownsRow W.heap.size 3 1 (.slice s.1.1 x.f5.length s.1.2) x.f5.length (nums .i64 x.f5) ∧ w'.ownsRow W.heap.size 3 1 (.slice s.2.1.1 x.f6.length s.2.1.2) x.f6.length (nums .i64 x.f6)) ?_ ?_
  rotate_left
  ·intro hJ12_15_18
   refine join_ (σ := (Option Addr × Nat) × (Option Addr × Nat) × Nat) 3 (bs 22 1310719) (fun s => [(18, .slice s.1.1 x.f5.length s.1.2), (21, .slice s.2.1.1 x.f6.length s.2.1.2), (3, .pointer (some ⟨s.2.2, 0, none⟩))]) (fun s w' => (w'.cell? ⟨w.heap.size, 0, none⟩ = some (.int .i64 x.f0) ∧ w'.cell? ⟨w.heap.size, 1, none⟩ = some (.int .i64 x.f1) ∧ w'.cell? ⟨w.heap.size, 2, none⟩ = some (.int .i64 x.f2) ∧ w'.cell? ⟨w.heap.size, 3, none⟩ = some (.int .i64 x.f3) ∧ w'.cell? ⟨w.heap.size, 4, none⟩ = some (.int .i64 x.f4) ∧ w'.cell? ⟨w.heap.size, 5, none⟩ = some (.slice A5 x.f5.length c5) ∧ w'.cell? ⟨w.heap.size, 6, none⟩ = some (.slice A6 x.f6.length c6) ∧ w'.cell? ⟨w.heap.size, 7, none⟩ = some (.int .i64 x.f7.f0) ∧ w'.cell? ⟨w.heap.size, 8, none⟩ = some (.int .i64 x.f7.f1)) ∧ Below W.heap.size W w' ∧ w'.ownsRow W.heap.size 3 1 (.slice s.1.1 x.f5.length s.1.2) x.f5.length (nums .i64 x.f5) ∧ w'.ownsRow W.heap.size 3 1 (.slice s.2.1.1 x.f6.length s.2.1.2) x.f6.length (nums .i64 x.f6) ∧ Blk w' s.2.2 #[.int .i64 0, .int .i64 0, .int .i64 0, .int .i64 0, .int .i64 0, .slice none 0 0, .slice none 0 0, .int .i64 0, .int .i64 0, .slice none 0 0, .slice none 0 0] 38 ∧ W.heap.size ≤ s.2.2) ?_ ?_
   rotate_left
   ·intro hJ12_15_20
    refine join_ (σ := (Option Addr × Nat) × (Option Addr × Nat) × Nat) 4 (bs 22 262143) (fun s => [(18, .slice s.1.1 x.f5.length s.1.2), (21, .slice s.2.1.1 x.f6.length s.2.1.2)]) (fun s w' => (w'.cell? ⟨w.heap.size, 0, none⟩ = some (.int .i64 x.f0) ∧ w'.cell? ⟨w.heap.size, 1, none⟩ = some (.int .i64 x.f1) ∧ w'.cell? ⟨w.heap.size, 2, none⟩ = some (.int .i64 x.f2) ∧ w'.cell? ⟨w.heap.size, 3, none⟩ = some (.int .i64 x.f3) ∧ w'.cell? ⟨w.heap.size, 4, none⟩ = some (.int .i64 x.f4) ∧ w'.cell? ⟨w.heap.size, 5, none⟩ = some (.slice A5 x.f5.length c5) ∧ w'.cell? ⟨w.heap.size, 6, none⟩ = some (.slice A6 x.f6.length c6) ∧ w'.cell? ⟨w.heap.size, 7, none⟩ = some (.int .i64 x.f7.f0) ∧ w'.cell? ⟨w.heap.size, 8, none⟩ = some (.int .i64 x.f7.f1)) ∧ Below W.heap.size W w' ∧ w'.ownsRow W.heap.size 3 1 (.slice s.1.1 x.f5.length s.1.2) x.f5.length (nums .i64 x.f5) ∧ w'.ownsRow W.heap.size 3 1 (.slice s.2.1.1 x.f6.length s.2.1.2) x.f6.length (nums .i64 x.f6)) ?_ ?_
    rotate_left
    ·intro hJ12_15
     refine join_ (σ := (Option Addr × Nat) × (Option Addr × Nat) × Nat) 4 (bs 22 1277951) (fun s => [(18, .slice s.1.1 x.f5.length s.1.2), (3, .pointer (some ⟨s.2.2, 0, none⟩))]) (fun s w' => (w'.cell? ⟨w.heap.size, 0, none⟩ = some (.int .i64 x.f0) ∧ w'.cell? ⟨w.heap.size, 1, none⟩ = some (.int .i64 x.f1) ∧ w'.cell? ⟨w.heap.size, 2, none⟩ = some (.int .i64 x.f2) ∧ w'.cell? ⟨w.heap.size, 3, none⟩ = some (.int .i64 x.f3) ∧ w'.cell? ⟨w.heap.size, 4, none⟩ = some (.int .i64 x.f4) ∧ w'.cell? ⟨w.heap.size, 5, none⟩ = some (.slice A5 x.f5.length c5) ∧ w'.cell? ⟨w.heap.size, 6, none⟩ = some (.slice A6 x.f6.length c6) ∧ w'.cell? ⟨w.heap.size, 7, none⟩ = some (.int .i64 x.f7.f0) ∧ w'.cell? ⟨w.heap.size, 8, none⟩ = some (.int .i64 x.f7.f1)) ∧ Below W.heap.size W w' ∧ w'.ownsRow W.heap.size 3 1 (.slice s.1.1 x.f5.length s.1.2) x.f5.length (nums .i64 x.f5) ∧ Blk w' s.2.2 #[.int .i64 0, .int .i64 0, .int .i64 0, .int .i64 0, .int .i64 0, .slice none 0 0, .slice none 0 0, .int .i64 0, .int .i64 0, .slice none 0 0, .slice none 0 0] 38 ∧ W.heap.size ≤ s.2.2) ?_ ?_
     rotate_left
     ·intro hJ12_20
      refine join_ (σ := (Option Addr × Nat) × (Option Addr × Nat) × Nat) 5 (bs 22 229375) (fun s => [(18, .slice s.1.1 x.f5.length s.1.2)]) (fun s w' => (w'.cell? ⟨w.heap.size, 0, none⟩ = some (.int .i64 x.f0) ∧ w'.cell? ⟨w.heap.size, 1, none⟩ = some (.int .i64 x.f1) ∧ w'.cell? ⟨w.heap.size, 2, none⟩ = some (.int .i64 x.f2) ∧ w'.cell? ⟨w.heap.size, 3, none⟩ = some (.int .i64 x.f3) ∧ w'.cell? ⟨w.heap.size, 4, none⟩ = some (.int .i64 x.f4) ∧ w'.cell? ⟨w.heap.size, 5, none⟩ = some (.slice A5 x.f5.length c5) ∧ w'.cell? ⟨w.heap.size, 6, none⟩ = some (.slice A6 x.f6.length c6) ∧ w'.cell? ⟨w.heap.size, 7, none⟩ = some (.int .i64 x.f7.f0) ∧ w'.cell? ⟨w.heap.size, 8, none⟩ = some (.int .i64 x.f7.f1)) ∧ Below W.heap.size W w' ∧ w'.ownsRow W.heap.size 3 1 (.slice s.1.1 x.f5.length s.1.2) x.f5.length (nums .i64 x.f5)) ?_ ?_
      rotate_left
      ·intro hJ12
       refine join_ (σ := (Option Addr × Nat) × (Option Addr × Nat) × Nat) 5 (bs 22 1273855) (fun s => [(3, .pointer (some ⟨s.2.2, 0, none⟩))]) (fun s w' => (w'.cell? ⟨w.heap.size, 0, none⟩ = some (.int .i64 x.f0) ∧ w'.cell? ⟨w.heap.size, 1, none⟩ = some (.int .i64 x.f1) ∧ w'.cell? ⟨w.heap.size, 2, none⟩ = some (.int .i64 x.f2) ∧ w'.cell? ⟨w.heap.size, 3, none⟩ = some (.int .i64 x.f3) ∧ w'.cell? ⟨w.heap.size, 4, none⟩ = some (.int .i64 x.f4) ∧ w'.cell? ⟨w.heap.size, 5, none⟩ = some (.slice A5 x.f5.length c5) ∧ w'.cell? ⟨w.heap.size, 6, none⟩ = some (.slice A6 x.f6.length c6) ∧ w'.cell? ⟨w.heap.size, 7, none⟩ = some (.int .i64 x.f7.f0) ∧ w'.cell? ⟨w.heap.size, 8, none⟩ = some (.int .i64 x.f7.f1)) ∧ Below W.heap.size W w' ∧ Blk w' s.2.2 #[.int .i64 0, .int .i64 0, .int .i64 0, .int .i64 0, .int .i64 0, .slice none 0 0, .slice none 0 0, .int .i64 0, .int .i64 0, .slice none 0 0, .slice none 0 0] 38 ∧ W.heap.size ≤ s.2.2) ?_ ?_
       rotate_left
       ·intro hJ20
        refine two_ (i := 12) (j := 20) (Ni := some 18) (Nj := some 3) (bs 22 229375) (bs 22 1273855) rfl rfl rfl rfl (by kernel_rfl) (by decide) (by decide) (fun K hK => ?_) (fun K hK => ?_)
        ·skip
         refine goes_ Try.func27 (by kernel_rfl) rfl #[.slice A5 x.f5.length c5] (by rfl) rfl rfl (by simp only [List.map_toArray, List.map_cons, List.map_nil]; rfl) ?_
         with_reducible refine (listS_calls A5 c5 x.f5 _ (Kd.C_below G5.out (bel2 HB0.out (below_drew (Below.refl W.heap.size W)))) (by omega)).mono ?_
         rintro e w5 ⟨an, dn, rfl, hrn, hb5⟩
         refine ⟨_, rfl, ?_⟩
         refine hK.out _ _ ⟨pw_cell_below hb5 (hHeld.1), pw_cell_below hb5 (hHeld.2.1), pw_cell_below hb5 (hHeld.2.2.1), pw_cell_below hb5 (hHeld.2.2.2.1), pw_cell_below hb5 (hHeld.2.2.2.2.1), pw_cell_below hb5 (hHeld.2.2.2.2.2.1), pw_cell_below hb5 (hHeld.2.2.2.2.2.2.1), pw_cell_below hb5 (hHeld.2.2.2.2.2.2.2.1), pw_cell_below hb5 (hHeld.2.2.2.2.2.2.2.2)⟩ (fun hHeld => ?_)
         clear hK K
         refine norm_ (a' := ?_) ?_ ?_
         rotate_left
         ·show Act.put _ (some 18) _ = _
          simp only [Act.put, List.setIfInBounds_toArray, List.set_cons_zero, List.set_cons_succ, i64_w, i32_w]
          rfl
         exact norm_ (by first | (simp only [putAll, Act.put, List.setIfInBounds_toArray, List.set_cons_zero, List.set_cons_succ]; done) | (simp only [putAll, Act.put, List.setIfInBounds_toArray, List.set_cons_zero, List.set_cons_succ]; rfl)) (hJ12 ((an, dn), (none, 0), 0) _ ⟨hHeld, bel2 (below_drew (Below.refl W.heap.size W)) hb5, own_weaken hrn ((below_drew (Below.refl W.heap.size W))).size⟩)
        ·skip
         refine value_ (w1 := ?_) (v := ?_) (by rfl) rfl ?_ ?_
         rotate_left 2
         ·go_simp
          constructor
          ·rfl
          ·rfl
         refine hK.out _ _ ⟨cell_al _ (hHeld.1), cell_al _ (hHeld.2.1), cell_al _ (hHeld.2.2.1), cell_al _ (hHeld.2.2.2.1), cell_al _ (hHeld.2.2.2.2.1), cell_al _ (hHeld.2.2.2.2.2.1), cell_al _ (hHeld.2.2.2.2.2.2.1), cell_al _ (hHeld.2.2.2.2.2.2.2.1), cell_al _ (hHeld.2.2.2.2.2.2.2.2)⟩ (fun hHeld => ?_)
         clear hK K
         refine norm_ (a' := ?_) ?_ ?_
         rotate_left
         ·show Act.put _ (some 3) _ = _
          simp only [Act.put, List.setIfInBounds_toArray, List.set_cons_zero, List.set_cons_succ, i64_w, i32_w]
          rfl
         exact norm_ (by first | (simp only [putAll, Act.put, List.setIfInBounds_toArray, List.set_cons_zero, List.set_cons_succ]; done) | (simp only [putAll, Act.put, List.setIfInBounds_toArray, List.set_cons_zero, List.set_cons_succ]; rfl)) (hJ20 ((none, 0), (none, 0), W.drew.heap.size) _ ⟨hHeld, below_alloc (below_drew (Below.refl W.heap.size W)) _, Blk.new _ _ _ _ rfl, ((below_drew (Below.refl W.heap.size W))).size⟩)
       ·skip
        rintro ⟨⟨a5, d5⟩, ⟨a6, d6⟩, p⟩ w4 ⟨hHeld, hB, b20, l20⟩
        try dsimp only at *
        refine norm_ (a' := ?_) ?_ ?_
        rotate_left
        ·simp only [putAll, Act.put, List.setIfInBounds_toArray, List.set_cons_zero, List.set_cons_succ]
         rfl
        refine one_ (i := 12) (N := some 18) (bs 22 1277951) rfl rfl (by kernel_rfl) (by decide) (fun K hK => ?_)
        refine goes_ Try.func27 (by kernel_rfl) rfl #[.slice A5 x.f5.length c5] (by rfl) rfl rfl (by simp only [List.map_toArray, List.map_cons, List.map_nil]; rfl) ?_
        with_reducible refine (listS_calls A5 c5 x.f5 _ (Kd.C_below G5.out (bel2 HB0.out hB)) (by omega)).mono ?_
        rintro e w5 ⟨an, dn, rfl, hrn, hb5⟩
        refine ⟨_, rfl, ?_⟩
        refine hK.out _ _ ⟨pw_cell_below hb5 (hHeld.1), pw_cell_below hb5 (hHeld.2.1), pw_cell_below hb5 (hHeld.2.2.1), pw_cell_below hb5 (hHeld.2.2.2.1), pw_cell_below hb5 (hHeld.2.2.2.2.1), pw_cell_below hb5 (hHeld.2.2.2.2.2.1), pw_cell_below hb5 (hHeld.2.2.2.2.2.2.1), pw_cell_below hb5 (hHeld.2.2.2.2.2.2.2.1), pw_cell_below hb5 (hHeld.2.2.2.2.2.2.2.2)⟩ (fun hHeld => ?_)
        clear hK K
        refine norm_ (a' := ?_) ?_ ?_
        rotate_left
        ·show Act.put _ (some 18) _ = _
         simp only [Act.put, List.setIfInBounds_toArray, List.set_cons_zero, List.set_cons_succ, i64_w, i32_w]
         rfl
        exact norm_ (by first | (simp only [putAll, Act.put, List.setIfInBounds_toArray, List.set_cons_zero, List.set_cons_succ]; done) | (simp only [putAll, Act.put, List.setIfInBounds_toArray, List.set_cons_zero, List.set_cons_succ]; rfl)) (hJ12_20 ((an, dn), (none, 0), p) _ ⟨hHeld, bel2 hB hb5, own_weaken hrn (hB).size, b20.below hb5, l20⟩)
      ·skip
       rintro ⟨⟨a5, d5⟩, ⟨a6, d6⟩, p⟩ w4 ⟨hHeld, hB, r12⟩
       try dsimp only at *
       refine norm_ (a' := ?_) ?_ ?_
       rotate_left
       ·simp only [putAll, Act.put, List.setIfInBounds_toArray, List.set_cons_zero, List.set_cons_succ]
        rfl
       refine two_ (i := 15) (j := 20) (Ni := some 21) (Nj := some 3) (bs 22 262143) (bs 22 1277951) rfl rfl rfl rfl (by kernel_rfl) (by decide) (by decide) (fun K hK => ?_) (fun K hK => ?_)
       ·skip
        refine goes_ Try.func27 (by kernel_rfl) rfl #[.slice A6 x.f6.length c6] (by rfl) rfl rfl (by simp only [List.map_toArray, List.map_cons, List.map_nil]; rfl) ?_
        with_reducible refine (listS_calls A6 c6 x.f6 _ (Kd.C_below G6.out (bel2 HB0.out hB)) (by omega)).mono ?_
        rintro e w5 ⟨an, dn, rfl, hrn, hb5⟩
        refine ⟨_, rfl, ?_⟩
        refine hK.out _ _ ⟨pw_cell_below hb5 (hHeld.1), pw_cell_below hb5 (hHeld.2.1), pw_cell_below hb5 (hHeld.2.2.1), pw_cell_below hb5 (hHeld.2.2.2.1), pw_cell_below hb5 (hHeld.2.2.2.2.1), pw_cell_below hb5 (hHeld.2.2.2.2.2.1), pw_cell_below hb5 (hHeld.2.2.2.2.2.2.1), pw_cell_below hb5 (hHeld.2.2.2.2.2.2.2.1), pw_cell_below hb5 (hHeld.2.2.2.2.2.2.2.2)⟩ (fun hHeld => ?_)
        clear hK K
        refine norm_ (a' := ?_) ?_ ?_
        rotate_left
        ·show Act.put _ (some 21) _ = _
         simp only [Act.put, List.setIfInBounds_toArray, List.set_cons_zero, List.set_cons_succ, i64_w, i32_w]
         rfl
        exact norm_ (by first | (simp only [putAll, Act.put, List.setIfInBounds_toArray, List.set_cons_zero, List.set_cons_succ]; done) | (simp only [putAll, Act.put, List.setIfInBounds_toArray, List.set_cons_zero, List.set_cons_succ]; rfl)) (hJ12_15 ((a5, d5), (an, dn), 0) _ ⟨hHeld, bel2 hB hb5, own_bel r12 hb5, own_weaken hrn (hB).size⟩)
       ·skip
        refine value_ (w1 := ?_) (v := ?_) (by rfl) rfl ?_ ?_
        rotate_left 2
        ·go_simp
         constructor
         ·rfl
         ·rfl
        refine hK.out _ _ ⟨cell_al _ (hHeld.1), cell_al _ (hHeld.2.1), cell_al _ (hHeld.2.2.1), cell_al _ (hHeld.2.2.2.1), cell_al _ (hHeld.2.2.2.2.1), cell_al _ (hHeld.2.2.2.2.2.1), cell_al _ (hHeld.2.2.2.2.2.2.1), cell_al _ (hHeld.2.2.2.2.2.2.2.1), cell_al _ (hHeld.2.2.2.2.2.2.2.2)⟩ (fun hHeld => ?_)
        clear hK K
        refine norm_ (a' := ?_) ?_ ?_
        rotate_left
        ·show Act.put _ (some 3) _ = _
         simp only [Act.put, List.setIfInBounds_toArray, List.set_cons_zero, List.set_cons_succ, i64_w, i32_w]
         rfl
        exact norm_ (by first | (simp only [putAll, Act.put, List.setIfInBounds_toArray, List.set_cons_zero, List.set_cons_succ]; done) | (simp only [putAll, Act.put, List.setIfInBounds_toArray, List.set_cons_zero, List.set_cons_succ]; rfl)) (hJ12_20 ((a5, d5), (none, 0), w4.heap.size) _ ⟨hHeld, below_alloc hB _, r12.alloc _, Blk.new _ _ _ _ rfl, (hB).size⟩)
     ·skip
      rintro ⟨⟨a5, d5⟩, ⟨a6, d6⟩, p⟩ w4 ⟨hHeld, hB, r12, b20, l20⟩
      try dsimp only at *
      refine norm_ (a' := ?_) ?_ ?_
      rotate_left
      ·simp only [putAll, Act.put, List.setIfInBounds_toArray, List.set_cons_zero, List.set_cons_succ]
       rfl
      refine one_ (i := 15) (N := some 21) (bs 22 1310719) rfl rfl (by kernel_rfl) (by decide) (fun K hK => ?_)
      refine goes_ Try.func27 (by kernel_rfl) rfl #[.slice A6 x.f6.length c6] (by rfl) rfl rfl (by simp only [List.map_toArray, List.map_cons, List.map_nil]; rfl) ?_
      with_reducible refine (listS_calls A6 c6 x.f6 _ (Kd.C_below G6.out (bel2 HB0.out hB)) (by omega)).mono ?_
      rintro e w5 ⟨an, dn, rfl, hrn, hb5⟩
      refine ⟨_, rfl, ?_⟩
      refine hK.out _ _ ⟨pw_cell_below hb5 (hHeld.1), pw_cell_below hb5 (hHeld.2.1), pw_cell_below hb5 (hHeld.2.2.1), pw_cell_below hb5 (hHeld.2.2.2.1), pw_cell_below hb5 (hHeld.2.2.2.2.1), pw_cell_below hb5 (hHeld.2.2.2.2.2.1), pw_cell_below hb5 (hHeld.2.2.2.2.2.2.1), pw_cell_below hb5 (hHeld.2.2.2.2.2.2.2.1), pw_cell_below hb5 (hHeld.2.2.2.2.2.2.2.2)⟩ (fun hHeld => ?_)
      clear hK K
      refine norm_ (a' := ?_) ?_ ?_
      rotate_left
      ·show Act.put _ (some 21) _ = _
       simp only [Act.put, List.setIfInBounds_toArray, List.set_cons_zero, List.set_cons_succ, i64_w, i32_w]
       rfl
      exact norm_ (by first | (simp only [putAll, Act.put, List.setIfInBounds_toArray, List.set_cons_zero, List.set_cons_succ]; done) | (simp only [putAll, Act.put, List.setIfInBounds_toArray, List.set_cons_zero, List.set_cons_succ]; rfl)) (hJ12_15_20 ((a5, d5), (an, dn), p) _ ⟨hHeld, bel2 hB hb5, own_bel r12 hb5, own_weaken hrn (hB).size, b20.below hb5, l20⟩)
    ·skip
     rintro ⟨⟨a5, d5⟩, ⟨a6, d6⟩, p⟩ w4 ⟨hHeld, hB, r12, r15⟩
     try dsimp only at *
     refine norm_ (a' := ?_) ?_ ?_
     rotate_left
     ·simp only [putAll, Act.put, List.setIfInBounds_toArray, List.set_cons_zero, List.set_cons_succ]
      rfl
     refine two_ (i := 18) (j := 20) (Ni := some 24) (Nj := some 3) (bs 22 524287) (bs 22 1310719) rfl rfl rfl rfl (by kernel_rfl) (by decide) (by decide) (fun K hK => ?_) (fun K hK => ?_)
     ·skip
      refine goes_ Try.func25 (by kernel_rfl) rfl #[.agg #[.int .i64 x.f7.f0, .int .i64 x.f7.f1]] (by rfl) rfl rfl (by simp only [List.map_toArray, List.map_cons, List.map_nil]; rfl) ?_
      with_reducible refine (to_calls x.f7 _).mono ?_
      rintro e w5 ⟨rfl, hb5⟩
      refine ⟨_, rfl, ?_⟩
      refine hK.out _ _ ⟨pw_cell_below hb5 (hHeld.1), pw_cell_below hb5 (hHeld.2.1), pw_cell_below hb5 (hHeld.2.2.1), pw_cell_below hb5 (hHeld.2.2.2.1), pw_cell_below hb5 (hHeld.2.2.2.2.1), pw_cell_below hb5 (hHeld.2.2.2.2.2.1), pw_cell_below hb5 (hHeld.2.2.2.2.2.2.1), pw_cell_below hb5 (hHeld.2.2.2.2.2.2.2.1), pw_cell_below hb5 (hHeld.2.2.2.2.2.2.2.2)⟩ (fun hHeld => ?_)
      clear hK K
      refine norm_ (a' := ?_) ?_ ?_
      rotate_left
      ·show Act.put _ (some 24) _ = _
       simp only [Act.put, List.setIfInBounds_toArray, List.set_cons_zero, List.set_cons_succ, i64_w, i32_w]
       rfl
      refine pure_ (i := 19) (N := some 25) (v := ?_) (a' := ?_) (bs 22 1048575) rfl rfl (by kernel_rfl) (fun _ _ _ h => h) (Or.inl ⟨by rfl, ?_⟩) ?_ ?_
      rotate_left
      ·intro w'
       go_simp
       with_reducible rfl
      rotate_left
      ·simp only [Act.put, List.setIfInBounds_toArray, List.set_cons_zero, List.set_cons_succ, i64_w, i32_w]
       rfl
      exact norm_ (by first | (simp only [putAll, Act.put, List.setIfInBounds_toArray, List.set_cons_zero, List.set_cons_succ]; done) | (simp only [putAll, Act.put, List.setIfInBounds_toArray, List.set_cons_zero, List.set_cons_succ]; rfl)) (hJ12_15_18 ((a5, d5), (a6, d6), 0) _ ⟨hHeld, bel2 hB hb5, own_bel r12 hb5, own_bel r15 hb5⟩)
     ·skip
      refine value_ (w1 := ?_) (v := ?_) (by rfl) rfl ?_ ?_
      rotate_left 2
      ·go_simp
       constructor
       ·rfl
       ·rfl
      refine hK.out _ _ ⟨cell_al _ (hHeld.1), cell_al _ (hHeld.2.1), cell_al _ (hHeld.2.2.1), cell_al _ (hHeld.2.2.2.1), cell_al _ (hHeld.2.2.2.2.1), cell_al _ (hHeld.2.2.2.2.2.1), cell_al _ (hHeld.2.2.2.2.2.2.1), cell_al _ (hHeld.2.2.2.2.2.2.2.1), cell_al _ (hHeld.2.2.2.2.2.2.2.2)⟩ (fun hHeld => ?_)
      clear hK K
      refine norm_ (a' := ?_) ?_ ?_
      rotate_left
      ·show Act.put _ (some 3) _ = _
       simp only [Act.put, List.setIfInBounds_toArray, List.set_cons_zero, List.set_cons_succ, i64_w, i32_w]
       rfl
      exact norm_ (by first | (simp only [putAll, Act.put, List.setIfInBounds_toArray, List.set_cons_zero, List.set_cons_succ]; done) | (simp only [putAll, Act.put, List.setIfInBounds_toArray, List.set_cons_zero, List.set_cons_succ]; rfl)) (hJ12_15_20 ((a5, d5), (a6, d6), w4.heap.size) _ ⟨hHeld, below_alloc hB _, r12.alloc _, r15.alloc _, Blk.new _ _ _ _ rfl, (hB).size⟩)
   ·skip
    rintro ⟨⟨a5, d5⟩, ⟨a6, d6⟩, p⟩ w4 ⟨hHeld, hB, r12, r15, b20, l20⟩
    try dsimp only at *
    refine norm_ (a' := ?_) ?_ ?_
    rotate_left
    ·simp only [putAll, Act.put, List.setIfInBounds_toArray, List.set_cons_zero, List.set_cons_succ]
     rfl
    refine one_ (i := 18) (N := some 24) (bs 22 1572863) rfl rfl (by kernel_rfl) (by decide) (fun K hK => ?_)
    refine goes_ Try.func25 (by kernel_rfl) rfl #[.agg #[.int .i64 x.f7.f0, .int .i64 x.f7.f1]] (by rfl) rfl rfl (by simp only [List.map_toArray, List.map_cons, List.map_nil]; rfl) ?_
    with_reducible refine (to_calls x.f7 _).mono ?_
    rintro e w5 ⟨rfl, hb5⟩
    refine ⟨_, rfl, ?_⟩
    refine hK.out _ _ ⟨pw_cell_below hb5 (hHeld.1), pw_cell_below hb5 (hHeld.2.1), pw_cell_below hb5 (hHeld.2.2.1), pw_cell_below hb5 (hHeld.2.2.2.1), pw_cell_below hb5 (hHeld.2.2.2.2.1), pw_cell_below hb5 (hHeld.2.2.2.2.2.1), pw_cell_below hb5 (hHeld.2.2.2.2.2.2.1), pw_cell_below hb5 (hHeld.2.2.2.2.2.2.2.1), pw_cell_below hb5 (hHeld.2.2.2.2.2.2.2.2)⟩ (fun hHeld => ?_)
    clear hK K
    refine norm_ (a' := ?_) ?_ ?_
    rotate_left
    ·show Act.put _ (some 24) _ = _
     simp only [Act.put, List.setIfInBounds_toArray, List.set_cons_zero, List.set_cons_succ, i64_w, i32_w]
     rfl
    refine pure_ (i := 19) (N := some 25) (v := ?_) (a' := ?_) (bs 22 2097151) rfl rfl (by kernel_rfl) (fun _ _ _ h => h) (Or.inl ⟨by rfl, ?_⟩) ?_ ?_
    rotate_left
    ·intro w'
     go_simp
     with_reducible rfl
    rotate_left
    ·simp only [Act.put, List.setIfInBounds_toArray, List.set_cons_zero, List.set_cons_succ, i64_w, i32_w]
     rfl
    exact norm_ (by first | (simp only [putAll, Act.put, List.setIfInBounds_toArray, List.set_cons_zero, List.set_cons_succ]; done) | (simp only [putAll, Act.put, List.setIfInBounds_toArray, List.set_cons_zero, List.set_cons_succ]; rfl)) (hJ12_15_18_20 ((a5, d5), (a6, d6), p) _ ⟨hHeld, bel2 hB hb5, own_bel r12 hb5, own_bel r15 hb5, b20.below hb5, l20⟩)
  ·skip
   rintro ⟨⟨a5, d5⟩, ⟨a6, d6⟩, p⟩ w4 ⟨hHeld, hB, r12, r15⟩
   try dsimp only at *
   refine norm_ (a' := ?_) ?_ ?_
   rotate_left
   ·simp only [putAll, Act.put, List.setIfInBounds_toArray, List.set_cons_zero, List.set_cons_succ]
    rfl
   refine one_ (i := 20) (N := some 3) (bs 22 2097151) rfl rfl (by kernel_rfl) (by decide) (fun K hK => ?_)
   refine value_ (w1 := ?_) (v := ?_) (by rfl) rfl ?_ ?_
   rotate_left 2
   ·go_simp
    constructor
    ·rfl
    ·rfl
   refine hK.out _ _ ⟨cell_al _ (hHeld.1), cell_al _ (hHeld.2.1), cell_al _ (hHeld.2.2.1), cell_al _ (hHeld.2.2.2.1), cell_al _ (hHeld.2.2.2.2.1), cell_al _ (hHeld.2.2.2.2.2.1), cell_al _ (hHeld.2.2.2.2.2.2.1), cell_al _ (hHeld.2.2.2.2.2.2.2.1), cell_al _ (hHeld.2.2.2.2.2.2.2.2)⟩ (fun hHeld => ?_)
   clear hK K
   refine norm_ (a' := ?_) ?_ ?_
   rotate_left
   ·show Act.put _ (some 3) _ = _
    simp only [Act.put, List.setIfInBounds_toArray, List.set_cons_zero, List.set_cons_succ, i64_w, i32_w]
    rfl
   exact norm_ (by first | (simp only [putAll, Act.put, List.setIfInBounds_toArray, List.set_cons_zero, List.set_cons_succ]; done) | (simp only [putAll, Act.put, List.setIfInBounds_toArray, List.set_cons_zero, List.set_cons_succ]; rfl)) (hJ12_15_18_20 ((a5, d5), (a6, d6), w4.heap.size) _ ⟨hHeld, below_alloc hB _, r12.alloc _, r15.alloc _, Blk.new _ _ _ _ rfl, (hB).size⟩)
 rintro ⟨⟨a5, d5⟩, ⟨a6, d6⟩, p⟩ w4 ⟨hHeld, hB, r12, r15, b20, l20⟩
 try dsimp only at *
 refine norm_ (a' := ?_) ?_ ?_
 rotate_left
 ·simp only [putAll, Act.put, List.setIfInBounds_toArray, List.set_cons_zero, List.set_cons_succ]
  rfl
 refine last_ (i := 21) (N := none) (bs 22 4194303) rfl rfl (by kernel_rfl) (by decide) (fun K hK => ?_)
 have z0 := b20.cell 0 _ rfl
 have z1 := b20.cell 1 _ rfl
 have z2 := b20.cell 2 _ rfl
 have z3 := b20.cell 3 _ rfl
 have z4 := b20.cell 4 _ rfl
 have z5 := b20.cell 5 _ rfl
 have z6 := b20.cell 6 _ rfl
 have z7 := b20.cell 7 _ rfl
 have z8 := b20.cell 8 _ rfl
 have z9 := b20.cell 9 _ rfl
 have z10 := b20.cell 10 _ rfl
 have y0 := b20.frozen 0
 have y1 := b20.frozen 1
 have y2 := b20.frozen 2
 have y3 := b20.frozen 3
 have y4 := b20.frozen 4
 have y5 := b20.frozen 5
 have y6 := b20.frozen 6
 have y7 := b20.frozen 7
 have y8 := b20.frozen 8
 have y9 := b20.frozen 9
 have y10 := b20.frozen 10
 refine skip_ (w1 := ?_) (by rfl) rfl ?_ ?_
 rotate_left
 ·go_simp
  rfl
 refine hK.out _ _ ?_
 clear hK K
 refine done_ (by kernel_rfl) ?_
 have hSt : CpSt x w #[.int .i64 x.f0, .int .i64 x.f1, .int .i64 x.f2, .int .i64 x.f3, .int .i64 x.f4, .slice A5 x.f5.length c5, .slice A6 x.f6.length c6, .int .i64 x.f7.f0, .int .i64 x.f7.f1, .slice A9 x.f8.length c9, .slice A10 x.f9.length c10] #[.int .i64 0, .int .i64 0, .int .i64 0, .int .i64 0, .int .i64 0, .slice none 0 0, .slice none 0 0, .int .i64 0, .int .i64 0, .slice none 0 0, .slice none 0 0] p (.slice a5 x.f5.length d5) (.slice a6 x.f6.length d6) (.slice none 0 0) 0 (.slice none 0 0) 0 (((((((((((w4.setCell ⟨p, 0, none⟩ (.int .i64 x.f0)).setCell ⟨p, 1, none⟩ (.int .i64 x.f1)).setCell ⟨p, 2, none⟩ (.int .i64 x.f2)).setCell ⟨p, 3, none⟩ (.int .i64 x.f3)).setCell ⟨p, 4, none⟩ (.int .i64 x.f4)).setCell ⟨p, 5, none⟩ (.slice a5 x.f5.length d5)).setCell ⟨p, 6, none⟩ (.slice a6 x.f6.length d6)).setCell ⟨p, 7, none⟩ (.int .i64 x.f7.f0)).setCell ⟨p, 8, none⟩ (.int .i64 x.f7.f1)).setCell ⟨p, 9, none⟩ (.slice none 0 0)).setCell ⟨p, 10, none⟩ (.slice none 0 0)) := by
  have hp1 : w.heap.size + 1 < p := by omega
  have hbs : some p ≠ Value.ownBlock (.slice a5 x.f5.length d5) := blk_row b20 r12 (by decide)
  have hbs6 : some p ≠ Value.ownBlock (.slice a6 x.f6.length d6) := blk_row b20 r15 (by decide)
  refine ⟨put11_below (bel2 HB0.out hB) (by omega) _ _ _ _ _ _ _ _ _ _ _, put11_other (HBZ.out.1.below hB) (by omega) _ _ _ _ _ _ _ _ _ _ _, put11_other (HBZ.out.2.below hB) (by omega) _ _ _ _ _ _ _ _ _ _ _, put11_blk b20 rfl _ _ _ _ _ _ _ _ _ _ _, ?_, ?_, own_nil _ _ _ _, own_nil _ _ _ _, hp1⟩
  ·iterate 11 refine own_setCell ?_ (by exact hbs) _
   exact own_weaken r12 (by have := HB0.out.size; omega)
  ·iterate 11 refine own_setCell ?_ (by exact hbs6) _
   exact own_weaken r15 (by have := HB0.out.size; omega)
 have HS := Aside0.mk hSt
 clear hSt hHeld hB b20 l20 r12 r15 k0 k1 k2 k3 k4 k5 k6 k7 k8 z0 z1 z2 z3 z4 z5 z6 z7 z8 z9 z10 y0 y1 y2 y3 y4 y5 y6 y7 y8 y9 y10
 generalize (((((((((((w4.setCell ⟨p, 0, none⟩ (.int .i64 x.f0)).setCell ⟨p, 1, none⟩ (.int .i64 x.f1)).setCell ⟨p, 2, none⟩ (.int .i64 x.f2)).setCell ⟨p, 3, none⟩ (.int .i64 x.f3)).setCell ⟨p, 4, none⟩ (.int .i64 x.f4)).setCell ⟨p, 5, none⟩ (.slice a5 x.f5.length d5)).setCell ⟨p, 6, none⟩ (.slice a6 x.f6.length d6)).setCell ⟨p, 7, none⟩ (.int .i64 x.f7.f0)).setCell ⟨p, 8, none⟩ (.int .i64 x.f7.f1)).setCell ⟨p, 9, none⟩ (.slice none 0 0)).setCell ⟨p, 10, none⟩ (.slice none 0 0)) = W2 at *
 have kb9 := HS.out.box.cell 9 _ rfl
 clear HB0 HBZ HB1
 go_wp2
 go_loopw [4] (fun s4 wr => ∃ k : Nat, k ≤ x.f8.length ∧ s4 = .int .i64 k ∧ Aside0 (∃ v9, CpSt x w #[.int .i64 x.f0, .int .i64 x.f1, .int .i64 x.f2, .int .i64 x.f3, .int .i64 x.f4, .slice A5 x.f5.length c5, .slice A6 x.f6.length c6, .int .i64 x.f7.f0, .int .i64 x.f7.f1, .slice A9 x.f8.length c9, .slice A10 x.f9.length c10] #[.int .i64 0, .int .i64 0, .int .i64 0, .int .i64 0, .int .i64 0, .slice none 0 0, .slice none 0 0, .int .i64 0, .int .i64 0, .slice none 0 0, .slice none 0 0] p (.slice a5 x.f5.length d5) (.slice a6 x.f6.length d6) v9 k (.slice none 0 0) 0 wr)) (fun s4 _ => x.f8.length - (intOf s4).toNat)
 case atStart => exact ⟨0, Nat.zero_le _, rfl, ⟨_, HS.out⟩⟩
 case round =>
  obtain ⟨k, hk, rfl, HW⟩ := hrel
  obtain ⟨v9, hst⟩ := HW.out
  have HT := Aside0.mk hst
  clear HW hst
  have kx9 := HT.out.box.cell 9 _ rfl
  by_cases hlt : k < x.f8.length
  ·have hltz : (k : Int) < (x.f8.length : Int) := by omega
   obtain ⟨aA, rfl, q0, q1⟩ := row_at_rg (Kd.C_below G9.out HT.out.bel) k hlt
   have kp9 := HT.out.blk.cell 9 _ rfl
   have HGT := Aside0.mk (row_at_rg (Kd.C_below G9.out HT.out.bel) k hlt)
   generalize hr : x.f8[k] = r at *
   have HR := Lib.hid hr
   clear hr
   go_wp2
   refine start_ (n := 12) (S := fun w' => w'.cell? ⟨p, 9, none⟩ = some v9 ∧ w'.cell? ⟨w.heap.size, 9, none⟩ = some (.slice (some aA) x.f8.length c9) ∧ w'.cell? (aA.add (k * 2)) = some (.int .i64 r.f0) ∧ w'.cell? ⟨(aA.add (k * 2)).block, (aA.add (k * 2)).off + 1, none⟩ = some (.int .i64 r.f1)) (ds := [9, 11]) #[false, false, false, false, false, false, false, false, false, false, false, false] (by kernel_rfl) rfl rfl ⟨kp9, kx9, q0, q1⟩ (fun hHeld => ?_)
   refine pure_ (i := 0) (N := some 33) (v := ?_) (a' := ?_) (bs 12 1) rfl rfl (by kernel_rfl) (fun _ _ _ h => h) (Or.inl ⟨by rfl, ?_⟩) ?_ ?_
   rotate_left
   ·intro w'
    go_simp
    with_reducible rfl
   rotate_left
   ·simp only [Act.put, List.setIfInBounds_toArray, List.set_cons_zero, List.set_cons_succ, i64_w, i32_w]
    rfl
   refine pure_ (i := 2) (N := some 35) (v := ?_) (a' := ?_) (bs 12 5) rfl rfl (by kernel_rfl) (fun _ _ _ h => h) (Or.inl ⟨by rfl, ?_⟩) ?_ ?_
   rotate_left
   ·intro w'
    go_simp
    with_reducible rfl
   rotate_left
   ·simp only [Act.put, List.setIfInBounds_toArray, List.set_cons_zero, List.set_cons_succ, i64_w, i32_w]
    rfl
   refine pure_ (i := 4) (N := some 37) (v := ?_) (a' := ?_) (bs 12 21) rfl rfl (by kernel_rfl) (fun _ _ _ h => h) (Or.inl ⟨by rfl, ?_⟩) ?_ ?_
   rotate_left
   ·intro w'
    go_simp
    with_reducible rfl
   rotate_left
   ·simp only [Act.put, List.setIfInBounds_toArray, List.set_cons_zero, List.set_cons_succ, i64_w, i32_w]
    rfl
   refine take_ (i := 1) (N := some 34) (v := ?_) (a' := ?_) (bs 12 23) rfl rfl (by kernel_rfl) (fun _ _ _ h => h) (Or.inl ⟨by rfl, ?_⟩) hHeld ?_ ?_
   rotate_left
   ·rintro w' ⟨s0, s1, s2, s3⟩
    go_simp
    with_reducible rfl
   rotate_left
   ·simp only [Act.put, List.setIfInBounds_toArray, List.set_cons_zero, List.set_cons_succ, i64_w, i32_w]
    rfl
   refine take_ (i := 3) (N := some 36) (v := ?_) (a' := ?_) (bs 12 31) rfl rfl (by kernel_rfl) (fun _ _ _ h => h) (Or.inl ⟨by rfl, ?_⟩) hHeld ?_ ?_
   rotate_left
   ·rintro w' ⟨s0, s1, s2, s3⟩
    go_simp
    with_reducible rfl
   rotate_left
   ·simp only [Act.put, List.setIfInBounds_toArray, List.set_cons_zero, List.set_cons_succ, i64_w, i32_w]
    rfl
   refine pure_ (i := 5) (N := some 38) (v := ?_) (a' := ?_) (bs 12 63) rfl rfl (by kernel_rfl) (fun _ _ _ h => h) (Or.inl ⟨by rfl, ?_⟩) ?_ ?_
   rotate_left
   ·intro w'
    go_simp
    with_reducible rfl
   rotate_left
   ·simp only [Act.put, List.setIfInBounds_toArray, List.set_cons_zero, List.set_cons_succ, i64_w, i32_w]
    rfl
   refine take_ (i := 6) (N := some 39) (v := ?_) (a' := ?_) (bs 12 127) rfl rfl (by kernel_rfl) (fun _ _ _ h => h) (Or.inl ⟨by rfl, ?_⟩) hHeld ?_ ?_
   rotate_left
   ·rintro w' ⟨s0, s1, s2, s3⟩
    go_simp
    with_reducible rfl
   rotate_left
   ·simp only [Act.put, List.setIfInBounds_toArray, List.set_cons_zero, List.set_cons_succ, i64_w, i32_w]
    rfl
   refine one_ (i := 7) (N := some 40) (bs 12 255) rfl rfl (by kernel_rfl) (by decide) (fun K hK => ?_)
   refine goes_ Try.func25 (by kernel_rfl) rfl #[.agg #[.int .i64 r.f0, .int .i64 r.f1]] (by rfl) rfl rfl (by simp only [List.map_toArray, List.map_cons, List.map_nil]; rfl) ?_
   with_reducible refine (to_calls ⟨r.f0, r.f1⟩ _).mono ?_
   rintro e w3 ⟨rfl, hb3⟩
   refine ⟨_, rfl, ?_⟩
   refine hK.out _ _ ⟨pw_cell_below hb3 (hHeld.1), pw_cell_below hb3 (hHeld.2.1), pw_cell_below hb3 (hHeld.2.2.1), pw_cell_below hb3 (hHeld.2.2.2)⟩ (fun hHeld => ?_)
   clear hK K
   refine norm_ (a' := ?_) ?_ ?_
   rotate_left
   ·show Act.put _ (some 40) _ = _
    simp only [Act.put, List.setIfInBounds_toArray, List.set_cons_zero, List.set_cons_succ, i64_w, i32_w]
    rfl
   refine one_ (i := 8) (N := some 41) (bs 12 511) rfl rfl (by kernel_rfl) (by decide) (fun K hK => ?_)
   refine value_ (w1 := ?_) (v := ?_) (by rfl) rfl ?_ ?_
   rotate_left 2
   ·go_simp
    constructor
    ·rfl
    ·rfl
   refine hK.out _ _ ⟨cell_al _ (hHeld.1), cell_al _ (hHeld.2.1), cell_al _ (hHeld.2.2.1), cell_al _ (hHeld.2.2.2)⟩ (fun hHeld => ?_)
   clear hK K
   refine norm_ (a' := ?_) ?_ ?_
   rotate_left
   ·show Act.put _ (some 41) _ = _
    simp only [Act.put, List.setIfInBounds_toArray, List.set_cons_zero, List.set_cons_succ, i64_w, i32_w]
    rfl
   refine last_ (i := 9) (N := some 42) (bs 12 1023) rfl rfl (by kernel_rfl) (by decide) (fun K hK => ?_)
   have h4 := HT.out.below (below_alloc (bel2 (below_drew (Below.refl _ _)) hb3) (.cells #[.int .i64 r.f0, .int .i64 r.f1] 35))
   refine appendN_op (w := w3.alloc (.cells #[.int .i64 r.f0, .int .i64 r.f1] 35)) (.tmp 34) (.tmp 41) 31 35 (.agg #[.int .i64 0, .int .i64 0]) 2 16 (by rfl) rfl Try.underlying31 info35 rfl (by decide) (by decide) w.heap.size v9 k (rgCells (x.f8.take k)) [.int .i64 r.f0, .int .i64 r.f1] w3.heap.size 1 rfl rfl h4.r9 rfl (cells2 (Blk.new _ _ _ _ rfl)) (one2 _ _) (by omega) h4.bel.size ?_
   intro v5n w5 ho5 hg5 hat5
   obtain ⟨an, dn, rfl⟩ := own_form ho5
   refine hK.out _ _ ?_
   clear hK K
   refine norm_ (a' := ?_) ?_ ?_
   rotate_left
   ·show Act.put _ (some 42) _ = _
    simp only [Act.put, List.setIfInBounds_toArray, List.set_cons_zero, List.set_cons_succ, i64_w, i32_w]
    rfl
   refine pure_ (i := 10) (N := some 43) (v := ?_) (a' := ?_) (bs 12 2047) rfl rfl (by kernel_rfl) (fun _ _ _ h => h) (Or.inl ⟨by rfl, ?_⟩) ?_ ?_
   rotate_left
   ·intro w'
    go_simp
    with_reducible rfl
   rotate_left
   ·simp only [Act.put, List.setIfInBounds_toArray, List.set_cons_zero, List.set_cons_succ, i64_w, i32_w]
    rfl
   refine last_ (i := 11) (N := none) (bs 12 4095) rfl rfl (by kernel_rfl) (by decide) (fun K hK => ?_)
   have hblk5 := h4.blk.grown hg5 (blk_row h4.blk h4.r9 (by decide))
   have z9 := hblk5.cell 9 _ rfl
   have y9 := hblk5.frozen 9
   refine skip_ (w1 := ?_) (by rfl) rfl ?_ ?_
   rotate_left
   ·go_simp
    rfl
   refine hK.out _ _ ?_
   clear hK K
   refine done_ (by kernel_rfl) ?_
   have HN := Aside0.mk (h4.app9 hlt (by rw [HR.out]; exact ho5) hg5)
   clear hHeld h4 ho5 hg5 hat5 q0 q1 kp9 z9 y9 hb3
   go_wp2
   go_roundw
   case rel => exact ⟨k + 1, hlt, by go_num, ⟨_, HN.out⟩⟩
   case measure => simp [intOf]; omega
  ·obtain rfl : k = x.f8.length := by omega
   have hltz : ¬ (x.f8.length : Int) < (x.f8.length : Int) := by omega
   go_wp2
   go_loopw [5] (fun s5 wq => ∃ k : Nat, k ≤ x.f9.length ∧ s5 = .int .i64 k ∧ Aside0 (∃ v10, CpSt x w #[.int .i64 x.f0, .int .i64 x.f1, .int .i64 x.f2, .int .i64 x.f3, .int .i64 x.f4, .slice A5 x.f5.length c5, .slice A6 x.f6.length c6, .int .i64 x.f7.f0, .int .i64 x.f7.f1, .slice A9 x.f8.length c9, .slice A10 x.f9.length c10] #[.int .i64 0, .int .i64 0, .int .i64 0, .int .i64 0, .int .i64 0, .slice none 0 0, .slice none 0 0, .int .i64 0, .int .i64 0, .slice none 0 0, .slice none 0 0] p (.slice a5 x.f5.length d5) (.slice a6 x.f6.length d6) v9 x.f8.length v10 k wq)) (fun s5 _ => x.f9.length - (intOf s5).toNat)
   case atStart => exact ⟨0, Nat.zero_le _, rfl, ⟨_, HT.out⟩⟩
   case round =>
    obtain ⟨k, hk, rfl, HW⟩ := hrel
    obtain ⟨v10, hst⟩ := HW.out
    have HT := Aside0.mk hst
    clear HW hst
    have kx10 := HT.out.box.cell 10 _ rfl
    by_cases hlt : k < x.f9.length
    ·have hltz : (k : Int) < (x.f9.length : Int) := by omega
     obtain ⟨aA, rfl, q0, q1, q2⟩ := row_at_rd (Kd.C_below G10.out HT.out.bel) k hlt
     have kp10 := HT.out.blk.cell 10 _ rfl
     generalize hr : x.f9[k] = r at *
     have HR := Lib.hid hr
     clear hr
     go_wp2
     refine start_ (n := 20) (S := fun w' => w'.cell? ⟨p, 10, none⟩ = some v10 ∧ w'.cell? ⟨w.heap.size, 10, none⟩ = some (.slice (some aA) x.f9.length c10) ∧ w'.cell? (aA.add (k * 3)) = some (.int .i64 r.f0) ∧ w'.cell? ⟨(aA.add (k * 3)).block, (aA.add (k * 3)).off + 1, none⟩ = some (.int .i64 r.f1.f0) ∧ w'.cell? ⟨(aA.add (k * 3)).block, (aA.add (k * 3)).off + 2, none⟩ = some (.int .i64 r.f1.f1)) (ds := [17, 19]) #[false, false, false, false, false, false, false, false, false, false, false, false, false, false, false, false, false, false, false, false] (by kernel_rfl) rfl rfl ⟨kp10, kx10, q0, q1, q2⟩ (fun hHeld => ?_)
     refine pure_ (i := 0) (N := some 51) (v := ?_) (a' := ?_) (bs 20 1) rfl rfl (by kernel_rfl) (fun _ _ _ h => h) (Or.inl ⟨by rfl, ?_⟩) ?_ ?_
     rotate_left
     ·intro w'
      go_simp
      with_reducible rfl
     rotate_left
     ·simp only [Act.put, List.setIfInBounds_toArray, List.set_cons_zero, List.set_cons_succ, i64_w, i32_w]
      rfl
     refine pure_ (i := 2) (N := some 53) (v := ?_) (a' := ?_) (bs 20 5) rfl rfl (by kernel_rfl) (fun _ _ _ h => h) (Or.inl ⟨by rfl, ?_⟩) ?_ ?_
     rotate_left
     ·intro w'
      go_simp
      with_reducible rfl
     rotate_left
     ·simp only [Act.put, List.setIfInBounds_toArray, List.set_cons_zero, List.set_cons_succ, i64_w, i32_w]
      rfl
     refine pure_ (i := 4) (N := some 55) (v := ?_) (a' := ?_) (bs 20 21) rfl rfl (by kernel_rfl) (fun _ _ _ h => h) (Or.inl ⟨by rfl, ?_⟩) ?_ ?_
     rotate_left
     ·intro w'
      go_simp
      with_reducible rfl
     rotate_left
     ·simp only [Act.put, List.setIfInBounds_toArray, List.set_cons_zero, List.set_cons_succ, i64_w, i32_w]
      rfl
     refine pure_ (i := 8) (N := some 59) (v := ?_) (a' := ?_) (bs 20 277) rfl rfl (by kernel_rfl) (fun _ _ _ h => h) (Or.inl ⟨by rfl, ?_⟩) ?_ ?_
     rotate_left
     ·intro w'
      go_simp
      with_reducible rfl
     rotate_left
     ·simp only [Act.put, List.setIfInBounds_toArray, List.set_cons_zero, List.set_cons_succ, i64_w, i32_w]
      rfl
     refine pure_ (i := 10) (N := some 61) (v := ?_) (a' := ?_) (bs 20 1301) rfl rfl (by kernel_rfl) (fun _ _ _ h => h) (Or.inl ⟨by rfl, ?_⟩) ?_ ?_
     rotate_left
     ·intro w'
      go_simp
      with_reducible rfl
     rotate_left
     ·simp only [Act.put, List.setIfInBounds_toArray, List.set_cons_zero, List.set_cons_succ, i64_w, i32_w]
      rfl
     refine take_ (i := 1) (N := some 52) (v := ?_) (a' := ?_) (bs 20 1303) rfl rfl (by kernel_rfl) (fun _ _ _ h => h) (Or.inl ⟨by rfl, ?_⟩) hHeld ?_ ?_
     rotate_left
     ·rintro w' ⟨s0, s1, s2, s3, s4⟩
      go_simp
      with_reducible rfl
     rotate_left
     ·simp only [Act.put, List.setIfInBounds_toArray, List.set_cons_zero, List.set_cons_succ, i64_w, i32_w]
      rfl
     refine take_ (i := 3) (N := some 54) (v := ?_) (a' := ?_) (bs 20 1311) rfl rfl (by kernel_rfl) (fun _ _ _ h => h) (Or.inl ⟨by rfl, ?_⟩) hHeld ?_ ?_
     rotate_left
     ·rintro w' ⟨s0, s1, s2, s3, s4⟩
      go_simp
      with_reducible rfl
     rotate_left
     ·simp only [Act.put, List.setIfInBounds_toArray, List.set_cons_zero, List.set_cons_succ, i64_w, i32_w]
      rfl
     refine pure_ (i := 5) (N := some 56) (v := ?_) (a' := ?_) (bs 20 1343) rfl rfl (by kernel_rfl) (fun _ _ _ h => h) (Or.inl ⟨by rfl, ?_⟩) ?_ ?_
     rotate_left
     ·intro w'
      go_simp
      with_reducible rfl
     rotate_left
     ·simp only [Act.put, List.setIfInBounds_toArray, List.set_cons_zero, List.set_cons_succ, i64_w, i32_w]
      rfl
     refine pure_ (i := 6) (N := some 57) (v := ?_) (a' := ?_) (bs 20 1407) rfl rfl (by kernel_rfl) (fun _ _ _ h => h) (Or.inl ⟨by rfl, ?_⟩) ?_ ?_
     rotate_left
     ·intro w'
      go_simp
      with_reducible rfl
     rotate_left
     ·simp only [Act.put, List.setIfInBounds_toArray, List.set_cons_zero, List.set_cons_succ, i64_w, i32_w]
      rfl
     refine take_ (i := 7) (N := some 58) (v := ?_) (a' := ?_) (bs 20 1535) rfl rfl (by kernel_rfl) (fun _ _ _ h => h) (Or.inl ⟨by rfl, ?_⟩) hHeld ?_ ?_
     rotate_left
     ·rintro w' ⟨s0, s1, s2, s3, s4⟩
      go_simp
      with_reducible rfl
     rotate_left
     ·simp only [Act.put, List.setIfInBounds_toArray, List.set_cons_zero, List.set_cons_succ, i64_w, i32_w]
      rfl
     refine take_ (i := 9) (N := some 60) (v := ?_) (a' := ?_) (bs 20 2047) rfl rfl (by kernel_rfl) (fun _ _ _ h => h) (Or.inl ⟨by rfl, ?_⟩) hHeld ?_ ?_
     rotate_left
     ·rintro w' ⟨s0, s1, s2, s3, s4⟩
      go_simp
      with_reducible rfl
     rotate_left
     ·simp only [Act.put, List.setIfInBounds_toArray, List.set_cons_zero, List.set_cons_succ, i64_w, i32_w]
      rfl
     refine pure_ (i := 11) (N := some 62) (v := ?_) (a' := ?_) (bs 20 4095) rfl rfl (by kernel_rfl) (fun _ _ _ h => h) (Or.inl ⟨by rfl, ?_⟩) ?_ ?_
     rotate_left
     ·intro w'
      go_simp
      with_reducible rfl
     rotate_left
     ·simp only [Act.put, List.setIfInBounds_toArray, List.set_cons_zero, List.set_cons_succ, i64_w, i32_w]
      rfl
     refine pure_ (i := 12) (N := some 63) (v := ?_) (a' := ?_) (bs 20 8191) rfl rfl (by kernel_rfl) (fun _ _ _ h => h) (Or.inl ⟨by rfl, ?_⟩) ?_ ?_
     rotate_left
     ·intro w'
      go_simp
      with_reducible rfl
     rotate_left
     ·simp only [Act.put, List.setIfInBounds_toArray, List.set_cons_zero, List.set_cons_succ, i64_w, i32_w]
      rfl
     refine take_ (i := 13) (N := some 64) (v := ?_) (a' := ?_) (bs 20 16383) rfl rfl (by kernel_rfl) (fun _ _ _ h => h) (Or.inl ⟨by rfl, ?_⟩) hHeld ?_ ?_
     rotate_left
     ·rintro w' ⟨s0, s1, s2, s3, s4⟩
      go_simp
      with_reducible rfl
     rotate_left
     ·simp only [Act.put, List.setIfInBounds_toArray, List.set_cons_zero, List.set_cons_succ, i64_w, i32_w]
      rfl
     refine one_ (i := 14) (N := some 65) (bs 20 32767) rfl rfl (by kernel_rfl) (by decide) (fun K hK => ?_)
     refine goes_ Try.func25 (by kernel_rfl) rfl #[.agg #[.int .i64 r.f1.f0, .int .i64 r.f1.f1]] (by rfl) rfl rfl (by simp only [List.map_toArray, List.map_cons, List.map_nil]; rfl) ?_
     with_reducible refine (to_calls ⟨r.f1.f0, r.f1.f1⟩ _).mono ?_
     rintro e w3 ⟨rfl, hb3⟩
     refine ⟨_, rfl, ?_⟩
     refine hK.out _ _ ⟨pw_cell_below hb3 (hHeld.1), pw_cell_below hb3 (hHeld.2.1), pw_cell_below hb3 (hHeld.2.2.1), pw_cell_below hb3 (hHeld.2.2.2.1), pw_cell_below hb3 (hHeld.2.2.2.2)⟩ (fun hHeld => ?_)
     clear hK K
     refine norm_ (a' := ?_) ?_ ?_
     rotate_left
     ·show Act.put _ (some 65) _ = _
      simp only [Act.put, List.setIfInBounds_toArray, List.set_cons_zero, List.set_cons_succ, i64_w, i32_w]
      rfl
     refine pure_ (i := 15) (N := some 66) (v := ?_) (a' := ?_) (bs 20 65535) rfl rfl (by kernel_rfl) (fun _ _ _ h => h) (Or.inl ⟨by rfl, ?_⟩) ?_ ?_
     rotate_left
     ·intro w'
      go_simp
      with_reducible rfl
     rotate_left
     ·simp only [Act.put, List.setIfInBounds_toArray, List.set_cons_zero, List.set_cons_succ, i64_w, i32_w]
      rfl
     refine one_ (i := 16) (N := some 67) (bs 20 131071) rfl rfl (by kernel_rfl) (by decide) (fun K hK => ?_)
     refine value_ (w1 := ?_) (v := ?_) (by rfl) rfl ?_ ?_
     rotate_left 2
     ·go_simp
      constructor
      ·rfl
      ·rfl
     refine hK.out _ _ ⟨cell_al _ (hHeld.1), cell_al _ (hHeld.2.1), cell_al _ (hHeld.2.2.1), cell_al _ (hHeld.2.2.2.1), cell_al _ (hHeld.2.2.2.2)⟩ (fun hHeld => ?_)
     clear hK K
     refine norm_ (a' := ?_) ?_ ?_
     rotate_left
     ·show Act.put _ (some 67) _ = _
      simp only [Act.put, List.setIfInBounds_toArray, List.set_cons_zero, List.set_cons_succ, i64_w, i32_w]
      rfl
     refine last_ (i := 17) (N := some 68) (bs 20 262143) rfl rfl (by kernel_rfl) (by decide) (fun K hK => ?_)
     have h4 := HT.out.below (below_alloc (bel2 (below_drew (Below.refl _ _)) hb3) (.cells #[.int .i64 r.f0, .int .i64 r.f1.f0, .int .i64 r.f1.f1] 119))
     refine appendN_op (w := w3.alloc (.cells #[.int .i64 r.f0, .int .i64 r.f1.f0, .int .i64 r.f1.f1] 119)) (.tmp 52) (.tmp 67) 36 119 (.agg #[.int .i64 0, .int .i64 0, .int .i64 0]) 3 24 (by rfl) rfl Try.underlying36 info119 rfl (by decide) (by decide) w.heap.size v10 k (rdCells (x.f9.take k)) [.int .i64 r.f0, .int .i64 r.f1.f0, .int .i64 r.f1.f1] w3.heap.size 1 rfl rfl h4.r10 rfl (cells3 (Blk.new _ _ _ _ rfl)) (one3 _ _ _) (by omega) h4.bel.size ?_
     intro v5n w5 ho5 hg5 hat5
     obtain ⟨an, dn, rfl⟩ := own_form ho5
     refine hK.out _ _ ?_
     clear hK K
     refine norm_ (a' := ?_) ?_ ?_
     rotate_left
     ·show Act.put _ (some 68) _ = _
      simp only [Act.put, List.setIfInBounds_toArray, List.set_cons_zero, List.set_cons_succ, i64_w, i32_w]
      rfl
     refine pure_ (i := 18) (N := some 69) (v := ?_) (a' := ?_) (bs 20 524287) rfl rfl (by kernel_rfl) (fun _ _ _ h => h) (Or.inl ⟨by rfl, ?_⟩) ?_ ?_
     rotate_left
     ·intro w'
      go_simp
      with_reducible rfl
     rotate_left
     ·simp only [Act.put, List.setIfInBounds_toArray, List.set_cons_zero, List.set_cons_succ, i64_w, i32_w]
      rfl
     refine last_ (i := 19) (N := none) (bs 20 1048575) rfl rfl (by kernel_rfl) (by decide) (fun K hK => ?_)
     have hblk5 := h4.blk.grown hg5 (blk_row h4.blk h4.r10 (by decide))
     have z10 := hblk5.cell 10 _ rfl
     have y10 := hblk5.frozen 10
     refine skip_ (w1 := ?_) (by rfl) rfl ?_ ?_
     rotate_left
     ·go_simp
      rfl
     refine hK.out _ _ ?_
     clear hK K
     refine done_ (by kernel_rfl) ?_
     have HN := Aside0.mk (h4.app10 hlt (by rw [HR.out]; exact ho5) hg5)
     clear hHeld h4 ho5 hg5 hat5 q0 q1 q2 kp10 z10 y10 hb3
     go_wp2
     go_roundw
     case rel => exact ⟨k + 1, hlt, by go_num, ⟨_, HN.out⟩⟩
     case measure => simp [intOf]; omega
    ·obtain rfl : k = x.f9.length := by omega
     have hltz : ¬ (x.f9.length : Int) < (x.f9.length : Int) := by omega
     obtain ⟨a9, d9, rfl⟩ := own_form HT.out.r9
     obtain ⟨a10, d10, rfl⟩ := own_form HT.out.r10
     have t0 := HT.out.blk.cell 0 _ rfl
     have z0 := HT.out.res.cell 0 _ rfl
     have y0 := HT.out.res.frozen 0
     have t1 := HT.out.blk.cell 1 _ rfl
     have z1 := HT.out.res.cell 1 _ rfl
     have y1 := HT.out.res.frozen 1
     have t2 := HT.out.blk.cell 2 _ rfl
     have z2 := HT.out.res.cell 2 _ rfl
     have y2 := HT.out.res.frozen 2
     have t3 := HT.out.blk.cell 3 _ rfl
     have z3 := HT.out.res.cell 3 _ rfl
     have y3 := HT.out.res.frozen 3
     have t4 := HT.out.blk.cell 4 _ rfl
     have z4 := HT.out.res.cell 4 _ rfl
     have y4 := HT.out.res.frozen 4
     have t5 := HT.out.blk.cell 5 _ rfl
     have z5 := HT.out.res.cell 5 _ rfl
     have y5 := HT.out.res.frozen 5
     have t6 := HT.out.blk.cell 6 _ rfl
     have z6 := HT.out.res.cell 6 _ rfl
     have y6 := HT.out.res.frozen 6
     have t7 := HT.out.blk.cell 7 _ rfl
     have z7 := HT.out.res.cell 7 _ rfl
     have y7 := HT.out.res.frozen 7
     have t8 := HT.out.blk.cell 8 _ rfl
     have z8 := HT.out.res.cell 8 _ rfl
     have y8 := HT.out.res.frozen 8
     have t9 := HT.out.blk.cell 9 _ rfl
     have z9 := HT.out.res.cell 9 _ rfl
     have y9 := HT.out.res.frozen 9
     have t10 := HT.out.blk.cell 10 _ rfl
     have z10 := HT.out.res.cell 10 _ rfl
     have y10 := HT.out.res.frozen 10
     go_wp2
     have hres := put11_blk HT.out.res rfl (.int .i64 x.f0) (.int .i64 x.f1) (.int .i64 x.f2) (.int .i64 x.f3) (.int .i64 x.f4) (.slice a5 x.f5.length d5) (.slice a6 x.f6.length d6) (.int .i64 x.f7.f0) (.int .i64 x.f7.f1) (.slice a9 x.f8.length d9) (.slice a10 x.f9.length d10)
     refine bodyPost_ret (ret38 Try.results22 rfl hres) rfl (cp_end HT.out)
end Go.Proofs.Ytdgkhoflajdidaa
/- Fault: the error of coppers. -/
namespace Go.Proofs.Ytdgkhoflajdidaa
open Go.RowKit Go.Proofs.YtdgkhoflajdidaaW.PrintWords Go.Proofs.YtdgkhoflajdidaaW.PrintMore Go.Proofs.YtdgkhoflajdidaaW.PrintLast Go.Proofs.Ytdgkhoflajdidaa.Print
set_option linter.unusedVariables false
set_option linter.unusedSimpArgs false
set_option maxRecDepth 100000
set_option maxHeartbeats 4000000
/-- All that is asked but the sizes. -/
def goodB (x : S38) : Bool := decide (0 ≤ x.f0) && inR x.f2 0 999 && inR x.f1 0 x.f2 && inR x.f3 1 20 && inR x.f4 0 3 && forHours x.f0 x.f5 x.f4 && forHours x.f0 x.f6 20 && inside x.f7 99 && ((x.f8.length : Int) == x.f0 + 1) && x.f8.all (fun r => inside r 99) && x.f9.all (readingB x.f0)
theorem faultC_eq (x : S38) : faultC x = if 4 < x.f0 ∨ 5 < x.f9.length then 3 else if goodB x = true then overSize x else 1 := by
 have e1 : (inR x.f1 0 x.f2 = true ∧ ¬ 999 < x.f2) ↔ (inR x.f2 0 999 = true ∧ inR x.f1 0 x.f2 = true) := by simp only [inR_iff]; omega
 unfold faultC
 by_cases h1 : 4 < x.f0
 ·simp [h1]
 by_cases h2 : 5 < x.f9.length
 ·simp [h2]
 have hor : ¬ (4 < x.f0 ∨ 5 < x.f9.length) := by omega
 rw [if_neg h1, if_neg h2, if_neg hor]
 by_cases hg : goodB x = true
 ·rw [if_pos hg]
  simp only [goodB, Bool.and_eq_true, decide_eq_true_eq] at hg
  obtain ⟨⟨⟨⟨⟨⟨⟨⟨⟨⟨g1, g2⟩, g3⟩, g4⟩, g5⟩, g6⟩, g7⟩, g8⟩, g9⟩, g10⟩, g11⟩ := hg
  have h3 := (e1.2 ⟨g2, g3⟩).2
  have g9' : ((x.f8.length : Int) != x.f0 + 1) = false := by simpa using g9
  simp only [g3, g4, g5, g6, g7, g8, g9', g10, g11, h3, show ¬ x.f0 < 0 by omega, if_false, Bool.true_eq_false, Bool.false_eq_true]
 ·rw [if_neg hg]
  by_cases g1 : x.f0 < 0
  ·rw [if_pos g1]
  rw [if_neg g1]
  by_cases g3 : inR x.f1 0 x.f2 = false
  ·rw [if_pos g3]
  rw [if_neg g3]
  by_cases g2 : 999 < x.f2
  ·rw [if_pos g2]
  rw [if_neg g2]
  by_cases g4 : inR x.f3 1 20 = false
  ·rw [if_pos g4]
  rw [if_neg g4]
  by_cases g5 : inR x.f4 0 3 = false
  ·rw [if_pos g5]
  rw [if_neg g5]
  by_cases g6 : forHours x.f0 x.f5 x.f4 = false
  ·rw [if_pos g6]
  rw [if_neg g6]
  by_cases g7 : forHours x.f0 x.f6 20 = false
  ·rw [if_pos g7]
  rw [if_neg g7]
  by_cases g8 : inside x.f7 99 = false
  ·rw [if_pos g8]
  rw [if_neg g8]
  by_cases g9 : ((x.f8.length : Int) != x.f0 + 1) = true
  ·rw [if_pos g9]
  rw [if_neg g9]
  by_cases g10 : x.f8.all (fun r => inside r 99) = false
  ·rw [if_pos g10]
  rw [if_neg g10]
  by_cases g11 : x.f9.all (readingB x.f0) = false
  ·rw [if_pos g11]
  exfalso
  apply hg
  simp only [Bool.not_eq_false] at g3 g4 g5 g6 g7 g8 g10 g11
  have h3 := e1.1 ⟨g3, g2⟩
  have g9' : ((x.f8.length : Int) == x.f0 + 1) = true := by simpa using g9
  simp only [goodB, h3.1, h3.2, g4, g5, g6, g7, g8, g9', g10, g11, Bool.and_self, Bool.and_true, decide_eq_true_eq]
  omega
theorem faultC_good {x : S38} (ha : x.f0 ≤ 4) (hr : x.f9.length ≤ 5) (h1 : 0 ≤ x.f0) (h2 : inR x.f2 0 999 = true) (h3 : inR x.f1 0 x.f2 = true) (h4 : inR x.f3 1 20 = true) (h5 : inR x.f4 0 3 = true) (h6 : forHours x.f0 x.f5 x.f4 = true) (h7 : forHours x.f0 x.f6 20 = true) (h8 : inside x.f7 99 = true) (h9 : ((x.f8.length : Int) == x.f0 + 1) = true) :
    faultC x = if (x.f8.all (fun r => inside r 99) && x.f9.all (readingB x.f0)) = true then overSize x else 1 := by
 rw [faultC_eq, if_neg (by omega)]
 have : goodB x = (x.f8.all (fun r => inside r 99) && x.f9.all (readingB x.f0)) := by
  simp only [goodB, decide_eq_true h1, h2, h3, h4, h5, h6, h7, h8, h9, Bool.true_and]
 rw [this]
/-- The sizes, as the reference multiplies them. -/
def manyR (m : Int) (l : List S35) : Int := l.foldl (fun m r => min 3000 (m * (r.f1 - r.f0 + 1))) m
theorem manyR_snoc (m : Int) (l : List S35) (r : S35) : manyR m (l ++ [r]) = min 3000 (manyR m l * (r.f1 - r.f0 + 1)) := by simp [manyR]
theorem manyR_bd (l : List S35) (h : ∀ r ∈ l, inside r 99 = true) (m : Int) (h0 : 0 ≤ m) (h1 : m ≤ 3000) : 0 ≤ manyR m l ∧ manyR m l ≤ 3000 := by
 induction l generalizing m with
 | nil => exact ⟨h0, h1⟩
 | cons r l ih =>
  have hr := inside_iff.1 (h r (List.mem_cons_self ..))
  refine ih (fun q hq => h q (List.mem_cons_of_mem _ hq)) _ ?_ ?_
  ·have : 0 ≤ m * (r.f1 - r.f0 + 1) := Int.mul_nonneg h0 (by omega)
   show 0 ≤ min _ _; omega
  ·show min _ _ ≤ _; omega
theorem manyR_C (l : List S35) (h : ∀ r ∈ l, inside r 99 = true) (m n : Int) (h0 : (m = n ∧ m ≤ 2000 ∧ 0 ≤ m) ∨ (2000 < m ∧ 2000 < n)) : (manyR m l = manyC n l ∧ manyR m l ≤ 2000 ∧ 0 ≤ manyR m l) ∨ (2000 < manyR m l ∧ 2000 < manyC n l) := by
 induction l generalizing m n with
 | nil => exact h0
 | cons r l ih =>
  have hr := inside_iff.1 (h r (List.mem_cons_self ..))
  refine ih (fun q hq => h q (List.mem_cons_of_mem _ hq)) _ _ ?_
  simp only [mn2_eq]
  have hs : 1 ≤ r.f1 - r.f0 + 1 := by omega
  generalize r.f1 - r.f0 + 1 = s at hs
  rcases h0 with ⟨rfl, h2, h3⟩ | ⟨h2, h3⟩
  ·have : 0 ≤ m * s := Int.mul_nonneg h3 (by omega)
   omega
  ·have e1 : m * 1 ≤ m * s := Int.mul_le_mul_of_nonneg_left hs (by omega)
   have e2 : n * 1 ≤ n * s := Int.mul_le_mul_of_nonneg_left hs (by omega)
   omega
def manyX (x : S38) : Int := manyR (x.f7.f1 - x.f7.f0 + 1) x.f8
theorem manyX_sizes {x : S38} (h7 : inside x.f7 99 = true) (h8 : x.f8.all (fun r => inside r 99) = true) : (manyX x = sizes x ∧ manyX x ≤ 2000 ∧ 0 ≤ manyX x) ∨ (2000 < manyX x ∧ 2000 < sizes x) :=
 manyR_C x.f8 (fun r hr => List.all_eq_true.1 h8 r hr) _ _ (.inl ⟨rfl, by have := inside_iff.1 h7; omega, by have := inside_iff.1 h7; omega⟩)
theorem rMany_calls (x : S38) (cs : List Value) (w : World) (hx : k38.K w x cs) (h7 : inside x.f7 99 = true) (h8 : x.f8.all (fun r => inside r 99) = true) :
    Calls Try.prog 46 #[.agg cs.toArray] w fun e w' => e = .returned (.int .i64 (manyX x)) ∧ Below w.heap.size w w' := by
 have HX := Aside0.mk hx
 obtain ⟨A5, c5, A6, c6, A9, c9, A10, c10, rfl, l5, g5, l6, g6, l9, g9, l10, g10⟩ := k38_open hx
 have G9 := Aside0.mk g9
 have hl8 : (x.f8.length : Int) ≤ 9223372036854775807 := by have := g9.2.1; omega
 clear hx g5 g6 g9 g10 l5 l6 l9 l10
 have hu := Try.underlying28
 have hu3 := Try.underlying24
 have hi7 := inside_iff.1 h7
 have hz0 := hi7.1
 have hz1 := hi7.2.1
 have hz2 := hi7.2.2
 have H8 := Aside0.mk (fun r hr => List.all_eq_true.1 h8 r hr)
 clear h7 h8 hi7
 have HB := Aside0.mk (And.intro (below_alloc (Below.refl w.heap.size w) (.cells #[.int .i64 x.f0, .int .i64 x.f1, .int .i64 x.f2, .int .i64 x.f3, .int .i64 x.f4, .slice A5 x.f5.length c5, .slice A6 x.f6.length c6, .int .i64 x.f7.f0, .int .i64 x.f7.f1, .slice A9 x.f8.length c9, .slice A10 x.f9.length c10] 28)) (Blk.new w #[.int .i64 x.f0, .int .i64 x.f1, .int .i64 x.f2, .int .i64 x.f3, .int .i64 x.f4, .slice A5 x.f5.length c5, .slice A6 x.f6.length c6, .int .i64 x.f7.f0, .int .i64 x.f7.f1, .slice A9 x.f8.length c9, .slice A10 x.f9.length c10] 28 _ rfl))
 go_enter Try.func46, Try.ntmps46
 go_wp2_with fail
 refine (rSize_calls x.f7 _ hz0 hz1 hz2).mono ?_
 rintro e w1 ⟨rfl, hb⟩
 have hb' := And.intro (bel2 HB.out.1 hb) (HB.out.2.below hb)
 clear HB hb
 have HB := Aside0.mk hb'
 have k9 := HB.out.2.cell 9 _ rfl
 clear hb'
 have HM0 := Lib.hid (show manyR (x.f7.f1 - x.f7.f0 + 1) (x.f8.take 0) = x.f7.f1 - x.f7.f0 + 1 from rfl)
 go_wp2
 go_loopw [3, 4] (fun s3 s4 wr => ∃ k : Nat, k ≤ x.f8.length ∧ s3 = .int .i64 (manyR (x.f7.f1 - x.f7.f0 + 1) (x.f8.take k)) ∧ s4 = .int .i64 k ∧ Aside0 (Below w.heap.size w wr ∧ Blk wr w.heap.size #[.int .i64 x.f0, .int .i64 x.f1, .int .i64 x.f2, .int .i64 x.f3, .int .i64 x.f4, .slice A5 x.f5.length c5, .slice A6 x.f6.length c6, .int .i64 x.f7.f0, .int .i64 x.f7.f1, .slice A9 x.f8.length c9, .slice A10 x.f9.length c10] 28)) (fun _ s4 _ => x.f8.length - (intOf s4).toNat)
 case atStart => exact ⟨0, Nat.zero_le _, by rw [HM0.out], rfl, HB⟩
 case round =>
  obtain ⟨k, hk, rfl, rfl, HW⟩ := hrel
  have q9 := HW.out.2.cell 9 _ rfl
  by_cases hlt : k < x.f8.length
  ·obtain ⟨aA, rfl, q0, q1⟩ := row_at_rg (Kd.C_below G9.out HW.out.1) k hlt
   have hin := inside_iff.1 (H8.out _ (List.getElem_mem hlt))
   have hbd := manyR_bd (x.f8.take k) (fun r hr => H8.out r (List.mem_of_mem_take hr)) (x.f7.f1 - x.f7.f0 + 1) (by omega) (by omega)
   have HS := Lib.hid (show manyR (x.f7.f1 - x.f7.f0 + 1) (x.f8.take (k + 1)) = min 3000 (manyR (x.f7.f1 - x.f7.f0 + 1) (x.f8.take k) * (x.f8[k].f1 - x.f8[k].f0 + 1)) by rw [List.take_succ_eq_append_getElem hlt, manyR_snoc])
   generalize x.f8[k] = r at *
   generalize manyR (x.f7.f1 - x.f7.f0 + 1) (x.f8.take k) = m at *
   have hm0 := hbd.1
   have hm1 := hbd.2
   have r0 := hin.1
   have r1 := hin.2.1
   have r2 := hin.2.2
   clear hin hbd
   have hprod : m * (r.f1 - r.f0 + 1) ≤ 3000 * 100 := Int.mul_le_mul hm1 (by omega) (by omega) (by omega)
   have hprod0 : 0 ≤ m * (r.f1 - r.f0 + 1) := Int.mul_nonneg hm0 (by omega)
   go_wp2_with fail
   refine (rSize_calls r _ r0 r1 r2).mono ?_
   rintro e w2 ⟨rfl, hb⟩
   have HV := Aside0.mk (And.intro (bel2 HW.out.1 hb) (HW.out.2.below hb))
   clear hb
   generalize hpr : m * (r.f1 - r.f0 + 1) = pr at *
   have hkz : (k : Int) < (x.f8.length : Int) := by omega
   go_wp2
   go_roundw
   case rel => exact ⟨k + 1, hlt, by rw [HS.out]; congr 1; split <;> omega, by go_num, HV⟩
   case measure => simp [intOf]; omega
  ·obtain rfl : k = x.f8.length := by omega
   have HE := Lib.hid (show manyX x = manyR (x.f7.f1 - x.f7.f0 + 1) (x.f8.take x.f8.length) by rw [List.take_length]; rfl)
   go_wp2
   go_ret
   exact ⟨ret_int HE.out.symm, HW.out.1⟩
end Go.Proofs.Ytdgkhoflajdidaa
/- Fault: where a test fails. -/
namespace Go.Proofs.Ytdgkhoflajdidaa
open Go.RowKit Go.Proofs.YtdgkhoflajdidaaW.PrintWords Go.Proofs.YtdgkhoflajdidaaW.PrintMore Go.Proofs.YtdgkhoflajdidaaW.PrintLast Go.Proofs.Ytdgkhoflajdidaa.Print
set_option linter.unusedVariables false
set_option linter.unusedSimpArgs false
set_option maxRecDepth 100000
set_option maxHeartbeats 4000000
theorem fault_1 (x : S38) (cs : List Value) (w : World) (hx : k38.K w x cs) (ha : x.f0 ≤ 4) (hr : x.f9.length ≤ 5) (h1 : x.f0 < 0) : Calls Try.prog 86 #[.agg cs.toArray] w fun e w' => e = .returned (.int .i64 1) ∧ Below w.heap.size w w' := by
 have HX := Aside0.mk hx
 obtain ⟨A5, c5, A6, c6, A9, c9, A10, c10, rfl, l5, g5, l6, g6, l9, g9, l10, g10⟩ := k38_open hx
 have G5 := Aside0.mk g5
 have G6 := Aside0.mk g6
 have G9 := Aside0.mk g9
 have G10 := Aside0.mk g10
 clear hx g5 g6 g9 g10 l5 l6 l9 l10
 have hu := Try.underlying28
 have hu3 := Try.underlying24
 have hu4 := Try.underlying96
 have HB := Aside0.mk (And.intro (below_alloc (Below.refl w.heap.size w) (.cells #[.int .i64 x.f0, .int .i64 x.f1, .int .i64 x.f2, .int .i64 x.f3, .int .i64 x.f4, .slice A5 x.f5.length c5, .slice A6 x.f6.length c6, .int .i64 x.f7.f0, .int .i64 x.f7.f1, .slice A9 x.f8.length c9, .slice A10 x.f9.length c10] 28)) (Blk.new w #[.int .i64 x.f0, .int .i64 x.f1, .int .i64 x.f2, .int .i64 x.f3, .int .i64 x.f4, .slice A5 x.f5.length c5, .slice A6 x.f6.length c6, .int .i64 x.f7.f0, .int .i64 x.f7.f1, .slice A9 x.f8.length c9, .slice A10 x.f9.length c10] 28 _ rfl))
 have hrz : (x.f9.length : Int) ≤ 5 := by omega
 go_enter Try.func86, Try.ntmps86
 go_wp2
 go_ret
 exact ⟨rfl, HB.out.1⟩
theorem fault_2 (x : S38) (cs : List Value) (w : World) (hx : k38.K w x cs) (ha : x.f0 ≤ 4) (hr : x.f9.length ≤ 5) (h1 : 0 ≤ x.f0) (h2 : inR x.f2 0 999 = false) : Calls Try.prog 86 #[.agg cs.toArray] w fun e w' => e = .returned (.int .i64 1) ∧ Below w.heap.size w w' := by
 have HX := Aside0.mk hx
 obtain ⟨A5, c5, A6, c6, A9, c9, A10, c10, rfl, l5, g5, l6, g6, l9, g9, l10, g10⟩ := k38_open hx
 have G5 := Aside0.mk g5
 have G6 := Aside0.mk g6
 have G9 := Aside0.mk g9
 have G10 := Aside0.mk g10
 clear hx g5 g6 g9 g10 l5 l6 l9 l10
 have hu := Try.underlying28
 have hu3 := Try.underlying24
 have hu4 := Try.underlying96
 have HB := Aside0.mk (And.intro (below_alloc (Below.refl w.heap.size w) (.cells #[.int .i64 x.f0, .int .i64 x.f1, .int .i64 x.f2, .int .i64 x.f3, .int .i64 x.f4, .slice A5 x.f5.length c5, .slice A6 x.f6.length c6, .int .i64 x.f7.f0, .int .i64 x.f7.f1, .slice A9 x.f8.length c9, .slice A10 x.f9.length c10] 28)) (Blk.new w #[.int .i64 x.f0, .int .i64 x.f1, .int .i64 x.f2, .int .i64 x.f3, .int .i64 x.f4, .slice A5 x.f5.length c5, .slice A6 x.f6.length c6, .int .i64 x.f7.f0, .int .i64 x.f7.f1, .slice A9 x.f8.length c9, .slice A10 x.f9.length c10] 28 _ rfl))
 have hrz : (x.f9.length : Int) ≤ 5 := by omega
 go_enter Try.func86, Try.ntmps86
 go_wp2_with fail
 refine (rIn_calls x.f2 0 999 _).mono ?_
 rintro e w' ⟨rfl, rfl⟩
 rw [h2]
 go_wp2
 go_ret
 exact ⟨rfl, HB.out.1⟩
theorem fault_3 (x : S38) (cs : List Value) (w : World) (hx : k38.K w x cs) (ha : x.f0 ≤ 4) (hr : x.f9.length ≤ 5) (h1 : 0 ≤ x.f0) (h2 : inR x.f2 0 999 = true) (h3 : inR x.f1 0 x.f2 = false) : Calls Try.prog 86 #[.agg cs.toArray] w fun e w' => e = .returned (.int .i64 1) ∧ Below w.heap.size w w' := by
 have HX := Aside0.mk hx
 obtain ⟨A5, c5, A6, c6, A9, c9, A10, c10, rfl, l5, g5, l6, g6, l9, g9, l10, g10⟩ := k38_open hx
 have G5 := Aside0.mk g5
 have G6 := Aside0.mk g6
 have G9 := Aside0.mk g9
 have G10 := Aside0.mk g10
 clear hx g5 g6 g9 g10 l5 l6 l9 l10
 have hu := Try.underlying28
 have hu3 := Try.underlying24
 have hu4 := Try.underlying96
 have HB := Aside0.mk (And.intro (below_alloc (Below.refl w.heap.size w) (.cells #[.int .i64 x.f0, .int .i64 x.f1, .int .i64 x.f2, .int .i64 x.f3, .int .i64 x.f4, .slice A5 x.f5.length c5, .slice A6 x.f6.length c6, .int .i64 x.f7.f0, .int .i64 x.f7.f1, .slice A9 x.f8.length c9, .slice A10 x.f9.length c10] 28)) (Blk.new w #[.int .i64 x.f0, .int .i64 x.f1, .int .i64 x.f2, .int .i64 x.f3, .int .i64 x.f4, .slice A5 x.f5.length c5, .slice A6 x.f6.length c6, .int .i64 x.f7.f0, .int .i64 x.f7.f1, .slice A9 x.f8.length c9, .slice A10 x.f9.length c10] 28 _ rfl))
 have hrz : (x.f9.length : Int) ≤ 5 := by omega
 go_enter Try.func86, Try.ntmps86
 go_wp2_with fail
 refine (rIn_calls x.f2 0 999 _).mono ?_
 rintro e w' ⟨rfl, rfl⟩
 rw [h2]
 go_wp2_with fail
 refine (rIn_calls x.f1 0 x.f2 _).mono ?_
 rintro e w' ⟨rfl, rfl⟩
 rw [h3]
 go_wp2
 go_ret
 exact ⟨rfl, HB.out.1⟩
theorem fault_4 (x : S38) (cs : List Value) (w : World) (hx : k38.K w x cs) (ha : x.f0 ≤ 4) (hr : x.f9.length ≤ 5) (h1 : 0 ≤ x.f0) (h2 : inR x.f2 0 999 = true) (h3 : inR x.f1 0 x.f2 = true) (h4 : inR x.f3 1 20 = false) : Calls Try.prog 86 #[.agg cs.toArray] w fun e w' => e = .returned (.int .i64 1) ∧ Below w.heap.size w w' := by
 have HX := Aside0.mk hx
 obtain ⟨A5, c5, A6, c6, A9, c9, A10, c10, rfl, l5, g5, l6, g6, l9, g9, l10, g10⟩ := k38_open hx
 have G5 := Aside0.mk g5
 have G6 := Aside0.mk g6
 have G9 := Aside0.mk g9
 have G10 := Aside0.mk g10
 clear hx g5 g6 g9 g10 l5 l6 l9 l10
 have hu := Try.underlying28
 have hu3 := Try.underlying24
 have hu4 := Try.underlying96
 have HB := Aside0.mk (And.intro (below_alloc (Below.refl w.heap.size w) (.cells #[.int .i64 x.f0, .int .i64 x.f1, .int .i64 x.f2, .int .i64 x.f3, .int .i64 x.f4, .slice A5 x.f5.length c5, .slice A6 x.f6.length c6, .int .i64 x.f7.f0, .int .i64 x.f7.f1, .slice A9 x.f8.length c9, .slice A10 x.f9.length c10] 28)) (Blk.new w #[.int .i64 x.f0, .int .i64 x.f1, .int .i64 x.f2, .int .i64 x.f3, .int .i64 x.f4, .slice A5 x.f5.length c5, .slice A6 x.f6.length c6, .int .i64 x.f7.f0, .int .i64 x.f7.f1, .slice A9 x.f8.length c9, .slice A10 x.f9.length c10] 28 _ rfl))
 have hrz : (x.f9.length : Int) ≤ 5 := by omega
 go_enter Try.func86, Try.ntmps86
 go_wp2_with fail
 refine (rIn_calls x.f2 0 999 _).mono ?_
 rintro e w' ⟨rfl, rfl⟩
 rw [h2]
 go_wp2_with fail
 refine (rIn_calls x.f1 0 x.f2 _).mono ?_
 rintro e w' ⟨rfl, rfl⟩
 rw [h3]
 go_wp2_with fail
 refine (rIn_calls x.f3 1 20 _).mono ?_
 rintro e w' ⟨rfl, rfl⟩
 rw [h4]
 go_wp2
 go_ret
 exact ⟨rfl, HB.out.1⟩
theorem fault_5 (x : S38) (cs : List Value) (w : World) (hx : k38.K w x cs) (ha : x.f0 ≤ 4) (hr : x.f9.length ≤ 5) (h1 : 0 ≤ x.f0) (h2 : inR x.f2 0 999 = true) (h3 : inR x.f1 0 x.f2 = true) (h4 : inR x.f3 1 20 = true) (h5 : inR x.f4 0 3 = false) : Calls Try.prog 86 #[.agg cs.toArray] w fun e w' => e = .returned (.int .i64 1) ∧ Below w.heap.size w w' := by
 have HX := Aside0.mk hx
 obtain ⟨A5, c5, A6, c6, A9, c9, A10, c10, rfl, l5, g5, l6, g6, l9, g9, l10, g10⟩ := k38_open hx
 have G5 := Aside0.mk g5
 have G6 := Aside0.mk g6
 have G9 := Aside0.mk g9
 have G10 := Aside0.mk g10
 clear hx g5 g6 g9 g10 l5 l6 l9 l10
 have hu := Try.underlying28
 have hu3 := Try.underlying24
 have hu4 := Try.underlying96
 have HB := Aside0.mk (And.intro (below_alloc (Below.refl w.heap.size w) (.cells #[.int .i64 x.f0, .int .i64 x.f1, .int .i64 x.f2, .int .i64 x.f3, .int .i64 x.f4, .slice A5 x.f5.length c5, .slice A6 x.f6.length c6, .int .i64 x.f7.f0, .int .i64 x.f7.f1, .slice A9 x.f8.length c9, .slice A10 x.f9.length c10] 28)) (Blk.new w #[.int .i64 x.f0, .int .i64 x.f1, .int .i64 x.f2, .int .i64 x.f3, .int .i64 x.f4, .slice A5 x.f5.length c5, .slice A6 x.f6.length c6, .int .i64 x.f7.f0, .int .i64 x.f7.f1, .slice A9 x.f8.length c9, .slice A10 x.f9.length c10] 28 _ rfl))
 have hrz : (x.f9.length : Int) ≤ 5 := by omega
 go_enter Try.func86, Try.ntmps86
 go_wp2_with fail
 refine (rIn_calls x.f2 0 999 _).mono ?_
 rintro e w' ⟨rfl, rfl⟩
 rw [h2]
 go_wp2_with fail
 refine (rIn_calls x.f1 0 x.f2 _).mono ?_
 rintro e w' ⟨rfl, rfl⟩
 rw [h3]
 go_wp2_with fail
 refine (rIn_calls x.f3 1 20 _).mono ?_
 rintro e w' ⟨rfl, rfl⟩
 rw [h4]
 go_wp2_with fail
 refine (rIn_calls x.f4 0 3 _).mono ?_
 rintro e w' ⟨rfl, rfl⟩
 rw [h5]
 go_wp2
 go_ret
 exact ⟨rfl, HB.out.1⟩
theorem fault_6 (x : S38) (cs : List Value) (w : World) (hx : k38.K w x cs) (ha : x.f0 ≤ 4) (hr : x.f9.length ≤ 5) (h1 : 0 ≤ x.f0) (h2 : inR x.f2 0 999 = true) (h3 : inR x.f1 0 x.f2 = true) (h4 : inR x.f3 1 20 = true) (h5 : inR x.f4 0 3 = true) (h6 : forHours x.f0 x.f5 x.f4 = false) : Calls Try.prog 86 #[.agg cs.toArray] w fun e w' => e = .returned (.int .i64 1) ∧ Below w.heap.size w w' := by
 have HX := Aside0.mk hx
 obtain ⟨A5, c5, A6, c6, A9, c9, A10, c10, rfl, l5, g5, l6, g6, l9, g9, l10, g10⟩ := k38_open hx
 have G5 := Aside0.mk g5
 have G6 := Aside0.mk g6
 have G9 := Aside0.mk g9
 have G10 := Aside0.mk g10
 clear hx g5 g6 g9 g10 l5 l6 l9 l10
 have hu := Try.underlying28
 have hu3 := Try.underlying24
 have hu4 := Try.underlying96
 have HB := Aside0.mk (And.intro (below_alloc (Below.refl w.heap.size w) (.cells #[.int .i64 x.f0, .int .i64 x.f1, .int .i64 x.f2, .int .i64 x.f3, .int .i64 x.f4, .slice A5 x.f5.length c5, .slice A6 x.f6.length c6, .int .i64 x.f7.f0, .int .i64 x.f7.f1, .slice A9 x.f8.length c9, .slice A10 x.f9.length c10] 28)) (Blk.new w #[.int .i64 x.f0, .int .i64 x.f1, .int .i64 x.f2, .int .i64 x.f3, .int .i64 x.f4, .slice A5 x.f5.length c5, .slice A6 x.f6.length c6, .int .i64 x.f7.f0, .int .i64 x.f7.f1, .slice A9 x.f8.length c9, .slice A10 x.f9.length c10] 28 _ rfl))
 have hrz : (x.f9.length : Int) ≤ 5 := by omega
 go_enter Try.func86, Try.ntmps86
 go_wp2_with fail
 refine (rIn_calls x.f2 0 999 _).mono ?_
 rintro e w' ⟨rfl, rfl⟩
 rw [h2]
 go_wp2_with fail
 refine (rIn_calls x.f1 0 x.f2 _).mono ?_
 rintro e w' ⟨rfl, rfl⟩
 rw [h3]
 go_wp2_with fail
 refine (rIn_calls x.f3 1 20 _).mono ?_
 rintro e w' ⟨rfl, rfl⟩
 rw [h4]
 go_wp2_with fail
 refine (rIn_calls x.f4 0 3 _).mono ?_
 rintro e w' ⟨rfl, rfl⟩
 rw [h5]
 go_wp2_with fail
 refine (each_calls x _ A5 c5 x.f5 x.f4 _ (k38.K_below HB.out.1 HX.out) (Kd.C_below G5.out HB.out.1)).mono ?_
 rintro e w5 ⟨rfl, hb⟩
 rw [h6]
 have hb' := And.intro (bel2 HB.out.1 hb) (HB.out.2.below hb)
 clear HB hb
 have HB := Aside0.mk hb'
 clear hb'
 have k0 := HB.out.2.cell 0 _ rfl
 have k1 := HB.out.2.cell 1 _ rfl
 have k2 := HB.out.2.cell 2 _ rfl
 have k3 := HB.out.2.cell 3 _ rfl
 have k4 := HB.out.2.cell 4 _ rfl
 have k5 := HB.out.2.cell 5 _ rfl
 have k6 := HB.out.2.cell 6 _ rfl
 have k7 := HB.out.2.cell 7 _ rfl
 have k8 := HB.out.2.cell 8 _ rfl
 have k9 := HB.out.2.cell 9 _ rfl
 have k10 := HB.out.2.cell 10 _ rfl
 go_wp2
 go_ret
 exact ⟨rfl, HB.out.1⟩
theorem fault_7 (x : S38) (cs : List Value) (w : World) (hx : k38.K w x cs) (ha : x.f0 ≤ 4) (hr : x.f9.length ≤ 5) (h1 : 0 ≤ x.f0) (h2 : inR x.f2 0 999 = true) (h3 : inR x.f1 0 x.f2 = true) (h4 : inR x.f3 1 20 = true) (h5 : inR x.f4 0 3 = true) (h6 : forHours x.f0 x.f5 x.f4 = true) (h7 : forHours x.f0 x.f6 20 = false) : Calls Try.prog 86 #[.agg cs.toArray] w fun e w' => e = .returned (.int .i64 1) ∧ Below w.heap.size w w' := by
 have HX := Aside0.mk hx
 obtain ⟨A5, c5, A6, c6, A9, c9, A10, c10, rfl, l5, g5, l6, g6, l9, g9, l10, g10⟩ := k38_open hx
 have G5 := Aside0.mk g5
 have G6 := Aside0.mk g6
 have G9 := Aside0.mk g9
 have G10 := Aside0.mk g10
 clear hx g5 g6 g9 g10 l5 l6 l9 l10
 have hu := Try.underlying28
 have hu3 := Try.underlying24
 have hu4 := Try.underlying96
 have HB := Aside0.mk (And.intro (below_alloc (Below.refl w.heap.size w) (.cells #[.int .i64 x.f0, .int .i64 x.f1, .int .i64 x.f2, .int .i64 x.f3, .int .i64 x.f4, .slice A5 x.f5.length c5, .slice A6 x.f6.length c6, .int .i64 x.f7.f0, .int .i64 x.f7.f1, .slice A9 x.f8.length c9, .slice A10 x.f9.length c10] 28)) (Blk.new w #[.int .i64 x.f0, .int .i64 x.f1, .int .i64 x.f2, .int .i64 x.f3, .int .i64 x.f4, .slice A5 x.f5.length c5, .slice A6 x.f6.length c6, .int .i64 x.f7.f0, .int .i64 x.f7.f1, .slice A9 x.f8.length c9, .slice A10 x.f9.length c10] 28 _ rfl))
 have hrz : (x.f9.length : Int) ≤ 5 := by omega
 go_enter Try.func86, Try.ntmps86
 go_wp2_with fail
 refine (rIn_calls x.f2 0 999 _).mono ?_
 rintro e w' ⟨rfl, rfl⟩
 rw [h2]
 go_wp2_with fail
 refine (rIn_calls x.f1 0 x.f2 _).mono ?_
 rintro e w' ⟨rfl, rfl⟩
 rw [h3]
 go_wp2_with fail
 refine (rIn_calls x.f3 1 20 _).mono ?_
 rintro e w' ⟨rfl, rfl⟩
 rw [h4]
 go_wp2_with fail
 refine (rIn_calls x.f4 0 3 _).mono ?_
 rintro e w' ⟨rfl, rfl⟩
 rw [h5]
 go_wp2_with fail
 refine (each_calls x _ A5 c5 x.f5 x.f4 _ (k38.K_below HB.out.1 HX.out) (Kd.C_below G5.out HB.out.1)).mono ?_
 rintro e w5 ⟨rfl, hb⟩
 rw [h6]
 have hb' := And.intro (bel2 HB.out.1 hb) (HB.out.2.below hb)
 clear HB hb
 have HB := Aside0.mk hb'
 clear hb'
 have k0 := HB.out.2.cell 0 _ rfl
 have k1 := HB.out.2.cell 1 _ rfl
 have k2 := HB.out.2.cell 2 _ rfl
 have k3 := HB.out.2.cell 3 _ rfl
 have k4 := HB.out.2.cell 4 _ rfl
 have k5 := HB.out.2.cell 5 _ rfl
 have k6 := HB.out.2.cell 6 _ rfl
 have k7 := HB.out.2.cell 7 _ rfl
 have k8 := HB.out.2.cell 8 _ rfl
 have k9 := HB.out.2.cell 9 _ rfl
 have k10 := HB.out.2.cell 10 _ rfl
 go_wp2_with fail
 refine (each_calls x _ A6 c6 x.f6 20 _ (k38.K_below HB.out.1 HX.out) (Kd.C_below G6.out HB.out.1)).mono ?_
 rintro e w6 ⟨rfl, hb⟩
 rw [h7]
 have hb' := And.intro (bel2 HB.out.1 hb) (HB.out.2.below hb)
 clear HB hb
 have HB := Aside0.mk hb'
 clear hb'
 have k0 := HB.out.2.cell 0 _ rfl
 have k1 := HB.out.2.cell 1 _ rfl
 have k2 := HB.out.2.cell 2 _ rfl
 have k3 := HB.out.2.cell 3 _ rfl
 have k4 := HB.out.2.cell 4 _ rfl
 have k5 := HB.out.2.cell 5 _ rfl
 have k6 := HB.out.2.cell 6 _ rfl
 have k7 := HB.out.2.cell 7 _ rfl
 have k8 := HB.out.2.cell 8 _ rfl
 have k9 := HB.out.2.cell 9 _ rfl
 have k10 := HB.out.2.cell 10 _ rfl
 go_wp2
 go_ret
 exact ⟨rfl, HB.out.1⟩
end Go.Proofs.Ytdgkhoflajdidaa
