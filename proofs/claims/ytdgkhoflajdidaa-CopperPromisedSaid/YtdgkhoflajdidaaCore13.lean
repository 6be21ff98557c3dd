/- Lemmas for the laws' proofs: La, Lb. -/
import Derived.Test.YtdgkhoflajdidaaCore12
import Derived.BigQuiet
/- The examples' coppers. -/
namespace Go.Proofs.Ytdgkhoflajdidaa
open Go.RowKit Go.Proofs.YtdgkhoflajdidaaW.PrintWords Go.Proofs.YtdgkhoflajdidaaW.PrintMore Go.Proofs.YtdgkhoflajdidaaW.PrintLast Go.Proofs.Ytdgkhoflajdidaa.Print
set_option linter.unusedVariables false
set_option linter.unusedSimpArgs false
theorem between_calls (a b : Int) (w : World) : Calls Try.prog 76 #[.int .i64 a, .int .i64 b] w fun e w' => e = .returned (.agg #[.int .i64 a, .int .i64 b]) ∧ Below w.heap.size w w' := by
 have hu := Try.underlying35
 go_enter Try.func76, Try.ntmps76
 go_wp2
 refine bodyPost_ret (v := .agg #[.int .i64 a, .int .i64 b]) (by simp [results, Try.results76, go_sem]) rfl ⟨rfl, ?_⟩
 repeat (first | exact Below.refl _ _ | apply below_alloc | apply below_drew)
/-- The readings of the examples. -/
def threeR : List S119 := [⟨0, ⟨6, 6⟩⟩, ⟨2, ⟨3, 3⟩⟩, ⟨0, ⟨7, 7⟩⟩]
/-- The coppers of the examples, with n readings, the last Want being v. -/
def threeX (n : Nat) (v : Int) : S38 := ⟨2, 7, 60, 4, 3, [2, 1, 0], [3, 2, v], ⟨10, 12⟩, [⟨2, 3⟩, ⟨4, 4⟩, ⟨0, 2⟩], threeR.take n⟩
theorem cells_C {α : Type} (d : Kd α) (ce : α → List Value) (hK : ∀ W p, d.K W p (ce p)) (hl : ∀ p, (ce p).length = d.sz) {W : World} {g : Nat} {t : TypeId} (xs ys : List α) (h : Blk W g ((xs ++ ys).flatMap ce).toArray t) (hn : xs.length ≤ 1000) : Kd.C d W (some ⟨g, 0, none⟩) xs.length xs := by
 refine ⟨rfl, by omega, fun _ => ⟨_, rfl, fun j p hj => ⟨ce p, hl p, hK W p, fun i u hu => ?_⟩⟩⟩
 have hlt := (List.getElem?_eq_some_iff.1 hj).1
 have hi := (List.getElem?_eq_some_iff.1 hu).1
 rw [hl] at hi
 have key : ∀ (l : List α) (j : Nat) (p : α), l[j]? = some p → (l.flatMap ce)[j * d.sz + i]? = (ce p)[i]? := by
  intro l
  induction l with
  | nil => intro j p h; simp at h
  | cons a l ih =>
   intro j p h
   cases j with
   | zero =>
    simp only [List.getElem?_cons_zero, Option.some.injEq] at h
    subst h
    rw [List.flatMap_cons, Nat.zero_mul, Nat.zero_add, List.getElem?_append_left (by rw [hl]; exact hi)]
   | succ j =>
    simp only [List.getElem?_cons_succ] at h
    rw [List.flatMap_cons, List.getElem?_append_right (by rw [hl, Nat.succ_mul]; omega), hl, ← ih j p h]
    congr 1
    rw [Nat.succ_mul]; omega
 have h1 := key (xs ++ ys) j p (by rw [List.getElem?_append_left hlt]; exact hj)
 rw [show Addr.add ⟨g, 0, none⟩ (j * d.sz + i) = ⟨g, j * d.sz + i, none⟩ by simp [Addr.add]; intro a b; omega]
 exact h.cell _ _ (by rw [List.getElem?_toArray, h1]; exact hu)
theorem threeR_C {W : World} {g : Nat} {t : TypeId} (n : Nat) (h : Blk W g (threeR.flatMap fun r => [.int .i64 r.f0, .int .i64 r.f1.f0, .int .i64 r.f1.f1]).toArray t) : Kd.C k119 W (some ⟨g, 0, none⟩) (threeR.take n).length (threeR.take n) := by
 refine cells_C k119 (fun r => [.int .i64 r.f0, .int .i64 r.f1.f0, .int .i64 r.f1.f1]) (fun W p => k119_mk W p) (fun _ => rfl) (threeR.take n) (threeR.drop n) (by rw [List.take_append_drop]; exact h) ?_
 simp [threeR]; omega
set_option maxRecDepth 100000 in
set_option maxHeartbeats 4000000 in
theorem three_calls (n : Nat) (hn : n ≤ 3) (w : World) : Calls Try.prog 74 #[.int .i64 n] w fun e w' => ∃ p5 p6 p9 p10 : Nat, e = .returned (.agg #[.int .i64 2, .int .i64 7, .int .i64 60, .int .i64 4, .int .i64 3, .slice (some ⟨p5, 0, none⟩) 3 3, .slice (some ⟨p6, 0, none⟩) 3 3, .int .i64 10, .int .i64 12, .slice (some ⟨p9, 0, none⟩) 3 3, .slice (some ⟨p10, 0, none⟩) n 3]) ∧
    Below w.heap.size w w' ∧ w.heap.size ≤ p6 ∧ p6 ≠ p5 ∧ p6 ≠ p9 ∧ p6 ≠ p10 ∧ Blk w' p5 #[.int .i64 2, .int .i64 1, .int .i64 0] 3 ∧ Blk w' p6 #[.int .i64 3, .int .i64 2, .int .i64 2] 3 ∧ Blk w' p9 #[.int .i64 2, .int .i64 3, .int .i64 4, .int .i64 4, .int .i64 0, .int .i64 2] 35 ∧ Blk w' p10 #[.int .i64 0, .int .i64 6, .int .i64 6, .int .i64 2, .int .i64 3, .int .i64 3, .int .i64 0, .int .i64 7, .int .i64 7] 119 := by
 have hu := Try.underlying38
 have hu2 := Try.underlying119
 have hu3 := Try.underlying35
 have HB := Aside0.mk (And.intro (below_alloc (Below.refl w.heap.size w) (.cells #[.int .i64 0, .int .i64 0, .int .i64 0, .int .i64 0, .int .i64 0, .slice none 0 0, .slice none 0 0, .int .i64 0, .int .i64 0, .slice none 0 0, .slice none 0 0] 38)) (Blk.new w #[.int .i64 0, .int .i64 0, .int .i64 0, .int .i64 0, .int .i64 0, .slice none 0 0, .slice none 0 0, .int .i64 0, .int .i64 0, .slice none 0 0, .slice none 0 0] 38 _ rfl))
 go_enter Try.func74, Try.ntmps74
 go_wp2_with (go_at_call 76; refine (between_calls _ _ _).mono ?_; rintro e w1 ⟨rfl, hb1⟩; have hb := And.intro (bel2 HB.out.1 hb1) (HB.out.2.below hb1); clear HB hb1; have HB := Aside0.mk hb; clear hb)
 have B10 : Blk (w1.alloc (.cells #[.int .i64 0, .int .i64 6, .int .i64 6, .int .i64 2, .int .i64 3, .int .i64 3, .int .i64 0, .int .i64 7, .int .i64 7] 119)) w1.heap.size #[.int .i64 0, .int .i64 6, .int .i64 6, .int .i64 2, .int .i64 3, .int .i64 3, .int .i64 0, .int .i64 7, .int .i64 7] 119 := Blk.new _ _ _ _ rfl
 have HW := Aside0.mk (And.intro (below_alloc HB.out.1 (.cells #[.int .i64 0, .int .i64 6, .int .i64 6, .int .i64 2, .int .i64 3, .int .i64 3, .int .i64 0, .int .i64 7, .int .i64 7] 119)) (And.intro (HB.out.2.alloc (.cells #[.int .i64 0, .int .i64 6, .int .i64 6, .int .i64 2, .int .i64 3, .int .i64 3, .int .i64 0, .int .i64 7, .int .i64 7] 119)) B10))
 have hs1 : w1.heap.size < (w1.alloc (.cells #[.int .i64 0, .int .i64 6, .int .i64 6, .int .i64 2, .int .i64 3, .int .i64 3, .int .i64 0, .int .i64 7, .int .i64 7] 119)).heap.size := by simp
 clear B10 HB
 generalize w1.alloc (.cells #[.int .i64 0, .int .i64 6, .int .i64 6, .int .i64 2, .int .i64 3, .int .i64 3, .int .i64 0, .int .i64 7, .int .i64 7] 119) = W at *
 generalize w1.heap.size = g at *
 have hnn : (n : Int) ≤ 3 := by omega
 have hn0 : 0 ≤ (n : Int) := by omega
 refine start_ (n := 12) (S := fun w' => True) (ds := [11]) #[false, false, false, false, false, false, false, false, false, false, false, false] (by kernel_rfl) rfl rfl trivial (fun hHeld => ?_)
 refine pure_ (i := 7) (N := some 18) (v := ?_) (a' := ?_) (bs 12 128) rfl rfl (by kernel_rfl) (fun _ _ _ h => h) (Or.inl ⟨by rfl, ?_⟩) ?_ ?_
 rotate_left
 ·intro w'
  go_simp
  with_reducible rfl
 rotate_left
 ·simp only [Act.put, List.setIfInBounds_toArray, List.set_cons_zero, List.set_cons_succ, i64_w, i32_w]
  rfl
 refine pure_ (i := 8) (N := some 19) (v := ?_) (a' := ?_) (bs 12 384) rfl rfl (by kernel_rfl) (fun _ _ _ h => h) (Or.inl ⟨by rfl, ?_⟩) ?_ ?_
 rotate_left
 ·intro w'
  go_simp
  with_reducible rfl
 rotate_left
 ·simp only [Act.put, List.setIfInBounds_toArray, List.set_cons_zero, List.set_cons_succ, i64_w, i32_w]
  rfl
 refine pure_ (i := 9) (N := some 20) (v := ?_) (a' := ?_) (bs 12 896) rfl rfl (by kernel_rfl) (fun _ _ _ h => h) (Or.inl ⟨by rfl, ?_⟩) ?_ ?_
 rotate_left
 ·intro w'
  go_simp
  with_reducible rfl
 rotate_left
 ·simp only [Act.put, List.setIfInBounds_toArray, List.set_cons_zero, List.set_cons_succ, i64_w, i32_w]
  rfl
 refine join_ (σ := Nat × Nat × Nat) 2 (bs 12 1023) (fun s => [(11, .slice (some ⟨s.1, 0, none⟩) 3 3), (12, .slice (some ⟨s.2.1, 0, none⟩) 3 3), (13, .agg #[.int .i64 10, .int .i64 12]), (14, .agg #[.int .i64 2, .int .i64 3]), (15, .agg #[.int .i64 4, .int .i64 4]), (16, .agg #[.int .i64 0, .int .i64 2]), (17, .slice (some ⟨s.2.2, 0, none⟩) 3 3)]) (fun s w' => Below W.heap.size W w' ∧ Blk w' s.1 #[.int .i64 2, .int .i64 1, .int .i64 0] 3 ∧ W.heap.size ≤ s.1 ∧ Blk w' s.2.1 #[.int .i64 3, .int .i64 2, .int .i64 2] 3 ∧ W.heap.size ≤ s.2.1 ∧ Blk w' s.2.2 #[.int .i64 2, .int .i64 3, .int .i64 4, .int .i64 4, .int .i64 0, .int .i64 2] 35 ∧ W.heap.size ≤ s.2.2 ∧ s.2.1 ≠ s.1 ∧ s.2.1 ≠ s.2.2) ?_ ?_
 rotate_left
 ·intro hJ0_1_2_3_4_5_6
  refine join_ (σ := Nat × Nat × Nat) 3 (bs 12 959) (fun s => [(11, .slice (some ⟨s.1, 0, none⟩) 3 3), (12, .slice (some ⟨s.2.1, 0, none⟩) 3 3), (13, .agg #[.int .i64 10, .int .i64 12]), (14, .agg #[.int .i64 2, .int .i64 3]), (15, .agg #[.int .i64 4, .int .i64 4]), (16, .agg #[.int .i64 0, .int .i64 2])]) (fun s w' => Below W.heap.size W w' ∧ Blk w' s.1 #[.int .i64 2, .int .i64 1, .int .i64 0] 3 ∧ W.heap.size ≤ s.1 ∧ Blk w' s.2.1 #[.int .i64 3, .int .i64 2, .int .i64 2] 3 ∧ W.heap.size ≤ s.2.1 ∧ s.2.1 ≠ s.1) ?_ ?_
  rotate_left
  ·intro hJ0_1_2_3_4_5
   refine join_ (σ := Nat × Nat × Nat) 3 (bs 12 1021) (fun s => [(11, .slice (some ⟨s.1, 0, none⟩) 3 3), (13, .agg #[.int .i64 10, .int .i64 12]), (14, .agg #[.int .i64 2, .int .i64 3]), (15, .agg #[.int .i64 4, .int .i64 4]), (16, .agg #[.int .i64 0, .int .i64 2]), (17, .slice (some ⟨s.2.2, 0, none⟩) 3 3)]) (fun s w' => Below W.heap.size W w' ∧ Blk w' s.1 #[.int .i64 2, .int .i64 1, .int .i64 0] 3 ∧ W.heap.size ≤ s.1 ∧ Blk w' s.2.2 #[.int .i64 2, .int .i64 3, .int .i64 4, .int .i64 4, .int .i64 0, .int .i64 2] 35 ∧ W.heap.size ≤ s.2.2) ?_ ?_
   rotate_left
   ·intro hJ0_2_3_4_5_6
    refine join_ (σ := Nat × Nat × Nat) 3 (bs 12 1022) (fun s => [(12, .slice (some ⟨s.2.1, 0, none⟩) 3 3), (13, .agg #[.int .i64 10, .int .i64 12]), (14, .agg #[.int .i64 2, .int .i64 3]), (15, .agg #[.int .i64 4, .int .i64 4]), (16, .agg #[.int .i64 0, .int .i64 2]), (17, .slice (some ⟨s.2.2, 0, none⟩) 3 3)]) (fun s w' => Below W.heap.size W w' ∧ Blk w' s.2.1 #[.int .i64 3, .int .i64 2, .int .i64 2] 3 ∧ W.heap.size ≤ s.2.1 ∧ Blk w' s.2.2 #[.int .i64 2, .int .i64 3, .int .i64 4, .int .i64 4, .int .i64 0, .int .i64 2] 35 ∧ W.heap.size ≤ s.2.2 ∧ s.2.1 ≠ s.2.2) ?_ ?_
    rotate_left
    ·intro hJ1_2_3_4_5_6
     refine join_ (σ := Nat × Nat × Nat) 4 (bs 12 927) (fun s => [(11, .slice (some ⟨s.1, 0, none⟩) 3 3), (12, .slice (some ⟨s.2.1, 0, none⟩) 3 3), (13, .agg #[.int .i64 10, .int .i64 12]), (14, .agg #[.int .i64 2, .int .i64 3]), (15, .agg #[.int .i64 4, .int .i64 4])]) (fun s w' => Below W.heap.size W w' ∧ Blk w' s.1 #[.int .i64 2, .int .i64 1, .int .i64 0] 3 ∧ W.heap.size ≤ s.1 ∧ Blk w' s.2.1 #[.int .i64 3, .int .i64 2, .int .i64 2] 3 ∧ W.heap.size ≤ s.2.1 ∧ s.2.1 ≠ s.1) ?_ ?_
     rotate_left
     ·intro hJ0_1_2_3_4
      refine join_ (σ := Nat × Nat × Nat) 4 (bs 12 957) (fun s => [(11, .slice (some ⟨s.1, 0, none⟩) 3 3), (13, .agg #[.int .i64 10, .int .i64 12]), (14, .agg #[.int .i64 2, .int .i64 3]), (15, .agg #[.int .i64 4, .int .i64 4]), (16, .agg #[.int .i64 0, .int .i64 2])]) (fun s w' => Below W.heap.size W w' ∧ Blk w' s.1 #[.int .i64 2, .int .i64 1, .int .i64 0] 3 ∧ W.heap.size ≤ s.1) ?_ ?_
      rotate_left
      ·intro hJ0_2_3_4_5
       refine join_ (σ := Nat × Nat × Nat) 4 (bs 12 958) (fun s => [(12, .slice (some ⟨s.2.1, 0, none⟩) 3 3), (13, .agg #[.int .i64 10, .int .i64 12]), (14, .agg #[.int .i64 2, .int .i64 3]), (15, .agg #[.int .i64 4, .int .i64 4]), (16, .agg #[.int .i64 0, .int .i64 2])]) (fun s w' => Below W.heap.size W w' ∧ Blk w' s.2.1 #[.int .i64 3, .int .i64 2, .int .i64 2] 3 ∧ W.heap.size ≤ s.2.1) ?_ ?_
       rotate_left
       ·intro hJ1_2_3_4_5
        refine join_ (σ := Nat × Nat × Nat) 4 (bs 12 1020) (fun s => [(13, .agg #[.int .i64 10, .int .i64 12]), (14, .agg #[.int .i64 2, .int .i64 3]), (15, .agg #[.int .i64 4, .int .i64 4]), (16, .agg #[.int .i64 0, .int .i64 2]), (17, .slice (some ⟨s.2.2, 0, none⟩) 3 3)]) (fun s w' => Below W.heap.size W w' ∧ Blk w' s.2.2 #[.int .i64 2, .int .i64 3, .int .i64 4, .int .i64 4, .int .i64 0, .int .i64 2] 35 ∧ W.heap.size ≤ s.2.2) ?_ ?_
        rotate_left
        ·intro hJ2_3_4_5_6
         refine join_ (σ := Nat × Nat × Nat) 5 (bs 12 911) (fun s => [(11, .slice (some ⟨s.1, 0, none⟩) 3 3), (12, .slice (some ⟨s.2.1, 0, none⟩) 3 3), (13, .agg #[.int .i64 10, .int .i64 12]), (14, .agg #[.int .i64 2, .int .i64 3])]) (fun s w' => Below W.heap.size W w' ∧ Blk w' s.1 #[.int .i64 2, .int .i64 1, .int .i64 0] 3 ∧ W.heap.size ≤ s.1 ∧ Blk w' s.2.1 #[.int .i64 3, .int .i64 2, .int .i64 2] 3 ∧ W.heap.size ≤ s.2.1 ∧ s.2.1 ≠ s.1) ?_ ?_
         rotate_left
         ·intro hJ0_1_2_3
          refine join_ (σ := Nat × Nat × Nat) 5 (bs 12 925) (fun s => [(11, .slice (some ⟨s.1, 0, none⟩) 3 3), (13, .agg #[.int .i64 10, .int .i64 12]), (14, .agg #[.int .i64 2, .int .i64 3]), (15, .agg #[.int .i64 4, .int .i64 4])]) (fun s w' => Below W.heap.size W w' ∧ Blk w' s.1 #[.int .i64 2, .int .i64 1, .int .i64 0] 3 ∧ W.heap.size ≤ s.1) ?_ ?_
          rotate_left
          ·intro hJ0_2_3_4
           refine join_ (σ := Nat × Nat × Nat) 5 (bs 12 926) (fun s => [(12, .slice (some ⟨s.2.1, 0, none⟩) 3 3), (13, .agg #[.int .i64 10, .int .i64 12]), (14, .agg #[.int .i64 2, .int .i64 3]), (15, .agg #[.int .i64 4, .int .i64 4])]) (fun s w' => Below W.heap.size W w' ∧ Blk w' s.2.1 #[.int .i64 3, .int .i64 2, .int .i64 2] 3 ∧ W.heap.size ≤ s.2.1) ?_ ?_
           rotate_left
           ·intro hJ1_2_3_4
            refine join_ (σ := Nat × Nat × Nat) 5 (bs 12 956) (fun s => [(13, .agg #[.int .i64 10, .int .i64 12]), (14, .agg #[.int .i64 2, .int .i64 3]), (15, .agg #[.int .i64 4, .int .i64 4]), (16, .agg #[.int .i64 0, .int .i64 2])]) (fun s w' => Below W.heap.size W w') ?_ ?_
            rotate_left
            ·intro hJ2_3_4_5
             refine join_ (σ := Nat × Nat × Nat) 6 (bs 12 903) (fun s => [(11, .slice (some ⟨s.1, 0, none⟩) 3 3), (12, .slice (some ⟨s.2.1, 0, none⟩) 3 3), (13, .agg #[.int .i64 10, .int .i64 12])]) (fun s w' => Below W.heap.size W w' ∧ Blk w' s.1 #[.int .i64 2, .int .i64 1, .int .i64 0] 3 ∧ W.heap.size ≤ s.1 ∧ Blk w' s.2.1 #[.int .i64 3, .int .i64 2, .int .i64 2] 3 ∧ W.heap.size ≤ s.2.1 ∧ s.2.1 ≠ s.1) ?_ ?_
             rotate_left
             ·intro hJ0_1_2
              refine join_ (σ := Nat × Nat × Nat) 6 (bs 12 909) (fun s => [(11, .slice (some ⟨s.1, 0, none⟩) 3 3), (13, .agg #[.int .i64 10, .int .i64 12]), (14, .agg #[.int .i64 2, .int .i64 3])]) (fun s w' => Below W.heap.size W w' ∧ Blk w' s.1 #[.int .i64 2, .int .i64 1, .int .i64 0] 3 ∧ W.heap.size ≤ s.1) ?_ ?_
              rotate_left
              ·intro hJ0_2_3
               refine join_ (σ := Nat × Nat × Nat) 6 (bs 12 910) (fun s => [(12, .slice (some ⟨s.2.1, 0, none⟩) 3 3), (13, .agg #[.int .i64 10, .int .i64 12]), (14, .agg #[.int .i64 2, .int .i64 3])]) (fun s w' => Below W.heap.size W w' ∧ Blk w' s.2.1 #[.int .i64 3, .int .i64 2, .int .i64 2] 3 ∧ W.heap.size ≤ s.2.1) ?_ ?_
               rotate_left
               ·intro hJ1_2_3
                refine join_ (σ := Nat × Nat × Nat) 6 (bs 12 924) (fun s => [(13, .agg #[.int .i64 10, .int .i64 12]), (14, .agg #[.int .i64 2, .int .i64 3]), (15, .agg #[.int .i64 4, .int .i64 4])]) (fun s w' => Below W.heap.size W w') ?_ ?_
                rotate_left
                ·intro hJ2_3_4
                 refine join_ (σ := Nat × Nat × Nat) 7 (bs 12 899) (fun s => [(11, .slice (some ⟨s.1, 0, none⟩) 3 3), (12, .slice (some ⟨s.2.1, 0, none⟩) 3 3)]) (fun s w' => Below W.heap.size W w' ∧ Blk w' s.1 #[.int .i64 2, .int .i64 1, .int .i64 0] 3 ∧ W.heap.size ≤ s.1 ∧ Blk w' s.2.1 #[.int .i64 3, .int .i64 2, .int .i64 2] 3 ∧ W.heap.size ≤ s.2.1 ∧ s.2.1 ≠ s.1) ?_ ?_
                 rotate_left
                 ·intro hJ0_1
                  refine join_ (σ := Nat × Nat × Nat) 7 (bs 12 901) (fun s => [(11, .slice (some ⟨s.1, 0, none⟩) 3 3), (13, .agg #[.int .i64 10, .int .i64 12])]) (fun s w' => Below W.heap.size W w' ∧ Blk w' s.1 #[.int .i64 2, .int .i64 1, .int .i64 0] 3 ∧ W.heap.size ≤ s.1) ?_ ?_
                  rotate_left
                  ·intro hJ0_2
                   refine join_ (σ := Nat × Nat × Nat) 7 (bs 12 902) (fun s => [(12, .slice (some ⟨s.2.1, 0, none⟩) 3 3), (13, .agg #[.int .i64 10, .int .i64 12])]) (fun s w' => Below W.heap.size W w' ∧ Blk w' s.2.1 #[.int .i64 3, .int .i64 2, .int .i64 2] 3 ∧ W.heap.size ≤ s.2.1) ?_ ?_
                   rotate_left
                   ·intro hJ1_2
                    refine join_ (σ := Nat × Nat × Nat) 7 (bs 12 908) (fun s => [(13, .agg #[.int .i64 10, .int .i64 12]), (14, .agg #[.int .i64 2, .int .i64 3])]) (fun s w' => Below W.heap.size W w') ?_ ?_
                    rotate_left
                    ·intro hJ2_3
                     refine join_ (σ := Nat × Nat × Nat) 8 (bs 12 897) (fun s => [(11, .slice (some ⟨s.1, 0, none⟩) 3 3)]) (fun s w' => Below W.heap.size W w' ∧ Blk w' s.1 #[.int .i64 2, .int .i64 1, .int .i64 0] 3 ∧ W.heap.size ≤ s.1) ?_ ?_
                     rotate_left
                     ·intro hJ0
                      refine join_ (σ := Nat × Nat × Nat) 8 (bs 12 898) (fun s => [(12, .slice (some ⟨s.2.1, 0, none⟩) 3 3)]) (fun s w' => Below W.heap.size W w' ∧ Blk w' s.2.1 #[.int .i64 3, .int .i64 2, .int .i64 2] 3 ∧ W.heap.size ≤ s.2.1) ?_ ?_
                      rotate_left
                      ·intro hJ1
                       refine join_ (σ := Nat × Nat × Nat) 8 (bs 12 900) (fun s => [(13, .agg #[.int .i64 10, .int .i64 12])]) (fun s w' => Below W.heap.size W w') ?_ ?_
                       rotate_left
                       ·intro hJ2
                        refine three_ (i := 0) (j := 1) (k := 2) (Ni := some 11) (Nj := some 12) (Nk := some 13) (bs 12 897) (bs 12 898) (bs 12 900) rfl rfl rfl rfl rfl rfl (by kernel_rfl) (by decide) (by decide) (by decide) (fun K hK => ?_) (fun K hK => ?_) (fun K hK => ?_)
                        ·skip
                         refine value_ (w1 := ?_) (v := ?_) (by rfl) rfl ?_ ?_
                         rotate_left 2
                         ·go_simp
                          constructor
                          ·rfl
                          ·rfl
                         refine hK.out _ _ trivial (fun hHeld => ?_)
                         clear hK K
                         refine norm_ (a' := ?_) ?_ ?_
                         rotate_left
                         ·show Act.put _ (some 11) _ = _
                          simp only [Act.put, List.setIfInBounds_toArray, List.set_cons_zero, List.set_cons_succ, i64_w, i32_w]
                          rfl
                         exact norm_ (by first | (simp only [putAll, Act.put, List.setIfInBounds_toArray, List.set_cons_zero, List.set_cons_succ]; done) | (simp only [putAll, Act.put, List.setIfInBounds_toArray, List.set_cons_zero, List.set_cons_succ]; rfl)) (hJ0 (W.drew.heap.size, 0, 0) _ ⟨below_alloc (below_drew (Below.refl W.heap.size W)) _, Blk.new _ _ _ _ rfl, (below_drew (Below.refl W.heap.size W)).size⟩)
                        ·skip
                         refine value_ (w1 := ?_) (v := ?_) (by rfl) rfl ?_ ?_
                         rotate_left 2
                         ·go_simp
                          constructor
                          ·rfl
                          ·rfl
                         refine hK.out _ _ trivial (fun hHeld => ?_)
                         clear hK K
                         refine norm_ (a' := ?_) ?_ ?_
                         rotate_left
                         ·show Act.put _ (some 12) _ = _
                          simp only [Act.put, List.setIfInBounds_toArray, List.set_cons_zero, List.set_cons_succ, i64_w, i32_w]
                          rfl
                         exact norm_ (by first | (simp only [putAll, Act.put, List.setIfInBounds_toArray, List.set_cons_zero, List.set_cons_succ]; done) | (simp only [putAll, Act.put, List.setIfInBounds_toArray, List.set_cons_zero, List.set_cons_succ]; rfl)) (hJ1 (0, W.drew.heap.size, 0) _ ⟨below_alloc (below_drew (Below.refl W.heap.size W)) _, Blk.new _ _ _ _ rfl, (below_drew (Below.refl W.heap.size W)).size⟩)
                        ·skip
                         refine goes_ Try.func76 (by kernel_rfl) rfl #[.int .i64 10, .int .i64 12] (by rfl) rfl rfl (by simp only [List.map_toArray, List.map_cons, List.map_nil]; rfl) ?_
                         with_reducible refine (between_calls 10 12 _).mono ?_
                         rintro e w5 ⟨rfl, hb5⟩
                         refine ⟨_, rfl, ?_⟩
                         refine hK.out _ _ trivial (fun hHeld => ?_)
                         clear hK K
                         refine norm_ (a' := ?_) ?_ ?_
                         rotate_left
                         ·show Act.put _ (some 13) _ = _
                          simp only [Act.put, List.setIfInBounds_toArray, List.set_cons_zero, List.set_cons_succ, i64_w, i32_w]
                          rfl
                         exact norm_ (by first | (simp only [putAll, Act.put, List.setIfInBounds_toArray, List.set_cons_zero, List.set_cons_succ]; done) | (simp only [putAll, Act.put, List.setIfInBounds_toArray, List.set_cons_zero, List.set_cons_succ]; rfl)) (hJ2 (0, 0, 0) _ (bel2 (below_drew (Below.refl W.heap.size W)) hb5))
                       ·skip
                        rintro ⟨p5, p6, p9⟩ w4 hB
                        have hHeld : True := trivial
                        try dsimp only at *
                        refine norm_ (a' := ?_) ?_ ?_
                        rotate_left
                        ·simp only [putAll, Act.put, List.setIfInBounds_toArray, List.set_cons_zero, List.set_cons_succ]
                         rfl
                        refine three_ (i := 0) (j := 1) (k := 3) (Ni := some 11) (Nj := some 12) (Nk := some 14) (bs 12 901) (bs 12 902) (bs 12 908) rfl rfl rfl rfl rfl rfl (by kernel_rfl) (by decide) (by decide) (by decide) (fun K hK => ?_) (fun K hK => ?_) (fun K hK => ?_)
                        ·skip
                         refine value_ (w1 := ?_) (v := ?_) (by rfl) rfl ?_ ?_
                         rotate_left 2
                         ·go_simp
                          constructor
                          ·rfl
                          ·rfl
                         refine hK.out _ _ trivial (fun hHeld => ?_)
                         clear hK K
                         refine norm_ (a' := ?_) ?_ ?_
                         rotate_left
                         ·show Act.put _ (some 11) _ = _
                          simp only [Act.put, List.setIfInBounds_toArray, List.set_cons_zero, List.set_cons_succ, i64_w, i32_w]
                          rfl
                         exact norm_ (by first | (simp only [putAll, Act.put, List.setIfInBounds_toArray, List.set_cons_zero, List.set_cons_succ]; done) | (simp only [putAll, Act.put, List.setIfInBounds_toArray, List.set_cons_zero, List.set_cons_succ]; rfl)) (hJ0_2 (w4.heap.size, 0, 0) _ ⟨below_alloc hB _, Blk.new _ _ _ _ rfl, hB.size⟩)
                        ·skip
                         refine value_ (w1 := ?_) (v := ?_) (by rfl) rfl ?_ ?_
                         rotate_left 2
                         ·go_simp
                          constructor
                          ·rfl
                          ·rfl
                         refine hK.out _ _ trivial (fun hHeld => ?_)
                         clear hK K
                         refine norm_ (a' := ?_) ?_ ?_
                         rotate_left
                         ·show Act.put _ (some 12) _ = _
                          simp only [Act.put, List.setIfInBounds_toArray, List.set_cons_zero, List.set_cons_succ, i64_w, i32_w]
                          rfl
                         exact norm_ (by first | (simp only [putAll, Act.put, List.setIfInBounds_toArray, List.set_cons_zero, List.set_cons_succ]; done) | (simp only [putAll, Act.put, List.setIfInBounds_toArray, List.set_cons_zero, List.set_cons_succ]; rfl)) (hJ1_2 (0, w4.heap.size, 0) _ ⟨below_alloc hB _, Blk.new _ _ _ _ rfl, hB.size⟩)
                        ·skip
                         refine goes_ Try.func76 (by kernel_rfl) rfl #[.int .i64 2, .int .i64 3] (by rfl) rfl rfl (by simp only [List.map_toArray, List.map_cons, List.map_nil]; rfl) ?_
                         with_reducible refine (between_calls 2 3 _).mono ?_
                         rintro e w5 ⟨rfl, hb5⟩
                         refine ⟨_, rfl, ?_⟩
                         refine hK.out _ _ trivial (fun hHeld => ?_)
                         clear hK K
                         refine norm_ (a' := ?_) ?_ ?_
                         rotate_left
                         ·show Act.put _ (some 14) _ = _
                          simp only [Act.put, List.setIfInBounds_toArray, List.set_cons_zero, List.set_cons_succ, i64_w, i32_w]
                          rfl
                         exact norm_ (by first | (simp only [putAll, Act.put, List.setIfInBounds_toArray, List.set_cons_zero, List.set_cons_succ]; done) | (simp only [putAll, Act.put, List.setIfInBounds_toArray, List.set_cons_zero, List.set_cons_succ]; rfl)) (hJ2_3 (0, 0, 0) _ (bel2 hB hb5))
                      ·skip
                       rintro ⟨p5, p6, p9⟩ w4 ⟨hB, b1, l1⟩
                       have hHeld : True := trivial
                       try dsimp only at *
                       refine norm_ (a' := ?_) ?_ ?_
                       rotate_left
                       ·simp only [putAll, Act.put, List.setIfInBounds_toArray, List.set_cons_zero, List.set_cons_succ]
                        rfl
                       refine two_ (i := 0) (j := 2) (Ni := some 11) (Nj := some 13) (bs 12 899) (bs 12 902) rfl rfl rfl rfl (by kernel_rfl) (by decide) (by decide) (fun K hK => ?_) (fun K hK => ?_)
                       ·skip
                        refine value_ (w1 := ?_) (v := ?_) (by rfl) rfl ?_ ?_
                        rotate_left 2
                        ·go_simp
                         constructor
                         ·rfl
                         ·rfl
                        refine hK.out _ _ trivial (fun hHeld => ?_)
                        clear hK K
                        refine norm_ (a' := ?_) ?_ ?_
                        rotate_left
                        ·show Act.put _ (some 11) _ = _
                         simp only [Act.put, List.setIfInBounds_toArray, List.set_cons_zero, List.set_cons_succ, i64_w, i32_w]
                         rfl
                        exact norm_ (by first | (simp only [putAll, Act.put, List.setIfInBounds_toArray, List.set_cons_zero, List.set_cons_succ]; done) | (simp only [putAll, Act.put, List.setIfInBounds_toArray, List.set_cons_zero, List.set_cons_succ]; rfl)) (hJ0_1 (w4.heap.size, p6, 0) _ ⟨below_alloc hB _, Blk.new _ _ _ _ rfl, hB.size, b1.alloc _, l1, Nat.ne_of_lt b1.lt⟩)
                       ·skip
                        refine goes_ Try.func76 (by kernel_rfl) rfl #[.int .i64 10, .int .i64 12] (by rfl) rfl rfl (by simp only [List.map_toArray, List.map_cons, List.map_nil]; rfl) ?_
                        with_reducible refine (between_calls 10 12 _).mono ?_
                        rintro e w5 ⟨rfl, hb5⟩
                        refine ⟨_, rfl, ?_⟩
                        refine hK.out _ _ trivial (fun hHeld => ?_)
                        clear hK K
                        refine norm_ (a' := ?_) ?_ ?_
                        rotate_left
                        ·show Act.put _ (some 13) _ = _
                         simp only [Act.put, List.setIfInBounds_toArray, List.set_cons_zero, List.set_cons_succ, i64_w, i32_w]
                         rfl
                        exact norm_ (by first | (simp only [putAll, Act.put, List.setIfInBounds_toArray, List.set_cons_zero, List.set_cons_succ]; done) | (simp only [putAll, Act.put, List.setIfInBounds_toArray, List.set_cons_zero, List.set_cons_succ]; rfl)) (hJ1_2 (0, p6, 0) _ ⟨bel2 hB hb5, b1.below hb5, l1⟩)
                     ·skip
                      rintro ⟨p5, p6, p9⟩ w4 ⟨hB, b0, l0⟩
                      have hHeld : True := trivial
                      try dsimp only at *
                      refine norm_ (a' := ?_) ?_ ?_
                      rotate_left
                      ·simp only [putAll, Act.put, List.setIfInBounds_toArray, List.set_cons_zero, List.set_cons_succ]
                       rfl
                      refine two_ (i := 1) (j := 2) (Ni := some 12) (Nj := some 13) (bs 12 899) (bs 12 901) rfl rfl rfl rfl (by kernel_rfl) (by decide) (by decide) (fun K hK => ?_) (fun K hK => ?_)
                      ·skip
                       refine value_ (w1 := ?_) (v := ?_) (by rfl) rfl ?_ ?_
                       rotate_left 2
                       ·go_simp
                        constructor
                        ·rfl
                        ·rfl
                       refine hK.out _ _ trivial (fun hHeld => ?_)
                       clear hK K
                       refine norm_ (a' := ?_) ?_ ?_
                       rotate_left
                       ·show Act.put _ (some 12) _ = _
                        simp only [Act.put, List.setIfInBounds_toArray, List.set_cons_zero, List.set_cons_succ, i64_w, i32_w]
                        rfl
                       exact norm_ (by first | (simp only [putAll, Act.put, List.setIfInBounds_toArray, List.set_cons_zero, List.set_cons_succ]; done) | (simp only [putAll, Act.put, List.setIfInBounds_toArray, List.set_cons_zero, List.set_cons_succ]; rfl)) (hJ0_1 (p5, w4.heap.size, 0) _ ⟨below_alloc hB _, b0.alloc _, l0, Blk.new _ _ _ _ rfl, hB.size, Nat.ne_of_gt b0.lt⟩)
                      ·skip
                       refine goes_ Try.func76 (by kernel_rfl) rfl #[.int .i64 10, .int .i64 12] (by rfl) rfl rfl (by simp only [List.map_toArray, List.map_cons, List.map_nil]; rfl) ?_
                       with_reducible refine (between_calls 10 12 _).mono ?_
                       rintro e w5 ⟨rfl, hb5⟩
                       refine ⟨_, rfl, ?_⟩
                       refine hK.out _ _ trivial (fun hHeld => ?_)
                       clear hK K
                       refine norm_ (a' := ?_) ?_ ?_
                       rotate_left
                       ·show Act.put _ (some 13) _ = _
                        simp only [Act.put, List.setIfInBounds_toArray, List.set_cons_zero, List.set_cons_succ, i64_w, i32_w]
                        rfl
                       exact norm_ (by first | (simp only [putAll, Act.put, List.setIfInBounds_toArray, List.set_cons_zero, List.set_cons_succ]; done) | (simp only [putAll, Act.put, List.setIfInBounds_toArray, List.set_cons_zero, List.set_cons_succ]; rfl)) (hJ0_2 (p5, 0, 0) _ ⟨bel2 hB hb5, b0.below hb5, l0⟩)
                    ·skip
                     rintro ⟨p5, p6, p9⟩ w4 hB
                     have hHeld : True := trivial
                     try dsimp only at *
                     refine norm_ (a' := ?_) ?_ ?_
                     rotate_left
                     ·simp only [putAll, Act.put, List.setIfInBounds_toArray, List.set_cons_zero, List.set_cons_succ]
                      rfl
                     refine three_ (i := 0) (j := 1) (k := 4) (Ni := some 11) (Nj := some 12) (Nk := some 15) (bs 12 909) (bs 12 910) (bs 12 924) rfl rfl rfl rfl rfl rfl (by kernel_rfl) (by decide) (by decide) (by decide) (fun K hK => ?_) (fun K hK => ?_) (fun K hK => ?_)
                     ·skip
                      refine value_ (w1 := ?_) (v := ?_) (by rfl) rfl ?_ ?_
                      rotate_left 2
                      ·go_simp
                       constructor
                       ·rfl
                       ·rfl
                      refine hK.out _ _ trivial (fun hHeld => ?_)
                      clear hK K
                      refine norm_ (a' := ?_) ?_ ?_
                      rotate_left
                      ·show Act.put _ (some 11) _ = _
                       simp only [Act.put, List.setIfInBounds_toArray, List.set_cons_zero, List.set_cons_succ, i64_w, i32_w]
                       rfl
                      exact norm_ (by first | (simp only [putAll, Act.put, List.setIfInBounds_toArray, List.set_cons_zero, List.set_cons_succ]; done) | (simp only [putAll, Act.put, List.setIfInBounds_toArray, List.set_cons_zero, List.set_cons_succ]; rfl)) (hJ0_2_3 (w4.heap.size, 0, 0) _ ⟨below_alloc hB _, Blk.new _ _ _ _ rfl, hB.size⟩)
                     ·skip
                      refine value_ (w1 := ?_) (v := ?_) (by rfl) rfl ?_ ?_
                      rotate_left 2
                      ·go_simp
                       constructor
                       ·rfl
                       ·rfl
                      refine hK.out _ _ trivial (fun hHeld => ?_)
                      clear hK K
                      refine norm_ (a' := ?_) ?_ ?_
                      rotate_left
                      ·show Act.put _ (some 12) _ = _
                       simp only [Act.put, List.setIfInBounds_toArray, List.set_cons_zero, List.set_cons_succ, i64_w, i32_w]
                       rfl
                      exact norm_ (by first | (simp only [putAll, Act.put, List.setIfInBounds_toArray, List.set_cons_zero, List.set_cons_succ]; done) | (simp only [putAll, Act.put, List.setIfInBounds_toArray, List.set_cons_zero, List.set_cons_succ]; rfl)) (hJ1_2_3 (0, w4.heap.size, 0) _ ⟨below_alloc hB _, Blk.new _ _ _ _ rfl, hB.size⟩)
                     ·skip
                      refine goes_ Try.func76 (by kernel_rfl) rfl #[.int .i64 4, .int .i64 4] (by rfl) rfl rfl (by simp only [List.map_toArray, List.map_cons, List.map_nil]; rfl) ?_
                      with_reducible refine (between_calls 4 4 _).mono ?_
                      rintro e w5 ⟨rfl, hb5⟩
                      refine ⟨_, rfl, ?_⟩
                      refine hK.out _ _ trivial (fun hHeld => ?_)
                      clear hK K
                      refine norm_ (a' := ?_) ?_ ?_
                      rotate_left
                      ·show Act.put _ (some 15) _ = _
                       simp only [Act.put, List.setIfInBounds_toArray, List.set_cons_zero, List.set_cons_succ, i64_w, i32_w]
                       rfl
                      exact norm_ (by first | (simp only [putAll, Act.put, List.setIfInBounds_toArray, List.set_cons_zero, List.set_cons_succ]; done) | (simp only [putAll, Act.put, List.setIfInBounds_toArray, List.set_cons_zero, List.set_cons_succ]; rfl)) (hJ2_3_4 (0, 0, 0) _ (bel2 hB hb5))
                   ·skip
                    rintro ⟨p5, p6, p9⟩ w4 ⟨hB, b1, l1⟩
                    have hHeld : True := trivial
                    try dsimp only at *
                    refine norm_ (a' := ?_) ?_ ?_
                    rotate_left
                    ·simp only [putAll, Act.put, List.setIfInBounds_toArray, List.set_cons_zero, List.set_cons_succ]
                     rfl
                    refine two_ (i := 0) (j := 3) (Ni := some 11) (Nj := some 14) (bs 12 903) (bs 12 910) rfl rfl rfl rfl (by kernel_rfl) (by decide) (by decide) (fun K hK => ?_) (fun K hK => ?_)
                    ·skip
                     refine value_ (w1 := ?_) (v := ?_) (by rfl) rfl ?_ ?_
                     rotate_left 2
                     ·go_simp
                      constructor
                      ·rfl
                      ·rfl
                     refine hK.out _ _ trivial (fun hHeld => ?_)
                     clear hK K
                     refine norm_ (a' := ?_) ?_ ?_
                     rotate_left
                     ·show Act.put _ (some 11) _ = _
                      simp only [Act.put, List.setIfInBounds_toArray, List.set_cons_zero, List.set_cons_succ, i64_w, i32_w]
                      rfl
                     exact norm_ (by first | (simp only [putAll, Act.put, List.setIfInBounds_toArray, List.set_cons_zero, List.set_cons_succ]; done) | (simp only [putAll, Act.put, List.setIfInBounds_toArray, List.set_cons_zero, List.set_cons_succ]; rfl)) (hJ0_1_2 (w4.heap.size, p6, 0) _ ⟨below_alloc hB _, Blk.new _ _ _ _ rfl, hB.size, b1.alloc _, l1, Nat.ne_of_lt b1.lt⟩)
                    ·skip
                     refine goes_ Try.func76 (by kernel_rfl) rfl #[.int .i64 2, .int .i64 3] (by rfl) rfl rfl (by simp only [List.map_toArray, List.map_cons, List.map_nil]; rfl) ?_
                     with_reducible refine (between_calls 2 3 _).mono ?_
                     rintro e w5 ⟨rfl, hb5⟩
                     refine ⟨_, rfl, ?_⟩
                     refine hK.out _ _ trivial (fun hHeld => ?_)
                     clear hK K
                     refine norm_ (a' := ?_) ?_ ?_
                     rotate_left
                     ·show Act.put _ (some 14) _ = _
                      simp only [Act.put, List.setIfInBounds_toArray, List.set_cons_zero, List.set_cons_succ, i64_w, i32_w]
                      rfl
                     exact norm_ (by first | (simp only [putAll, Act.put, List.setIfInBounds_toArray, List.set_cons_zero, List.set_cons_succ]; done) | (simp only [putAll, Act.put, List.setIfInBounds_toArray, List.set_cons_zero, List.set_cons_succ]; rfl)) (hJ1_2_3 (0, p6, 0) _ ⟨bel2 hB hb5, b1.below hb5, l1⟩)
                  ·skip
                   rintro ⟨p5, p6, p9⟩ w4 ⟨hB, b0, l0⟩
                   have hHeld : True := trivial
                   try dsimp only at *
                   refine norm_ (a' := ?_) ?_ ?_
                   rotate_left
                   ·simp only [putAll, Act.put, List.setIfInBounds_toArray, List.set_cons_zero, List.set_cons_succ]
                    rfl
                   refine two_ (i := 1) (j := 3) (Ni := some 12) (Nj := some 14) (bs 12 903) (bs 12 909) rfl rfl rfl rfl (by kernel_rfl) (by decide) (by decide) (fun K hK => ?_) (fun K hK => ?_)
                   ·skip
                    refine value_ (w1 := ?_) (v := ?_) (by rfl) rfl ?_ ?_
                    rotate_left 2
                    ·go_simp
                     constructor
                     ·rfl
                     ·rfl
                    refine hK.out _ _ trivial (fun hHeld => ?_)
                    clear hK K
                    refine norm_ (a' := ?_) ?_ ?_
                    rotate_left
                    ·show Act.put _ (some 12) _ = _
                     simp only [Act.put, List.setIfInBounds_toArray, List.set_cons_zero, List.set_cons_succ, i64_w, i32_w]
                     rfl
                    exact norm_ (by first | (simp only [putAll, Act.put, List.setIfInBounds_toArray, List.set_cons_zero, List.set_cons_succ]; done) | (simp only [putAll, Act.put, List.setIfInBounds_toArray, List.set_cons_zero, List.set_cons_succ]; rfl)) (hJ0_1_2 (p5, w4.heap.size, 0) _ ⟨below_alloc hB _, b0.alloc _, l0, Blk.new _ _ _ _ rfl, hB.size, Nat.ne_of_gt b0.lt⟩)
                   ·skip
                    refine goes_ Try.func76 (by kernel_rfl) rfl #[.int .i64 2, .int .i64 3] (by rfl) rfl rfl (by simp only [List.map_toArray, List.map_cons, List.map_nil]; rfl) ?_
                    with_reducible refine (between_calls 2 3 _).mono ?_
                    rintro e w5 ⟨rfl, hb5⟩
                    refine ⟨_, rfl, ?_⟩
                    refine hK.out _ _ trivial (fun hHeld => ?_)
                    clear hK K
                    refine norm_ (a' := ?_) ?_ ?_
                    rotate_left
                    ·show Act.put _ (some 14) _ = _
                     simp only [Act.put, List.setIfInBounds_toArray, List.set_cons_zero, List.set_cons_succ, i64_w, i32_w]
                     rfl
                    exact norm_ (by first | (simp only [putAll, Act.put, List.setIfInBounds_toArray, List.set_cons_zero, List.set_cons_succ]; done) | (simp only [putAll, Act.put, List.setIfInBounds_toArray, List.set_cons_zero, List.set_cons_succ]; rfl)) (hJ0_2_3 (p5, 0, 0) _ ⟨bel2 hB hb5, b0.below hb5, l0⟩)
                 ·skip
                  rintro ⟨p5, p6, p9⟩ w4 ⟨hB, b0, l0, b1, l1, d0⟩
                  have hHeld : True := trivial
                  try dsimp only at *
                  refine norm_ (a' := ?_) ?_ ?_
                  rotate_left
                  ·simp only [putAll, Act.put, List.setIfInBounds_toArray, List.set_cons_zero, List.set_cons_succ]
                   rfl
                  refine one_ (i := 2) (N := some 13) (bs 12 903) rfl rfl (by kernel_rfl) (by decide) (fun K hK => ?_)
                  refine goes_ Try.func76 (by kernel_rfl) rfl #[.int .i64 10, .int .i64 12] (by rfl) rfl rfl (by simp only [List.map_toArray, List.map_cons, List.map_nil]; rfl) ?_
                  with_reducible refine (between_calls 10 12 _).mono ?_
                  rintro e w5 ⟨rfl, hb5⟩
                  refine ⟨_, rfl, ?_⟩
                  refine hK.out _ _ trivial (fun hHeld => ?_)
                  clear hK K
                  refine norm_ (a' := ?_) ?_ ?_
                  rotate_left
                  ·show Act.put _ (some 13) _ = _
                   simp only [Act.put, List.setIfInBounds_toArray, List.set_cons_zero, List.set_cons_succ, i64_w, i32_w]
                   rfl
                  exact norm_ (by first | (simp only [putAll, Act.put, List.setIfInBounds_toArray, List.set_cons_zero, List.set_cons_succ]; done) | (simp only [putAll, Act.put, List.setIfInBounds_toArray, List.set_cons_zero, List.set_cons_succ]; rfl)) (hJ0_1_2 (p5, p6, 0) _ ⟨bel2 hB hb5, b0.below hb5, l0, b1.below hb5, l1, d0⟩)
                ·skip
                 rintro ⟨p5, p6, p9⟩ w4 hB
                 have hHeld : True := trivial
                 try dsimp only at *
                 refine norm_ (a' := ?_) ?_ ?_
                 rotate_left
                 ·simp only [putAll, Act.put, List.setIfInBounds_toArray, List.set_cons_zero, List.set_cons_succ]
                  rfl
                 refine three_ (i := 0) (j := 1) (k := 5) (Ni := some 11) (Nj := some 12) (Nk := some 16) (bs 12 925) (bs 12 926) (bs 12 956) rfl rfl rfl rfl rfl rfl (by kernel_rfl) (by decide) (by decide) (by decide) (fun K hK => ?_) (fun K hK => ?_) (fun K hK => ?_)
                 ·skip
                  refine value_ (w1 := ?_) (v := ?_) (by rfl) rfl ?_ ?_
                  rotate_left 2
                  ·go_simp
                   constructor
                   ·rfl
                   ·rfl
                  refine hK.out _ _ trivial (fun hHeld => ?_)
                  clear hK K
                  refine norm_ (a' := ?_) ?_ ?_
                  rotate_left
                  ·show Act.put _ (some 11) _ = _
                   simp only [Act.put, List.setIfInBounds_toArray, List.set_cons_zero, List.set_cons_succ, i64_w, i32_w]
                   rfl
                  exact norm_ (by first | (simp only [putAll, Act.put, List.setIfInBounds_toArray, List.set_cons_zero, List.set_cons_succ]; done) | (simp only [putAll, Act.put, List.setIfInBounds_toArray, List.set_cons_zero, List.set_cons_succ]; rfl)) (hJ0_2_3_4 (w4.heap.size, 0, 0) _ ⟨below_alloc hB _, Blk.new _ _ _ _ rfl, hB.size⟩)
                 ·skip
                  refine value_ (w1 := ?_) (v := ?_) (by rfl) rfl ?_ ?_
                  rotate_left 2
                  ·go_simp
                   constructor
                   ·rfl
                   ·rfl
                  refine hK.out _ _ trivial (fun hHeld => ?_)
                  clear hK K
                  refine norm_ (a' := ?_) ?_ ?_
                  rotate_left
                  ·show Act.put _ (some 12) _ = _
                   simp only [Act.put, List.setIfInBounds_toArray, List.set_cons_zero, List.set_cons_succ, i64_w, i32_w]
                   rfl
                  exact norm_ (by first | (simp only [putAll, Act.put, List.setIfInBounds_toArray, List.set_cons_zero, List.set_cons_succ]; done) | (simp only [putAll, Act.put, List.setIfInBounds_toArray, List.set_cons_zero, List.set_cons_succ]; rfl)) (hJ1_2_3_4 (0, w4.heap.size, 0) _ ⟨below_alloc hB _, Blk.new _ _ _ _ rfl, hB.size⟩)
                 ·skip
                  refine goes_ Try.func76 (by kernel_rfl) rfl #[.int .i64 0, .int .i64 2] (by rfl) rfl rfl (by simp only [List.map_toArray, List.map_cons, List.map_nil]; rfl) ?_
                  with_reducible refine (between_calls 0 2 _).mono ?_
                  rintro e w5 ⟨rfl, hb5⟩
                  refine ⟨_, rfl, ?_⟩
                  refine hK.out _ _ trivial (fun hHeld => ?_)
                  clear hK K
                  refine norm_ (a' := ?_) ?_ ?_
                  rotate_left
                  ·show Act.put _ (some 16) _ = _
                   simp only [Act.put, List.setIfInBounds_toArray, List.set_cons_zero, List.set_cons_succ, i64_w, i32_w]
                   rfl
                  exact norm_ (by first | (simp only [putAll, Act.put, List.setIfInBounds_toArray, List.set_cons_zero, List.set_cons_succ]; done) | (simp only [putAll, Act.put, List.setIfInBounds_toArray, List.set_cons_zero, List.set_cons_succ]; rfl)) (hJ2_3_4_5 (0, 0, 0) _ (bel2 hB hb5))
               ·skip
                rintro ⟨p5, p6, p9⟩ w4 ⟨hB, b1, l1⟩
                have hHeld : True := trivial
                try dsimp only at *
                refine norm_ (a' := ?_) ?_ ?_
                rotate_left
                ·simp only [putAll, Act.put, List.setIfInBounds_toArray, List.set_cons_zero, List.set_cons_succ]
                 rfl
                refine two_ (i := 0) (j := 4) (Ni := some 11) (Nj := some 15) (bs 12 911) (bs 12 926) rfl rfl rfl rfl (by kernel_rfl) (by decide) (by decide) (fun K hK => ?_) (fun K hK => ?_)
                ·skip
                 refine value_ (w1 := ?_) (v := ?_) (by rfl) rfl ?_ ?_
                 rotate_left 2
                 ·go_simp
                  constructor
                  ·rfl
                  ·rfl
                 refine hK.out _ _ trivial (fun hHeld => ?_)
                 clear hK K
                 refine norm_ (a' := ?_) ?_ ?_
                 rotate_left
                 ·show Act.put _ (some 11) _ = _
                  simp only [Act.put, List.setIfInBounds_toArray, List.set_cons_zero, List.set_cons_succ, i64_w, i32_w]
                  rfl
                 exact norm_ (by first | (simp only [putAll, Act.put, List.setIfInBounds_toArray, List.set_cons_zero, List.set_cons_succ]; done) | (simp only [putAll, Act.put, List.setIfInBounds_toArray, List.set_cons_zero, List.set_cons_succ]; rfl)) (hJ0_1_2_3 (w4.heap.size, p6, 0) _ ⟨below_alloc hB _, Blk.new _ _ _ _ rfl, hB.size, b1.alloc _, l1, Nat.ne_of_lt b1.lt⟩)
                ·skip
                 refine goes_ Try.func76 (by kernel_rfl) rfl #[.int .i64 4, .int .i64 4] (by rfl) rfl rfl (by simp only [List.map_toArray, List.map_cons, List.map_nil]; rfl) ?_
                 with_reducible refine (between_calls 4 4 _).mono ?_
                 rintro e w5 ⟨rfl, hb5⟩
                 refine ⟨_, rfl, ?_⟩
                 refine hK.out _ _ trivial (fun hHeld => ?_)
                 clear hK K
                 refine norm_ (a' := ?_) ?_ ?_
                 rotate_left
                 ·show Act.put _ (some 15) _ = _
                  simp only [Act.put, List.setIfInBounds_toArray, List.set_cons_zero, List.set_cons_succ, i64_w, i32_w]
                  rfl
                 exact norm_ (by first | (simp only [putAll, Act.put, List.setIfInBounds_toArray, List.set_cons_zero, List.set_cons_succ]; done) | (simp only [putAll, Act.put, List.setIfInBounds_toArray, List.set_cons_zero, List.set_cons_succ]; rfl)) (hJ1_2_3_4 (0, p6, 0) _ ⟨bel2 hB hb5, b1.below hb5, l1⟩)
              ·skip
               rintro ⟨p5, p6, p9⟩ w4 ⟨hB, b0, l0⟩
               have hHeld : True := trivial
               try dsimp only at *
               refine norm_ (a' := ?_) ?_ ?_
               rotate_left
               ·simp only [putAll, Act.put, List.setIfInBounds_toArray, List.set_cons_zero, List.set_cons_succ]
                rfl
               refine two_ (i := 1) (j := 4) (Ni := some 12) (Nj := some 15) (bs 12 911) (bs 12 925) rfl rfl rfl rfl (by kernel_rfl) (by decide) (by decide) (fun K hK => ?_) (fun K hK => ?_)
               ·skip
                refine value_ (w1 := ?_) (v := ?_) (by rfl) rfl ?_ ?_
                rotate_left 2
                ·go_simp
                 constructor
                 ·rfl
                 ·rfl
                refine hK.out _ _ trivial (fun hHeld => ?_)
                clear hK K
                refine norm_ (a' := ?_) ?_ ?_
                rotate_left
                ·show Act.put _ (some 12) _ = _
                 simp only [Act.put, List.setIfInBounds_toArray, List.set_cons_zero, List.set_cons_succ, i64_w, i32_w]
                 rfl
                exact norm_ (by first | (simp only [putAll, Act.put, List.setIfInBounds_toArray, List.set_cons_zero, List.set_cons_succ]; done) | (simp only [putAll, Act.put, List.setIfInBounds_toArray, List.set_cons_zero, List.set_cons_succ]; rfl)) (hJ0_1_2_3 (p5, w4.heap.size, 0) _ ⟨below_alloc hB _, b0.alloc _, l0, Blk.new _ _ _ _ rfl, hB.size, Nat.ne_of_gt b0.lt⟩)
               ·skip
                refine goes_ Try.func76 (by kernel_rfl) rfl #[.int .i64 4, .int .i64 4] (by rfl) rfl rfl (by simp only [List.map_toArray, List.map_cons, List.map_nil]; rfl) ?_
                with_reducible refine (between_calls 4 4 _).mono ?_
                rintro e w5 ⟨rfl, hb5⟩
                refine ⟨_, rfl, ?_⟩
                refine hK.out _ _ trivial (fun hHeld => ?_)
                clear hK K
                refine norm_ (a' := ?_) ?_ ?_
                rotate_left
                ·show Act.put _ (some 15) _ = _
                 simp only [Act.put, List.setIfInBounds_toArray, List.set_cons_zero, List.set_cons_succ, i64_w, i32_w]
                 rfl
                exact norm_ (by first | (simp only [putAll, Act.put, List.setIfInBounds_toArray, List.set_cons_zero, List.set_cons_succ]; done) | (simp only [putAll, Act.put, List.setIfInBounds_toArray, List.set_cons_zero, List.set_cons_succ]; rfl)) (hJ0_2_3_4 (p5, 0, 0) _ ⟨bel2 hB hb5, b0.below hb5, l0⟩)
             ·skip
              rintro ⟨p5, p6, p9⟩ w4 ⟨hB, b0, l0, b1, l1, d0⟩
              have hHeld : True := trivial
              try dsimp only at *
              refine norm_ (a' := ?_) ?_ ?_
              rotate_left
              ·simp only [putAll, Act.put, List.setIfInBounds_toArray, List.set_cons_zero, List.set_cons_succ]
               rfl
              refine one_ (i := 3) (N := some 14) (bs 12 911) rfl rfl (by kernel_rfl) (by decide) (fun K hK => ?_)
              refine goes_ Try.func76 (by kernel_rfl) rfl #[.int .i64 2, .int .i64 3] (by rfl) rfl rfl (by simp only [List.map_toArray, List.map_cons, List.map_nil]; rfl) ?_
              with_reducible refine (between_calls 2 3 _).mono ?_
              rintro e w5 ⟨rfl, hb5⟩
              refine ⟨_, rfl, ?_⟩
              refine hK.out _ _ trivial (fun hHeld => ?_)
              clear hK K
              refine norm_ (a' := ?_) ?_ ?_
              rotate_left
              ·show Act.put _ (some 14) _ = _
               simp only [Act.put, List.setIfInBounds_toArray, List.set_cons_zero, List.set_cons_succ, i64_w, i32_w]
               rfl
              exact norm_ (by first | (simp only [putAll, Act.put, List.setIfInBounds_toArray, List.set_cons_zero, List.set_cons_succ]; done) | (simp only [putAll, Act.put, List.setIfInBounds_toArray, List.set_cons_zero, List.set_cons_succ]; rfl)) (hJ0_1_2_3 (p5, p6, 0) _ ⟨bel2 hB hb5, b0.below hb5, l0, b1.below hb5, l1, d0⟩)
            ·skip
             rintro ⟨p5, p6, p9⟩ w4 hB
             have hHeld : True := trivial
             try dsimp only at *
             refine norm_ (a' := ?_) ?_ ?_
             rotate_left
             ·simp only [putAll, Act.put, List.setIfInBounds_toArray, List.set_cons_zero, List.set_cons_succ]
              rfl
             refine three_ (i := 0) (j := 1) (k := 6) (Ni := some 11) (Nj := some 12) (Nk := some 17) (bs 12 957) (bs 12 958) (bs 12 1020) rfl rfl rfl rfl rfl rfl (by kernel_rfl) (by decide) (by decide) (by decide) (fun K hK => ?_) (fun K hK => ?_) (fun K hK => ?_)
             ·skip
              refine value_ (w1 := ?_) (v := ?_) (by rfl) rfl ?_ ?_
              rotate_left 2
              ·go_simp
               constructor
               ·rfl
               ·rfl
              refine hK.out _ _ trivial (fun hHeld => ?_)
              clear hK K
              refine norm_ (a' := ?_) ?_ ?_
              rotate_left
              ·show Act.put _ (some 11) _ = _
               simp only [Act.put, List.setIfInBounds_toArray, List.set_cons_zero, List.set_cons_succ, i64_w, i32_w]
               rfl
              exact norm_ (by first | (simp only [putAll, Act.put, List.setIfInBounds_toArray, List.set_cons_zero, List.set_cons_succ]; done) | (simp only [putAll, Act.put, List.setIfInBounds_toArray, List.set_cons_zero, List.set_cons_succ]; rfl)) (hJ0_2_3_4_5 (w4.heap.size, 0, 0) _ ⟨below_alloc hB _, Blk.new _ _ _ _ rfl, hB.size⟩)
             ·skip
              refine value_ (w1 := ?_) (v := ?_) (by rfl) rfl ?_ ?_
              rotate_left 2
              ·go_simp
               constructor
               ·rfl
               ·rfl
              refine hK.out _ _ trivial (fun hHeld => ?_)
              clear hK K
              refine norm_ (a' := ?_) ?_ ?_
              rotate_left
              ·show Act.put _ (some 12) _ = _
               simp only [Act.put, List.setIfInBounds_toArray, List.set_cons_zero, List.set_cons_succ, i64_w, i32_w]
               rfl
              exact norm_ (by first | (simp only [putAll, Act.put, List.setIfInBounds_toArray, List.set_cons_zero, List.set_cons_succ]; done) | (simp only [putAll, Act.put, List.setIfInBounds_toArray, List.set_cons_zero, List.set_cons_succ]; rfl)) (hJ1_2_3_4_5 (0, w4.heap.size, 0) _ ⟨below_alloc hB _, Blk.new _ _ _ _ rfl, hB.size⟩)
             ·skip
              refine value_ (w1 := ?_) (v := ?_) (by rfl) rfl ?_ ?_
              rotate_left 2
              ·go_simp
               constructor
               ·rfl
               ·rfl
              refine hK.out _ _ trivial (fun hHeld => ?_)
              clear hK K
              refine norm_ (a' := ?_) ?_ ?_
              rotate_left
              ·show Act.put _ (some 17) _ = _
               simp only [Act.put, List.setIfInBounds_toArray, List.set_cons_zero, List.set_cons_succ, i64_w, i32_w]
               rfl
              exact norm_ (by first | (simp only [putAll, Act.put, List.setIfInBounds_toArray, List.set_cons_zero, List.set_cons_succ]; done) | (simp only [putAll, Act.put, List.setIfInBounds_toArray, List.set_cons_zero, List.set_cons_succ]; rfl)) (hJ2_3_4_5_6 (0, 0, w4.heap.size) _ ⟨below_alloc hB _, Blk.new _ _ _ _ rfl, hB.size⟩)
           ·skip
            rintro ⟨p5, p6, p9⟩ w4 ⟨hB, b1, l1⟩
            have hHeld : True := trivial
            try dsimp only at *
            refine norm_ (a' := ?_) ?_ ?_
            rotate_left
            ·simp only [putAll, Act.put, List.setIfInBounds_toArray, List.set_cons_zero, List.set_cons_succ]
             rfl
            refine two_ (i := 0) (j := 5) (Ni := some 11) (Nj := some 16) (bs 12 927) (bs 12 958) rfl rfl rfl rfl (by kernel_rfl) (by decide) (by decide) (fun K hK => ?_) (fun K hK => ?_)
            ·skip
             refine value_ (w1 := ?_) (v := ?_) (by rfl) rfl ?_ ?_
             rotate_left 2
             ·go_simp
              constructor
              ·rfl
              ·rfl
             refine hK.out _ _ trivial (fun hHeld => ?_)
             clear hK K
             refine norm_ (a' := ?_) ?_ ?_
             rotate_left
             ·show Act.put _ (some 11) _ = _
              simp only [Act.put, List.setIfInBounds_toArray, List.set_cons_zero, List.set_cons_succ, i64_w, i32_w]
              rfl
             exact norm_ (by first | (simp only [putAll, Act.put, List.setIfInBounds_toArray, List.set_cons_zero, List.set_cons_succ]; done) | (simp only [putAll, Act.put, List.setIfInBounds_toArray, List.set_cons_zero, List.set_cons_succ]; rfl)) (hJ0_1_2_3_4 (w4.heap.size, p6, 0) _ ⟨below_alloc hB _, Blk.new _ _ _ _ rfl, hB.size, b1.alloc _, l1, Nat.ne_of_lt b1.lt⟩)
            ·skip
             refine goes_ Try.func76 (by kernel_rfl) rfl #[.int .i64 0, .int .i64 2] (by rfl) rfl rfl (by simp only [List.map_toArray, List.map_cons, List.map_nil]; rfl) ?_
             with_reducible refine (between_calls 0 2 _).mono ?_
             rintro e w5 ⟨rfl, hb5⟩
             refine ⟨_, rfl, ?_⟩
             refine hK.out _ _ trivial (fun hHeld => ?_)
             clear hK K
             refine norm_ (a' := ?_) ?_ ?_
             rotate_left
             ·show Act.put _ (some 16) _ = _
              simp only [Act.put, List.setIfInBounds_toArray, List.set_cons_zero, List.set_cons_succ, i64_w, i32_w]
              rfl
             exact norm_ (by first | (simp only [putAll, Act.put, List.setIfInBounds_toArray, List.set_cons_zero, List.set_cons_succ]; done) | (simp only [putAll, Act.put, List.setIfInBounds_toArray, List.set_cons_zero, List.set_cons_succ]; rfl)) (hJ1_2_3_4_5 (0, p6, 0) _ ⟨bel2 hB hb5, b1.below hb5, l1⟩)
          ·skip
           rintro ⟨p5, p6, p9⟩ w4 ⟨hB, b0, l0⟩
           have hHeld : True := trivial
           try dsimp only at *
           refine norm_ (a' := ?_) ?_ ?_
           rotate_left
           ·simp only [putAll, Act.put, List.setIfInBounds_toArray, List.set_cons_zero, List.set_cons_succ]
            rfl
           refine two_ (i := 1) (j := 5) (Ni := some 12) (Nj := some 16) (bs 12 927) (bs 12 957) rfl rfl rfl rfl (by kernel_rfl) (by decide) (by decide) (fun K hK => ?_) (fun K hK => ?_)
           ·skip
            refine value_ (w1 := ?_) (v := ?_) (by rfl) rfl ?_ ?_
            rotate_left 2
            ·go_simp
             constructor
             ·rfl
             ·rfl
            refine hK.out _ _ trivial (fun hHeld => ?_)
            clear hK K
            refine norm_ (a' := ?_) ?_ ?_
            rotate_left
            ·show Act.put _ (some 12) _ = _
             simp only [Act.put, List.setIfInBounds_toArray, List.set_cons_zero, List.set_cons_succ, i64_w, i32_w]
             rfl
            exact norm_ (by first | (simp only [putAll, Act.put, List.setIfInBounds_toArray, List.set_cons_zero, List.set_cons_succ]; done) | (simp only [putAll, Act.put, List.setIfInBounds_toArray, List.set_cons_zero, List.set_cons_succ]; rfl)) (hJ0_1_2_3_4 (p5, w4.heap.size, 0) _ ⟨below_alloc hB _, b0.alloc _, l0, Blk.new _ _ _ _ rfl, hB.size, Nat.ne_of_gt b0.lt⟩)
           ·skip
            refine goes_ Try.func76 (by kernel_rfl) rfl #[.int .i64 0, .int .i64 2] (by rfl) rfl rfl (by simp only [List.map_toArray, List.map_cons, List.map_nil]; rfl) ?_
            with_reducible refine (between_calls 0 2 _).mono ?_
            rintro e w5 ⟨rfl, hb5⟩
            refine ⟨_, rfl, ?_⟩
            refine hK.out _ _ trivial (fun hHeld => ?_)
            clear hK K
            refine norm_ (a' := ?_) ?_ ?_
            rotate_left
            ·show Act.put _ (some 16) _ = _
             simp only [Act.put, List.setIfInBounds_toArray, List.set_cons_zero, List.set_cons_succ, i64_w, i32_w]
             rfl
            exact norm_ (by first | (simp only [putAll, Act.put, List.setIfInBounds_toArray, List.set_cons_zero, List.set_cons_succ]; done) | (simp only [putAll, Act.put, List.setIfInBounds_toArray, List.set_cons_zero, List.set_cons_succ]; rfl)) (hJ0_2_3_4_5 (p5, 0, 0) _ ⟨bel2 hB hb5, b0.below hb5, l0⟩)
         ·skip
          rintro ⟨p5, p6, p9⟩ w4 ⟨hB, b0, l0, b1, l1, d0⟩
          have hHeld : True := trivial
          try dsimp only at *
          refine norm_ (a' := ?_) ?_ ?_
          rotate_left
          ·simp only [putAll, Act.put, List.setIfInBounds_toArray, List.set_cons_zero, List.set_cons_succ]
           rfl
          refine one_ (i := 4) (N := some 15) (bs 12 927) rfl rfl (by kernel_rfl) (by decide) (fun K hK => ?_)
          refine goes_ Try.func76 (by kernel_rfl) rfl #[.int .i64 4, .int .i64 4] (by rfl) rfl rfl (by simp only [List.map_toArray, List.map_cons, List.map_nil]; rfl) ?_
          with_reducible refine (between_calls 4 4 _).mono ?_
          rintro e w5 ⟨rfl, hb5⟩
          refine ⟨_, rfl, ?_⟩
          refine hK.out _ _ trivial (fun hHeld => ?_)
          clear hK K
          refine norm_ (a' := ?_) ?_ ?_
          rotate_left
          ·show Act.put _ (some 15) _ = _
           simp only [Act.put, List.setIfInBounds_toArray, List.set_cons_zero, List.set_cons_succ, i64_w, i32_w]
           rfl
          exact norm_ (by first | (simp only [putAll, Act.put, List.setIfInBounds_toArray, List.set_cons_zero, List.set_cons_succ]; done) | (simp only [putAll, Act.put, List.setIfInBounds_toArray, List.set_cons_zero, List.set_cons_succ]; rfl)) (hJ0_1_2_3_4 (p5, p6, 0) _ ⟨bel2 hB hb5, b0.below hb5, l0, b1.below hb5, l1, d0⟩)
        ·skip
         rintro ⟨p5, p6, p9⟩ w4 ⟨hB, b6, l6⟩
         have hHeld : True := trivial
         try dsimp only at *
         refine norm_ (a' := ?_) ?_ ?_
         rotate_left
         ·simp only [putAll, Act.put, List.setIfInBounds_toArray, List.set_cons_zero, List.set_cons_succ]
          rfl
         refine two_ (i := 0) (j := 1) (Ni := some 11) (Nj := some 12) (bs 12 1021) (bs 12 1022) rfl rfl rfl rfl (by kernel_rfl) (by decide) (by decide) (fun K hK => ?_) (fun K hK => ?_)
         ·skip
          refine value_ (w1 := ?_) (v := ?_) (by rfl) rfl ?_ ?_
          rotate_left 2
          ·go_simp
           constructor
           ·rfl
           ·rfl
          refine hK.out _ _ trivial (fun hHeld => ?_)
          clear hK K
          refine norm_ (a' := ?_) ?_ ?_
          rotate_left
          ·show Act.put _ (some 11) _ = _
           simp only [Act.put, List.setIfInBounds_toArray, List.set_cons_zero, List.set_cons_succ, i64_w, i32_w]
           rfl
          exact norm_ (by first | (simp only [putAll, Act.put, List.setIfInBounds_toArray, List.set_cons_zero, List.set_cons_succ]; done) | (simp only [putAll, Act.put, List.setIfInBounds_toArray, List.set_cons_zero, List.set_cons_succ]; rfl)) (hJ0_2_3_4_5_6 (w4.heap.size, 0, p9) _ ⟨below_alloc hB _, Blk.new _ _ _ _ rfl, hB.size, b6.alloc _, l6⟩)
         ·skip
          refine value_ (w1 := ?_) (v := ?_) (by rfl) rfl ?_ ?_
          rotate_left 2
          ·go_simp
           constructor
           ·rfl
           ·rfl
          refine hK.out _ _ trivial (fun hHeld => ?_)
          clear hK K
          refine norm_ (a' := ?_) ?_ ?_
          rotate_left
          ·show Act.put _ (some 12) _ = _
           simp only [Act.put, List.setIfInBounds_toArray, List.set_cons_zero, List.set_cons_succ, i64_w, i32_w]
           rfl
          exact norm_ (by first | (simp only [putAll, Act.put, List.setIfInBounds_toArray, List.set_cons_zero, List.set_cons_succ]; done) | (simp only [putAll, Act.put, List.setIfInBounds_toArray, List.set_cons_zero, List.set_cons_succ]; rfl)) (hJ1_2_3_4_5_6 (0, w4.heap.size, p9) _ ⟨below_alloc hB _, Blk.new _ _ _ _ rfl, hB.size, b6.alloc _, l6, Nat.ne_of_gt b6.lt⟩)
       ·skip
        rintro ⟨p5, p6, p9⟩ w4 ⟨hB, b1, l1⟩
        have hHeld : True := trivial
        try dsimp only at *
        refine norm_ (a' := ?_) ?_ ?_
        rotate_left
        ·simp only [putAll, Act.put, List.setIfInBounds_toArray, List.set_cons_zero, List.set_cons_succ]
         rfl
        refine two_ (i := 0) (j := 6) (Ni := some 11) (Nj := some 17) (bs 12 959) (bs 12 1022) rfl rfl rfl rfl (by kernel_rfl) (by decide) (by decide) (fun K hK => ?_) (fun K hK => ?_)
        ·skip
         refine value_ (w1 := ?_) (v := ?_) (by rfl) rfl ?_ ?_
         rotate_left 2
         ·go_simp
          constructor
          ·rfl
          ·rfl
         refine hK.out _ _ trivial (fun hHeld => ?_)
         clear hK K
         refine norm_ (a' := ?_) ?_ ?_
         rotate_left
         ·show Act.put _ (some 11) _ = _
          simp only [Act.put, List.setIfInBounds_toArray, List.set_cons_zero, List.set_cons_succ, i64_w, i32_w]
          rfl
         exact norm_ (by first | (simp only [putAll, Act.put, List.setIfInBounds_toArray, List.set_cons_zero, List.set_cons_succ]; done) | (simp only [putAll, Act.put, List.setIfInBounds_toArray, List.set_cons_zero, List.set_cons_succ]; rfl)) (hJ0_1_2_3_4_5 (w4.heap.size, p6, 0) _ ⟨below_alloc hB _, Blk.new _ _ _ _ rfl, hB.size, b1.alloc _, l1, Nat.ne_of_lt b1.lt⟩)
        ·skip
         refine value_ (w1 := ?_) (v := ?_) (by rfl) rfl ?_ ?_
         rotate_left 2
         ·go_simp
          constructor
          ·rfl
          ·rfl
         refine hK.out _ _ trivial (fun hHeld => ?_)
         clear hK K
         refine norm_ (a' := ?_) ?_ ?_
         rotate_left
         ·show Act.put _ (some 17) _ = _
          simp only [Act.put, List.setIfInBounds_toArray, List.set_cons_zero, List.set_cons_succ, i64_w, i32_w]
          rfl
         exact norm_ (by first | (simp only [putAll, Act.put, List.setIfInBounds_toArray, List.set_cons_zero, List.set_cons_succ]; done) | (simp only [putAll, Act.put, List.setIfInBounds_toArray, List.set_cons_zero, List.set_cons_succ]; rfl)) (hJ1_2_3_4_5_6 (0, p6, w4.heap.size) _ ⟨below_alloc hB _, b1.alloc _, l1, Blk.new _ _ _ _ rfl, hB.size, Nat.ne_of_lt b1.lt⟩)
      ·skip
       rintro ⟨p5, p6, p9⟩ w4 ⟨hB, b0, l0⟩
       have hHeld : True := trivial
       try dsimp only at *
       refine norm_ (a' := ?_) ?_ ?_
       rotate_left
       ·simp only [putAll, Act.put, List.setIfInBounds_toArray, List.set_cons_zero, List.set_cons_succ]
        rfl
       refine two_ (i := 1) (j := 6) (Ni := some 12) (Nj := some 17) (bs 12 959) (bs 12 1021) rfl rfl rfl rfl (by kernel_rfl) (by decide) (by decide) (fun K hK => ?_) (fun K hK => ?_)
       ·skip
        refine value_ (w1 := ?_) (v := ?_) (by rfl) rfl ?_ ?_
        rotate_left 2
        ·go_simp
         constructor
         ·rfl
         ·rfl
        refine hK.out _ _ trivial (fun hHeld => ?_)
        clear hK K
        refine norm_ (a' := ?_) ?_ ?_
        rotate_left
        ·show Act.put _ (some 12) _ = _
         simp only [Act.put, List.setIfInBounds_toArray, List.set_cons_zero, List.set_cons_succ, i64_w, i32_w]
         rfl
        exact norm_ (by first | (simp only [putAll, Act.put, List.setIfInBounds_toArray, List.set_cons_zero, List.set_cons_succ]; done) | (simp only [putAll, Act.put, List.setIfInBounds_toArray, List.set_cons_zero, List.set_cons_succ]; rfl)) (hJ0_1_2_3_4_5 (p5, w4.heap.size, 0) _ ⟨below_alloc hB _, b0.alloc _, l0, Blk.new _ _ _ _ rfl, hB.size, Nat.ne_of_gt b0.lt⟩)
       ·skip
        refine value_ (w1 := ?_) (v := ?_) (by rfl) rfl ?_ ?_
        rotate_left 2
        ·go_simp
         constructor
         ·rfl
         ·rfl
        refine hK.out _ _ trivial (fun hHeld => ?_)
        clear hK K
        refine norm_ (a' := ?_) ?_ ?_
        rotate_left
        ·show Act.put _ (some 17) _ = _
         simp only [Act.put, List.setIfInBounds_toArray, List.set_cons_zero, List.set_cons_succ, i64_w, i32_w]
         rfl
        exact norm_ (by first | (simp only [putAll, Act.put, List.setIfInBounds_toArray, List.set_cons_zero, List.set_cons_succ]; done) | (simp only [putAll, Act.put, List.setIfInBounds_toArray, List.set_cons_zero, List.set_cons_succ]; rfl)) (hJ0_2_3_4_5_6 (p5, 0, w4.heap.size) _ ⟨below_alloc hB _, b0.alloc _, l0, Blk.new _ _ _ _ rfl, hB.size⟩)
     ·skip
      rintro ⟨p5, p6, p9⟩ w4 ⟨hB, b0, l0, b1, l1, d0⟩
      have hHeld : True := trivial
      try dsimp only at *
      refine norm_ (a' := ?_) ?_ ?_
      rotate_left
      ·simp only [putAll, Act.put, List.setIfInBounds_toArray, List.set_cons_zero, List.set_cons_succ]
       rfl
      refine one_ (i := 5) (N := some 16) (bs 12 959) rfl rfl (by kernel_rfl) (by decide) (fun K hK => ?_)
      refine goes_ Try.func76 (by kernel_rfl) rfl #[.int .i64 0, .int .i64 2] (by rfl) rfl rfl (by simp only [List.map_toArray, List.map_cons, List.map_nil]; rfl) ?_
      with_reducible refine (between_calls 0 2 _).mono ?_
      rintro e w5 ⟨rfl, hb5⟩
      refine ⟨_, rfl, ?_⟩
      refine hK.out _ _ trivial (fun hHeld => ?_)
      clear hK K
      refine norm_ (a' := ?_) ?_ ?_
      rotate_left
      ·show Act.put _ (some 16) _ = _
       simp only [Act.put, List.setIfInBounds_toArray, List.set_cons_zero, List.set_cons_succ, i64_w, i32_w]
       rfl
      exact norm_ (by first | (simp only [putAll, Act.put, List.setIfInBounds_toArray, List.set_cons_zero, List.set_cons_succ]; done) | (simp only [putAll, Act.put, List.setIfInBounds_toArray, List.set_cons_zero, List.set_cons_succ]; rfl)) (hJ0_1_2_3_4_5 (p5, p6, 0) _ ⟨bel2 hB hb5, b0.below hb5, l0, b1.below hb5, l1, d0⟩)
    ·skip
     rintro ⟨p5, p6, p9⟩ w4 ⟨hB, b1, l1, b6, l6, d6⟩
     have hHeld : True := trivial
     try dsimp only at *
     refine norm_ (a' := ?_) ?_ ?_
     rotate_left
     ·simp only [putAll, Act.put, List.setIfInBounds_toArray, List.set_cons_zero, List.set_cons_succ]
      rfl
     refine one_ (i := 0) (N := some 11) (bs 12 1023) rfl rfl (by kernel_rfl) (by decide) (fun K hK => ?_)
     refine value_ (w1 := ?_) (v := ?_) (by rfl) rfl ?_ ?_
     rotate_left 2
     ·go_simp
      constructor
      ·rfl
      ·rfl
     refine hK.out _ _ trivial (fun hHeld => ?_)
     clear hK K
     refine norm_ (a' := ?_) ?_ ?_
     rotate_left
     ·show Act.put _ (some 11) _ = _
      simp only [Act.put, List.setIfInBounds_toArray, List.set_cons_zero, List.set_cons_succ, i64_w, i32_w]
      rfl
     exact norm_ (by first | (simp only [putAll, Act.put, List.setIfInBounds_toArray, List.set_cons_zero, List.set_cons_succ]; done) | (simp only [putAll, Act.put, List.setIfInBounds_toArray, List.set_cons_zero, List.set_cons_succ]; rfl)) (hJ0_1_2_3_4_5_6 (w4.heap.size, p6, p9) _ ⟨below_alloc hB _, Blk.new _ _ _ _ rfl, hB.size, b1.alloc _, l1, b6.alloc _, l6, Nat.ne_of_lt b1.lt, d6⟩)
   ·skip
    rintro ⟨p5, p6, p9⟩ w4 ⟨hB, b0, l0, b6, l6⟩
    have hHeld : True := trivial
    try dsimp only at *
    refine norm_ (a' := ?_) ?_ ?_
    rotate_left
    ·simp only [putAll, Act.put, List.setIfInBounds_toArray, List.set_cons_zero, List.set_cons_succ]
     rfl
    refine one_ (i := 1) (N := some 12) (bs 12 1023) rfl rfl (by kernel_rfl) (by decide) (fun K hK => ?_)
    refine value_ (w1 := ?_) (v := ?_) (by rfl) rfl ?_ ?_
    rotate_left 2
    ·go_simp
     constructor
     ·rfl
     ·rfl
    refine hK.out _ _ trivial (fun hHeld => ?_)
    clear hK K
    refine norm_ (a' := ?_) ?_ ?_
    rotate_left
    ·show Act.put _ (some 12) _ = _
     simp only [Act.put, List.setIfInBounds_toArray, List.set_cons_zero, List.set_cons_succ, i64_w, i32_w]
     rfl
    exact norm_ (by first | (simp only [putAll, Act.put, List.setIfInBounds_toArray, List.set_cons_zero, List.set_cons_succ]; done) | (simp only [putAll, Act.put, List.setIfInBounds_toArray, List.set_cons_zero, List.set_cons_succ]; rfl)) (hJ0_1_2_3_4_5_6 (p5, w4.heap.size, p9) _ ⟨below_alloc hB _, b0.alloc _, l0, Blk.new _ _ _ _ rfl, hB.size, b6.alloc _, l6, Nat.ne_of_gt b0.lt, Nat.ne_of_gt b6.lt⟩)
  ·skip
   rintro ⟨p5, p6, p9⟩ w4 ⟨hB, b0, l0, b1, l1, d0⟩
   have hHeld : True := trivial
   try dsimp only at *
   refine norm_ (a' := ?_) ?_ ?_
   rotate_left
   ·simp only [putAll, Act.put, List.setIfInBounds_toArray, List.set_cons_zero, List.set_cons_succ]
    rfl
   refine one_ (i := 6) (N := some 17) (bs 12 1023) rfl rfl (by kernel_rfl) (by decide) (fun K hK => ?_)
   refine value_ (w1 := ?_) (v := ?_) (by rfl) rfl ?_ ?_
   rotate_left 2
   ·go_simp
    constructor
    ·rfl
    ·rfl
   refine hK.out _ _ trivial (fun hHeld => ?_)
   clear hK K
   refine norm_ (a' := ?_) ?_ ?_
   rotate_left
   ·show Act.put _ (some 17) _ = _
    simp only [Act.put, List.setIfInBounds_toArray, List.set_cons_zero, List.set_cons_succ, i64_w, i32_w]
    rfl
   exact norm_ (by first | (simp only [putAll, Act.put, List.setIfInBounds_toArray, List.set_cons_zero, List.set_cons_succ]; done) | (simp only [putAll, Act.put, List.setIfInBounds_toArray, List.set_cons_zero, List.set_cons_succ]; rfl)) (hJ0_1_2_3_4_5_6 (p5, p6, w4.heap.size) _ ⟨below_alloc hB _, b0.alloc _, l0, b1.alloc _, l1, Blk.new _ _ _ _ rfl, hB.size, d0, Nat.ne_of_lt b1.lt⟩)
 rintro ⟨p5, p6, p9⟩ w4 ⟨hB, b0, l0, b1, l1, b6, l6, d0, d6⟩
 have hHeld : True := trivial
 try dsimp only at *
 refine norm_ (a' := ?_) ?_ ?_
 rotate_left
 ·simp only [putAll, Act.put, List.setIfInBounds_toArray, List.set_cons_zero, List.set_cons_succ]
  rfl
 refine pure_ (i := 10) (N := some 21) (v := ?_) (a' := ?_) (bs 12 2047) rfl rfl (by kernel_rfl) (fun _ _ _ h => h) (Or.inl ⟨by rfl, ?_⟩) ?_ ?_
 rotate_left
 ·intro w'
  go_simp
  with_reducible rfl
 rotate_left
 ·simp only [Act.put, List.setIfInBounds_toArray, List.set_cons_zero, List.set_cons_succ, i64_w, i32_w]
  rfl
 refine last_ (i := 11) (N := none) (bs 12 4095) rfl rfl (by kernel_rfl) (by decide) (fun K hK => ?_)
 have B0 := HW.out.2.1.below hB
 have k0 := B0.cell 0 _ rfl
 have k1 := B0.cell 1 _ rfl
 have k2 := B0.cell 2 _ rfl
 have k3 := B0.cell 3 _ rfl
 have k4 := B0.cell 4 _ rfl
 have k5 := B0.cell 5 _ rfl
 have k6 := B0.cell 6 _ rfl
 have k7 := B0.cell 7 _ rfl
 have k8 := B0.cell 8 _ rfl
 have k9 := B0.cell 9 _ rfl
 have k10 := B0.cell 10 _ rfl
 have f0 := B0.frozen 0
 have f1 := B0.frozen 1
 have f2 := B0.frozen 2
 have f3 := B0.frozen 3
 have f4 := B0.frozen 4
 have f5 := B0.frozen 5
 have f6 := B0.frozen 6
 have f7 := B0.frozen 7
 have f8 := B0.frozen 8
 have f9 := B0.frozen 9
 have f10 := B0.frozen 10
 refine skip_ (w1 := ?_) (by rfl) rfl ?_ ?_
 rotate_left
 ·go_simp
  rfl
 refine hK.out _ _ ?_
 clear hK K
 refine done_ (by kernel_rfl) ?_
 have BF := (((((((((((B0.set 0 (.int .i64 2)).set 1 (.int .i64 7)).set 2 (.int .i64 60)).set 3 (.int .i64 4)).set 4 (.int .i64 3)).set 5 (.slice (some ⟨p5, 0, none⟩) 3 3)).set 6 (.slice (some ⟨p6, 0, none⟩) 3 3)).set 7 (.int .i64 10)).set 8 (.int .i64 12)).set 9 (.slice (some ⟨p9, 0, none⟩) 3 3)).set 10 (.slice (some ⟨g, 0, none⟩) n 3))
 have hBF : Below w.heap.size w (((((((((((w4.setCell ⟨w.heap.size, 0, none⟩ (.int .i64 2)).setCell ⟨w.heap.size, 1, none⟩ (.int .i64 7)).setCell ⟨w.heap.size, 2, none⟩ (.int .i64 60)).setCell ⟨w.heap.size, 3, none⟩ (.int .i64 4)).setCell ⟨w.heap.size, 4, none⟩ (.int .i64 3)).setCell ⟨w.heap.size, 5, none⟩ (.slice (some ⟨p5, 0, none⟩) 3 3)).setCell ⟨w.heap.size, 6, none⟩ (.slice (some ⟨p6, 0, none⟩) 3 3)).setCell ⟨w.heap.size, 7, none⟩ (.int .i64 10)).setCell ⟨w.heap.size, 8, none⟩ (.int .i64 12)).setCell ⟨w.heap.size, 9, none⟩ (.slice (some ⟨p9, 0, none⟩) 3 3)).setCell ⟨w.heap.size, 10, none⟩ (.slice (some ⟨g, 0, none⟩) n 3)) := by
  iterate 11 refine Below.setCell ?_ (by exact Nat.le_refl _) _
  exact bel2 HW.out.1 hB
 have hw0 : w.heap.size < W.heap.size := HW.out.2.1.lt
 have hgn : w.heap.size ≠ g := by rintro rfl; have h1 := HW.out.2.1; have h2 := HW.out.2.2; unfold Blk at h1 h2; rw [h1] at h2; cases h2
 have hgl := HW.out.2.2.lt
 have b0F : Blk (((((((((((w4.setCell ⟨w.heap.size, 0, none⟩ (.int .i64 2)).setCell ⟨w.heap.size, 1, none⟩ (.int .i64 7)).setCell ⟨w.heap.size, 2, none⟩ (.int .i64 60)).setCell ⟨w.heap.size, 3, none⟩ (.int .i64 4)).setCell ⟨w.heap.size, 4, none⟩ (.int .i64 3)).setCell ⟨w.heap.size, 5, none⟩ (.slice (some ⟨p5, 0, none⟩) 3 3)).setCell ⟨w.heap.size, 6, none⟩ (.slice (some ⟨p6, 0, none⟩) 3 3)).setCell ⟨w.heap.size, 7, none⟩ (.int .i64 10)).setCell ⟨w.heap.size, 8, none⟩ (.int .i64 12)).setCell ⟨w.heap.size, 9, none⟩ (.slice (some ⟨p9, 0, none⟩) 3 3)).setCell ⟨w.heap.size, 10, none⟩ (.slice (some ⟨g, 0, none⟩) n 3)) p5 #[.int .i64 2, .int .i64 1, .int .i64 0] 3 := by
  iterate 11 refine Blk.set_other ?_ (by show p5 ≠ w.heap.size; omega) _
  exact b0
 have b1F : Blk (((((((((((w4.setCell ⟨w.heap.size, 0, none⟩ (.int .i64 2)).setCell ⟨w.heap.size, 1, none⟩ (.int .i64 7)).setCell ⟨w.heap.size, 2, none⟩ (.int .i64 60)).setCell ⟨w.heap.size, 3, none⟩ (.int .i64 4)).setCell ⟨w.heap.size, 4, none⟩ (.int .i64 3)).setCell ⟨w.heap.size, 5, none⟩ (.slice (some ⟨p5, 0, none⟩) 3 3)).setCell ⟨w.heap.size, 6, none⟩ (.slice (some ⟨p6, 0, none⟩) 3 3)).setCell ⟨w.heap.size, 7, none⟩ (.int .i64 10)).setCell ⟨w.heap.size, 8, none⟩ (.int .i64 12)).setCell ⟨w.heap.size, 9, none⟩ (.slice (some ⟨p9, 0, none⟩) 3 3)).setCell ⟨w.heap.size, 10, none⟩ (.slice (some ⟨g, 0, none⟩) n 3)) p6 #[.int .i64 3, .int .i64 2, .int .i64 2] 3 := by
  iterate 11 refine Blk.set_other ?_ (by show p6 ≠ w.heap.size; omega) _
  exact b1
 have b6F : Blk (((((((((((w4.setCell ⟨w.heap.size, 0, none⟩ (.int .i64 2)).setCell ⟨w.heap.size, 1, none⟩ (.int .i64 7)).setCell ⟨w.heap.size, 2, none⟩ (.int .i64 60)).setCell ⟨w.heap.size, 3, none⟩ (.int .i64 4)).setCell ⟨w.heap.size, 4, none⟩ (.int .i64 3)).setCell ⟨w.heap.size, 5, none⟩ (.slice (some ⟨p5, 0, none⟩) 3 3)).setCell ⟨w.heap.size, 6, none⟩ (.slice (some ⟨p6, 0, none⟩) 3 3)).setCell ⟨w.heap.size, 7, none⟩ (.int .i64 10)).setCell ⟨w.heap.size, 8, none⟩ (.int .i64 12)).setCell ⟨w.heap.size, 9, none⟩ (.slice (some ⟨p9, 0, none⟩) 3 3)).setCell ⟨w.heap.size, 10, none⟩ (.slice (some ⟨g, 0, none⟩) n 3)) p9 #[.int .i64 2, .int .i64 3, .int .i64 4, .int .i64 4, .int .i64 0, .int .i64 2] 35 := by
  iterate 11 refine Blk.set_other ?_ (by show p9 ≠ w.heap.size; omega) _
  exact b6
 have b10F : Blk (((((((((((w4.setCell ⟨w.heap.size, 0, none⟩ (.int .i64 2)).setCell ⟨w.heap.size, 1, none⟩ (.int .i64 7)).setCell ⟨w.heap.size, 2, none⟩ (.int .i64 60)).setCell ⟨w.heap.size, 3, none⟩ (.int .i64 4)).setCell ⟨w.heap.size, 4, none⟩ (.int .i64 3)).setCell ⟨w.heap.size, 5, none⟩ (.slice (some ⟨p5, 0, none⟩) 3 3)).setCell ⟨w.heap.size, 6, none⟩ (.slice (some ⟨p6, 0, none⟩) 3 3)).setCell ⟨w.heap.size, 7, none⟩ (.int .i64 10)).setCell ⟨w.heap.size, 8, none⟩ (.int .i64 12)).setCell ⟨w.heap.size, 9, none⟩ (.slice (some ⟨p9, 0, none⟩) 3 3)).setCell ⟨w.heap.size, 10, none⟩ (.slice (some ⟨g, 0, none⟩) n 3)) g #[.int .i64 0, .int .i64 6, .int .i64 6, .int .i64 2, .int .i64 3, .int .i64 3, .int .i64 0, .int .i64 7, .int .i64 7] 119 := by
  iterate 11 refine Blk.set_other ?_ (Ne.symm hgn) _
  exact HW.out.2.2.below hB
 clear b0 b1 b6 hB B0 k0 k1 k2 k3 k4 k5 k6 k7 k8 k9 k10 f0 f1 f2 f3 f4 f5 f6 f7 f8 f9 f10
 generalize (((((((((((w4.setCell ⟨w.heap.size, 0, none⟩ (.int .i64 2)).setCell ⟨w.heap.size, 1, none⟩ (.int .i64 7)).setCell ⟨w.heap.size, 2, none⟩ (.int .i64 60)).setCell ⟨w.heap.size, 3, none⟩ (.int .i64 4)).setCell ⟨w.heap.size, 4, none⟩ (.int .i64 3)).setCell ⟨w.heap.size, 5, none⟩ (.slice (some ⟨p5, 0, none⟩) 3 3)).setCell ⟨w.heap.size, 6, none⟩ (.slice (some ⟨p6, 0, none⟩) 3 3)).setCell ⟨w.heap.size, 7, none⟩ (.int .i64 10)).setCell ⟨w.heap.size, 8, none⟩ (.int .i64 12)).setCell ⟨w.heap.size, 9, none⟩ (.slice (some ⟨p9, 0, none⟩) 3 3)).setCell ⟨w.heap.size, 10, none⟩ (.slice (some ⟨g, 0, none⟩) n 3)) = WF at *
 have q0 := BF.cell 0 _ rfl
 have q1 := BF.cell 1 _ rfl
 have q2 := BF.cell 2 _ rfl
 have q3 := BF.cell 3 _ rfl
 have q4 := BF.cell 4 _ rfl
 have q5 := BF.cell 5 _ rfl
 have q6 := BF.cell 6 _ rfl
 have q7 := BF.cell 7 _ rfl
 have q8 := BF.cell 8 _ rfl
 have q9 := BF.cell 9 _ rfl
 have q10 := BF.cell 10 _ rfl
 clear hHeld
 go_wp2
 refine bodyPost_ret (v := .agg #[.int .i64 2, .int .i64 7, .int .i64 60, .int .i64 4, .int .i64 3, .slice (some ⟨p5, 0, none⟩) 3 3, .slice (some ⟨p6, 0, none⟩) 3 3, .int .i64 10, .int .i64 12, .slice (some ⟨p9, 0, none⟩) 3 3, .slice (some ⟨g, 0, none⟩) n 3]) (by simp [results, Try.results74, go_sem, hu, q0, q1, q2, q3, q4, q5, q6, q7, q8, q9, q10]) rfl ⟨p5, p6, p9, g, rfl, hBF, by omega, d0, d6, by omega, b0F, b1F, b6F, b10F⟩
end Go.Proofs.Ytdgkhoflajdidaa
/- same: are two lists equal. list: a copy. -/
namespace Go.Proofs.Ytdgkhoflajdidaa
open Go.RowKit Go.Proofs.YtdgkhoflajdidaaW.PrintWords Go.Proofs.YtdgkhoflajdidaaW.PrintMore Go.Proofs.YtdgkhoflajdidaaW.PrintLast Go.Proofs.Ytdgkhoflajdidaa.Print
set_option linter.unusedVariables false
set_option linter.unusedSimpArgs false
theorem take_eq_ne {l m : List Int} {k : Nat} (hl : k < l.length) (hm : k < m.length) (h : l[k] ≠ m[k]) : l ≠ m := by
 rintro rfl
 exact h rfl
theorem same_calls (A B : Option Addr) (c d : Nat) (l m : List Int) (w : World) (hl : Kd.C (Kd.int .i64) w A l.length l) (hm : Kd.C (Kd.int .i64) w B m.length m) :
    Calls Try.prog 38 #[.slice A l.length c, .slice B m.length d] w fun e w' => e = .returned (.bool (decide (l = m))) ∧ Below w.heap.size w w' := by
 have HL := Aside0.mk hl
 have HM := Aside0.mk hm
 have hn := hl.2.1
 clear hl hm
 by_cases he : l.length = m.length
 ·have hez : (l.length : Int) = (m.length : Int) := by omega
  have HE := Lib.hid he
  go_enter Try.func38, Try.ntmps38
  go_wp2
  go_loopw [5] (fun s5 wr => ∃ k : Nat, k ≤ l.length ∧ s5 = .int .i64 k ∧ Aside0 (Below w.heap.size w wr ∧ l.take k = m.take k)) (fun s5 _ => l.length - (intOf s5).toNat)
  case atStart => exact ⟨0, Nat.zero_le _, rfl, ⟨Below.refl _ _, rfl⟩⟩
  case round =>
   obtain ⟨k, hk, rfl, HW⟩ := hrel
   by_cases hlt : k < l.length
   ·have hlt2 : k < m.length := by have := HE.out; omega
    obtain ⟨aA, rfl, hcA⟩ := row_at_int (Kd.C_below HL.out HW.out.1) k hlt
    obtain ⟨aB, rfl, hcB⟩ := row_at_int (Kd.C_below HM.out HW.out.1) k hlt2
    by_cases hq : l[k] = m[k]
    ·have hqb : (l[k] == m[k]) = true := by simpa using hq
     have HQ : Aside0 (l.take (k + 1) = m.take (k + 1)) := ⟨by rw [List.take_succ_eq_append_getElem hlt, List.take_succ_eq_append_getElem hlt2, HW.out.2, hq]⟩
     go_wp2
     go_quiet (fail)
     go_wp2
     go_roundw
     case rel => exact ⟨k + 1, hlt, by go_num, ⟨pw_below_drewN HW.out.1 _, HQ.out⟩⟩
     case measure => simp [intOf]; omega
    ·have hqb : (l[k] == m[k]) = false := by simpa using hq
     have HNE := Lib.hid (show decide (l = m) = false from decide_eq_false (take_eq_ne hlt hlt2 hq))
     go_wp2
     go_quiet (fail)
     go_wp2
     go_ret
     exact ⟨ret_bool HNE.out.symm, pw_below_drewN HW.out.1 _⟩
   ·have HEQ := Lib.hid (show decide (l = m) = true from decide_eq_true (by
      have h1 := HW.out.2
      have h2 := HE.out
      rwa [List.take_of_length_le (by omega), List.take_of_length_le (by omega)] at h1))
    go_wp2
    go_ret
    exact ⟨ret_bool HEQ.out.symm, HW.out.1⟩
 ·have hez : ¬ (l.length : Int) = (m.length : Int) := by omega
  have HNE := Lib.hid (show decide (l = m) = false from decide_eq_false (fun h => he (by rw [h])))
  go_enter Try.func38, Try.ntmps38
  go_wp2
  go_ret
  exact ⟨ret_bool HNE.out.symm, Below.refl _ _⟩
theorem list_calls (A : Option Addr) (c : Nat) (l : List Int) (w : World) (hl : Kd.C (Kd.int .i64) w A l.length l) (h30 : l.length ≤ 1000) :
    Calls Try.prog 27 #[.slice A l.length c] w fun e w' => ∃ v, e = .returned v ∧ w'.ownsRow w.heap.size 3 1 v l.length (nums .i64 l) ∧ Below w.heap.size w w' := by
 have HR := Aside0.mk hl
 clear hl
 go_enter Try.func27, Try.ntmps27
 have hRI := Aside0.mk (ReadsInt.below (readsInt_of HR.out) (below_alloc (Below.refl _ w) (.cells #[] 3)))
 have hown : Aside0 ((w.alloc (.cells #[] 3)).ownsRow w.heap.size 3 1 (.slice (some ⟨w.heap.size, 0, none⟩) 0 0) ([] : List Int).length (nums .i64 [])) := ⟨own_lit w w.heap.size 3 .i64 [] (Nat.le_refl _) (by simp)⟩
 go_wp2_with (at_builtin; refine print_append_row (w0 := w) w.heap.size rfl (.tmp 3) (.tmp 4) 22 3 .i64 8 rfl Try.underlying22 info3 (by decide) _ [] l A l.length c rfl rfl hown.out hRI.out (below_alloc (Below.refl _ _) _) (by simp) (by simp; omega) ?_; intro v1 w1 ho1 hb1 hg1 hat)
 go_ret
 exact ⟨_, rfl, by simpa using ho1, hb1⟩
end Go.Proofs.Ytdgkhoflajdidaa
