/- Lemmas for the laws' proofs: Cf, Da, Db. -/
import Derived.Test.YtdgkhoflajdidaaCore03
/- CheckCopper: the error of coppers, whatever they are. -/
namespace Go.Proofs.Ytdgkhoflajdidaa
open Go.RowKit Go.Proofs.YtdgkhoflajdidaaW.PrintWords Go.Proofs.YtdgkhoflajdidaaW.PrintMore Go.Proofs.YtdgkhoflajdidaaW.PrintLast Go.Proofs.Ytdgkhoflajdidaa.Print
set_option linter.unusedVariables false
set_option linter.unusedSimpArgs false
/-- The sizes multiplied, as the program does it. -/
def manyC (m : Int) (l : List S35) : Int := l.foldl (fun m r => mn2 (m * (r.f1 - r.f0 + 1)) 2001) m
theorem manyC_snoc (m : Int) (l : List S35) (r : S35) : manyC m (l ++ [r]) = mn2 (manyC m l * (r.f1 - r.f0 + 1)) 2001 := by simp [manyC]
theorem manyC_bd (l : List S35) (h : ∀ r ∈ l, inside r 99 = true) (m : Int) (h0 : 0 ≤ m) (h1 : m ≤ 2001) : 0 ≤ manyC m l ∧ manyC m l ≤ 2001 := by
 induction l generalizing m with
 | nil => exact ⟨h0, h1⟩
 | cons r l ih =>
  have hr := inside_iff.1 (h r (List.mem_cons_self ..))
  refine ih (fun q hq => h q (List.mem_cons_of_mem _ hq)) _ ?_ ?_
  ·have : 0 ≤ m * (r.f1 - r.f0 + 1) := Int.mul_nonneg h0 (by omega)
   show 0 ≤ mn2 _ _; rw [mn2_eq]; omega
  ·show mn2 _ _ ≤ _; rw [mn2_eq]; omega
/-- The coppers' sizes. -/
def sizes (x : S38) : Int := manyC (x.f7.f1 - x.f7.f0 + 1) x.f8
def overSize (x : S38) : Int := if 2000 < sizes x then 3 else 0
/-- The error of coppers. -/
def faultC (x : S38) : Int :=
 if 4 < x.f0 then 3 else if 5 < x.f9.length then 3
 else if x.f0 < 0 then 1 else if inR x.f1 0 x.f2 = false then 1 else if 999 < x.f2 then 1 else if inR x.f3 1 20 = false then 1 else if inR x.f4 0 3 = false then 1
 else if forHours x.f0 x.f5 x.f4 = false then 1 else if forHours x.f0 x.f6 20 = false then 1 else if inside x.f7 99 = false then 1
 else if ((x.f8.length : Int) != x.f0 + 1) = true then 1 else if x.f8.all (fun r => inside r 99) = false then 1 else if x.f9.all (readingB x.f0) = false then 1
 else overSize x
theorem pass_lost (w : World) (xs : List S35) : PassAt 106 #[] #[] (fun x => .agg #[.int .i64 x.f0, .int .i64 x.f1]) (fun r => inside r 99) (fun x => x ∈ xs) w := fun W x _ hb => lost_calls x W
theorem pass_reading (x : S38) (cs : List Value) (w : World) (hx : k38.K w x cs) (xs : List S119) : PassAt 101 #[.agg cs.toArray] #[] (fun x => .agg #[.int .i64 x.f0, .int .i64 x.f1.f0, .int .i64 x.f1.f1]) (readingB x.f0) (fun x => x ∈ xs) w :=
 fun W r _ hb => reading_calls x cs r W (k38.K_below hb hx)
set_option maxRecDepth 100000 in
set_option maxHeartbeats 2000000 in
theorem check_a1 (x : S38) (cs : List Value) (w : World) (hx : k38.K w x cs) (h_a1 : 4 < x.f0) :
    Calls Try.prog 58 #[.agg cs.toArray] w fun e w' => e = .returned (.int .i64 3) ∧ Below w.heap.size w w' := by
 obtain ⟨A5, c5, A6, c6, A9, c9, A10, c10, hcs, l5, g5, l6, g6, l9, g9, l10, g10⟩ := k38_open hx
 subst hcs
 have hlen9 : x.f8.length ≤ 9223372036854775807 := g9.2.1
 have hlen10 : x.f9.length ≤ 9223372036854775807 := g10.2.1
 have hB0 := fun o => below_alloc (Below.refl w.heap.size w) o
 have HX := Aside0.mk hx
 have G5 := Aside0.mk g5
 have G6 := Aside0.mk g6
 have G9 := Aside0.mk g9
 have G10 := Aside0.mk g10
 clear hx g5 g6 g9 g10 l5 l6 l9 l10
 have hu := Try.underlying38
 have hu2 := Try.underlying35
 go_enter Try.func58, Try.ntmps58
 go_wp2
 go_ret
 exact ⟨rfl, hB0 _⟩
set_option maxRecDepth 100000 in
set_option maxHeartbeats 2000000 in
theorem check_a2 (x : S38) (cs : List Value) (w : World) (hx : k38.K w x cs) (h_a1 : x.f0 ≤ 4) (h_a2 : 5 < x.f9.length) :
    Calls Try.prog 58 #[.agg cs.toArray] w fun e w' => e = .returned (.int .i64 3) ∧ Below w.heap.size w w' := by
 obtain ⟨A5, c5, A6, c6, A9, c9, A10, c10, hcs, l5, g5, l6, g6, l9, g9, l10, g10⟩ := k38_open hx
 subst hcs
 have hlen9 : x.f8.length ≤ 9223372036854775807 := g9.2.1
 have hlen10 : x.f9.length ≤ 9223372036854775807 := g10.2.1
 have hB0 := fun o => below_alloc (Below.refl w.heap.size w) o
 have HX := Aside0.mk hx
 have G5 := Aside0.mk g5
 have G6 := Aside0.mk g6
 have G9 := Aside0.mk g9
 have G10 := Aside0.mk g10
 clear hx g5 g6 g9 g10 l5 l6 l9 l10
 have hu := Try.underlying38
 have hu2 := Try.underlying35
 go_enter Try.func58, Try.ntmps58
 go_wp2
 go_ret
 exact ⟨rfl, hB0 _⟩
set_option maxRecDepth 100000 in
set_option maxHeartbeats 2000000 in
theorem check_b1 (x : S38) (cs : List Value) (w : World) (hx : k38.K w x cs) (h_a1 : x.f0 ≤ 4) (h_a2 : x.f9.length ≤ 5) (h_b1 : x.f0 < 0) :
    Calls Try.prog 58 #[.agg cs.toArray] w fun e w' => e = .returned (.int .i64 1) ∧ Below w.heap.size w w' := by
 obtain ⟨A5, c5, A6, c6, A9, c9, A10, c10, hcs, l5, g5, l6, g6, l9, g9, l10, g10⟩ := k38_open hx
 subst hcs
 have hlen9 : x.f8.length ≤ 9223372036854775807 := g9.2.1
 have hlen10 : x.f9.length ≤ 9223372036854775807 := g10.2.1
 have hB0 := fun o => below_alloc (Below.refl w.heap.size w) o
 have HX := Aside0.mk hx
 have G5 := Aside0.mk g5
 have G6 := Aside0.mk g6
 have G9 := Aside0.mk g9
 have G10 := Aside0.mk g10
 clear hx g5 g6 g9 g10 l5 l6 l9 l10
 have hu := Try.underlying38
 have hu2 := Try.underlying35
 go_enter Try.func58, Try.ntmps58
 go_wp2
 go_ret
 exact ⟨rfl, hB0 _⟩
set_option maxRecDepth 100000 in
set_option maxHeartbeats 2000000 in
theorem check_b2 (x : S38) (cs : List Value) (w : World) (hx : k38.K w x cs) (h_a1 : x.f0 ≤ 4) (h_a2 : x.f9.length ≤ 5) (h_b1 : 0 ≤ x.f0) (h_b2 : inR x.f1 0 x.f2 = false) :
    Calls Try.prog 58 #[.agg cs.toArray] w fun e w' => e = .returned (.int .i64 1) ∧ Below w.heap.size w w' := by
 obtain ⟨A5, c5, A6, c6, A9, c9, A10, c10, hcs, l5, g5, l6, g6, l9, g9, l10, g10⟩ := k38_open hx
 subst hcs
 have hlen9 : x.f8.length ≤ 9223372036854775807 := g9.2.1
 have hlen10 : x.f9.length ≤ 9223372036854775807 := g10.2.1
 have hB0 := fun o => below_alloc (Below.refl w.heap.size w) o
 have HX := Aside0.mk hx
 have G5 := Aside0.mk g5
 have G6 := Aside0.mk g6
 have G9 := Aside0.mk g9
 have G10 := Aside0.mk g10
 clear hx g5 g6 g9 g10 l5 l6 l9 l10
 have hu := Try.underlying38
 have hu2 := Try.underlying35
 have w2 := fun W => within_calls x.f1 0 x.f2 W
 rw [h_b2] at w2
 clear h_b2
 go_enter Try.func58, Try.ntmps58
 go_wp2_with (first | (go_at_call 102; with_reducible refine (w2 _).mono ?_; rintro e w' ⟨rfl, rfl⟩))
 go_ret
 exact ⟨rfl, hB0 _⟩
set_option maxRecDepth 100000 in
set_option maxHeartbeats 2000000 in
theorem check_b3 (x : S38) (cs : List Value) (w : World) (hx : k38.K w x cs) (h_a1 : x.f0 ≤ 4) (h_a2 : x.f9.length ≤ 5) (h_b1 : 0 ≤ x.f0) (h_b2 : inR x.f1 0 x.f2 = true) (h_b3 : 999 < x.f2) :
    Calls Try.prog 58 #[.agg cs.toArray] w fun e w' => e = .returned (.int .i64 1) ∧ Below w.heap.size w w' := by
 obtain ⟨A5, c5, A6, c6, A9, c9, A10, c10, hcs, l5, g5, l6, g6, l9, g9, l10, g10⟩ := k38_open hx
 subst hcs
 have hlen9 : x.f8.length ≤ 9223372036854775807 := g9.2.1
 have hlen10 : x.f9.length ≤ 9223372036854775807 := g10.2.1
 have hB0 := fun o => below_alloc (Below.refl w.heap.size w) o
 have HX := Aside0.mk hx
 have G5 := Aside0.mk g5
 have G6 := Aside0.mk g6
 have G9 := Aside0.mk g9
 have G10 := Aside0.mk g10
 clear hx g5 g6 g9 g10 l5 l6 l9 l10
 have hu := Try.underlying38
 have hu2 := Try.underlying35
 have w2 := fun W => within_calls x.f1 0 x.f2 W
 rw [h_b2] at w2
 clear h_b2
 go_enter Try.func58, Try.ntmps58
 go_wp2_with (first | (go_at_call 102; with_reducible refine (w2 _).mono ?_; rintro e w' ⟨rfl, rfl⟩))
 go_ret
 exact ⟨rfl, hB0 _⟩
set_option maxRecDepth 100000 in
set_option maxHeartbeats 2000000 in
theorem check_b4 (x : S38) (cs : List Value) (w : World) (hx : k38.K w x cs) (h_a1 : x.f0 ≤ 4) (h_a2 : x.f9.length ≤ 5) (h_b1 : 0 ≤ x.f0) (h_b2 : inR x.f1 0 x.f2 = true) (h_b3 : x.f2 ≤ 999) (h_b4 : inR x.f3 1 20 = false) :
    Calls Try.prog 58 #[.agg cs.toArray] w fun e w' => e = .returned (.int .i64 1) ∧ Below w.heap.size w w' := by
 obtain ⟨A5, c5, A6, c6, A9, c9, A10, c10, hcs, l5, g5, l6, g6, l9, g9, l10, g10⟩ := k38_open hx
 subst hcs
 have hlen9 : x.f8.length ≤ 9223372036854775807 := g9.2.1
 have hlen10 : x.f9.length ≤ 9223372036854775807 := g10.2.1
 have hB0 := fun o => below_alloc (Below.refl w.heap.size w) o
 have HX := Aside0.mk hx
 have G5 := Aside0.mk g5
 have G6 := Aside0.mk g6
 have G9 := Aside0.mk g9
 have G10 := Aside0.mk g10
 clear hx g5 g6 g9 g10 l5 l6 l9 l10
 have hu := Try.underlying38
 have hu2 := Try.underlying35
 have w2 := fun W => within_calls x.f1 0 x.f2 W
 rw [h_b2] at w2
 have w4 := fun W => within_calls x.f3 1 20 W
 rw [h_b4] at w4
 clear h_b2
 clear h_b4
 go_enter Try.func58, Try.ntmps58
 go_wp2_with (first | (go_at_call 102; with_reducible refine (w2 _).mono ?_; rintro e w' ⟨rfl, rfl⟩) | (go_at_call 102; with_reducible refine (w4 _).mono ?_; rintro e w' ⟨rfl, rfl⟩))
 go_ret
 exact ⟨rfl, hB0 _⟩
set_option maxRecDepth 100000 in
set_option maxHeartbeats 2000000 in
theorem check_b5 (x : S38) (cs : List Value) (w : World) (hx : k38.K w x cs) (h_a1 : x.f0 ≤ 4) (h_a2 : x.f9.length ≤ 5) (h_b1 : 0 ≤ x.f0) (h_b2 : inR x.f1 0 x.f2 = true) (h_b3 : x.f2 ≤ 999) (h_b4 : inR x.f3 1 20 = true) (h_b5 : inR x.f4 0 3 = false) :
    Calls Try.prog 58 #[.agg cs.toArray] w fun e w' => e = .returned (.int .i64 1) ∧ Below w.heap.size w w' := by
 obtain ⟨A5, c5, A6, c6, A9, c9, A10, c10, hcs, l5, g5, l6, g6, l9, g9, l10, g10⟩ := k38_open hx
 subst hcs
 have hlen9 : x.f8.length ≤ 9223372036854775807 := g9.2.1
 have hlen10 : x.f9.length ≤ 9223372036854775807 := g10.2.1
 have hB0 := fun o => below_alloc (Below.refl w.heap.size w) o
 have HX := Aside0.mk hx
 have G5 := Aside0.mk g5
 have G6 := Aside0.mk g6
 have G9 := Aside0.mk g9
 have G10 := Aside0.mk g10
 clear hx g5 g6 g9 g10 l5 l6 l9 l10
 have hu := Try.underlying38
 have hu2 := Try.underlying35
 have w2 := fun W => within_calls x.f1 0 x.f2 W
 rw [h_b2] at w2
 have w4 := fun W => within_calls x.f3 1 20 W
 rw [h_b4] at w4
 have w5 := fun W => within_calls x.f4 0 3 W
 rw [h_b5] at w5
 clear h_b2
 clear h_b4
 clear h_b5
 go_enter Try.func58, Try.ntmps58
 go_wp2_with (first | (go_at_call 102; with_reducible refine (w2 _).mono ?_; rintro e w' ⟨rfl, rfl⟩) | (go_at_call 102; with_reducible refine (w4 _).mono ?_; rintro e w' ⟨rfl, rfl⟩) | (go_at_call 102; with_reducible refine (w5 _).mono ?_; rintro e w' ⟨rfl, rfl⟩))
 go_ret
 exact ⟨rfl, hB0 _⟩
set_option maxRecDepth 100000 in
set_option maxHeartbeats 2000000 in
theorem check_c1 (x : S38) (cs : List Value) (w : World) (hx : k38.K w x cs) (h_a1 : x.f0 ≤ 4) (h_a2 : x.f9.length ≤ 5) (h_b1 : 0 ≤ x.f0) (h_b2 : inR x.f1 0 x.f2 = true) (h_b3 : x.f2 ≤ 999) (h_b4 : inR x.f3 1 20 = true) (h_b5 : inR x.f4 0 3 = true) (h_c1 : forHours x.f0 x.f5 x.f4 = false) :
    Calls Try.prog 58 #[.agg cs.toArray] w fun e w' => e = .returned (.int .i64 1) ∧ Below w.heap.size w w' := by
 obtain ⟨A5, c5, A6, c6, A9, c9, A10, c10, hcs, l5, g5, l6, g6, l9, g9, l10, g10⟩ := k38_open hx
 subst hcs
 have hlen9 : x.f8.length ≤ 9223372036854775807 := g9.2.1
 have hlen10 : x.f9.length ≤ 9223372036854775807 := g10.2.1
 have hB0 := fun o => below_alloc (Below.refl w.heap.size w) o
 have HX := Aside0.mk hx
 have G5 := Aside0.mk g5
 have G6 := Aside0.mk g6
 have G9 := Aside0.mk g9
 have G10 := Aside0.mk g10
 clear hx g5 g6 g9 g10 l5 l6 l9 l10
 have hu := Try.underlying38
 have hu2 := Try.underlying35
 have w2 := fun W => within_calls x.f1 0 x.f2 W
 rw [h_b2] at w2
 have w4 := fun W => within_calls x.f3 1 20 W
 rw [h_b4] at w4
 have w5 := fun W => within_calls x.f4 0 3 W
 rw [h_b5] at w5
 have q1 := fun W (hW : Below w.heap.size w W) => isCoal_calls x _ A5 c5 x.f5 W (k38.K_below hW HX.out) (Kd.C_below G5.out hW)
 rw [h_c1] at q1
 have Q1 := Aside0.mk q1
 clear q1
 clear h_b2
 clear h_b4
 clear h_b5
 clear h_c1
 go_enter Try.func58, Try.ntmps58
 go_wp2_with (first | (go_at_call 102; with_reducible refine (w2 _).mono ?_; rintro e w' ⟨rfl, rfl⟩) | (go_at_call 102; with_reducible refine (w4 _).mono ?_; rintro e w' ⟨rfl, rfl⟩) | (go_at_call 102; with_reducible refine (w5 _).mono ?_; rintro e w' ⟨rfl, rfl⟩) | (go_at_call 103; refine (Q1.out _ (hB0 _)).mono ?_; rintro e w1 ⟨rfl, hb⟩; have hB := bel2 (hB0 _) hb; have BK := (Blk.new w _ 38 _ rfl).below hb; have HB := Aside0.mk hB; have BL := Aside0.mk BK; clear hB hb; have k0 := BK.cell 0 _ rfl; have k1 := BK.cell 1 _ rfl; have k2 := BK.cell 2 _ rfl; have k3 := BK.cell 3 _ rfl; have k4 := BK.cell 4 _ rfl; have k5 := BK.cell 5 _ rfl; have k6 := BK.cell 6 _ rfl; have k7 := BK.cell 7 _ rfl; have k8 := BK.cell 8 _ rfl; have k9 := BK.cell 9 _ rfl; have k10 := BK.cell 10 _ rfl; clear BK))
 go_ret
 exact ⟨rfl, HB.out⟩
set_option maxRecDepth 100000 in
set_option maxHeartbeats 2000000 in
theorem check_c2 (x : S38) (cs : List Value) (w : World) (hx : k38.K w x cs) (h_a1 : x.f0 ≤ 4) (h_a2 : x.f9.length ≤ 5) (h_b1 : 0 ≤ x.f0) (h_b2 : inR x.f1 0 x.f2 = true) (h_b3 : x.f2 ≤ 999) (h_b4 : inR x.f3 1 20 = true) (h_b5 : inR x.f4 0 3 = true) (h_c1 : forHours x.f0 x.f5 x.f4 = true) (h_c2 : forHours x.f0 x.f6 20 = false) :
    Calls Try.prog 58 #[.agg cs.toArray] w fun e w' => e = .returned (.int .i64 1) ∧ Below w.heap.size w w' := by
 obtain ⟨A5, c5, A6, c6, A9, c9, A10, c10, hcs, l5, g5, l6, g6, l9, g9, l10, g10⟩ := k38_open hx
 subst hcs
 have hlen9 : x.f8.length ≤ 9223372036854775807 := g9.2.1
 have hlen10 : x.f9.length ≤ 9223372036854775807 := g10.2.1
 have hB0 := fun o => below_alloc (Below.refl w.heap.size w) o
 have HX := Aside0.mk hx
 have G5 := Aside0.mk g5
 have G6 := Aside0.mk g6
 have G9 := Aside0.mk g9
 have G10 := Aside0.mk g10
 clear hx g5 g6 g9 g10 l5 l6 l9 l10
 have hu := Try.underlying38
 have hu2 := Try.underlying35
 have w2 := fun W => within_calls x.f1 0 x.f2 W
 rw [h_b2] at w2
 have w4 := fun W => within_calls x.f3 1 20 W
 rw [h_b4] at w4
 have w5 := fun W => within_calls x.f4 0 3 W
 rw [h_b5] at w5
 have q1 := fun W (hW : Below w.heap.size w W) => isCoal_calls x _ A5 c5 x.f5 W (k38.K_below hW HX.out) (Kd.C_below G5.out hW)
 rw [h_c1] at q1
 have Q1 := Aside0.mk q1
 clear q1
 have q2 := fun W (hW : Below w.heap.size w W) => promised_calls x _ A6 c6 x.f6 W (k38.K_below hW HX.out) (Kd.C_below G6.out hW)
 rw [h_c2] at q2
 have Q2 := Aside0.mk q2
 clear q2
 clear h_b2
 clear h_b4
 clear h_b5
 clear h_c1
 clear h_c2
 go_enter Try.func58, Try.ntmps58
 go_wp2_with (first | (go_at_call 102; with_reducible refine (w2 _).mono ?_; rintro e w' ⟨rfl, rfl⟩) | (go_at_call 102; with_reducible refine (w4 _).mono ?_; rintro e w' ⟨rfl, rfl⟩) | (go_at_call 102; with_reducible refine (w5 _).mono ?_; rintro e w' ⟨rfl, rfl⟩) | (go_at_call 103; refine (Q1.out _ (hB0 _)).mono ?_; rintro e w1 ⟨rfl, hb⟩; have hB := bel2 (hB0 _) hb; have BK := (Blk.new w _ 38 _ rfl).below hb; have HB := Aside0.mk hB; have BL := Aside0.mk BK; clear hB hb; have k0 := BK.cell 0 _ rfl; have k1 := BK.cell 1 _ rfl; have k2 := BK.cell 2 _ rfl; have k3 := BK.cell 3 _ rfl; have k4 := BK.cell 4 _ rfl; have k5 := BK.cell 5 _ rfl; have k6 := BK.cell 6 _ rfl; have k7 := BK.cell 7 _ rfl; have k8 := BK.cell 8 _ rfl; have k9 := BK.cell 9 _ rfl; have k10 := BK.cell 10 _ rfl; clear BK) | (go_at_call 83; refine (Q2.out _ HB.out).mono ?_; rintro e w2 ⟨rfl, hb⟩; clear k0 k1 k2 k3 k4 k5 k6 k7 k8 k9 k10; have hB := bel2 HB.out hb; have BK := BL.out.below hb; clear HB BL; have HB := Aside0.mk hB; have BL := Aside0.mk BK; clear hB hb; have k0 := BK.cell 0 _ rfl; have k1 := BK.cell 1 _ rfl; have k2 := BK.cell 2 _ rfl; have k3 := BK.cell 3 _ rfl; have k4 := BK.cell 4 _ rfl; have k5 := BK.cell 5 _ rfl; have k6 := BK.cell 6 _ rfl; have k7 := BK.cell 7 _ rfl; have k8 := BK.cell 8 _ rfl; have k9 := BK.cell 9 _ rfl; have k10 := BK.cell 10 _ rfl; clear BK))
 go_ret
 exact ⟨rfl, HB.out⟩
set_option maxRecDepth 100000 in
set_option maxHeartbeats 2000000 in
theorem check_c3 (x : S38) (cs : List Value) (w : World) (hx : k38.K w x cs) (h_a1 : x.f0 ≤ 4) (h_a2 : x.f9.length ≤ 5) (h_b1 : 0 ≤ x.f0) (h_b2 : inR x.f1 0 x.f2 = true) (h_b3 : x.f2 ≤ 999) (h_b4 : inR x.f3 1 20 = true) (h_b5 : inR x.f4 0 3 = true) (h_c1 : forHours x.f0 x.f5 x.f4 = true) (h_c2 : forHours x.f0 x.f6 20 = true) (h_c3 : inside x.f7 99 = false) :
    Calls Try.prog 58 #[.agg cs.toArray] w fun e w' => e = .returned (.int .i64 1) ∧ Below w.heap.size w w' := by
 obtain ⟨A5, c5, A6, c6, A9, c9, A10, c10, hcs, l5, g5, l6, g6, l9, g9, l10, g10⟩ := k38_open hx
 subst hcs
 have hlen9 : x.f8.length ≤ 9223372036854775807 := g9.2.1
 have hlen10 : x.f9.length ≤ 9223372036854775807 := g10.2.1
 have hB0 := fun o => below_alloc (Below.refl w.heap.size w) o
 have HX := Aside0.mk hx
 have G5 := Aside0.mk g5
 have G6 := Aside0.mk g6
 have G9 := Aside0.mk g9
 have G10 := Aside0.mk g10
 clear hx g5 g6 g9 g10 l5 l6 l9 l10
 have hu := Try.underlying38
 have hu2 := Try.underlying35
 have w2 := fun W => within_calls x.f1 0 x.f2 W
 rw [h_b2] at w2
 have w4 := fun W => within_calls x.f3 1 20 W
 rw [h_b4] at w4
 have w5 := fun W => within_calls x.f4 0 3 W
 rw [h_b5] at w5
 have q1 := fun W (hW : Below w.heap.size w W) => isCoal_calls x _ A5 c5 x.f5 W (k38.K_below hW HX.out) (Kd.C_below G5.out hW)
 rw [h_c1] at q1
 have Q1 := Aside0.mk q1
 clear q1
 have q2 := fun W (hW : Below w.heap.size w W) => promised_calls x _ A6 c6 x.f6 W (k38.K_below hW HX.out) (Kd.C_below G6.out hW)
 rw [h_c2] at q2
 have Q2 := Aside0.mk q2
 clear q2
 have q3 := fun W => inside_calls x.f7 99 W
 rw [h_c3] at q3
 have Q3 := Aside0.mk q3
 clear q3
 clear h_b2
 clear h_b4
 clear h_b5
 clear h_c1
 clear h_c2
 clear h_c3
 go_enter Try.func58, Try.ntmps58
 go_wp2_with (first | (go_at_call 102; with_reducible refine (w2 _).mono ?_; rintro e w' ⟨rfl, rfl⟩) | (go_at_call 102; with_reducible refine (w4 _).mono ?_; rintro e w' ⟨rfl, rfl⟩) | (go_at_call 102; with_reducible refine (w5 _).mono ?_; rintro e w' ⟨rfl, rfl⟩) | (go_at_call 103; refine (Q1.out _ (hB0 _)).mono ?_; rintro e w1 ⟨rfl, hb⟩; have hB := bel2 (hB0 _) hb; have BK := (Blk.new w _ 38 _ rfl).below hb; have HB := Aside0.mk hB; have BL := Aside0.mk BK; clear hB hb; have k0 := BK.cell 0 _ rfl; have k1 := BK.cell 1 _ rfl; have k2 := BK.cell 2 _ rfl; have k3 := BK.cell 3 _ rfl; have k4 := BK.cell 4 _ rfl; have k5 := BK.cell 5 _ rfl; have k6 := BK.cell 6 _ rfl; have k7 := BK.cell 7 _ rfl; have k8 := BK.cell 8 _ rfl; have k9 := BK.cell 9 _ rfl; have k10 := BK.cell 10 _ rfl; clear BK) | (go_at_call 83; refine (Q2.out _ HB.out).mono ?_; rintro e w2 ⟨rfl, hb⟩; clear k0 k1 k2 k3 k4 k5 k6 k7 k8 k9 k10; have hB := bel2 HB.out hb; have BK := BL.out.below hb; clear HB BL; have HB := Aside0.mk hB; have BL := Aside0.mk BK; clear hB hb; have k0 := BK.cell 0 _ rfl; have k1 := BK.cell 1 _ rfl; have k2 := BK.cell 2 _ rfl; have k3 := BK.cell 3 _ rfl; have k4 := BK.cell 4 _ rfl; have k5 := BK.cell 5 _ rfl; have k6 := BK.cell 6 _ rfl; have k7 := BK.cell 7 _ rfl; have k8 := BK.cell 8 _ rfl; have k9 := BK.cell 9 _ rfl; have k10 := BK.cell 10 _ rfl; clear BK) | (go_at_call 104; refine (Q3.out _).mono ?_; rintro e w3 ⟨rfl, hb⟩; clear k0 k1 k2 k3 k4 k5 k6 k7 k8 k9 k10; have hB := bel2 HB.out hb; have BK := BL.out.below hb; clear HB BL; have HB := Aside0.mk hB; have BL := Aside0.mk BK; clear hB hb; have k0 := BK.cell 0 _ rfl; have k1 := BK.cell 1 _ rfl; have k2 := BK.cell 2 _ rfl; have k3 := BK.cell 3 _ rfl; have k4 := BK.cell 4 _ rfl; have k5 := BK.cell 5 _ rfl; have k6 := BK.cell 6 _ rfl; have k7 := BK.cell 7 _ rfl; have k8 := BK.cell 8 _ rfl; have k9 := BK.cell 9 _ rfl; have k10 := BK.cell 10 _ rfl; clear BK))
 go_ret
 exact ⟨rfl, HB.out⟩
set_option maxRecDepth 100000 in
set_option maxHeartbeats 2000000 in
theorem check_c4 (x : S38) (cs : List Value) (w : World) (hx : k38.K w x cs) (h_a1 : x.f0 ≤ 4) (h_a2 : x.f9.length ≤ 5) (h_b1 : 0 ≤ x.f0) (h_b2 : inR x.f1 0 x.f2 = true) (h_b3 : x.f2 ≤ 999) (h_b4 : inR x.f3 1 20 = true) (h_b5 : inR x.f4 0 3 = true) (h_c1 : forHours x.f0 x.f5 x.f4 = true) (h_c2 : forHours x.f0 x.f6 20 = true) (h_c3 : inside x.f7 99 = true) (h_c4 : ((x.f8.length : Int) != x.f0 + 1) = true) :
    Calls Try.prog 58 #[.agg cs.toArray] w fun e w' => e = .returned (.int .i64 1) ∧ Below w.heap.size w w' := by
 obtain ⟨A5, c5, A6, c6, A9, c9, A10, c10, hcs, l5, g5, l6, g6, l9, g9, l10, g10⟩ := k38_open hx
 subst hcs
 have hlen9 : x.f8.length ≤ 9223372036854775807 := g9.2.1
 have hlen10 : x.f9.length ≤ 9223372036854775807 := g10.2.1
 have hB0 := fun o => below_alloc (Below.refl w.heap.size w) o
 have HX := Aside0.mk hx
 have G5 := Aside0.mk g5
 have G6 := Aside0.mk g6
 have G9 := Aside0.mk g9
 have G10 := Aside0.mk g10
 clear hx g5 g6 g9 g10 l5 l6 l9 l10
 have hu := Try.underlying38
 have hu2 := Try.underlying35
 have w2 := fun W => within_calls x.f1 0 x.f2 W
 rw [h_b2] at w2
 have w4 := fun W => within_calls x.f3 1 20 W
 rw [h_b4] at w4
 have w5 := fun W => within_calls x.f4 0 3 W
 rw [h_b5] at w5
 have q1 := fun W (hW : Below w.heap.size w W) => isCoal_calls x _ A5 c5 x.f5 W (k38.K_below hW HX.out) (Kd.C_below G5.out hW)
 rw [h_c1] at q1
 have Q1 := Aside0.mk q1
 clear q1
 have q2 := fun W (hW : Below w.heap.size w W) => promised_calls x _ A6 c6 x.f6 W (k38.K_below hW HX.out) (Kd.C_below G6.out hW)
 rw [h_c2] at q2
 have Q2 := Aside0.mk q2
 clear q2
 have q3 := fun W => inside_calls x.f7 99 W
 rw [h_c3] at q3
 have Q3 := Aside0.mk q3
 clear q3
 clear h_b2
 clear h_b4
 clear h_b5
 clear h_c1
 clear h_c2
 clear h_c3
 go_enter Try.func58, Try.ntmps58
 go_wp2_with (first | (go_at_call 102; with_reducible refine (w2 _).mono ?_; rintro e w' ⟨rfl, rfl⟩) | (go_at_call 102; with_reducible refine (w4 _).mono ?_; rintro e w' ⟨rfl, rfl⟩) | (go_at_call 102; with_reducible refine (w5 _).mono ?_; rintro e w' ⟨rfl, rfl⟩) | (go_at_call 103; refine (Q1.out _ (hB0 _)).mono ?_; rintro e w1 ⟨rfl, hb⟩; have hB := bel2 (hB0 _) hb; have BK := (Blk.new w _ 38 _ rfl).below hb; have HB := Aside0.mk hB; have BL := Aside0.mk BK; clear hB hb; have k0 := BK.cell 0 _ rfl; have k1 := BK.cell 1 _ rfl; have k2 := BK.cell 2 _ rfl; have k3 := BK.cell 3 _ rfl; have k4 := BK.cell 4 _ rfl; have k5 := BK.cell 5 _ rfl; have k6 := BK.cell 6 _ rfl; have k7 := BK.cell 7 _ rfl; have k8 := BK.cell 8 _ rfl; have k9 := BK.cell 9 _ rfl; have k10 := BK.cell 10 _ rfl; clear BK) | (go_at_call 83; refine (Q2.out _ HB.out).mono ?_; rintro e w2 ⟨rfl, hb⟩; clear k0 k1 k2 k3 k4 k5 k6 k7 k8 k9 k10; have hB := bel2 HB.out hb; have BK := BL.out.below hb; clear HB BL; have HB := Aside0.mk hB; have BL := Aside0.mk BK; clear hB hb; have k0 := BK.cell 0 _ rfl; have k1 := BK.cell 1 _ rfl; have k2 := BK.cell 2 _ rfl; have k3 := BK.cell 3 _ rfl; have k4 := BK.cell 4 _ rfl; have k5 := BK.cell 5 _ rfl; have k6 := BK.cell 6 _ rfl; have k7 := BK.cell 7 _ rfl; have k8 := BK.cell 8 _ rfl; have k9 := BK.cell 9 _ rfl; have k10 := BK.cell 10 _ rfl; clear BK) | (go_at_call 104; refine (Q3.out _).mono ?_; rintro e w3 ⟨rfl, hb⟩; clear k0 k1 k2 k3 k4 k5 k6 k7 k8 k9 k10; have hB := bel2 HB.out hb; have BK := BL.out.below hb; clear HB BL; have HB := Aside0.mk hB; have BL := Aside0.mk BK; clear hB hb; have k0 := BK.cell 0 _ rfl; have k1 := BK.cell 1 _ rfl; have k2 := BK.cell 2 _ rfl; have k3 := BK.cell 3 _ rfl; have k4 := BK.cell 4 _ rfl; have k5 := BK.cell 5 _ rfl; have k6 := BK.cell 6 _ rfl; have k7 := BK.cell 7 _ rfl; have k8 := BK.cell 8 _ rfl; have k9 := BK.cell 9 _ rfl; have k10 := BK.cell 10 _ rfl; clear BK))
 go_ret
 exact ⟨rfl, HB.out⟩
set_option maxRecDepth 100000 in
set_option maxHeartbeats 2000000 in
theorem check_c5 (x : S38) (cs : List Value) (w : World) (hx : k38.K w x cs) (h_a1 : x.f0 ≤ 4) (h_a2 : x.f9.length ≤ 5) (h_b1 : 0 ≤ x.f0) (h_b2 : inR x.f1 0 x.f2 = true) (h_b3 : x.f2 ≤ 999) (h_b4 : inR x.f3 1 20 = true) (h_b5 : inR x.f4 0 3 = true) (h_c1 : forHours x.f0 x.f5 x.f4 = true) (h_c2 : forHours x.f0 x.f6 20 = true) (h_c3 : inside x.f7 99 = true) (h_c4 : ((x.f8.length : Int) != x.f0 + 1) = false) (h_c5 : x.f8.all (fun r => inside r 99) = false) :
    Calls Try.prog 58 #[.agg cs.toArray] w fun e w' => e = .returned (.int .i64 1) ∧ Below w.heap.size w w' := by
 obtain ⟨A5, c5, A6, c6, A9, c9, A10, c10, hcs, l5, g5, l6, g6, l9, g9, l10, g10⟩ := k38_open hx
 subst hcs
 have hlen9 : x.f8.length ≤ 9223372036854775807 := g9.2.1
 have hlen10 : x.f9.length ≤ 9223372036854775807 := g10.2.1
 have hB0 := fun o => below_alloc (Below.refl w.heap.size w) o
 have HX := Aside0.mk hx
 have G5 := Aside0.mk g5
 have G6 := Aside0.mk g6
 have G9 := Aside0.mk g9
 have G10 := Aside0.mk g10
 clear hx g5 g6 g9 g10 l5 l6 l9 l10
 have hu := Try.underlying38
 have hu2 := Try.underlying35
 have w2 := fun W => within_calls x.f1 0 x.f2 W
 rw [h_b2] at w2
 have w4 := fun W => within_calls x.f3 1 20 W
 rw [h_b4] at w4
 have w5 := fun W => within_calls x.f4 0 3 W
 rw [h_b5] at w5
 have q1 := fun W (hW : Below w.heap.size w W) => isCoal_calls x _ A5 c5 x.f5 W (k38.K_below hW HX.out) (Kd.C_below G5.out hW)
 rw [h_c1] at q1
 have Q1 := Aside0.mk q1
 clear q1
 have q2 := fun W (hW : Below w.heap.size w W) => promised_calls x _ A6 c6 x.f6 W (k38.K_below hW HX.out) (Kd.C_below G6.out hW)
 rw [h_c2] at q2
 have Q2 := Aside0.mk q2
 clear q2
 have q3 := fun W => inside_calls x.f7 99 W
 rw [h_c3] at q3
 have Q3 := Aside0.mk q3
 clear q3
 have q5 := fun W (hW : Below w.heap.size w W) => all_rg 106 #[] #[] (fun r => inside r 99) A9 c9 x.f8 W (enters_of Try.func106 (by kernel_rfl) rfl) (pass_lost W x.f8) (Kd.C_below G9.out hW)
 rw [h_c5] at q5
 have Q5 := Aside0.mk q5
 clear q5
 clear h_b2
 clear h_b4
 clear h_b5
 clear h_c1
 clear h_c2
 clear h_c3
 clear h_c5
 go_enter Try.func58, Try.ntmps58
 go_wp2_with (first | (go_at_call 102; with_reducible refine (w2 _).mono ?_; rintro e w' ⟨rfl, rfl⟩) | (go_at_call 102; with_reducible refine (w4 _).mono ?_; rintro e w' ⟨rfl, rfl⟩) | (go_at_call 102; with_reducible refine (w5 _).mono ?_; rintro e w' ⟨rfl, rfl⟩) | (go_at_call 103; refine (Q1.out _ (hB0 _)).mono ?_; rintro e w1 ⟨rfl, hb⟩; have hB := bel2 (hB0 _) hb; have BK := (Blk.new w _ 38 _ rfl).below hb; have HB := Aside0.mk hB; have BL := Aside0.mk BK; clear hB hb; have k0 := BK.cell 0 _ rfl; have k1 := BK.cell 1 _ rfl; have k2 := BK.cell 2 _ rfl; have k3 := BK.cell 3 _ rfl; have k4 := BK.cell 4 _ rfl; have k5 := BK.cell 5 _ rfl; have k6 := BK.cell 6 _ rfl; have k7 := BK.cell 7 _ rfl; have k8 := BK.cell 8 _ rfl; have k9 := BK.cell 9 _ rfl; have k10 := BK.cell 10 _ rfl; clear BK) | (go_at_call 83; refine (Q2.out _ HB.out).mono ?_; rintro e w2 ⟨rfl, hb⟩; clear k0 k1 k2 k3 k4 k5 k6 k7 k8 k9 k10; have hB := bel2 HB.out hb; have BK := BL.out.below hb; clear HB BL; have HB := Aside0.mk hB; have BL := Aside0.mk BK; clear hB hb; have k0 := BK.cell 0 _ rfl; have k1 := BK.cell 1 _ rfl; have k2 := BK.cell 2 _ rfl; have k3 := BK.cell 3 _ rfl; have k4 := BK.cell 4 _ rfl; have k5 := BK.cell 5 _ rfl; have k6 := BK.cell 6 _ rfl; have k7 := BK.cell 7 _ rfl; have k8 := BK.cell 8 _ rfl; have k9 := BK.cell 9 _ rfl; have k10 := BK.cell 10 _ rfl; clear BK) | (go_at_call 104; refine (Q3.out _).mono ?_; rintro e w3 ⟨rfl, hb⟩; clear k0 k1 k2 k3 k4 k5 k6 k7 k8 k9 k10; have hB := bel2 HB.out hb; have BK := BL.out.below hb; clear HB BL; have HB := Aside0.mk hB; have BL := Aside0.mk BK; clear hB hb; have k0 := BK.cell 0 _ rfl; have k1 := BK.cell 1 _ rfl; have k2 := BK.cell 2 _ rfl; have k3 := BK.cell 3 _ rfl; have k4 := BK.cell 4 _ rfl; have k5 := BK.cell 5 _ rfl; have k6 := BK.cell 6 _ rfl; have k7 := BK.cell 7 _ rfl; have k8 := BK.cell 8 _ rfl; have k9 := BK.cell 9 _ rfl; have k10 := BK.cell 10 _ rfl; clear BK) | (go_at_call 105; refine (Q5.out _ HB.out).mono ?_; rintro e w4 ⟨rfl, hb⟩; clear k0 k1 k2 k3 k4 k5 k6 k7 k8 k9 k10; have hB := bel2 HB.out hb; have BK := BL.out.below hb; clear HB BL; have HB := Aside0.mk hB; have BL := Aside0.mk BK; clear hB hb; have k0 := BK.cell 0 _ rfl; have k1 := BK.cell 1 _ rfl; have k2 := BK.cell 2 _ rfl; have k3 := BK.cell 3 _ rfl; have k4 := BK.cell 4 _ rfl; have k5 := BK.cell 5 _ rfl; have k6 := BK.cell 6 _ rfl; have k7 := BK.cell 7 _ rfl; have k8 := BK.cell 8 _ rfl; have k9 := BK.cell 9 _ rfl; have k10 := BK.cell 10 _ rfl; clear BK))
 go_ret
 exact ⟨rfl, HB.out⟩
set_option maxRecDepth 100000 in
set_option maxHeartbeats 2000000 in
theorem check_c6 (x : S38) (cs : List Value) (w : World) (hx : k38.K w x cs) (h_a1 : x.f0 ≤ 4) (h_a2 : x.f9.length ≤ 5) (h_b1 : 0 ≤ x.f0) (h_b2 : inR x.f1 0 x.f2 = true) (h_b3 : x.f2 ≤ 999) (h_b4 : inR x.f3 1 20 = true) (h_b5 : inR x.f4 0 3 = true) (h_c1 : forHours x.f0 x.f5 x.f4 = true) (h_c2 : forHours x.f0 x.f6 20 = true) (h_c3 : inside x.f7 99 = true) (h_c4 : ((x.f8.length : Int) != x.f0 + 1) = false) (h_c5 : x.f8.all (fun r => inside r 99) = true) (h_c6 : x.f9.all (readingB x.f0) = false) :
    Calls Try.prog 58 #[.agg cs.toArray] w fun e w' => e = .returned (.int .i64 1) ∧ Below w.heap.size w w' := by
 obtain ⟨A5, c5, A6, c6, A9, c9, A10, c10, hcs, l5, g5, l6, g6, l9, g9, l10, g10⟩ := k38_open hx
 subst hcs
 have hlen9 : x.f8.length ≤ 9223372036854775807 := g9.2.1
 have hlen10 : x.f9.length ≤ 9223372036854775807 := g10.2.1
 have hB0 := fun o => below_alloc (Below.refl w.heap.size w) o
 have HX := Aside0.mk hx
 have G5 := Aside0.mk g5
 have G6 := Aside0.mk g6
 have G9 := Aside0.mk g9
 have G10 := Aside0.mk g10
 clear hx g5 g6 g9 g10 l5 l6 l9 l10
 have hu := Try.underlying38
 have hu2 := Try.underlying35
 have w2 := fun W => within_calls x.f1 0 x.f2 W
 rw [h_b2] at w2
 have w4 := fun W => within_calls x.f3 1 20 W
 rw [h_b4] at w4
 have w5 := fun W => within_calls x.f4 0 3 W
 rw [h_b5] at w5
 have q1 := fun W (hW : Below w.heap.size w W) => isCoal_calls x _ A5 c5 x.f5 W (k38.K_below hW HX.out) (Kd.C_below G5.out hW)
 rw [h_c1] at q1
 have Q1 := Aside0.mk q1
 clear q1
 have q2 := fun W (hW : Below w.heap.size w W) => promised_calls x _ A6 c6 x.f6 W (k38.K_below hW HX.out) (Kd.C_below G6.out hW)
 rw [h_c2] at q2
 have Q2 := Aside0.mk q2
 clear q2
 have q3 := fun W => inside_calls x.f7 99 W
 rw [h_c3] at q3
 have Q3 := Aside0.mk q3
 clear q3
 have q5 := fun W (hW : Below w.heap.size w W) => all_rg 106 #[] #[] (fun r => inside r 99) A9 c9 x.f8 W (enters_of Try.func106 (by kernel_rfl) rfl) (pass_lost W x.f8) (Kd.C_below G9.out hW)
 rw [h_c5] at q5
 have Q5 := Aside0.mk q5
 clear q5
 have q6 := fun W (hW : Below w.heap.size w W) => all_rd 101 _ #[] (readingB x.f0) A10 c10 x.f9 W (enters_of Try.func101 (by kernel_rfl) rfl) (pass_reading x _ W (k38.K_below hW HX.out) x.f9) (Kd.C_below G10.out hW)
 rw [h_c6] at q6
 have Q6 := Aside0.mk q6
 clear q6
 clear h_b2
 clear h_b4
 clear h_b5
 clear h_c1
 clear h_c2
 clear h_c3
 clear h_c5
 clear h_c6
 go_enter Try.func58, Try.ntmps58
 go_wp2_with (first | (go_at_call 102; with_reducible refine (w2 _).mono ?_; rintro e w' ⟨rfl, rfl⟩) | (go_at_call 102; with_reducible refine (w4 _).mono ?_; rintro e w' ⟨rfl, rfl⟩) | (go_at_call 102; with_reducible refine (w5 _).mono ?_; rintro e w' ⟨rfl, rfl⟩) | (go_at_call 103; refine (Q1.out _ (hB0 _)).mono ?_; rintro e w1 ⟨rfl, hb⟩; have hB := bel2 (hB0 _) hb; have BK := (Blk.new w _ 38 _ rfl).below hb; have HB := Aside0.mk hB; have BL := Aside0.mk BK; clear hB hb; have k0 := BK.cell 0 _ rfl; have k1 := BK.cell 1 _ rfl; have k2 := BK.cell 2 _ rfl; have k3 := BK.cell 3 _ rfl; have k4 := BK.cell 4 _ rfl; have k5 := BK.cell 5 _ rfl; have k6 := BK.cell 6 _ rfl; have k7 := BK.cell 7 _ rfl; have k8 := BK.cell 8 _ rfl; have k9 := BK.cell 9 _ rfl; have k10 := BK.cell 10 _ rfl; clear BK) | (go_at_call 83; refine (Q2.out _ HB.out).mono ?_; rintro e w2 ⟨rfl, hb⟩; clear k0 k1 k2 k3 k4 k5 k6 k7 k8 k9 k10; have hB := bel2 HB.out hb; have BK := BL.out.below hb; clear HB BL; have HB := Aside0.mk hB; have BL := Aside0.mk BK; clear hB hb; have k0 := BK.cell 0 _ rfl; have k1 := BK.cell 1 _ rfl; have k2 := BK.cell 2 _ rfl; have k3 := BK.cell 3 _ rfl; have k4 := BK.cell 4 _ rfl; have k5 := BK.cell 5 _ rfl; have k6 := BK.cell 6 _ rfl; have k7 := BK.cell 7 _ rfl; have k8 := BK.cell 8 _ rfl; have k9 := BK.cell 9 _ rfl; have k10 := BK.cell 10 _ rfl; clear BK) | (go_at_call 104; refine (Q3.out _).mono ?_; rintro e w3 ⟨rfl, hb⟩; clear k0 k1 k2 k3 k4 k5 k6 k7 k8 k9 k10; have hB := bel2 HB.out hb; have BK := BL.out.below hb; clear HB BL; have HB := Aside0.mk hB; have BL := Aside0.mk BK; clear hB hb; have k0 := BK.cell 0 _ rfl; have k1 := BK.cell 1 _ rfl; have k2 := BK.cell 2 _ rfl; have k3 := BK.cell 3 _ rfl; have k4 := BK.cell 4 _ rfl; have k5 := BK.cell 5 _ rfl; have k6 := BK.cell 6 _ rfl; have k7 := BK.cell 7 _ rfl; have k8 := BK.cell 8 _ rfl; have k9 := BK.cell 9 _ rfl; have k10 := BK.cell 10 _ rfl; clear BK) | (go_at_call 105; refine (Q5.out _ HB.out).mono ?_; rintro e w4 ⟨rfl, hb⟩; clear k0 k1 k2 k3 k4 k5 k6 k7 k8 k9 k10; have hB := bel2 HB.out hb; have BK := BL.out.below hb; clear HB BL; have HB := Aside0.mk hB; have BL := Aside0.mk BK; clear hB hb; have k0 := BK.cell 0 _ rfl; have k1 := BK.cell 1 _ rfl; have k2 := BK.cell 2 _ rfl; have k3 := BK.cell 3 _ rfl; have k4 := BK.cell 4 _ rfl; have k5 := BK.cell 5 _ rfl; have k6 := BK.cell 6 _ rfl; have k7 := BK.cell 7 _ rfl; have k8 := BK.cell 8 _ rfl; have k9 := BK.cell 9 _ rfl; have k10 := BK.cell 10 _ rfl; clear BK) | (go_at_call 107; refine (Q6.out _ HB.out).mono ?_; rintro e w5 ⟨rfl, hb⟩; clear k0 k1 k2 k3 k4 k5 k6 k7 k8 k9 k10; have hB := bel2 HB.out hb; have BK := BL.out.below hb; clear HB BL; have HB := Aside0.mk hB; have BL := Aside0.mk BK; clear hB hb; have k0 := BK.cell 0 _ rfl; have k1 := BK.cell 1 _ rfl; have k2 := BK.cell 2 _ rfl; have k3 := BK.cell 3 _ rfl; have k4 := BK.cell 4 _ rfl; have k5 := BK.cell 5 _ rfl; have k6 := BK.cell 6 _ rfl; have k7 := BK.cell 7 _ rfl; have k8 := BK.cell 8 _ rfl; have k9 := BK.cell 9 _ rfl; have k10 := BK.cell 10 _ rfl; clear BK))
 go_ret
 exact ⟨rfl, HB.out⟩
set_option maxRecDepth 100000 in
set_option maxHeartbeats 4000000 in
theorem check_sizes (x : S38) (cs : List Value) (w : World) (hx : k38.K w x cs) (h_a1 : x.f0 ≤ 4) (h_a2 : x.f9.length ≤ 5) (h_b1 : 0 ≤ x.f0) (h_b2 : inR x.f1 0 x.f2 = true) (h_b3 : x.f2 ≤ 999) (h_b4 : inR x.f3 1 20 = true) (h_b5 : inR x.f4 0 3 = true) (h_c1 : forHours x.f0 x.f5 x.f4 = true) (h_c2 : forHours x.f0 x.f6 20 = true) (h_c3 : inside x.f7 99 = true) (h_c4 : ((x.f8.length : Int) != x.f0 + 1) = false) (h_c5 : x.f8.all (fun r => inside r 99) = true) (h_c6 : x.f9.all (readingB x.f0) = true) :
    Calls Try.prog 58 #[.agg cs.toArray] w fun e w' => e = .returned (.int .i64 (overSize x)) ∧ Below w.heap.size w w' := by
 obtain ⟨A5, c5, A6, c6, A9, c9, A10, c10, hcs, l5, g5, l6, g6, l9, g9, l10, g10⟩ := k38_open hx
 subst hcs
 have hlen9 : x.f8.length ≤ 9223372036854775807 := g9.2.1
 have hlen10 : x.f9.length ≤ 9223372036854775807 := g10.2.1
 have hB0 := fun o => below_alloc (Below.refl w.heap.size w) o
 have HX := Aside0.mk hx
 have G5 := Aside0.mk g5
 have G6 := Aside0.mk g6
 have G9 := Aside0.mk g9
 have G10 := Aside0.mk g10
 clear hx g5 g6 g9 g10 l5 l6 l9 l10
 have hu := Try.underlying38
 have hu2 := Try.underlying35
 have hin7 := inside_iff.1 h_c3
 have hin8 : ∀ r ∈ x.f8, inside r 99 = true := fun r hr => List.all_eq_true.1 h_c5 r hr
 have hs7 := fun W => size_calls x.f7 W hin7.1 hin7.2.1 hin7.2.2
 have HI8 := Lib.hid hin8
 have HS := Lib.hid (show sizes x = manyC (x.f7.f1 - x.f7.f0 + 1) x.f8 from rfl)
 clear hin8
 have w2 := fun W => within_calls x.f1 0 x.f2 W
 rw [h_b2] at w2
 have w4 := fun W => within_calls x.f3 1 20 W
 rw [h_b4] at w4
 have w5 := fun W => within_calls x.f4 0 3 W
 rw [h_b5] at w5
 have q1 := fun W (hW : Below w.heap.size w W) => isCoal_calls x _ A5 c5 x.f5 W (k38.K_below hW HX.out) (Kd.C_below G5.out hW)
 rw [h_c1] at q1
 have Q1 := Aside0.mk q1
 clear q1
 have q2 := fun W (hW : Below w.heap.size w W) => promised_calls x _ A6 c6 x.f6 W (k38.K_below hW HX.out) (Kd.C_below G6.out hW)
 rw [h_c2] at q2
 have Q2 := Aside0.mk q2
 clear q2
 have q3 := fun W => inside_calls x.f7 99 W
 rw [h_c3] at q3
 have Q3 := Aside0.mk q3
 clear q3
 have q5 := fun W (hW : Below w.heap.size w W) => all_rg 106 #[] #[] (fun r => inside r 99) A9 c9 x.f8 W (enters_of Try.func106 (by kernel_rfl) rfl) (pass_lost W x.f8) (Kd.C_below G9.out hW)
 rw [h_c5] at q5
 have Q5 := Aside0.mk q5
 clear q5
 have q6 := fun W (hW : Below w.heap.size w W) => all_rd 101 _ #[] (readingB x.f0) A10 c10 x.f9 W (enters_of Try.func101 (by kernel_rfl) rfl) (pass_reading x _ W (k38.K_below hW HX.out) x.f9) (Kd.C_below G10.out hW)
 rw [h_c6] at q6
 have Q6 := Aside0.mk q6
 clear q6
 clear h_b2
 clear h_b4
 clear h_b5
 clear h_c1
 clear h_c2
 clear h_c3
 clear h_c5
 clear h_c6
 go_enter Try.func58, Try.ntmps58
 go_wp2_with (first | (go_at_call 102; with_reducible refine (w2 _).mono ?_; rintro e w' ⟨rfl, rfl⟩) | (go_at_call 102; with_reducible refine (w4 _).mono ?_; rintro e w' ⟨rfl, rfl⟩) | (go_at_call 102; with_reducible refine (w5 _).mono ?_; rintro e w' ⟨rfl, rfl⟩) | (go_at_call 103; refine (Q1.out _ (hB0 _)).mono ?_; rintro e w1 ⟨rfl, hb⟩; have hB := bel2 (hB0 _) hb; have BK := (Blk.new w _ 38 _ rfl).below hb; have HB := Aside0.mk hB; have BL := Aside0.mk BK; clear hB hb; have k0 := BK.cell 0 _ rfl; have k1 := BK.cell 1 _ rfl; have k2 := BK.cell 2 _ rfl; have k3 := BK.cell 3 _ rfl; have k4 := BK.cell 4 _ rfl; have k5 := BK.cell 5 _ rfl; have k6 := BK.cell 6 _ rfl; have k7 := BK.cell 7 _ rfl; have k8 := BK.cell 8 _ rfl; have k9 := BK.cell 9 _ rfl; have k10 := BK.cell 10 _ rfl; clear BK) | (go_at_call 83; refine (Q2.out _ HB.out).mono ?_; rintro e w2 ⟨rfl, hb⟩; clear k0 k1 k2 k3 k4 k5 k6 k7 k8 k9 k10; have hB := bel2 HB.out hb; have BK := BL.out.below hb; clear HB BL; have HB := Aside0.mk hB; have BL := Aside0.mk BK; clear hB hb; have k0 := BK.cell 0 _ rfl; have k1 := BK.cell 1 _ rfl; have k2 := BK.cell 2 _ rfl; have k3 := BK.cell 3 _ rfl; have k4 := BK.cell 4 _ rfl; have k5 := BK.cell 5 _ rfl; have k6 := BK.cell 6 _ rfl; have k7 := BK.cell 7 _ rfl; have k8 := BK.cell 8 _ rfl; have k9 := BK.cell 9 _ rfl; have k10 := BK.cell 10 _ rfl; clear BK) | (go_at_call 104; refine (Q3.out _).mono ?_; rintro e w3 ⟨rfl, hb⟩; clear k0 k1 k2 k3 k4 k5 k6 k7 k8 k9 k10; have hB := bel2 HB.out hb; have BK := BL.out.below hb; clear HB BL; have HB := Aside0.mk hB; have BL := Aside0.mk BK; clear hB hb; have k0 := BK.cell 0 _ rfl; have k1 := BK.cell 1 _ rfl; have k2 := BK.cell 2 _ rfl; have k3 := BK.cell 3 _ rfl; have k4 := BK.cell 4 _ rfl; have k5 := BK.cell 5 _ rfl; have k6 := BK.cell 6 _ rfl; have k7 := BK.cell 7 _ rfl; have k8 := BK.cell 8 _ rfl; have k9 := BK.cell 9 _ rfl; have k10 := BK.cell 10 _ rfl; clear BK) | (go_at_call 105; refine (Q5.out _ HB.out).mono ?_; rintro e w4 ⟨rfl, hb⟩; clear k0 k1 k2 k3 k4 k5 k6 k7 k8 k9 k10; have hB := bel2 HB.out hb; have BK := BL.out.below hb; clear HB BL; have HB := Aside0.mk hB; have BL := Aside0.mk BK; clear hB hb; have k0 := BK.cell 0 _ rfl; have k1 := BK.cell 1 _ rfl; have k2 := BK.cell 2 _ rfl; have k3 := BK.cell 3 _ rfl; have k4 := BK.cell 4 _ rfl; have k5 := BK.cell 5 _ rfl; have k6 := BK.cell 6 _ rfl; have k7 := BK.cell 7 _ rfl; have k8 := BK.cell 8 _ rfl; have k9 := BK.cell 9 _ rfl; have k10 := BK.cell 10 _ rfl; clear BK) | (go_at_call 107; refine (Q6.out _ HB.out).mono ?_; rintro e w5 ⟨rfl, hb⟩; clear k0 k1 k2 k3 k4 k5 k6 k7 k8 k9 k10; have hB := bel2 HB.out hb; have BK := BL.out.below hb; clear HB BL; have HB := Aside0.mk hB; have BL := Aside0.mk BK; clear hB hb; have k0 := BK.cell 0 _ rfl; have k1 := BK.cell 1 _ rfl; have k2 := BK.cell 2 _ rfl; have k3 := BK.cell 3 _ rfl; have k4 := BK.cell 4 _ rfl; have k5 := BK.cell 5 _ rfl; have k6 := BK.cell 6 _ rfl; have k7 := BK.cell 7 _ rfl; have k8 := BK.cell 8 _ rfl; have k9 := BK.cell 9 _ rfl; have k10 := BK.cell 10 _ rfl; clear BK) | (go_at_call 108; refine (hs7 _).mono ?_; rintro e w6 ⟨rfl, hb⟩; clear k0 k1 k2 k3 k4 k5 k6 k7 k8 k9 k10; have hB := bel2 HB.out hb; have BK := BL.out.below hb; clear HB BL; have HB := Aside0.mk hB; have BL := Aside0.mk BK; clear hB hb; have k0 := BK.cell 0 _ rfl; have k1 := BK.cell 1 _ rfl; have k2 := BK.cell 2 _ rfl; have k3 := BK.cell 3 _ rfl; have k4 := BK.cell 4 _ rfl; have k5 := BK.cell 5 _ rfl; have k6 := BK.cell 6 _ rfl; have k7 := BK.cell 7 _ rfl; have k8 := BK.cell 8 _ rfl; have k9 := BK.cell 9 _ rfl; have k10 := BK.cell 10 _ rfl; clear BK))
 clear w2 w4 w5 Q1 Q2 Q3 Q5 Q6 hs7 k0 k1 k2 k3 k4 k5 k6 k7 k8 k9 k10
 go_loopw [4, 95] (fun s4 s95 wr => ∃ kk : Nat, kk ≤ x.f8.length ∧ s95 = .int .i64 kk ∧ s4 = .int .i64 (manyC (x.f7.f1 - x.f7.f0 + 1) (x.f8.take kk)) ∧ Aside0 (Below w.heap.size w wr)) (fun _ s95 _ => x.f8.length - (intOf s95).toNat)
 case atStart => exact ⟨0, Nat.zero_le _, rfl, rfl, HB⟩
 case round =>
  obtain ⟨kk, hkk, rfl, rfl, BW⟩ := hrel
  have hbd := manyC_bd (x.f8.take kk) (fun r hr => HI8.out r (List.mem_of_mem_take hr)) (x.f7.f1 - x.f7.f0 + 1) (by omega) (by omega)
  have hb0 := hbd.1
  have hb1 := hbd.2
  clear hbd
  by_cases hlt : kk < x.f8.length
  ·have hltz : (kk : Int) < (x.f8.length : Int) := by omega
   obtain ⟨ad, hA, hc0, hc1⟩ := row_at_rg (Kd.C_below G9.out BW.out) kk hlt
   obtain rfl := hA
   have hr := inside_iff.1 (HI8.out x.f8[kk] (List.getElem_mem hlt))
   have hsn : manyC (x.f7.f1 - x.f7.f0 + 1) (x.f8.take (kk + 1)) = mn2 (manyC (x.f7.f1 - x.f7.f0 + 1) (x.f8.take kk) * (x.f8[kk].f1 - x.f8[kk].f0 + 1)) 2001 := by
    rw [List.take_succ_eq_append_getElem hlt]; exact manyC_snoc _ _ _
   generalize hm : manyC (x.f7.f1 - x.f7.f0 + 1) (x.f8.take kk) = m at hb0 hb1 hsn ⊢
   generalize hy : x.f8[kk] = y at hc0 hc1 hr hsn
   have HSN := Lib.hid hsn
   clear hsn hm hy
   obtain ⟨hr0, hr1, hr2⟩ := hr
   have hs := fun W => size_calls y W hr0 hr1 hr2
   have hp0 : 0 ≤ m * (y.f1 - y.f0 + 1) := Int.mul_nonneg hb0 (by omega)
   have hp1 : m * (y.f1 - y.f0 + 1) ≤ 2001 * 100 := Int.mul_le_mul hb1 (by omega) (by omega) (by omega)
   generalize hz : y.f1 - y.f0 + 1 = z at hp0 hp1 hs HSN
   have hbA := fun o => below_alloc (Below.refl wr.heap.size wr) o
   clear hz
   go_wp2_with (first | (go_at_call 108; refine (hs _).mono ?_; rintro e w7 ⟨rfl, hb⟩; have hB7 := bel2 BW.out (bel2 (hbA _) hb); have HB7 := Aside0.mk hB7; clear hB7 hb) | (go_at_call 109; refine (minimum_calls _ _ (m * z) 2001 _ (cell_last _ _ _ _ rfl 0 _ rfl) (cell_last _ _ _ _ rfl 1 _ rfl)).mono ?_; rintro e w8 ⟨rfl, rfl⟩))
   go_roundw
   case rel => exact ⟨kk + 1, by omega, by go_num, by rw [HSN.out], ⟨below_alloc HB7.out _⟩⟩
   case measure => simp [intOf]; omega
  ·have hltz : ¬ (kk : Int) < (x.f8.length : Int) := by omega
   obtain rfl : kk = x.f8.length := by omega
   rw [List.take_length] at hb0 hb1 ⊢
   generalize hgm : manyC (x.f7.f1 - x.f7.f0 + 1) x.f8 = m at hb0 hb1 ⊢
   have HM : Hid (sizes x = m) := HS.out.trans hgm
   clear hgm
   by_cases hm : 2000 < m
   ·go_wp2
    go_ret
    exact ⟨ret_int (by unfold overSize; rw [HM.out]; exact (if_pos (by omega)).symm), BW.out⟩
   ·go_wp2
    go_ret
    exact ⟨ret_int (by unfold overSize; rw [HM.out]; exact (if_neg (by omega)).symm), BW.out⟩
/-- CheckCopper, whatever the coppers are. -/
theorem check_calls (x : S38) (cs : List Value) (w : World) (hx : k38.K w x cs) :
    Calls Try.prog 58 #[.agg cs.toArray] w fun e w' => e = .returned (.int .i64 (faultC x)) ∧ Below w.heap.size w w' := by
 unfold faultC
 by_cases f_a1 : 4 < x.f0
 ·rw [if_pos f_a1]
  exact check_a1 x cs w hx  f_a1
 rw [if_neg f_a1]
 have t_a1 : x.f0 ≤ 4 := by first | omega | simpa using f_a1
 by_cases f_a2 : 5 < x.f9.length
 ·rw [if_pos f_a2]
  exact check_a2 x cs w hx t_a1 f_a2
 rw [if_neg f_a2]
 have t_a2 : x.f9.length ≤ 5 := by first | omega | simpa using f_a2
 by_cases f_b1 : x.f0 < 0
 ·rw [if_pos f_b1]
  exact check_b1 x cs w hx t_a1 t_a2 f_b1
 rw [if_neg f_b1]
 have t_b1 : 0 ≤ x.f0 := by first | omega | simpa using f_b1
 by_cases f_b2 : inR x.f1 0 x.f2 = false
 ·rw [if_pos f_b2]
  exact check_b2 x cs w hx t_a1 t_a2 t_b1 f_b2
 rw [if_neg f_b2]
 have t_b2 : inR x.f1 0 x.f2 = true := by first | omega | simpa using f_b2
 by_cases f_b3 : 999 < x.f2
 ·rw [if_pos f_b3]
  exact check_b3 x cs w hx t_a1 t_a2 t_b1 t_b2 f_b3
 rw [if_neg f_b3]
 have t_b3 : x.f2 ≤ 999 := by first | omega | simpa using f_b3
 by_cases f_b4 : inR x.f3 1 20 = false
 ·rw [if_pos f_b4]
  exact check_b4 x cs w hx t_a1 t_a2 t_b1 t_b2 t_b3 f_b4
 rw [if_neg f_b4]
 have t_b4 : inR x.f3 1 20 = true := by first | omega | simpa using f_b4
 by_cases f_b5 : inR x.f4 0 3 = false
 ·rw [if_pos f_b5]
  exact check_b5 x cs w hx t_a1 t_a2 t_b1 t_b2 t_b3 t_b4 f_b5
 rw [if_neg f_b5]
 have t_b5 : inR x.f4 0 3 = true := by first | omega | simpa using f_b5
 by_cases f_c1 : forHours x.f0 x.f5 x.f4 = false
 ·rw [if_pos f_c1]
  exact check_c1 x cs w hx t_a1 t_a2 t_b1 t_b2 t_b3 t_b4 t_b5 f_c1
 rw [if_neg f_c1]
 have t_c1 : forHours x.f0 x.f5 x.f4 = true := by first | omega | simpa using f_c1
 by_cases f_c2 : forHours x.f0 x.f6 20 = false
 ·rw [if_pos f_c2]
  exact check_c2 x cs w hx t_a1 t_a2 t_b1 t_b2 t_b3 t_b4 t_b5 t_c1 f_c2
 rw [if_neg f_c2]
 have t_c2 : forHours x.f0 x.f6 20 = true := by first | omega | simpa using f_c2
 by_cases f_c3 : inside x.f7 99 = false
 ·rw [if_pos f_c3]
  exact check_c3 x cs w hx t_a1 t_a2 t_b1 t_b2 t_b3 t_b4 t_b5 t_c1 t_c2 f_c3
 rw [if_neg f_c3]
 have t_c3 : inside x.f7 99 = true := by first | omega | simpa using f_c3
 by_cases f_c4 : ((x.f8.length : Int) != x.f0 + 1) = true
 ·rw [if_pos f_c4]
  exact check_c4 x cs w hx t_a1 t_a2 t_b1 t_b2 t_b3 t_b4 t_b5 t_c1 t_c2 t_c3 f_c4
 rw [if_neg f_c4]
 have t_c4 : ((x.f8.length : Int) != x.f0 + 1) = false := by first | omega | simpa using f_c4
 by_cases f_c5 : x.f8.all (fun r => inside r 99) = false
 ·rw [if_pos f_c5]
  exact check_c5 x cs w hx t_a1 t_a2 t_b1 t_b2 t_b3 t_b4 t_b5 t_c1 t_c2 t_c3 t_c4 f_c5
 rw [if_neg f_c5]
 have t_c5 : x.f8.all (fun r => inside r 99) = true := by first | omega | simpa using f_c5
 by_cases f_c6 : x.f9.all (readingB x.f0) = false
 ·rw [if_pos f_c6]
  exact check_c6 x cs w hx t_a1 t_a2 t_b1 t_b2 t_b3 t_b4 t_b5 t_c1 t_c2 t_c3 t_c4 t_c5 f_c6
 rw [if_neg f_c6]
 have t_c6 : x.f9.all (readingB x.f0) = true := by first | omega | simpa using f_c6
 exact check_sizes x cs w hx t_a1 t_a2 t_b1 t_b2 t_b3 t_b4 t_b5 t_c1 t_c2 t_c3 t_c4 t_c5 t_c6
end Go.Proofs.Ytdgkhoflajdidaa
/- Three rows of the call's own that one statement appends to, in whatever order its operations come up: what each step leaves. -/
namespace Go.Proofs.Ytdgkhoflajdidaa
open Go.RowKit Go.Proofs.YtdgkhoflajdidaaW.PrintWords Go.Proofs.YtdgkhoflajdidaaW.PrintMore Go.Proofs.YtdgkhoflajdidaaW.PrintLast Go.Proofs.Ytdgkhoflajdidaa.Print
set_option linter.unusedVariables false
set_option linter.unusedSimpArgs false
/-- Below base nothing has turned but block g. -/
structure KeepX (base g : Nat) (W w : World) : Prop where
 os : w.os = W.os
 tape : w.tape = W.tape
 output : w.output = W.output
 size : W.heap.size ≤ w.heap.size
 block : ∀ k, k < base → k ≠ g → w.heap[k]? = W.heap[k]?
theorem KeepX.refl (base g : Nat) (W : World) : KeepX base g W W := ⟨rfl, rfl, rfl, Nat.le_refl _, fun _ _ _ => rfl⟩
theorem KeepX.alloc {base g : Nat} {W w : World} (h : KeepX base g W w) (hb : base ≤ w.heap.size) (o : Obj) : KeepX base g W (w.alloc o) :=
 ⟨h.os, h.tape, h.output, Nat.le_trans h.size (by simp), fun k hk hg => (Below.heap_alloc w o k (by omega)).trans (h.block k hk hg)⟩
theorem KeepX.grown {base g : Nat} {W w w1 : World} {row : Option Nat} (h : KeepX base g W w) (hb : base ≤ w.heap.size) (hg : w.grownBy w1 row) (hr : ∀ k, row = some k → base ≤ k) : KeepX base g W w1 :=
 ⟨hg.os.trans h.os, hg.tape.trans h.tape, hg.output.trans h.output, Nat.le_trans h.size hg.size, fun k hk hk2 => (hg.block k (by omega) (fun e => by have := hr k e.symm; omega)).trans (h.block k hk hk2)⟩
theorem KeepX.set {base g : Nat} {W w : World} (h : KeepX base g W w) (j : Nat) (v : Value) : KeepX base g W (w.setCell ⟨g, j, none⟩ v) :=
 ⟨h.os, h.tape, h.output, by have := h.size; simpa [World.setCell] using this, fun k hk hg => (Below.heap_setCell w _ v k hg).trans (h.block k hk hg)⟩
theorem KeepX.below {base g B : Nat} {w0 W w : World} (h : KeepX base g W w) (hB : Below B w0 W) (h1 : B ≤ base) (h2 : B ≤ g) : Below B w0 w :=
 ⟨h.os.trans hB.os, h.tape.trans hB.tape, h.output.trans hB.output, Nat.le_trans hB.size h.size, fun k hk => (h.block k (by omega) (by omega)).trans (hB.block k hk)⟩
theorem KeepX.blk {base g : Nat} {W w : World} (h : KeepX base g W w) {k : Nat} {cs : Array Value} {t : TypeId} (hb : Blk W k cs t) (hk : k < base) (hne : k ≠ g) : Blk w k cs t := (h.block k hk hne).trans hb
/-- A function turned at one place. -/
def upd {α : Type} (f : Nat → α) (i : Nat) (v : α) : Nat → α := fun j => if j = i then v else f j
theorem upd_self {α : Type} (f : Nat → α) (i : Nat) (v : α) : upd f i v i = v := by simp [upd]
theorem upd_ne {α : Type} (f : Nat → α) {i j : Nat} (v : α) (h : j ≠ i) : upd f i v j = f j := by simp [upd, h]
/-- Three rows r (elements of types e, cells xs), a struct at g (cells gc), literal slices that have been laid (lit). -/
structure PSt (base g : Nat) (t : TypeId) (W w : World) (e : Nat → TypeId) (r : Nat → Value) (xs : Nat → List Value) (gc : Array Value) (lit : Nat → Option (Nat × Value)) : Prop where
 keep : KeepX base g W w
 le : base ≤ w.heap.size
 gb : g < base
 own : ∀ i, i < 3 → w.ownsRow base (e i) 1 (r i) (xs i).length (xs i)
 ap : ∀ i j, i < 3 → j < 3 → i ≠ j → (r i).ownBlock = none ∨ (r i).ownBlock ≠ (r j).ownBlock
 blk : Blk w g gc t
 lits : ∀ i p y, i < 3 → lit i = some (p, y) → Blk w p #[y] (e i) ∧ base ≤ p ∧ ∀ j, j < 3 → (r j).ownBlock ≠ some p
section
variable {base g : Nat} {t : TypeId} {W w : World} {e : Nat → TypeId} {r : Nat → Value} {xs : Nat → List Value} {gc : Array Value} {lit : Nat → Option (Nat × Value)}
theorem PSt.alloc (h : PSt base g t W w e r xs gc lit) (i : Nat) (y : Value) : PSt base g t W (w.alloc (.cells #[y] (e i))) e r xs gc (upd lit i (some (w.heap.size, y))) where
 keep := h.keep.alloc h.le _
 le := Nat.le_trans h.le (by simp)
 gb := h.gb
 own := fun j hj => (h.own j hj).alloc _
 ap := h.ap
 blk := h.blk.alloc _
 lits := fun j p y' hj hl => by
  by_cases hji : j = i
  ·subst hji
   rw [upd_self] at hl
   cases hl
   refine ⟨Blk.new w _ _ _ rfl, h.le, fun q hq hk => ?_⟩
   have := own_lt (h.own q hq) _ hk
   omega
  ·rw [upd_ne _ _ hji] at hl
   obtain ⟨h1, h2, h3⟩ := h.lits j p y' hj hl
   exact ⟨h1.alloc _, h2, h3⟩
theorem PSt.app {w1 : World} {v1 y : Value} (h : PSt base g t W w e r xs gc lit) (i : Nat) (hi : i < 3) (hown : w1.ownsRow base (e i) 1 v1 (xs i ++ [y]).length (xs i ++ [y])) (hg : w.grownBy w1 (r i).ownBlock)
    (hat : v1.ownBlock = (r i).ownBlock ∨ v1.ownBlock = some w.heap.size) : PSt base g t W w1 e (upd r i v1) (upd xs i (xs i ++ [y])) gc lit where
 keep := h.keep.grown h.le hg (own_base (h.own i hi))
 le := Nat.le_trans h.le hg.size
 gb := h.gb
 own := fun j hj => by
  by_cases hji : j = i
  ·subst hji; rw [upd_self, upd_self]; exact hown
  ·rw [upd_ne _ _ hji, upd_ne _ _ hji]
   exact own_other (h.own j hj) hg (h.ap j i hj hi hji)
 ap := fun j k hj hk hjk => by
  by_cases hji : j = i
  ·subst hji
   rw [upd_self, upd_ne _ _ (Ne.symm hjk)]
   rcases hat with hat | hat
   ·rw [hat]; exact h.ap _ _ hj hk hjk
   ·rw [hat]; exact .inr (fun e => by have := own_lt (h.own k hk) _ e.symm; omega)
  ·rw [upd_ne _ _ hji]
   by_cases hki : k = i
   ·subst hki
    rw [upd_self]
    rcases hat with hat | hat
    ·rw [hat]; exact h.ap _ _ hj hk hjk
    ·rw [hat]; exact .inr (fun e => by have := own_lt (h.own j hj) _ e; omega)
   ·rw [upd_ne _ _ hki]; exact h.ap _ _ hj hk hjk
 blk := h.blk.grown hg (fun e => by have h1 := own_base (h.own i hi) _ e.symm; have h2 := h.gb; omega)
 lits := fun j p y' hj hl => by
  obtain ⟨h1, h2, h3⟩ := h.lits j p y' hj hl
  refine ⟨h1.grown hg (fun e => h3 i hi e.symm), h2, fun k hk => ?_⟩
  by_cases hki : k = i
  ·subst hki
   rw [upd_self]
   rcases hat with hat | hat
   ·rw [hat]; exact h3 _ hk
   ·rw [hat]; intro e; cases e; have := h1.lt; omega
  ·rw [upd_ne _ _ hki]; exact h3 k hk
theorem PSt.store (h : PSt base g t W w e r xs gc lit) (j : Nat) (v : Value) : PSt base g t W (w.setCell ⟨g, j, none⟩ v) e r xs (gc.setIfInBounds j v) lit where
 keep := h.keep.set j v
 le := by have := h.le; simpa [World.setCell] using this
 gb := h.gb
 own := fun i hi => ownsRow_setCell_below (h.own i hi) h.gb v
 ap := h.ap
 blk := h.blk.set j v
 lits := fun i p y hi hl => by
  obtain ⟨h1, h2, h3⟩ := h.lits i p y hi hl
  exact ⟨h1.set_other (by have := h.gb; show p ≠ g; omega) v, h2, h3⟩
end
/-- An append of one element that lies in a block, as an operation of a region. -/
theorem append_op {P : Program} {ops : Array Oper} {o : Oper} {a : Act} {K : Act → World → Prop} {Q : Exit → Act → World → Prop} {w : World} (s x : Operand) (t e : TypeId) (z : Value) (bytes : Nat)
    (hw : Region.wanted o (yielded ops a.tmps) = true) (ho : o.op = .call { callee := .builtin .append, args := #[s, x], argTypes := #[t, t] })
    (ht : P.underlying t = some (.slice e)) (hinfo : (P.info? e).map (fun i => (i.zero, i.size, i.bytes)) = some (some z, 1, bytes)) (hz : z.cells.size = 1) (hb0 : 0 < bytes) (base : Nat) (v : Value) (xs : List Value) (y : Value) (p c : Nat)
    (hs : a.eval s = v) (hx : a.eval x = .slice (some ⟨p, 0, none⟩) 1 c) (hown : w.ownsRow base e 1 v xs.length xs) (hc : w.cell? ⟨p, 0, none⟩ = some y) (h1 : y.oneCell' = true) (hl : (xs.length + 1) * bytes ≤ 140737488355328) (hbase : base ≤ w.heap.size)
    (h : ∀ v1 w1, w1.ownsRow base e 1 v1 (xs ++ [y]).length (xs ++ [y]) → w.grownBy w1 v.ownBlock → (v1.ownBlock = v.ownBlock ∨ v1.ownBlock = some w.heap.size) → K (a.put o.dst v1) w1) :
    if Region.wanted o (yielded ops a.tmps) = true then Oper.wp P o a w K Q else K (a.put o.dst undef) w := by
 obtain ⟨i0, hi, hzz⟩ := Option.map_eq_some_iff.1 hinfo
 simp only [Prod.mk.injEq] at hzz
 obtain ⟨hz0, hz1, hz2⟩ := hzz
 have hlen : xs.length + 1 ≤ 140737488355328 := Nat.le_trans (Nat.le_mul_of_pos_right _ hb0) hl
 obtain ⟨v', w', hr, h2, h3, h4, h5⟩ := run_append_own_at (P := P) (w := w) base t o.type e i0 z 1 bytes ht hi hz0 hz1 hz2 hz (by decide) v xs.length xs hown ⟨p, 0, none⟩ 1 c [y] rfl
  (fun j u hj => by
   match j, hj with
   | 0, hj => simp at hj; subst hj; exact hc) (by simpa using h1) (by simp only [maxLen]; omega) hl hbase
 refine value_ (w1 := w') (v := v') hw rfl ?_ (h v' w' (by simpa using h2) h3 h5)
 unfold execOp
 simp only [ho, resolve, invoke, builtin, Sem.run_bind, Sem.run_pure, Result.andThen_ok, List.map_toArray, List.map_cons, List.map_nil, hs, hx, hr]
/-- Three things by number. -/
def sel3 {α : Type} (a b c : α) : Nat → α
 | 0 => a
 | 1 => b
 | _ => c
theorem upd_sel0 {α : Type} (a b c v : α) : ∀ j, j < 3 → upd (sel3 a b c) 0 v j = sel3 v b c j := by
 intro j hj
 match j, hj with
 | 0, _ => rfl
 | 1, _ => rfl
 | 2, _ => rfl
theorem upd_sel1 {α : Type} (a b c v : α) : ∀ j, j < 3 → upd (sel3 a b c) 1 v j = sel3 a v c j := by
 intro j hj
 match j, hj with
 | 0, _ => rfl
 | 1, _ => rfl
 | 2, _ => rfl
theorem upd_sel2 {α : Type} (a b c v : α) : ∀ j, j < 3 → upd (sel3 a b c) 2 v j = sel3 a b v j := by
 intro j hj
 match j, hj with
 | 0, _ => rfl
 | 1, _ => rfl
 | 2, _ => rfl
theorem PSt.same {base g : Nat} {t : TypeId} {W w : World} {e : Nat → TypeId} {r r' : Nat → Value} {xs xs' : Nat → List Value} {gc : Array Value} {lit lit' : Nat → Option (Nat × Value)} (h : PSt base g t W w e r xs gc lit)
    (hr : ∀ j, j < 3 → r j = r' j) (hx : ∀ j, j < 3 → xs j = xs' j) (hl : ∀ j, j < 3 → lit j = lit' j) : PSt base g t W w e r' xs' gc lit' where
 keep := h.keep
 le := h.le
 gb := h.gb
 own := fun i hi => by rw [← hr i hi, ← hx i hi]; exact h.own i hi
 ap := fun i j hi hj hij => by rw [← hr i hi, ← hr j hj]; exact h.ap i j hi hj hij
 blk := h.blk
 lits := fun i p y hi hl' => by
  rw [← hl i hi] at hl'
  obtain ⟨h1, h2, h3⟩ := h.lits i p y hi hl'
  exact ⟨h1, h2, fun j hj => by rw [← hr j hj]; exact h3 j hj⟩
/-- The three rows of the past while they are appended to: c0, c1, c2: which appends have been made; s0, s1, s2: which stores; q0, q1, q2: which literals have been laid. -/
def PSb (base g : Nat) (W w : World) (u0 u1 u2 v0 v1 v2 : Value) (X0 X1 X2 : List Value) (y0 y1 y2 : Value) (p0 p1 p2 : Nat) (c0 c1 c2 s0 s1 s2 q0 q1 q2 : Bool) : Prop :=
 PSt base g 114 W w (sel3 3 3 4) (sel3 (cond c0 v0 u0) (cond c1 v1 u1) (cond c2 v2 u2)) (sel3 (cond c0 (X0 ++ [y0]) X0) (cond c1 (X1 ++ [y1]) X1) (cond c2 (X2 ++ [y2]) X2)) #[cond s0 v0 u0, cond s1 v1 u1, cond s2 v2 u2]
  (sel3 (cond q0 (some (p0, y0)) none) (cond q1 (some (p1, y1)) none) (cond q2 (some (p2, y2)) none))
section
variable {base g : Nat} {W w w1 : World} {u0 u1 u2 v0 v1 v2 v : Value} {X0 X1 X2 : List Value} {y0 y1 y2 : Value} {p0 p1 p2 : Nat} {c0 c1 c2 s0 s1 s2 q0 q1 q2 : Bool}
theorem PSb.lit0 (h : PSb base g W w u0 u1 u2 v0 v1 v2 X0 X1 X2 y0 y1 y2 p0 p1 p2 c0 c1 c2 s0 s1 s2 false q1 q2) : PSb base g W (w.alloc (.cells #[y0] 3)) u0 u1 u2 v0 v1 v2 X0 X1 X2 y0 y1 y2 w.heap.size p1 p2 c0 c1 c2 s0 s1 s2 true q1 q2 :=
 (PSt.alloc h 0 y0).same (fun _ _ => rfl) (fun _ _ => rfl) (upd_sel0 _ _ _ _)
theorem PSb.lit1 (h : PSb base g W w u0 u1 u2 v0 v1 v2 X0 X1 X2 y0 y1 y2 p0 p1 p2 c0 c1 c2 s0 s1 s2 q0 false q2) : PSb base g W (w.alloc (.cells #[y1] 3)) u0 u1 u2 v0 v1 v2 X0 X1 X2 y0 y1 y2 p0 w.heap.size p2 c0 c1 c2 s0 s1 s2 q0 true q2 :=
 (PSt.alloc h 1 y1).same (fun _ _ => rfl) (fun _ _ => rfl) (upd_sel1 _ _ _ _)
theorem PSb.lit2 (h : PSb base g W w u0 u1 u2 v0 v1 v2 X0 X1 X2 y0 y1 y2 p0 p1 p2 c0 c1 c2 s0 s1 s2 q0 q1 false) : PSb base g W (w.alloc (.cells #[y2] 4)) u0 u1 u2 v0 v1 v2 X0 X1 X2 y0 y1 y2 p0 p1 w.heap.size c0 c1 c2 s0 s1 s2 q0 q1 true :=
 (PSt.alloc h 2 y2).same (fun _ _ => rfl) (fun _ _ => rfl) (upd_sel2 _ _ _ _)
theorem PSb.app0 (h : PSb base g W w u0 u1 u2 v0 v1 v2 X0 X1 X2 y0 y1 y2 p0 p1 p2 false c1 c2 false s1 s2 q0 q1 q2) (hown : w1.ownsRow base 3 1 v (X0 ++ [y0]).length (X0 ++ [y0])) (hg : w.grownBy w1 u0.ownBlock) (hat : v.ownBlock = u0.ownBlock ∨ v.ownBlock = some w.heap.size) :
    PSb base g W w1 u0 u1 u2 v v1 v2 X0 X1 X2 y0 y1 y2 p0 p1 p2 true c1 c2 false s1 s2 q0 q1 q2 :=
 (PSt.app h 0 (by decide) hown hg hat).same (upd_sel0 _ _ _ _) (upd_sel0 _ _ _ _) (fun _ _ => rfl)
theorem PSb.app1 (h : PSb base g W w u0 u1 u2 v0 v1 v2 X0 X1 X2 y0 y1 y2 p0 p1 p2 c0 false c2 s0 false s2 q0 q1 q2) (hown : w1.ownsRow base 3 1 v (X1 ++ [y1]).length (X1 ++ [y1])) (hg : w.grownBy w1 u1.ownBlock) (hat : v.ownBlock = u1.ownBlock ∨ v.ownBlock = some w.heap.size) :
    PSb base g W w1 u0 u1 u2 v0 v v2 X0 X1 X2 y0 y1 y2 p0 p1 p2 c0 true c2 s0 false s2 q0 q1 q2 :=
 (PSt.app h 1 (by decide) hown hg hat).same (upd_sel1 _ _ _ _) (upd_sel1 _ _ _ _) (fun _ _ => rfl)
theorem PSb.app2 (h : PSb base g W w u0 u1 u2 v0 v1 v2 X0 X1 X2 y0 y1 y2 p0 p1 p2 c0 c1 false s0 s1 false q0 q1 q2) (hown : w1.ownsRow base 4 1 v (X2 ++ [y2]).length (X2 ++ [y2])) (hg : w.grownBy w1 u2.ownBlock) (hat : v.ownBlock = u2.ownBlock ∨ v.ownBlock = some w.heap.size) :
    PSb base g W w1 u0 u1 u2 v0 v1 v X0 X1 X2 y0 y1 y2 p0 p1 p2 c0 c1 true s0 s1 false q0 q1 q2 :=
 (PSt.app h 2 (by decide) hown hg hat).same (upd_sel2 _ _ _ _) (upd_sel2 _ _ _ _) (fun _ _ => rfl)
theorem PSb.store0 (h : PSb base g W w u0 u1 u2 v0 v1 v2 X0 X1 X2 y0 y1 y2 p0 p1 p2 c0 c1 c2 false s1 s2 q0 q1 q2) : PSb base g W (w.setCell ⟨g, 0, none⟩ v0) u0 u1 u2 v0 v1 v2 X0 X1 X2 y0 y1 y2 p0 p1 p2 c0 c1 c2 true s1 s2 q0 q1 q2 := PSt.store h 0 v0
theorem PSb.store1 (h : PSb base g W w u0 u1 u2 v0 v1 v2 X0 X1 X2 y0 y1 y2 p0 p1 p2 c0 c1 c2 s0 false s2 q0 q1 q2) : PSb base g W (w.setCell ⟨g, 1, none⟩ v1) u0 u1 u2 v0 v1 v2 X0 X1 X2 y0 y1 y2 p0 p1 p2 c0 c1 c2 s0 true s2 q0 q1 q2 := PSt.store h 1 v1
theorem PSb.store2 (h : PSb base g W w u0 u1 u2 v0 v1 v2 X0 X1 X2 y0 y1 y2 p0 p1 p2 c0 c1 c2 s0 s1 false q0 q1 q2) : PSb base g W (w.setCell ⟨g, 2, none⟩ v2) u0 u1 u2 v0 v1 v2 X0 X1 X2 y0 y1 y2 p0 p1 p2 c0 c1 c2 s0 s1 true q0 q1 q2 := PSt.store h 2 v2
end
end Go.Proofs.Ytdgkhoflajdidaa
/- What is played: the plain functions, and what is valid. -/
namespace Go.Proofs.Ytdgkhoflajdidaa
open Go.RowKit Go.Proofs.YtdgkhoflajdidaaW.PrintWords Go.Proofs.YtdgkhoflajdidaaW.PrintMore Go.Proofs.YtdgkhoflajdidaaW.PrintLast Go.Proofs.Ytdgkhoflajdidaa.Print
set_option linter.unusedVariables false
set_option linter.unusedSimpArgs false
/-- What is lost in an hour. -/
def Sc.loss (s : Sc) : Nat → Int
 | 0 => s.l0
 | 1 => s.l1
 | 2 => s.l2
 | 3 => s.l3
 | 4 => s.l4
 | _ => 0
/-- The heat before a bucket is drawn, out of what was left. -/
def preH (x : S38) (s : Sc) (coal : List Int) (heat : Int) (k : Nat) : Int := mx2 0 (mn2 x.f2 (heat + coal.getD k 0 * s.h) - s.loss k)
/-- Is the promise kept. -/
def keptH (x : S38) (want : List Int) (h : Int) (k : Nat) : Bool := decide (want.getD k 0 ≤ h / x.f3)
def leftH (x : S38) (want : List Int) (h : Int) (k : Nat) : Int := if keptH x want h k = true then h - want.getD k 0 * x.f3 else 0
/-- The heat that is left before hour k. -/
def heatAt (x : S38) (s : Sc) (coal want : List Int) : Nat → Int
 | 0 => x.f1
 | k + 1 => leftH x want (preH x s coal (heatAt x s coal want k) k) k
def preAt (x : S38) (s : Sc) (coal want : List Int) (k : Nat) : Int := preH x s coal (heatAt x s coal want k) k
def hotAt (x : S38) (s : Sc) (coal want : List Int) (k : Nat) : Int := preAt x s coal want k / x.f3
def keptAt (x : S38) (s : Sc) (coal want : List Int) (k : Nat) : Bool := keptH x want (preAt x s coal want k) k
def hots (x : S38) (s : Sc) (coal want : List Int) (n : Nat) : List Int := (List.range n).map (hotAt x s coal want)
def lefts (x : S38) (s : Sc) (coal want : List Int) (n : Nat) : List Int := (List.range n).map fun k => heatAt x s coal want (k + 1)
def kepts (x : S38) (s : Sc) (coal want : List Int) (n : Nat) : List Bool := (List.range n).map (keptAt x s coal want)
/-- The past. -/
def pastOf (x : S38) (s : Sc) (coal want : List Int) : S114 := ⟨hots x s coal want (x.f0 + 1).toNat, lefts x s coal want (x.f0 + 1).toNat, kepts x s coal want (x.f0 + 1).toNat⟩
/-- What play needs. -/
structure PlayOk (x : S38) (s : Sc) (coal want : List Int) : Prop where
 last0 : 0 ≤ x.f0
 last1 : x.f0 ≤ 4
 start0 : 0 ≤ x.f1
 start1 : x.f1 ≤ x.f2
 most : x.f2 ≤ 999
 per0 : 1 ≤ x.f3
 per1 : x.f3 ≤ 20
 heat0 : 0 ≤ s.h
 heat1 : s.h ≤ 99
 loss : ∀ k, 0 ≤ s.loss k ∧ s.loss k ≤ 99
 coalN : (coal.length : Int) = x.f0 + 1
 coalV : ∀ n ∈ coal, 0 ≤ n ∧ n ≤ 3
 wantN : (want.length : Int) = x.f0 + 1
 wantV : ∀ n ∈ want, 0 ≤ n ∧ n ≤ 40
section
variable {x : S38} {s : Sc} {co wa : List Int}
theorem PlayOk.coalG (h : PlayOk x s co wa) (k : Nat) : 0 ≤ co.getD k 0 ∧ co.getD k 0 ≤ 3 := by
 by_cases hk : k < co.length
 ·have := h.coalV co[k] (List.getElem_mem hk)
  simpa [hk] using this
 ·simp [List.getD_eq_getElem?_getD, List.getElem?_eq_none (Nat.le_of_not_lt hk)]
theorem PlayOk.wantG (h : PlayOk x s co wa) (k : Nat) : 0 ≤ wa.getD k 0 ∧ wa.getD k 0 ≤ 40 := by
 by_cases hk : k < wa.length
 ·have := h.wantV wa[k] (List.getElem_mem hk)
  simpa [hk] using this
 ·simp [List.getD_eq_getElem?_getD, List.getElem?_eq_none (Nat.le_of_not_lt hk)]
theorem preH_bd (h : PlayOk x s co wa) (heat : Int) (k : Nat) : 0 ≤ preH x s co heat k ∧ preH x s co heat k ≤ x.f2 := by
 have h1 := h.loss k
 have h2 := h.start0
 have h3 := h.start1
 unfold preH
 rw [mx2_eq, mn2_eq]
 omega
theorem kept_mul (h : PlayOk x s co wa) {p : Int} (hp : 0 ≤ p) (k : Nat) (hk : keptH x wa p k = true) : wa.getD k 0 * x.f3 ≤ p := by
 have h1 : wa.getD k 0 ≤ p / x.f3 := by simpa [keptH] using hk
 have h2 := h.per0
 exact (Int.le_ediv_iff_mul_le (by omega)).1 h1
theorem leftH_bd (h : PlayOk x s co wa) {p : Int} (hp : 0 ≤ p) (hp2 : p ≤ x.f2) (k : Nat) : 0 ≤ leftH x wa p k ∧ leftH x wa p k ≤ x.f2 := by
 have h1 := h.start0
 have h2 := h.start1
 unfold leftH
 split
 ·have h3 := kept_mul h hp k (by assumption)
  have h4 : 0 ≤ wa.getD k 0 * x.f3 := Int.mul_nonneg (h.wantG k).1 (by have := h.per0; omega)
  omega
 ·omega
theorem heatAt_bd (h : PlayOk x s co wa) (k : Nat) : 0 ≤ heatAt x s co wa k ∧ heatAt x s co wa k ≤ x.f2 := by
 cases k with
 | zero => exact ⟨h.start0, h.start1⟩
 | succ k =>
  have := preH_bd h (heatAt x s co wa k) k
  exact leftH_bd h this.1 this.2 k
theorem hots_snoc (n : Nat) : hots x s co wa (n + 1) = hots x s co wa n ++ [hotAt x s co wa n] := by simp [hots, List.range_succ]
theorem lefts_snoc (n : Nat) : lefts x s co wa (n + 1) = lefts x s co wa n ++ [heatAt x s co wa (n + 1)] := by simp [lefts, List.range_succ]
theorem kepts_snoc (n : Nat) : kepts x s co wa (n + 1) = kepts x s co wa n ++ [keptAt x s co wa n] := by simp [kepts, List.range_succ]
theorem hots_len (n : Nat) : (hots x s co wa n).length = n := by simp [hots]
theorem lefts_len (n : Nat) : (lefts x s co wa n).length = n := by simp [lefts]
theorem kepts_len (n : Nat) : (kepts x s co wa n).length = n := by simp [kepts]
end
theorem PSt.below {base g : Nat} {t : TypeId} {W w w1 : World} {e : Nat → TypeId} {r : Nat → Value} {xs : Nat → List Value} {gc : Array Value} {lit : Nat → Option (Nat × Value)} (h : PSt base g t W w e r xs gc lit) (hb : Below w.heap.size w w1) : PSt base g t W w1 e r xs gc lit where
 keep := ⟨hb.os.trans h.keep.os, hb.tape.trans h.keep.tape, hb.output.trans h.keep.output, Nat.le_trans h.keep.size hb.size, fun k hk hg => (hb.block k (by have := h.le; omega)).trans (h.keep.block k hk hg)⟩
 le := Nat.le_trans h.le hb.size
 gb := h.gb
 own := fun i hi => (h.own i hi).kept (row := none) ⟨hb.os, hb.tape, hb.output, hb.size, fun j hj _ => hb.block j hj⟩ (by cases hv : (r i).ownBlock <;> simp)
 ap := h.ap
 blk := h.blk.below hb
 lits := fun i p y hi hl => by
  obtain ⟨h1, h2, h3⟩ := h.lits i p y hi hl
  exact ⟨h1.below hb, h2, h3⟩
theorem PSt.nolit {base g : Nat} {t : TypeId} {W w : World} {e : Nat → TypeId} {r : Nat → Value} {xs : Nat → List Value} {gc : Array Value} {lit : Nat → Option (Nat × Value)} (h : PSt base g t W w e r xs gc lit) : PSt base g t W w e r xs gc (sel3 none none none) where
 keep := h.keep
 le := h.le
 gb := h.gb
 own := h.own
 ap := h.ap
 blk := h.blk
 lits := fun i p y hi hl => by
  match i, hi with
  | 0, _ => cases hl
  | 1, _ => cases hl
  | 2, _ => cases hl
/-- A row of the call's own, of one cell each, is read. -/
theorem own_C {α : Type} (d : Kd α) (enc : α → Value) (hsz : d.sz = 1) (hK : ∀ W x, d.K W x [enc x]) {w : World} {base : Nat} {e : TypeId} {v : Value} {xs : List α} {cs : List Value} {n : Nat} (hcs : cs = xs.map enc) (hn : n = cs.length) (h : w.ownsRow base e 1 v n cs) :
    ∃ A c, v = .slice A xs.length c ∧ xs.length ≤ c ∧ d.C w A xs.length xs := by
 subst hcs
 have hn' : n = xs.length := by simpa using hn
 subst hn'
 have hr : Reps (d.K w) 1 xs (xs.map enc) := by
  refine ⟨by simp, fun j p hj => ?_⟩
  have : List.take 1 (List.drop (j * 1) (xs.map enc)) = [enc p] := by
   rw [Nat.mul_one]
   apply List.ext_getElem?
   intro i
   cases i with
   | zero => simp [hj]
   | succ i => simp; omega
  rw [this]
  exact hK w p
 obtain ⟨A, c, hv, hrow⟩ := own_reads_row h hr rfl
 refine ⟨A, c, hv, ?_, by unfold Kd.C; rw [hsz]; exact hrow⟩
 rcases h.2 with ⟨h1, h2⟩ | ⟨g, cap, cur, h1, _, _, h2, _⟩
 ·rw [h2]; exact Nat.zero_le _
 ·rw [h1] at hv; cases hv; exact h2
/-- A store of what lies there. -/
theorem Blk.set_same {W : World} {g : Nat} {cs : Array Value} {t : TypeId} (h : Blk W g cs t) (j : Nat) (v : Value) (hv : cs[j]? = some v) : W.setCell ⟨g, j, none⟩ v = W := by
 have h1 := h.set j v
 have hcs : cs.setIfInBounds j v = cs := by
  apply Array.ext_getElem?
  intro i
  rw [Array.getElem?_setIfInBounds]
  split
  ·rename_i e
   subst e
   split
   ·exact hv.symm
   ·rename_i hn
    rw [Array.getElem?_eq_none (by omega)]
  ·rfl
 rw [hcs] at h1
 have hh : (W.setCell ⟨g, j, none⟩ v).heap = W.heap := by
  apply Array.ext_getElem?
  intro i
  by_cases hi : i = g
  ·subst hi; exact h1.trans h.symm
  ·exact Below.heap_setCell W _ v i hi
 simp only [World.setCell] at hh ⊢
 rw [hh]
/-- The cell of a scene's box with an hour's loss. -/
theorem loss_cell (s : Sc) (k : Nat) (hk : k < 5) : (#[Value.int .i64 s.h, .int .i64 s.l0, .int .i64 s.l1, .int .i64 s.l2, .int .i64 s.l3, .int .i64 s.l4] : Array Value)[1 + k]? = some (.int .i64 (s.loss k)) := by
 match k, hk with
 | 0, _ => rfl
 | 1, _ => rfl
 | 2, _ => rfl
 | 3, _ => rfl
 | 4, _ => rfl
end Go.Proofs.Ytdgkhoflajdidaa
