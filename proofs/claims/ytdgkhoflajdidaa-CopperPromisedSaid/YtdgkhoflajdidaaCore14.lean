/- Lemmas for the laws' proofs: Lc, Ld, Ma, Mb. -/
import Derived.Test.YtdgkhoflajdidaaCore13
/- The examples' coppers with other promises. -/
namespace Go.Proofs.Ytdgkhoflajdidaa
open Go.RowKit Go.Proofs.YtdgkhoflajdidaaW.PrintWords Go.Proofs.YtdgkhoflajdidaaW.PrintMore Go.Proofs.YtdgkhoflajdidaaW.PrintLast Go.Proofs.Ytdgkhoflajdidaa.Print
set_option linter.unusedVariables false
set_option linter.unusedSimpArgs false
/-- Eleven stores. -/
theorem put11_blk {W : World} {g : Nat} {cs : Array Value} {t : TypeId} (h : Blk W g cs t) (hs : cs.size = 11) (v0 v1 v2 v3 v4 v5 v6 v7 v8 v9 v10 : Value) : Blk (((((((((((W.setCell ⟨g, 0, none⟩ v0).setCell ⟨g, 1, none⟩ v1).setCell ⟨g, 2, none⟩ v2).setCell ⟨g, 3, none⟩ v3).setCell ⟨g, 4, none⟩ v4).setCell ⟨g, 5, none⟩ v5).setCell ⟨g, 6, none⟩ v6).setCell ⟨g, 7, none⟩ v7).setCell ⟨g, 8, none⟩ v8).setCell ⟨g, 9, none⟩ v9).setCell ⟨g, 10, none⟩ v10) g #[v0, v1, v2, v3, v4, v5, v6, v7, v8, v9, v10] t := by
 obtain ⟨l, hl⟩ : ∃ l, cs = List.toArray l := ⟨cs.toList, by simp⟩
 subst hl
 match l, hs with
 | [a0, a1, a2, a3, a4, a5, a6, a7, a8, a9, a10], _ =>
  have h0 : Blk _ g #[v0, a1, a2, a3, a4, a5, a6, a7, a8, a9, a10] t := h.set 0 v0
  have h1 : Blk _ g #[v0, v1, a2, a3, a4, a5, a6, a7, a8, a9, a10] t := h0.set 1 v1
  have h2 : Blk _ g #[v0, v1, v2, a3, a4, a5, a6, a7, a8, a9, a10] t := h1.set 2 v2
  have h3 : Blk _ g #[v0, v1, v2, v3, a4, a5, a6, a7, a8, a9, a10] t := h2.set 3 v3
  have h4 : Blk _ g #[v0, v1, v2, v3, v4, a5, a6, a7, a8, a9, a10] t := h3.set 4 v4
  have h5 : Blk _ g #[v0, v1, v2, v3, v4, v5, a6, a7, a8, a9, a10] t := h4.set 5 v5
  have h6 : Blk _ g #[v0, v1, v2, v3, v4, v5, v6, a7, a8, a9, a10] t := h5.set 6 v6
  have h7 : Blk _ g #[v0, v1, v2, v3, v4, v5, v6, v7, a8, a9, a10] t := h6.set 7 v7
  have h8 : Blk _ g #[v0, v1, v2, v3, v4, v5, v6, v7, v8, a9, a10] t := h7.set 8 v8
  have h9 : Blk _ g #[v0, v1, v2, v3, v4, v5, v6, v7, v8, v9, a10] t := h8.set 9 v9
  have h10 : Blk _ g #[v0, v1, v2, v3, v4, v5, v6, v7, v8, v9, v10] t := h9.set 10 v10
  exact h10
theorem put11_below {W w : World} {m g : Nat} (h : Below m w W) (hg : m ≤ g) (v0 v1 v2 v3 v4 v5 v6 v7 v8 v9 v10 : Value) : Below m w (((((((((((W.setCell ⟨g, 0, none⟩ v0).setCell ⟨g, 1, none⟩ v1).setCell ⟨g, 2, none⟩ v2).setCell ⟨g, 3, none⟩ v3).setCell ⟨g, 4, none⟩ v4).setCell ⟨g, 5, none⟩ v5).setCell ⟨g, 6, none⟩ v6).setCell ⟨g, 7, none⟩ v7).setCell ⟨g, 8, none⟩ v8).setCell ⟨g, 9, none⟩ v9).setCell ⟨g, 10, none⟩ v10) := by
 iterate 11 refine Below.setCell ?_ (by exact hg) _
 exact h
theorem put11_other {W : World} {g k : Nat} {cs : Array Value} {t : TypeId} (h : Blk W k cs t) (hk : k ≠ g) (v0 v1 v2 v3 v4 v5 v6 v7 v8 v9 v10 : Value) : Blk (((((((((((W.setCell ⟨g, 0, none⟩ v0).setCell ⟨g, 1, none⟩ v1).setCell ⟨g, 2, none⟩ v2).setCell ⟨g, 3, none⟩ v3).setCell ⟨g, 4, none⟩ v4).setCell ⟨g, 5, none⟩ v5).setCell ⟨g, 6, none⟩ v6).setCell ⟨g, 7, none⟩ v7).setCell ⟨g, 8, none⟩ v8).setCell ⟨g, 9, none⟩ v9).setCell ⟨g, 10, none⟩ v10) k cs t := by
 iterate 11 refine Blk.set_other ?_ (by exact hk) _
 exact h
theorem ret38 {fn : Func} {t : Tmp} {tmps : Array Value} {W : World} {g : Nat} {v0 v1 v2 v3 v4 v5 v6 v7 v8 v9 v10 : Value} (h : fn.results = #[.cell t 38]) (ht : tmps.getD t undef = .pointer (some ⟨g, 0, none⟩)) (hb : Blk W g #[v0, v1, v2, v3, v4, v5, v6, v7, v8, v9, v10] 38) : (results fn tmps).run Try.prog W = .ok (.agg #[v0, v1, v2, v3, v4, v5, v6, v7, v8, v9, v10]) W := by
 have hu := Try.underlying38
 have q0 : W.cell? ⟨g, 0, none⟩ = some v0 := hb.cell 0 _ rfl
 have q1 : W.cell? ⟨g, 1, none⟩ = some v1 := hb.cell 1 _ rfl
 have q2 : W.cell? ⟨g, 2, none⟩ = some v2 := hb.cell 2 _ rfl
 have q3 : W.cell? ⟨g, 3, none⟩ = some v3 := hb.cell 3 _ rfl
 have q4 : W.cell? ⟨g, 4, none⟩ = some v4 := hb.cell 4 _ rfl
 have q5 : W.cell? ⟨g, 5, none⟩ = some v5 := hb.cell 5 _ rfl
 have q6 : W.cell? ⟨g, 6, none⟩ = some v6 := hb.cell 6 _ rfl
 have q7 : W.cell? ⟨g, 7, none⟩ = some v7 := hb.cell 7 _ rfl
 have q8 : W.cell? ⟨g, 8, none⟩ = some v8 := hb.cell 8 _ rfl
 have q9 : W.cell? ⟨g, 9, none⟩ = some v9 := hb.cell 9 _ rfl
 have q10 : W.cell? ⟨g, 10, none⟩ = some v10 := hb.cell 10 _ rfl
 have ht2 : tmps[t]?.getD undef = .pointer (some ⟨g, 0, none⟩) := by simpa using ht
 simp [results, h, go_sem, hu, ht, ht2, q0, q1, q2, q3, q4, q5, q6, q7, q8, q9, q10]
theorem ret28 {fn : Func} {t : Tmp} {tmps : Array Value} {W : World} {g : Nat} {v0 v1 v2 v3 v4 v5 v6 v7 v8 v9 v10 : Value} (h : fn.results = #[.cell t 28]) (ht : tmps.getD t undef = .pointer (some ⟨g, 0, none⟩)) (hb : Blk W g #[v0, v1, v2, v3, v4, v5, v6, v7, v8, v9, v10] 28) : (results fn tmps).run Try.prog W = .ok (.agg #[v0, v1, v2, v3, v4, v5, v6, v7, v8, v9, v10]) W := by
 have hu := Try.underlying28
 have q0 : W.cell? ⟨g, 0, none⟩ = some v0 := hb.cell 0 _ rfl
 have q1 : W.cell? ⟨g, 1, none⟩ = some v1 := hb.cell 1 _ rfl
 have q2 : W.cell? ⟨g, 2, none⟩ = some v2 := hb.cell 2 _ rfl
 have q3 : W.cell? ⟨g, 3, none⟩ = some v3 := hb.cell 3 _ rfl
 have q4 : W.cell? ⟨g, 4, none⟩ = some v4 := hb.cell 4 _ rfl
 have q5 : W.cell? ⟨g, 5, none⟩ = some v5 := hb.cell 5 _ rfl
 have q6 : W.cell? ⟨g, 6, none⟩ = some v6 := hb.cell 6 _ rfl
 have q7 : W.cell? ⟨g, 7, none⟩ = some v7 := hb.cell 7 _ rfl
 have q8 : W.cell? ⟨g, 8, none⟩ = some v8 := hb.cell 8 _ rfl
 have q9 : W.cell? ⟨g, 9, none⟩ = some v9 := hb.cell 9 _ rfl
 have q10 : W.cell? ⟨g, 10, none⟩ = some v10 := hb.cell 10 _ rfl
 have ht2 : tmps[t]?.getD undef = .pointer (some ⟨g, 0, none⟩) := by simpa using ht
 simp [results, h, go_sem, hu, ht, ht2, q0, q1, q2, q3, q4, q5, q6, q7, q8, q9, q10]
theorem ints3_C {W : World} {g : Nat} {t : TypeId} (a b c : Int) (h : Blk W g #[.int .i64 a, .int .i64 b, .int .i64 c] t) : Kd.C (Kd.int .i64) W (some ⟨g, 0, none⟩) [a, b, c].length [a, b, c] :=
 cells_C (Kd.int .i64) (fun p => [.int .i64 p]) (fun _ _ => rfl) (fun _ => rfl) [a, b, c] [] (by exact h) (by simp)
theorem loss_C {W : World} {g : Nat} {t : TypeId} (h : Blk W g #[.int .i64 2, .int .i64 3, .int .i64 4, .int .i64 4, .int .i64 0, .int .i64 2] t) : Kd.C k35 W (some ⟨g, 0, none⟩) [(⟨2, 3⟩ : S35), ⟨4, 4⟩, ⟨0, 2⟩].length [⟨2, 3⟩, ⟨4, 4⟩, ⟨0, 2⟩] :=
 cells_C k35 (fun p => [.int .i64 p.f0, .int .i64 p.f1]) (fun W p => k35_mk W p) (fun _ => rfl) [⟨2, 3⟩, ⟨4, 4⟩, ⟨0, 2⟩] [] (by exact h) (by simp)
theorem three_k {W : World} {n : Nat} (hn : n ≤ 3) (v : Int) {p5 p6 p9 p10 : Nat} (b5 : Blk W p5 #[.int .i64 2, .int .i64 1, .int .i64 0] 3) (b6 : Blk W p6 #[.int .i64 3, .int .i64 2, .int .i64 v] 3) (b9 : Blk W p9 #[.int .i64 2, .int .i64 3, .int .i64 4, .int .i64 4, .int .i64 0, .int .i64 2] 35)
    (b10 : Blk W p10 #[.int .i64 0, .int .i64 6, .int .i64 6, .int .i64 2, .int .i64 3, .int .i64 3, .int .i64 0, .int .i64 7, .int .i64 7] 119) :
    k38.K W (threeX n v) [.int .i64 2, .int .i64 7, .int .i64 60, .int .i64 4, .int .i64 3, .slice (some ⟨p5, 0, none⟩) 3 3, .slice (some ⟨p6, 0, none⟩) 3 3, .int .i64 10, .int .i64 12, .slice (some ⟨p9, 0, none⟩) 3 3, .slice (some ⟨p10, 0, none⟩) n 3] := by
 have h10 := threeR_C n b10
 have hl : (threeR.take n).length = n := by simp [threeR]; omega
 have := k38_mk W (threeX n v) (c5 := 3) (Nat.le_refl _) (ints3_C 2 1 0 b5) (c6 := 3) (Nat.le_refl _) (ints3_C 3 2 v b6) (c9 := 3) (Nat.le_refl _) (loss_C b9) (c10 := 3) (by show (threeR.take n).length ≤ 3; omega) h10
 rw [show (threeX n v).f9.length = n from hl] at this
 exact this
theorem threeK_calls (n : Nat) (hn : n ≤ 3) (w : World) : Calls Try.prog 74 #[.int .i64 n] w fun e w' => ∃ cs : List Value, e = .returned (.agg cs.toArray) ∧ Below w.heap.size w w' ∧ k38.K w' (threeX n 2) cs := by
 refine (three_calls n hn w).mono ?_
 rintro e w' ⟨p5, p6, p9, p10, rfl, hb, _, _, _, _, b5, b6, b9, b10⟩
 exact ⟨_, rfl, hb, three_k hn 2 b5 b6 b9 b10⟩
set_option maxRecDepth 100000 in
set_option maxHeartbeats 4000000 in
theorem wanting_calls (v : Int) (w : World) : Calls Try.prog 75 #[.int .i64 v] w fun e w' => ∃ cs : List Value, e = .returned (.agg cs.toArray) ∧ Below w.heap.size w w' ∧ k38.K w' (threeX 0 v) cs := by
 have hu := Try.underlying38
 have HB := Aside0.mk (And.intro (below_alloc (Below.refl w.heap.size w) (.cells #[.int .i64 0, .int .i64 0, .int .i64 0, .int .i64 0, .int .i64 0, .slice none 0 0, .slice none 0 0, .int .i64 0, .int .i64 0, .slice none 0 0, .slice none 0 0] 38)) (Blk.new w #[.int .i64 0, .int .i64 0, .int .i64 0, .int .i64 0, .int .i64 0, .slice none 0 0, .slice none 0 0, .int .i64 0, .int .i64 0, .slice none 0 0, .slice none 0 0] 38 _ rfl))
 go_enter Try.func75, Try.ntmps75
 go_wp2_with (go_at_call 74; refine (three_calls 0 (Nat.zero_le _) _).mono ?_; rintro e w1 ⟨p5, p6, p9, p10, rfl, hb1, hp, n5, n9, n10, b5, b6, b9, b10⟩; simp only [World.size_alloc] at hp; have hz0 := HB.out.2.below hb1; have HF := Aside0.mk (And.intro (bel2 HB.out.1 hb1) (And.intro hp (And.intro n5 (And.intro n9 (And.intro n10 (And.intro b5 (And.intro b6 (And.intro b9 (And.intro b10 hz0))))))))); have hW : Blk ((w1.setCell ⟨p6, 2, none⟩ (.int .i64 v)).alloc (.cells #[.int .i64 2, .int .i64 7, .int .i64 60, .int .i64 4, .int .i64 3, .slice (some ⟨p5, 0, none⟩) 3 3, .slice (some ⟨p6, 0, none⟩) 3 3, .int .i64 10, .int .i64 12, .slice (some ⟨p9, 0, none⟩) 3 3, .slice (some ⟨p10, 0, none⟩) 0 3] 38)) w.heap.size #[.int .i64 0, .int .i64 0, .int .i64 0, .int .i64 0, .int .i64 0, .slice none 0 0, .slice none 0 0, .int .i64 0, .int .i64 0, .slice none 0 0, .slice none 0 0] 38 := (hz0.set_other (by show w.heap.size ≠ p6; omega) _).alloc _; have hT : Blk ((w1.setCell ⟨p6, 2, none⟩ (.int .i64 v)).alloc (.cells #[.int .i64 2, .int .i64 7, .int .i64 60, .int .i64 4, .int .i64 3, .slice (some ⟨p5, 0, none⟩) 3 3, .slice (some ⟨p6, 0, none⟩) 3 3, .int .i64 10, .int .i64 12, .slice (some ⟨p9, 0, none⟩) 3 3, .slice (some ⟨p10, 0, none⟩) 0 3] 38)) w1.heap.size #[.int .i64 2, .int .i64 7, .int .i64 60, .int .i64 4, .int .i64 3, .slice (some ⟨p5, 0, none⟩) 3 3, .slice (some ⟨p6, 0, none⟩) 3 3, .int .i64 10, .int .i64 12, .slice (some ⟨p9, 0, none⟩) 3 3, .slice (some ⟨p10, 0, none⟩) 0 3] 38 := Blk.new _ _ _ _ (by simp [World.setCell]); have k6 := b6.cell 2 _ rfl; have f6 := b6.frozen 2; have l6 := b6.lt; have t0 := hT.cell 0 _ rfl; have z0 := hW.cell 0 _ rfl; have y0 := hW.frozen 0; have t1 := hT.cell 1 _ rfl; have z1 := hW.cell 1 _ rfl; have y1 := hW.frozen 1; have t2 := hT.cell 2 _ rfl; have z2 := hW.cell 2 _ rfl; have y2 := hW.frozen 2; have t3 := hT.cell 3 _ rfl; have z3 := hW.cell 3 _ rfl; have y3 := hW.frozen 3; have t4 := hT.cell 4 _ rfl; have z4 := hW.cell 4 _ rfl; have y4 := hW.frozen 4; have t5 := hT.cell 5 _ rfl; have z5 := hW.cell 5 _ rfl; have y5 := hW.frozen 5; have t6 := hT.cell 6 _ rfl; have z6 := hW.cell 6 _ rfl; have y6 := hW.frozen 6; have t7 := hT.cell 7 _ rfl; have z7 := hW.cell 7 _ rfl; have y7 := hW.frozen 7; have t8 := hT.cell 8 _ rfl; have z8 := hW.cell 8 _ rfl; have y8 := hW.frozen 8; have t9 := hT.cell 9 _ rfl; have z9 := hW.cell 9 _ rfl; have y9 := hW.frozen 9; have t10 := hT.cell 10 _ rfl; have z10 := hW.cell 10 _ rfl; have y10 := hW.frozen 10; clear hb1 n5 n9 n10 b5 b6 b9 b10 hz0 hW hT)
 have hn6 : w.heap.size ≠ p6 := by have := HF.out.2.1; omega
 have hz := HF.out.2.2.2.2.2.2.2.2.2
 have hzl := hz.lt
 have hb6 := ((HF.out.2.2.2.2.2.2.1.set 2 (.int .i64 v)).alloc (.cells #[.int .i64 2, .int .i64 7, .int .i64 60, .int .i64 4, .int .i64 3, .slice (some ⟨p5, 0, none⟩) 3 3, .slice (some ⟨p6, 0, none⟩) 3 3, .int .i64 10, .int .i64 12, .slice (some ⟨p9, 0, none⟩) 3 3, .slice (some ⟨p10, 0, none⟩) 0 3] 38))
 have hb5 := ((HF.out.2.2.2.2.2.1.set_other (p := ⟨p6, 2, none⟩) (Ne.symm HF.out.2.2.1) (.int .i64 v)).alloc (.cells #[.int .i64 2, .int .i64 7, .int .i64 60, .int .i64 4, .int .i64 3, .slice (some ⟨p5, 0, none⟩) 3 3, .slice (some ⟨p6, 0, none⟩) 3 3, .int .i64 10, .int .i64 12, .slice (some ⟨p9, 0, none⟩) 3 3, .slice (some ⟨p10, 0, none⟩) 0 3] 38))
 have hb9 := ((HF.out.2.2.2.2.2.2.2.1.set_other (p := ⟨p6, 2, none⟩) (Ne.symm HF.out.2.2.2.1) (.int .i64 v)).alloc (.cells #[.int .i64 2, .int .i64 7, .int .i64 60, .int .i64 4, .int .i64 3, .slice (some ⟨p5, 0, none⟩) 3 3, .slice (some ⟨p6, 0, none⟩) 3 3, .int .i64 10, .int .i64 12, .slice (some ⟨p9, 0, none⟩) 3 3, .slice (some ⟨p10, 0, none⟩) 0 3] 38))
 have hb10 := ((HF.out.2.2.2.2.2.2.2.2.1.set_other (p := ⟨p6, 2, none⟩) (Ne.symm HF.out.2.2.2.2.1) (.int .i64 v)).alloc (.cells #[.int .i64 2, .int .i64 7, .int .i64 60, .int .i64 4, .int .i64 3, .slice (some ⟨p5, 0, none⟩) 3 3, .slice (some ⟨p6, 0, none⟩) 3 3, .int .i64 10, .int .i64 12, .slice (some ⟨p9, 0, none⟩) 3 3, .slice (some ⟨p10, 0, none⟩) 0 3] 38))
 have hne : ∀ {p : Nat} {cs : Array Value} {t : TypeId}, Blk w1 p cs t → cs.size ≠ 11 → p ≠ w.heap.size := by
  rintro p cs t hp hs rfl
  unfold Blk at hp hz
  rw [hz] at hp
  cases hp
  exact hs rfl
 refine bodyPost_ret (ret38 Try.results75 rfl (put11_blk ((hz.set_other (p := ⟨p6, 2, none⟩) hn6 (.int .i64 v)).alloc (.cells #[.int .i64 2, .int .i64 7, .int .i64 60, .int .i64 4, .int .i64 3, .slice (some ⟨p5, 0, none⟩) 3 3, .slice (some ⟨p6, 0, none⟩) 3 3, .int .i64 10, .int .i64 12, .slice (some ⟨p9, 0, none⟩) 3 3, .slice (some ⟨p10, 0, none⟩) 0 3] 38)) rfl _ _ _ _ _ _ _ _ _ _ _)) rfl ⟨_, rfl, ?_, three_k (Nat.zero_le _) v (put11_other hb5 (hne HF.out.2.2.2.2.2.1 (by decide)) _ _ _ _ _ _ _ _ _ _ _) (put11_other hb6 (Ne.symm hn6) _ _ _ _ _ _ _ _ _ _ _) (put11_other hb9 (hne HF.out.2.2.2.2.2.2.2.1 (by decide)) _ _ _ _ _ _ _ _ _ _ _) (put11_other hb10 (hne HF.out.2.2.2.2.2.2.2.2.1 (by decide)) _ _ _ _ _ _ _ _ _ _ _)⟩
 exact put11_below (below_alloc (HF.out.1.setCell (p := ⟨p6, 2, none⟩) (by show w.heap.size ≤ p6; have := HF.out.2.1; omega) (.int .i64 v)) _) (Nat.le_refl _) _ _ _ _ _ _ _ _ _ _ _
end Go.Proofs.Ytdgkhoflajdidaa
/- awake: the first examples of the document. -/
namespace Go.Proofs.Ytdgkhoflajdidaa
open Go.RowKit Go.Proofs.YtdgkhoflajdidaaW.PrintWords Go.Proofs.YtdgkhoflajdidaaW.PrintMore Go.Proofs.YtdgkhoflajdidaaW.PrintLast Go.Proofs.Ytdgkhoflajdidaa.Print
set_option linter.unusedVariables false
set_option linter.unusedSimpArgs false
theorem ex_play {W : World} {cs : List Value} {g : Nat} (hk : k38.K W (threeX 0 2) cs) (hb : Blk W g #[.int .i64 3, .int .i64 4, .int .i64 2] 3) : Calls Try.prog 47 #[.agg cs.toArray, .agg #[.int .i64 10, .slice (some ⟨g, 0, none⟩) 3 3]] W fun e w' => ∃ A a B b, e = .returned (.tuple #[.slice A 3 a, .slice B 3 b, .int .i64 0]) ∧ Aside0 (Kd.C (Kd.int .i64) w' A [(6 : Int), 4, 2].length [6, 4, 2] ∧ Kd.C (Kd.int .i64) w' B [(12 : Int), 10, 0].length [12, 10, 0]) ∧ Aside0 (Below W.heap.size W w') := by
 have h1 : playF (threeX 0 2) ⟨10, [3, 4, 2]⟩ = ([6, 4, 2], [12, 10, 0], 0) := by kernel_rfl
 have h2 := playT_calls (threeX 0 2) cs ⟨10, [3, 4, 2]⟩ _ W hk (k75_mk W ⟨10, [3, 4, 2]⟩ (c1 := 3) (Nat.le_refl _) (ints3_C 3 4 2 hb))
 rw [h1] at h2
 refine h2.mono ?_
 rintro e w' ⟨A, a, B, b, rfl, hA, hB, hb⟩
 exact ⟨A, a, B, b, rfl, ⟨hA, hB⟩, ⟨hb⟩⟩
theorem ex_bounds {W : World} {cs : List Value} (hk : k38.K W (threeX 1 2) cs) : Calls Try.prog 21 #[.agg cs.toArray] W fun e w' => ∃ A a B b, e = .returned (.tuple #[.slice A 3 a, .slice B 3 b, .int .i64 0]) ∧ Aside0 (Kd.C k35 w' A [(⟨6, 6⟩ : S35), ⟨4, 5⟩, ⟨2, 3⟩].length [⟨6, 6⟩, ⟨4, 5⟩, ⟨2, 3⟩] ∧ Kd.C k35 w' B [(⟨12, 15⟩ : S35), ⟨10, 14⟩, ⟨0, 6⟩].length [⟨12, 15⟩, ⟨10, 14⟩, ⟨0, 6⟩]) ∧ Aside0 (Below W.heap.size W w') := by
 have h1 : boundsF (threeX 1 2) = ([⟨6, 6⟩, ⟨4, 5⟩, ⟨2, 3⟩], [⟨12, 15⟩, ⟨10, 14⟩, ⟨0, 6⟩], 0) := by kernel_rfl
 have h2 := boundsF_calls (threeX 1 2) cs W hk
 unfold BndPost at h2
 rw [h1] at h2
 refine h2.mono ?_
 rintro e w' ⟨A, a, B, b, rfl, hA, hB, hb⟩
 exact ⟨A, a, B, b, rfl, ⟨hA, hB⟩, ⟨hb⟩⟩
theorem ex_keeps {W : World} {cs : List Value} (hk : k38.K W (threeX 0 3) cs) : Calls Try.prog 52 #[.agg cs.toArray] W fun e w' => ∃ A a, e = .returned (.tuple #[.slice A 3 a, .int .i64 0]) ∧ Aside0 (Kd.C (Kd.int .i64) w' A [(1 : Int), 1, 3].length [1, 1, 3]) ∧ Aside0 (Below W.heap.size W w') := by
 have h1 : keepsF (threeX 0 3) = ([1, 1, 3], 0) := by kernel_rfl
 have h2 := keepsF_calls (threeX 0 3) cs W hk
 unfold KeepPost at h2
 rw [h1] at h2
 refine h2.mono ?_
 rintro e w' ⟨A, a, rfl, hA, hb⟩
 exact ⟨A, a, rfl, ⟨hA⟩, ⟨hb⟩⟩
theorem ex_more {W : World} {cs : List Value} {g : Nat} (hk : k38.K W (threeX 0 2) cs) (hb : Blk W g #[.int .i64 2, .int .i64 1, .int .i64 0] 3) : Calls Try.prog 26 #[.agg cs.toArray, .slice (some ⟨g, 0, none⟩) 3 3] W fun e w' => e = .returned (.tuple #[.int .i64 2, .int .i64 0]) ∧ Aside0 (Below W.heap.size W w') := by
 have h1 : moreF (threeX 0 2) [2, 1, 0] = (2, 0) := by kernel_rfl
 have h2 := moreF_calls (threeX 0 2) cs _ 3 [2, 1, 0] W hk (ints3_C 2 1 0 hb)
 rw [h1] at h2
 exact h2.mono fun e w' h => ⟨h.1, ⟨h.2⟩⟩
theorem ex_spare {W : World} {cs : List Value} (hk : k38.K W (threeX 2 2) cs) : Calls Try.prog 28 #[.agg cs.toArray, .int .i64 2] W fun e w' => e = .returned (.tuple #[.int .i64 1, .int .i64 0]) ∧ Aside0 (Below W.heap.size W w') := by
 have h1 : spareF (threeX 2 2) 2 = (1, 0) := by kernel_rfl
 have h2 := spareF_calls (threeX 2 2) cs 2 W hk
 rw [h1] at h2
 exact h2.mono fun e w' h => ⟨h.1, ⟨h.2⟩⟩
theorem ex_least {W : World} {cs : List Value} (hk : k38.K W (threeX 0 2) cs) : Calls Try.prog 63 #[.agg cs.toArray] W fun e w' => ∃ A a, e = .returned (.tuple #[.slice A 3 a, .int .i64 0]) ∧ Aside0 (Kd.C (Kd.int .i64) w' A [(1 : Int), 1, 1].length [1, 1, 1]) ∧ Aside0 (Below W.heap.size W w') := by
 have h1 : leastF (threeX 0 2) = ([1, 1, 1], 0) := by kernel_rfl
 have h2 := leastF_calls (threeX 0 2) cs W hk
 unfold LeastPost at h2
 rw [h1] at h2
 refine h2.mono ?_
 rintro e w' ⟨A, a, rfl, hA, hb⟩
 exact ⟨A, a, rfl, ⟨hA⟩, ⟨hb⟩⟩
theorem ex_first {W : World} {cs : List Value} (hk : k38.K W (threeX 3 2) cs) : Calls Try.prog 35 #[.agg cs.toArray] W fun e w' => e = .returned (.tuple #[.int .i64 2, .int .i64 0]) ∧ Aside0 (Below W.heap.size W w') := by
 have h1 : firstF (threeX 3 2) = (2, 0) := by kernel_rfl
 have h2 := first_calls (threeX 3 2) cs W hk
 rw [h1] at h2
 exact h2.mono fun e w' h => ⟨h.1, ⟨h.2⟩⟩
theorem ex_leave {W : World} {cs : List Value} (hk : k38.K W (threeX 3 2) cs) : Calls Try.prog 36 #[.agg cs.toArray] W fun e w' => ∃ A a, e = .returned (.tuple #[.slice A 1 a, .int .i64 0]) ∧ Aside0 (Kd.C (Kd.int .i64) w' A [(0 : Int)].length [0]) ∧ Aside0 (Below W.heap.size W w') := by
 have h1 : leaveF (threeX 3 2) = ([0], 0) := by kernel_rfl
 have h2 := leave_calls (threeX 3 2) cs W hk
 rw [h1] at h2
 refine h2.mono ?_
 rintro e w' ⟨A, a, rfl, hA, hb⟩
 exact ⟨A, a, rfl, ⟨hA⟩, ⟨hb⟩⟩
theorem ex_same {W : World} {A : Option Addr} {c g : Nat} {a b d : Int} (hA : Kd.C (Kd.int .i64) W A [a, b, d].length [a, b, d]) (hb : Blk W g #[.int .i64 a, .int .i64 b, .int .i64 d] 3) : Calls Try.prog 38 #[.slice A 3 c, .slice (some ⟨g, 0, none⟩) 3 3] W fun e w' => e = .returned (.bool true) ∧ Aside0 (Below W.heap.size W w') := by
 have h2 := same_calls A (some ⟨g, 0, none⟩) c 3 [a, b, d] [a, b, d] W hA (ints3_C a b d hb)
 rw [decide_eq_true rfl] at h2
 exact h2.mono fun e w' h => ⟨h.1, ⟨h.2⟩⟩
theorem ex_same1 {W : World} {A : Option Addr} {c g : Nat} {a : Int} (hA : Kd.C (Kd.int .i64) W A [a].length [a]) (hb : Blk W g #[.int .i64 a] 3) : Calls Try.prog 38 #[.slice A 1 c, .slice (some ⟨g, 0, none⟩) 1 1] W fun e w' => e = .returned (.bool true) ∧ Aside0 (Below W.heap.size W w') := by
 have h2 := same_calls A (some ⟨g, 0, none⟩) c 1 [a] [a] W hA (cells_C (Kd.int .i64) (fun p => [.int .i64 p]) (fun _ _ => rfl) (fun _ => rfl) [a] [] (by exact hb) (by simp))
 rw [decide_eq_true rfl] at h2
 exact h2.mono fun e w' h => ⟨h.1, ⟨h.2⟩⟩
def upTo (n k : Nat) : Array Bool := (List.replicate k true ++ List.replicate (n - k) false).toArray
/-- What awake keeps: rows. -/
structure St (w W : World) (l : List (Option Addr × List Int)) (m : List (Option Addr × List S35)) : Prop where
 bel : Below w.heap.size w W
 ints : ∀ p ∈ l, Kd.C (Kd.int .i64) W p.1 p.2.length p.2
 rgs : ∀ p ∈ m, Kd.C k35 W p.1 p.2.length p.2
theorem St.step {w W V : World} {l : List (Option Addr × List Int)} {m : List (Option Addr × List S35)} (h : St w W l m) (hb : Below W.heap.size W V) : St w V l m := ⟨bel2 h.bel hb, fun p hp => Kd.C_below (h.ints p hp) hb, fun p hp => Kd.C_below (h.rgs p hp) hb⟩
theorem St.alloc {w W : World} {l : List (Option Addr × List Int)} {m : List (Option Addr × List S35)} (h : St w W l m) (o : Obj) : St w (W.alloc o) l m := h.step (below_alloc (Below.refl _ _) o)
theorem St.addI {w W : World} {l : List (Option Addr × List Int)} {m : List (Option Addr × List S35)} (h : St w W l m) {A : Option Addr} {xs : List Int} (hc : Kd.C (Kd.int .i64) W A xs.length xs) : St w W ((A, xs) :: l) m :=
 ⟨h.bel, fun p hp => (List.mem_cons.1 hp).elim (fun e => by rw [e]; exact hc) (h.ints p), h.rgs⟩
theorem St.addR {w W : World} {l : List (Option Addr × List Int)} {m : List (Option Addr × List S35)} (h : St w W l m) {A : Option Addr} {xs : List S35} (hc : Kd.C k35 W A xs.length xs) : St w W l ((A, xs) :: m) :=
 ⟨h.bel, h.ints, fun p hp => (List.mem_cons.1 hp).elim (fun e => by rw [e]; exact hc) (h.rgs p)⟩
set_option maxRecDepth 100000
def awk.T9 : Bool × List (List Nat × List Nat) := (true, [([], []), ([0], [0]), ([1], [1]), ([2], [2]), ([2], [2]), ([3, 4, 2, 2], [2, 3, 4]), ([2, 5], [2, 5]), ([6, 5], [6]), ([7], [7]), ([7], [7]), ([8, 9, 7, 7], [7, 8, 9]), ([7, 10], [7, 10]), ([11, 10], [11]), ([12], [12]), ([13, 12], [12, 13]), ([12, 14], [12, 14]), ([15, 12], [15]), ([16], [16]), ([17, 16], [16, 17]), ([18, 16], [16, 18]), ([16, 19], [16, 19]), ([20, 16], [20]), ([21], [21]), ([22, 21], [21, 22]), ([23, 21], [21, 23]), ([21, 24], [21, 24]), ([25, 21], [25]), ([26], [26]), ([27, 26], [26, 27]), ([28, 26], [26, 28]), ([26, 26], [26]), ([29, 30, 26], [26, 29, 30]), ([26, 31], [26, 31]), ([32, 30], [32]), ([33], [33]), ([34, 33], [33, 34]), ([35, 33], [33, 35]), ([33, 33], [33]), ([36, 37, 33], [33, 36, 37]), ([33, 38], [33, 38]), ([39, 37], [39]), ([40], [40]), ([41, 40], [40, 41]), ([40, 42], [40, 42]), ([43, 40], [43]), ([44], [44]), ([44], [44]), ([45, 46, 44, 44], [44, 45, 46]), ([44, 47], [44, 47]), ([48, 47], [48]), ([49], [49]), ([50, 49], [49, 50]), ([49, 51], [49, 51]), ([52, 49], [52]), ([53], [53]), ([54, 53], [53, 54]), ([53, 55], [53, 55]), ([56, 53], [56]), ([57], [57]), ([58, 57], [57, 58]), ([57, 59], [57, 59]), ([60, 57], [60]), ([61], [61]), ([62, 61], [61, 62]), ([61, 63], [61, 63]), ([64, 61], [64]), ([65], [65]), ([66, 65], [65, 66]), ([65, 67], [65, 67]), ([68, 65], [68]), ([69], [69]), ([69], [69]), ([70, 71, 69, 69], [69, 70, 71]), ([69, 72], [69, 72]), ([73, 72], [73]), ([74], [74]), ([75, 74], [74, 75]), ([74, 76], [74, 76]), ([77, 74], [77]), ([78], [78]), ([79, 78], [78, 79]), ([78, 80], [78, 80]), ([81, 78], [81]), ([82], [82]), ([83, 82], [82, 83]), ([82, 84], [82, 84]), ([85, 82], [85]), ([86], [86]), ([86], [86]), ([87, 88, 86, 86], [86, 87, 88]), ([86, 89], [86, 89]), ([90, 89, 0, 1, 2, 3, 4, 5, 6, 7, 8, 9, 10, 11, 12, 13, 14, 15, 16, 17, 18, 19, 20, 21, 22, 23, 24, 25, 26, 27, 28, 29, 30, 31, 32, 33, 34, 35, 36, 37, 38, 39, 40, 41, 42, 43, 44, 45, 46, 47, 48, 49, 50, 51, 52, 53, 54, 55, 56, 57, 58, 59, 60, 61, 62, 63, 64, 65, 66, 67, 68, 69, 70, 71, 72, 73, 74, 75, 76, 77, 78, 79, 80, 81, 82, 83, 84, 85, 86, 87, 88, 89, 90], [90])])
def awk.B9 : List Nat := [0, 1, 3, 7, 7, 31, 63, 127, 255, 255, 1023, 2047, 4095, 8191, 16383, 32767, 65535, 131071, 262143, 524287, 1048575, 2097151, 4194303, 8388607, 16777215, 33554431, 67108863, 134217727, 268435455, 536870911, 134217727, 2147483647, 4294967295, 8589934591, 17179869183, 34359738367, 68719476735, 17179869183, 274877906943, 549755813887, 1099511627775, 2199023255551, 4398046511103, 8796093022207, 17592186044415, 35184372088831, 35184372088831, 140737488355327, 281474976710655, 562949953421311, 1125899906842623, 2251799813685247, 4503599627370495, 9007199254740991, 18014398509481983, 36028797018963967, 72057594037927935, 144115188075855871, 288230376151711743, 576460752303423487, 1152921504606846975, 2305843009213693951, 4611686018427387903, 9223372036854775807, 18446744073709551615, 36893488147419103231, 73786976294838206463, 147573952589676412927, 295147905179352825855, 590295810358705651711, 1180591620717411303423, 1180591620717411303423, 4722366482869645213695, 9444732965739290427391, 18889465931478580854783, 37778931862957161709567, 75557863725914323419135, 151115727451828646838271, 302231454903657293676543, 604462909807314587353087, 1208925819614629174706175, 2417851639229258349412351, 4835703278458516698824703, 9671406556917033397649407, 19342813113834066795298815, 38685626227668133590597631, 77371252455336267181195263, 154742504910672534362390527, 154742504910672534362390527, 618970019642690137449562111, 1237940039285380274899124223, 2475880078570760549798248447]
theorem awk.tab9 : rtab .any (opsOf Try.f20 9) = awk.T9 := by kernel_rfl
theorem awk.bits9 : waitsOk awk.T9.2 awk.B9 = true := by kernel_rfl
set_option maxHeartbeats 4000000 in
/-- awake returns true. -/
theorem awake_calls (w : World) : Calls Try.prog 20 #[] w fun e w' => e = .returned (.bool true) ∧ Below w.heap.size w w' := by
 have hu3 := Try.underlying35
 have H0 : Aside0 (St w w [] []) := ⟨⟨Below.refl _ _, fun p hp => (by cases hp), fun p hp => (by cases hp)⟩⟩
 go_enter Try.func20, Try.ntmps20
 go_wp2_with fail
 refine (threeK_calls 0 (by decide) _).mono ?_
 rintro e w1 ⟨cs1, rfl, hb, hk⟩
 have K1 := Aside0.mk hk
 have H1 := Aside0.mk (H0.out.step hb)
 clear hb hk H0
 go_wp2_with fail
 refine (ex_play (k38.K_below (below_alloc (Below.refl _ _) _) K1.out) (Blk.new _ _ _ _ rfl)).mono ?_
 rintro e w2 ⟨A1, a1, B1, b1, rfl, hc, hb⟩
 have H2 := Aside0.mk ((((H1.out.alloc _).step hb.out).addI hc.out.1).addI hc.out.2)
 clear hb H1 hc K1
 go_wp2_with fail
 refine (threeK_calls 1 (by decide) _).mono ?_
 rintro e w3 ⟨cs3, rfl, hb, hk⟩
 have K3 := Aside0.mk hk
 have H3 := Aside0.mk (H2.out.step hb)
 clear hb hk H2
 go_wp2_with fail
 refine (ex_bounds K3.out).mono ?_
 rintro e w4 ⟨A2, a2, B2, b2, rfl, hc, hb⟩
 have H4 := Aside0.mk (((H3.out.step hb.out).addR hc.out.1).addR hc.out.2)
 clear hb H3 hc K3
 go_wp2_with fail
 refine (wanting_calls 3 _).mono ?_
 rintro e w5 ⟨cs5, rfl, hb, hk⟩
 have K5 := Aside0.mk hk
 have H5 := Aside0.mk (H4.out.step hb)
 clear hb hk H4
 go_wp2_with fail
 refine (ex_keeps K5.out).mono ?_
 rintro e w6 ⟨A3, a3, rfl, hc, hb⟩
 have H6 := Aside0.mk ((H5.out.step hb.out).addI hc.out)
 clear hb H5 hc K5
 go_wp2_with fail
 refine (threeK_calls 0 (by decide) _).mono ?_
 rintro e w7 ⟨cs7, rfl, hb, hk⟩
 have K7 := Aside0.mk hk
 have H7 := Aside0.mk (H6.out.step hb)
 clear hb hk H6
 go_wp2_with fail
 refine (ex_more (k38.K_below (below_alloc (Below.refl _ _) _) K7.out) (Blk.new _ _ _ _ rfl)).mono ?_
 rintro e w8 ⟨rfl, hb⟩
 have H8 := Aside0.mk ((H7.out.alloc _).step hb.out)
 clear hb H7 K7
 go_wp2_with fail
 refine (threeK_calls 2 (by decide) _).mono ?_
 rintro e w9 ⟨cs9, rfl, hb, hk⟩
 have K9 := Aside0.mk hk
 have H9 := Aside0.mk (H8.out.step hb)
 clear hb hk H8
 go_wp2_with fail
 refine (ex_spare K9.out).mono ?_
 rintro e w10 ⟨rfl, hb⟩
 have H10 := Aside0.mk (H9.out.step hb.out)
 clear hb H9 K9
 go_wp2_with fail
 refine (threeK_calls 0 (by decide) _).mono ?_
 rintro e w11 ⟨cs11, rfl, hb, hk⟩
 have K11 := Aside0.mk hk
 have H11 := Aside0.mk (H10.out.step hb)
 clear hb hk H10
 go_wp2_with fail
 refine (ex_least K11.out).mono ?_
 rintro e w12 ⟨A4, a4, rfl, hc, hb⟩
 have H12 := Aside0.mk ((H11.out.step hb.out).addI hc.out)
 clear hb H11 hc K11
 go_wp2_with fail
 refine (threeK_calls 3 (by decide) _).mono ?_
 rintro e w13 ⟨cs13, rfl, hb, hk⟩
 have K13 := Aside0.mk hk
 have H13 := Aside0.mk (H12.out.step hb)
 clear hb hk H12
 go_wp2_with fail
 refine (ex_first K13.out).mono ?_
 rintro e w14 ⟨rfl, hb⟩
 have H14 := Aside0.mk (H13.out.step hb.out)
 clear hb H13 K13
 go_wp2_with fail
 refine (threeK_calls 3 (by decide) _).mono ?_
 rintro e w15 ⟨cs15, rfl, hb, hk⟩
 have K15 := Aside0.mk hk
 have H15 := Aside0.mk (H14.out.step hb)
 clear hb hk H14
 go_wp2_with fail
 refine (ex_leave K15.out).mono ?_
 rintro e w16 ⟨A5, a5, rfl, hc, hb⟩
 have H16 := Aside0.mk ((H15.out.step hb.out).addI hc.out)
 clear hb H15 hc K15
 go_wp2
 obtain ⟨ax, hax, kx0, kx1⟩ := row_at_rg (H16.out.rgs (A2, [⟨6, 6⟩, ⟨4, 5⟩, ⟨2, 3⟩]) (by simp)) 1 (by simp)
 obtain ⟨ay, hay, ky0, ky1⟩ := row_at_rg (H16.out.rgs (B2, [⟨12, 15⟩, ⟨10, 14⟩, ⟨0, 6⟩]) (by simp)) 2 (by simp)
 simp only at hax hay
 subst hax
 subst hay
 refine start_ (n := 92) (S := fun w' => w'.cell? ⟨ax.block, ax.off + 2, none⟩ = some (.int .i64 4) ∧ w'.cell? ⟨ax.block, ax.off + 2 + 1, none⟩ = some (.int .i64 5) ∧ w'.cell? ⟨ay.block, ay.off + 4, none⟩ = some (.int .i64 0) ∧ w'.cell? ⟨ay.block, ay.off + 4 + 1, none⟩ = some (.int .i64 6)) (ds := []) (upTo 92 0) (by kernel_rfl) rfl (by kernel_rfl) ⟨kx0, kx1, ky0, ky1⟩ (fun hHeld => ?_)
 refine with_tabW awk.tab9 awk.bits9 (fun HT_ HW_ => ?_)
 refine pure_ (i := 0) (N := some 64) (v := ?_) (a' := ?_) (upTo 92 1) rfl rfl (any_of HT_.out (by kernel_rfl)) (fun _ _ _ h => h) (Or.inl ⟨by rfl, ?_⟩) ?_ ?_
 rotate_left
 ·intro w'
  go_simp
  with_reducible rfl
 rotate_left
 ·simp only [Act.put, List.setIfInBounds_toArray, List.set_cons_zero, List.set_cons_succ, i64_w, i32_w]
  rfl
 refine pure_ (i := 1) (N := some 65) (v := ?_) (a' := ?_) (upTo 92 2) rfl rfl (any_of HT_.out (by kernel_rfl)) (fun _ _ _ h => h) (Or.inl ⟨by rfl, ?_⟩) ?_ ?_
 rotate_left
 ·intro w'
  go_simp
  with_reducible rfl
 rotate_left
 ·simp only [Act.put, List.setIfInBounds_toArray, List.set_cons_zero, List.set_cons_succ, i64_w, i32_w]
  rfl
 refine pure_ (i := 2) (N := some 66) (v := ?_) (a' := ?_) (upTo 92 3) rfl rfl (any_of HT_.out (by kernel_rfl)) (fun _ _ _ h => h) (Or.inl ⟨by rfl, ?_⟩) ?_ ?_
 rotate_left
 ·intro w'
  go_simp
  with_reducible rfl
 rotate_left
 ·simp only [Act.put, List.setIfInBounds_toArray, List.set_cons_zero, List.set_cons_succ, i64_w, i32_w]
  rfl
 refine pure_ (i := 3) (N := some 67) (v := ?_) (a' := ?_) (upTo 92 4) rfl rfl (any_of HT_.out (by kernel_rfl)) (fun _ _ _ h => h) (Or.inl ⟨by rfl, ?_⟩) ?_ ?_
 rotate_left
 ·intro w'
  go_simp
  with_reducible rfl
 rotate_left
 ·simp only [Act.put, List.setIfInBounds_toArray, List.set_cons_zero, List.set_cons_succ, i64_w, i32_w]
  rfl
 refine one_ (i := 4) (N := some 68) (upTo 92 5) rfl rfl (one_of HT_.out (by kernel_rfl)) (by decide) (fun K hK => ?_)
 refine value_ (w1 := ?_) (v := ?_) (by rfl) rfl ?_ ?_
 rotate_left 2
 ·go_simp
  constructor
  ·rfl
  ·rfl
 refine hK.out _ _ ⟨cell_al _ (hHeld.1), cell_al _ (hHeld.2.1), cell_al _ (hHeld.2.2.1), cell_al _ (hHeld.2.2.2)⟩ (fun hHeld => ?_)
 clear hK K
 refine norm_ (a' := ?_) ?_ ?_
 rotate_left
 ·show Act.put _ (some 68) _ = _
  simp only [Act.put, List.setIfInBounds_toArray, List.set_cons_zero, List.set_cons_succ, i64_w, i32_w]
  rfl
 refine one_ (i := 5) (N := some 69) (upTo 92 6) rfl rfl (one_of HT_.out (by kernel_rfl)) (by decide) (fun K hK => ?_)
 refine goes_ Try.func38 (by kernel_rfl) rfl #[.slice A1 3 a1, .slice (some ⟨w16.heap.size, 0, none⟩) 3 3] (by rfl) rfl rfl (by simp only [List.map_toArray, List.map_cons, List.map_nil]; rfl) ?_
 with_reducible refine (ex_same (g := w16.heap.size) (A := A1) (c := a1) (a := 6) (b := 4) (d := 2) (((H16.out.alloc _).step (below_drew (Below.refl _ _))).ints (A1, [6, 4, 2]) (by simp)) (Blk.drew (Blk.new _ _ _ _ rfl))).mono ?_
 rintro e w17 ⟨rfl, hb⟩
 have H17 := Aside0.mk (((H16.out.alloc _).step (below_drew (Below.refl _ _))).step hb.out)
 refine ⟨_, rfl, ?_⟩
 refine hK.out _ _ ⟨pw_cell_below hb.out (hHeld.1), pw_cell_below hb.out (hHeld.2.1), pw_cell_below hb.out (hHeld.2.2.1), pw_cell_below hb.out (hHeld.2.2.2)⟩ (fun hHeld => ?_)
 clear hK K
 refine norm_ (a' := ?_) ?_ ?_
 rotate_left
 ·show Act.put _ (some 69) _ = _
  simp only [Act.put, List.setIfInBounds_toArray, List.set_cons_zero, List.set_cons_succ, i64_w, i32_w]
  rfl
 refine pure_ (i := 6) (N := some 70) (v := ?_) (a' := ?_) (upTo 92 7) rfl rfl (any_of HT_.out (by kernel_rfl)) (fun _ _ _ h => h) (Or.inl ⟨by rfl, ?_⟩) ?_ ?_
 rotate_left
 ·intro w'
  go_simp
  with_reducible rfl
 rotate_left
 ·simp only [Act.put, List.setIfInBounds_toArray, List.set_cons_zero, List.set_cons_succ, i64_w, i32_w]
  rfl
 refine pure_ (i := 7) (N := some 71) (v := ?_) (a' := ?_) (upTo 92 8) rfl rfl (any_of HT_.out (by kernel_rfl)) (fun _ _ _ h => h) (Or.inl ⟨by rfl, ?_⟩) ?_ ?_
 rotate_left
 ·intro w'
  go_simp
  with_reducible rfl
 rotate_left
 ·simp only [Act.put, List.setIfInBounds_toArray, List.set_cons_zero, List.set_cons_succ, i64_w, i32_w]
  rfl
 refine pure_ (i := 8) (N := some 72) (v := ?_) (a' := ?_) (upTo 92 9) rfl rfl (any_of HT_.out (by kernel_rfl)) (fun _ _ _ h => h) (Or.inl ⟨by rfl, ?_⟩) ?_ ?_
 rotate_left
 ·intro w'
  go_simp
  with_reducible rfl
 rotate_left
 ·simp only [Act.put, List.setIfInBounds_toArray, List.set_cons_zero, List.set_cons_succ, i64_w, i32_w]
  rfl
 refine one_ (i := 9) (N := some 73) (upTo 92 10) rfl rfl (one_of HT_.out (by kernel_rfl)) (by decide) (fun K hK => ?_)
 refine value_ (w1 := ?_) (v := ?_) (by rfl) rfl ?_ ?_
 rotate_left 2
 ·go_simp
  constructor
  ·rfl
  ·rfl
 refine hK.out _ _ ⟨cell_al _ (hHeld.1), cell_al _ (hHeld.2.1), cell_al _ (hHeld.2.2.1), cell_al _ (hHeld.2.2.2)⟩ (fun hHeld => ?_)
 clear hK K
 refine norm_ (a' := ?_) ?_ ?_
 rotate_left
 ·show Act.put _ (some 73) _ = _
  simp only [Act.put, List.setIfInBounds_toArray, List.set_cons_zero, List.set_cons_succ, i64_w, i32_w]
  rfl
 refine one_ (i := 10) (N := some 74) (upTo 92 11) rfl rfl (one_of HT_.out (by kernel_rfl)) (by decide) (fun K hK => ?_)
 refine goes_ Try.func38 (by kernel_rfl) rfl #[.slice B1 3 b1, .slice (some ⟨w17.heap.size, 0, none⟩) 3 3] (by rfl) rfl rfl (by simp only [List.map_toArray, List.map_cons, List.map_nil]; rfl) ?_
 with_reducible refine (ex_same (g := w17.heap.size) (A := B1) (c := b1) (a := 12) (b := 10) (d := 0) ((H17.out.alloc _).ints (B1, [12, 10, 0]) (by simp)) (Blk.new _ _ _ _ rfl)).mono ?_
 rintro e w18 ⟨rfl, hb⟩
 have H18 := Aside0.mk ((H17.out.alloc _).step hb.out)
 refine ⟨_, rfl, ?_⟩
 refine hK.out _ _ ⟨pw_cell_below hb.out (hHeld.1), pw_cell_below hb.out (hHeld.2.1), pw_cell_below hb.out (hHeld.2.2.1), pw_cell_below hb.out (hHeld.2.2.2)⟩ (fun hHeld => ?_)
 clear hK K
 refine norm_ (a' := ?_) ?_ ?_
 rotate_left
 ·show Act.put _ (some 74) _ = _
  simp only [Act.put, List.setIfInBounds_toArray, List.set_cons_zero, List.set_cons_succ, i64_w, i32_w]
  rfl
 refine pure_ (i := 11) (N := some 75) (v := ?_) (a' := ?_) (upTo 92 12) rfl rfl (any_of HT_.out (by kernel_rfl)) (fun _ _ _ h => h) (Or.inl ⟨by rfl, ?_⟩) ?_ ?_
 rotate_left
 ·intro w'
  go_simp
  with_reducible rfl
 rotate_left
 ·simp only [Act.put, List.setIfInBounds_toArray, List.set_cons_zero, List.set_cons_succ, i64_w, i32_w]
  rfl
 refine pure_ (i := 12) (N := some 76) (v := ?_) (a' := ?_) (upTo 92 13) rfl rfl (any_of HT_.out (by kernel_rfl)) (fun _ _ _ h => h) (Or.inl ⟨by rfl, ?_⟩) ?_ ?_
 rotate_left
 ·intro w'
  go_simp
  with_reducible rfl
 rotate_left
 ·simp only [Act.put, List.setIfInBounds_toArray, List.set_cons_zero, List.set_cons_succ, i64_w, i32_w]
  rfl
 refine pure_ (i := 13) (N := some 77) (v := ?_) (a' := ?_) (upTo 92 14) rfl rfl (any_of HT_.out (by kernel_rfl)) (fun _ _ _ h => h) (Or.inl ⟨by rfl, ?_⟩) ?_ ?_
 rotate_left
 ·intro w'
  go_simp
  with_reducible rfl
 rotate_left
 ·simp only [Act.put, List.setIfInBounds_toArray, List.set_cons_zero, List.set_cons_succ, i64_w, i32_w]
  rfl
 refine pure_ (i := 14) (N := some 78) (v := ?_) (a' := ?_) (upTo 92 15) rfl rfl (any_of HT_.out (by kernel_rfl)) (fun _ _ _ h => h) (Or.inl ⟨by rfl, ?_⟩) ?_ ?_
 rotate_left
 ·intro w'
  go_simp
  with_reducible rfl
 rotate_left
 ·simp only [Act.put, List.setIfInBounds_toArray, List.set_cons_zero, List.set_cons_succ, i64_w, i32_w]
  rfl
 refine pure_ (i := 15) (N := some 79) (v := ?_) (a' := ?_) (upTo 92 16) rfl rfl (any_of HT_.out (by kernel_rfl)) (fun _ _ _ h => h) (Or.inl ⟨by rfl, ?_⟩) ?_ ?_
 rotate_left
 ·intro w'
  go_simp
  with_reducible rfl
 rotate_left
 ·simp only [Act.put, List.setIfInBounds_toArray, List.set_cons_zero, List.set_cons_succ, i64_w, i32_w]
  rfl
 refine pure_ (i := 16) (N := some 80) (v := ?_) (a' := ?_) (upTo 92 17) rfl rfl (any_of HT_.out (by kernel_rfl)) (fun _ _ _ h => h) (Or.inl ⟨by rfl, ?_⟩) ?_ ?_
 rotate_left
 ·intro w'
  go_simp
  with_reducible rfl
 rotate_left
 ·simp only [Act.put, List.setIfInBounds_toArray, List.set_cons_zero, List.set_cons_succ, i64_w, i32_w]
  rfl
 refine pure_ (i := 17) (N := some 81) (v := ?_) (a' := ?_) (upTo 92 18) rfl rfl (any_of HT_.out (by kernel_rfl)) (fun _ _ _ h => h) (Or.inl ⟨by rfl, ?_⟩) ?_ ?_
 rotate_left
 ·intro w'
  go_simp
  with_reducible rfl
 rotate_left
 ·simp only [Act.put, List.setIfInBounds_toArray, List.set_cons_zero, List.set_cons_succ, i64_w, i32_w]
  rfl
 refine pure_ (i := 18) (N := some 82) (v := ?_) (a' := ?_) (upTo 92 19) rfl rfl (any_of HT_.out (by kernel_rfl)) (fun _ _ _ h => h) (Or.inl ⟨by rfl, ?_⟩) ?_ ?_
 rotate_left
 ·intro w'
  go_simp
  with_reducible rfl
 rotate_left
 ·simp only [Act.put, List.setIfInBounds_toArray, List.set_cons_zero, List.set_cons_succ, i64_w, i32_w]
  rfl
 refine pure_ (i := 19) (N := some 83) (v := ?_) (a' := ?_) (upTo 92 20) rfl rfl (any_of HT_.out (by kernel_rfl)) (fun _ _ _ h => h) (Or.inl ⟨by rfl, ?_⟩) ?_ ?_
 rotate_left
 ·intro w'
  go_simp
  with_reducible rfl
 rotate_left
 ·simp only [Act.put, List.setIfInBounds_toArray, List.set_cons_zero, List.set_cons_succ, i64_w, i32_w]
  rfl
 refine pure_ (i := 20) (N := some 84) (v := ?_) (a' := ?_) (upTo 92 21) rfl rfl (any_of HT_.out (by kernel_rfl)) (fun _ _ _ h => h) (Or.inl ⟨by rfl, ?_⟩) ?_ ?_
 rotate_left
 ·intro w'
  go_simp
  with_reducible rfl
 rotate_left
 ·simp only [Act.put, List.setIfInBounds_toArray, List.set_cons_zero, List.set_cons_succ, i64_w, i32_w]
  rfl
 refine pure_ (i := 21) (N := some 85) (v := ?_) (a' := ?_) (upTo 92 22) rfl rfl (any_of HT_.out (by kernel_rfl)) (fun _ _ _ h => h) (Or.inl ⟨by rfl, ?_⟩) ?_ ?_
 rotate_left
 ·intro w'
  go_simp
  with_reducible rfl
 rotate_left
 ·simp only [Act.put, List.setIfInBounds_toArray, List.set_cons_zero, List.set_cons_succ, i64_w, i32_w]
  rfl
 refine pure_ (i := 22) (N := some 86) (v := ?_) (a' := ?_) (upTo 92 23) rfl rfl (any_of HT_.out (by kernel_rfl)) (fun _ _ _ h => h) (Or.inl ⟨by rfl, ?_⟩) ?_ ?_
 rotate_left
 ·intro w'
  go_simp
  with_reducible rfl
 rotate_left
 ·simp only [Act.put, List.setIfInBounds_toArray, List.set_cons_zero, List.set_cons_succ, i64_w, i32_w]
  rfl
 refine pure_ (i := 23) (N := some 87) (v := ?_) (a' := ?_) (upTo 92 24) rfl rfl (any_of HT_.out (by kernel_rfl)) (fun _ _ _ h => h) (Or.inl ⟨by rfl, ?_⟩) ?_ ?_
 rotate_left
 ·intro w'
  go_simp
  with_reducible rfl
 rotate_left
 ·simp only [Act.put, List.setIfInBounds_toArray, List.set_cons_zero, List.set_cons_succ, i64_w, i32_w]
  rfl
 refine pure_ (i := 24) (N := some 88) (v := ?_) (a' := ?_) (upTo 92 25) rfl rfl (any_of HT_.out (by kernel_rfl)) (fun _ _ _ h => h) (Or.inl ⟨by rfl, ?_⟩) ?_ ?_
 rotate_left
 ·intro w'
  go_simp
  with_reducible rfl
 rotate_left
 ·simp only [Act.put, List.setIfInBounds_toArray, List.set_cons_zero, List.set_cons_succ, i64_w, i32_w]
  rfl
 refine pure_ (i := 25) (N := some 89) (v := ?_) (a' := ?_) (upTo 92 26) rfl rfl (any_of HT_.out (by kernel_rfl)) (fun _ _ _ h => h) (Or.inl ⟨by rfl, ?_⟩) ?_ ?_
 rotate_left
 ·intro w'
  go_simp
  with_reducible rfl
 rotate_left
 ·simp only [Act.put, List.setIfInBounds_toArray, List.set_cons_zero, List.set_cons_succ, i64_w, i32_w]
  rfl
 refine pure_ (i := 26) (N := some 90) (v := ?_) (a' := ?_) (upTo 92 27) rfl rfl (any_of HT_.out (by kernel_rfl)) (fun _ _ _ h => h) (Or.inl ⟨by rfl, ?_⟩) ?_ ?_
 rotate_left
 ·intro w'
  go_simp
  with_reducible rfl
 rotate_left
 ·simp only [Act.put, List.setIfInBounds_toArray, List.set_cons_zero, List.set_cons_succ, i64_w, i32_w]
  rfl
 refine pure_ (i := 27) (N := some 91) (v := ?_) (a' := ?_) (upTo 92 28) rfl rfl (any_of HT_.out (by kernel_rfl)) (fun _ _ _ h => h) (Or.inl ⟨by rfl, ?_⟩) ?_ ?_
 rotate_left
 ·intro w'
  go_simp
  with_reducible rfl
 rotate_left
 ·simp only [Act.put, List.setIfInBounds_toArray, List.set_cons_zero, List.set_cons_succ, i64_w, i32_w]
  rfl
 refine pure_ (i := 28) (N := some 92) (v := ?_) (a' := ?_) (upTo 92 29) rfl rfl (any_of HT_.out (by kernel_rfl)) (fun _ _ _ h => h) (Or.inl ⟨by rfl, ?_⟩) ?_ ?_
 rotate_left
 ·intro w'
  go_simp
  with_reducible rfl
 rotate_left
 ·simp only [Act.put, List.setIfInBounds_toArray, List.set_cons_zero, List.set_cons_succ, i64_w, i32_w]
  rfl
 refine take_ (i := 29) (N := some 93) (v := ?_) (a' := ?_) (upTo 92 30) rfl rfl (take_ofW HT_.out HW_.out (by kernel_rfl)) (fun _ _ _ h => h) (Or.inl ⟨by rfl, ?_⟩) hHeld ?_ ?_
 rotate_left
 ·rintro w' ⟨s0, s1, s2, s3⟩
  go_simp
  with_reducible rfl
 rotate_left
 ·simp only [Act.put, List.setIfInBounds_toArray, List.set_cons_zero, List.set_cons_succ, i64_w, i32_w]
  rfl
 refine one_ (i := 30) (N := some 94) (upTo 92 31) rfl rfl (one_of HT_.out (by kernel_rfl)) (by decide) (fun K hK => ?_)
 refine goes_ Try.func76 (by kernel_rfl) rfl #[.int .i64 4, .int .i64 5] (by rfl) rfl rfl (by simp only [List.map_toArray, List.map_cons, List.map_nil]; rfl) ?_
 with_reducible refine (between_calls 4 5 _).mono ?_
 rintro e w19 ⟨rfl, hb0⟩
 have hb := Aside0.mk hb0
 have H19 := Aside0.mk (H18.out.step hb.out)
 refine ⟨_, rfl, ?_⟩
 refine hK.out _ _ ⟨pw_cell_below hb.out (hHeld.1), pw_cell_below hb.out (hHeld.2.1), pw_cell_below hb.out (hHeld.2.2.1), pw_cell_below hb.out (hHeld.2.2.2)⟩ (fun hHeld => ?_)
 clear hK K
 refine norm_ (a' := ?_) ?_ ?_
 rotate_left
 ·show Act.put _ (some 94) _ = _
  simp only [Act.put, List.setIfInBounds_toArray, List.set_cons_zero, List.set_cons_succ, i64_w, i32_w]
  rfl
 refine pure_ (i := 31) (N := some 95) (v := ?_) (a' := ?_) (upTo 92 32) rfl rfl (any_of HT_.out (by kernel_rfl)) (fun _ _ _ h => h) (Or.inl ⟨by rfl, ?_⟩) ?_ ?_
 rotate_left
 ·intro w'
  go_simp
  with_reducible rfl
 rotate_left
 ·simp only [Act.put, List.setIfInBounds_toArray, List.set_cons_zero, List.set_cons_succ, i64_w, i32_w]
  rfl
 refine pure_ (i := 32) (N := some 96) (v := ?_) (a' := ?_) (upTo 92 33) rfl rfl (any_of HT_.out (by kernel_rfl)) (fun _ _ _ h => h) (Or.inl ⟨by rfl, ?_⟩) ?_ ?_
 rotate_left
 ·intro w'
  go_simp
  with_reducible rfl
 rotate_left
 ·simp only [Act.put, List.setIfInBounds_toArray, List.set_cons_zero, List.set_cons_succ, i64_w, i32_w]
  rfl
 refine pure_ (i := 33) (N := some 97) (v := ?_) (a' := ?_) (upTo 92 34) rfl rfl (any_of HT_.out (by kernel_rfl)) (fun _ _ _ h => h) (Or.inl ⟨by rfl, ?_⟩) ?_ ?_
 rotate_left
 ·intro w'
  go_simp
  with_reducible rfl
 rotate_left
 ·simp only [Act.put, List.setIfInBounds_toArray, List.set_cons_zero, List.set_cons_succ, i64_w, i32_w]
  rfl
 refine pure_ (i := 34) (N := some 98) (v := ?_) (a' := ?_) (upTo 92 35) rfl rfl (any_of HT_.out (by kernel_rfl)) (fun _ _ _ h => h) (Or.inl ⟨by rfl, ?_⟩) ?_ ?_
 rotate_left
 ·intro w'
  go_simp
  with_reducible rfl
 rotate_left
 ·simp only [Act.put, List.setIfInBounds_toArray, List.set_cons_zero, List.set_cons_succ, i64_w, i32_w]
  rfl
 refine pure_ (i := 35) (N := some 99) (v := ?_) (a' := ?_) (upTo 92 36) rfl rfl (any_of HT_.out (by kernel_rfl)) (fun _ _ _ h => h) (Or.inl ⟨by rfl, ?_⟩) ?_ ?_
 rotate_left
 ·intro w'
  go_simp
  with_reducible rfl
 rotate_left
 ·simp only [Act.put, List.setIfInBounds_toArray, List.set_cons_zero, List.set_cons_succ, i64_w, i32_w]
  rfl
 refine take_ (i := 36) (N := some 100) (v := ?_) (a' := ?_) (upTo 92 37) rfl rfl (take_ofW HT_.out HW_.out (by kernel_rfl)) (fun _ _ _ h => h) (Or.inl ⟨by rfl, ?_⟩) hHeld ?_ ?_
 rotate_left
 ·rintro w' ⟨s0, s1, s2, s3⟩
  go_simp
  with_reducible rfl
 rotate_left
 ·simp only [Act.put, List.setIfInBounds_toArray, List.set_cons_zero, List.set_cons_succ, i64_w, i32_w]
  rfl
 refine one_ (i := 37) (N := some 101) (upTo 92 38) rfl rfl (one_of HT_.out (by kernel_rfl)) (by decide) (fun K hK => ?_)
 refine goes_ Try.func76 (by kernel_rfl) rfl #[.int .i64 0, .int .i64 6] (by rfl) rfl rfl (by simp only [List.map_toArray, List.map_cons, List.map_nil]; rfl) ?_
 with_reducible refine (between_calls 0 6 _).mono ?_
 rintro e w20 ⟨rfl, hb0⟩
 have hb := Aside0.mk hb0
 have H20 := Aside0.mk (H19.out.step hb.out)
 refine ⟨_, rfl, ?_⟩
 refine hK.out _ _ ⟨pw_cell_below hb.out (hHeld.1), pw_cell_below hb.out (hHeld.2.1), pw_cell_below hb.out (hHeld.2.2.1), pw_cell_below hb.out (hHeld.2.2.2)⟩ (fun hHeld => ?_)
 clear hK K
 refine norm_ (a' := ?_) ?_ ?_
 rotate_left
 ·show Act.put _ (some 101) _ = _
  simp only [Act.put, List.setIfInBounds_toArray, List.set_cons_zero, List.set_cons_succ, i64_w, i32_w]
  rfl
 refine pure_ (i := 38) (N := some 102) (v := ?_) (a' := ?_) (upTo 92 39) rfl rfl (any_of HT_.out (by kernel_rfl)) (fun _ _ _ h => h) (Or.inl ⟨by rfl, ?_⟩) ?_ ?_
 rotate_left
 ·intro w'
  go_simp
  with_reducible rfl
 rotate_left
 ·simp only [Act.put, List.setIfInBounds_toArray, List.set_cons_zero, List.set_cons_succ, i64_w, i32_w]
  rfl
 refine pure_ (i := 39) (N := some 103) (v := ?_) (a' := ?_) (upTo 92 40) rfl rfl (any_of HT_.out (by kernel_rfl)) (fun _ _ _ h => h) (Or.inl ⟨by rfl, ?_⟩) ?_ ?_
 rotate_left
 ·intro w'
  go_simp
  with_reducible rfl
 rotate_left
 ·simp only [Act.put, List.setIfInBounds_toArray, List.set_cons_zero, List.set_cons_succ, i64_w, i32_w]
  rfl
 refine pure_ (i := 40) (N := some 104) (v := ?_) (a' := ?_) (upTo 92 41) rfl rfl (any_of HT_.out (by kernel_rfl)) (fun _ _ _ h => h) (Or.inl ⟨by rfl, ?_⟩) ?_ ?_
 rotate_left
 ·intro w'
  go_simp
  with_reducible rfl
 rotate_left
 ·simp only [Act.put, List.setIfInBounds_toArray, List.set_cons_zero, List.set_cons_succ, i64_w, i32_w]
  rfl
 refine pure_ (i := 41) (N := some 105) (v := ?_) (a' := ?_) (upTo 92 42) rfl rfl (any_of HT_.out (by kernel_rfl)) (fun _ _ _ h => h) (Or.inl ⟨by rfl, ?_⟩) ?_ ?_
 rotate_left
 ·intro w'
  go_simp
  with_reducible rfl
 rotate_left
 ·simp only [Act.put, List.setIfInBounds_toArray, List.set_cons_zero, List.set_cons_succ, i64_w, i32_w]
  rfl
 refine pure_ (i := 42) (N := some 106) (v := ?_) (a' := ?_) (upTo 92 43) rfl rfl (any_of HT_.out (by kernel_rfl)) (fun _ _ _ h => h) (Or.inl ⟨by rfl, ?_⟩) ?_ ?_
 rotate_left
 ·intro w'
  go_simp
  with_reducible rfl
 rotate_left
 ·simp only [Act.put, List.setIfInBounds_toArray, List.set_cons_zero, List.set_cons_succ, i64_w, i32_w]
  rfl
 refine pure_ (i := 43) (N := some 107) (v := ?_) (a' := ?_) (upTo 92 44) rfl rfl (any_of HT_.out (by kernel_rfl)) (fun _ _ _ h => h) (Or.inl ⟨by rfl, ?_⟩) ?_ ?_
 rotate_left
 ·intro w'
  go_simp
  with_reducible rfl
 rotate_left
 ·simp only [Act.put, List.setIfInBounds_toArray, List.set_cons_zero, List.set_cons_succ, i64_w, i32_w]
  rfl
 refine pure_ (i := 44) (N := some 108) (v := ?_) (a' := ?_) (upTo 92 45) rfl rfl (any_of HT_.out (by kernel_rfl)) (fun _ _ _ h => h) (Or.inl ⟨by rfl, ?_⟩) ?_ ?_
 rotate_left
 ·intro w'
  go_simp
  with_reducible rfl
 rotate_left
 ·simp only [Act.put, List.setIfInBounds_toArray, List.set_cons_zero, List.set_cons_succ, i64_w, i32_w]
  rfl
 refine pure_ (i := 45) (N := some 109) (v := ?_) (a' := ?_) (upTo 92 46) rfl rfl (any_of HT_.out (by kernel_rfl)) (fun _ _ _ h => h) (Or.inl ⟨by rfl, ?_⟩) ?_ ?_
 rotate_left
 ·intro w'
  go_simp
  with_reducible rfl
 rotate_left
 ·simp only [Act.put, List.setIfInBounds_toArray, List.set_cons_zero, List.set_cons_succ, i64_w, i32_w]
  rfl
 refine one_ (i := 46) (N := some 110) (upTo 92 47) rfl rfl (one_of HT_.out (by kernel_rfl)) (by decide) (fun K hK => ?_)
 refine value_ (w1 := ?_) (v := ?_) (by rfl) rfl ?_ ?_
 rotate_left 2
 ·go_simp
  constructor
  ·rfl
  ·rfl
 refine hK.out _ _ ⟨cell_al _ (hHeld.1), cell_al _ (hHeld.2.1), cell_al _ (hHeld.2.2.1), cell_al _ (hHeld.2.2.2)⟩ (fun hHeld => ?_)
 clear hK K
 refine norm_ (a' := ?_) ?_ ?_
 rotate_left
 ·show Act.put _ (some 110) _ = _
  simp only [Act.put, List.setIfInBounds_toArray, List.set_cons_zero, List.set_cons_succ, i64_w, i32_w]
  rfl
 refine one_ (i := 47) (N := some 111) (upTo 92 48) rfl rfl (one_of HT_.out (by kernel_rfl)) (by decide) (fun K hK => ?_)
 refine goes_ Try.func38 (by kernel_rfl) rfl #[.slice A3 3 a3, .slice (some ⟨w20.heap.size, 0, none⟩) 3 3] (by rfl) rfl rfl (by simp only [List.map_toArray, List.map_cons, List.map_nil]; rfl) ?_
 with_reducible refine (ex_same (g := w20.heap.size) (A := A3) (c := a3) (a := 1) (b := 1) (d := 3) ((H20.out.alloc _).ints (A3, [1, 1, 3]) (by simp)) (Blk.new _ _ _ _ rfl)).mono ?_
 rintro e w21 ⟨rfl, hb⟩
 have H21 := Aside0.mk ((H20.out.alloc _).step hb.out)
 refine ⟨_, rfl, ?_⟩
 refine hK.out _ _ ⟨pw_cell_below hb.out (hHeld.1), pw_cell_below hb.out (hHeld.2.1), pw_cell_below hb.out (hHeld.2.2.1), pw_cell_below hb.out (hHeld.2.2.2)⟩ (fun hHeld => ?_)
 clear hK K
 refine norm_ (a' := ?_) ?_ ?_
 rotate_left
 ·show Act.put _ (some 111) _ = _
  simp only [Act.put, List.setIfInBounds_toArray, List.set_cons_zero, List.set_cons_succ, i64_w, i32_w]
  rfl
 refine pure_ (i := 48) (N := some 112) (v := ?_) (a' := ?_) (upTo 92 49) rfl rfl (any_of HT_.out (by kernel_rfl)) (fun _ _ _ h => h) (Or.inl ⟨by rfl, ?_⟩) ?_ ?_
 rotate_left
 ·intro w'
  go_simp
  with_reducible rfl
 rotate_left
 ·simp only [Act.put, List.setIfInBounds_toArray, List.set_cons_zero, List.set_cons_succ, i64_w, i32_w]
  rfl
 refine pure_ (i := 49) (N := some 113) (v := ?_) (a' := ?_) (upTo 92 50) rfl rfl (any_of HT_.out (by kernel_rfl)) (fun _ _ _ h => h) (Or.inl ⟨by rfl, ?_⟩) ?_ ?_
 rotate_left
 ·intro w'
  go_simp
  with_reducible rfl
 rotate_left
 ·simp only [Act.put, List.setIfInBounds_toArray, List.set_cons_zero, List.set_cons_succ, i64_w, i32_w]
  rfl
 refine pure_ (i := 50) (N := some 114) (v := ?_) (a' := ?_) (upTo 92 51) rfl rfl (any_of HT_.out (by kernel_rfl)) (fun _ _ _ h => h) (Or.inl ⟨by rfl, ?_⟩) ?_ ?_
 rotate_left
 ·intro w'
  go_simp
  with_reducible rfl
 rotate_left
 ·simp only [Act.put, List.setIfInBounds_toArray, List.set_cons_zero, List.set_cons_succ, i64_w, i32_w]
  rfl
 refine pure_ (i := 51) (N := some 115) (v := ?_) (a' := ?_) (upTo 92 52) rfl rfl (any_of HT_.out (by kernel_rfl)) (fun _ _ _ h => h) (Or.inl ⟨by rfl, ?_⟩) ?_ ?_
 rotate_left
 ·intro w'
  go_simp
  with_reducible rfl
 rotate_left
 ·simp only [Act.put, List.setIfInBounds_toArray, List.set_cons_zero, List.set_cons_succ, i64_w, i32_w]
  rfl
 refine pure_ (i := 52) (N := some 116) (v := ?_) (a' := ?_) (upTo 92 53) rfl rfl (any_of HT_.out (by kernel_rfl)) (fun _ _ _ h => h) (Or.inl ⟨by rfl, ?_⟩) ?_ ?_
 rotate_left
 ·intro w'
  go_simp
  with_reducible rfl
 rotate_left
 ·simp only [Act.put, List.setIfInBounds_toArray, List.set_cons_zero, List.set_cons_succ, i64_w, i32_w]
  rfl
 refine pure_ (i := 53) (N := some 117) (v := ?_) (a' := ?_) (upTo 92 54) rfl rfl (any_of HT_.out (by kernel_rfl)) (fun _ _ _ h => h) (Or.inl ⟨by rfl, ?_⟩) ?_ ?_
 rotate_left
 ·intro w'
  go_simp
  with_reducible rfl
 rotate_left
 ·simp only [Act.put, List.setIfInBounds_toArray, List.set_cons_zero, List.set_cons_succ, i64_w, i32_w]
  rfl
 refine pure_ (i := 54) (N := some 118) (v := ?_) (a' := ?_) (upTo 92 55) rfl rfl (any_of HT_.out (by kernel_rfl)) (fun _ _ _ h => h) (Or.inl ⟨by rfl, ?_⟩) ?_ ?_
 rotate_left
 ·intro w'
  go_simp
  with_reducible rfl
 rotate_left
 ·simp only [Act.put, List.setIfInBounds_toArray, List.set_cons_zero, List.set_cons_succ, i64_w, i32_w]
  rfl
 refine pure_ (i := 55) (N := some 119) (v := ?_) (a' := ?_) (upTo 92 56) rfl rfl (any_of HT_.out (by kernel_rfl)) (fun _ _ _ h => h) (Or.inl ⟨by rfl, ?_⟩) ?_ ?_
 rotate_left
 ·intro w'
  go_simp
  with_reducible rfl
 rotate_left
 ·simp only [Act.put, List.setIfInBounds_toArray, List.set_cons_zero, List.set_cons_succ, i64_w, i32_w]
  rfl
 refine pure_ (i := 56) (N := some 120) (v := ?_) (a' := ?_) (upTo 92 57) rfl rfl (any_of HT_.out (by kernel_rfl)) (fun _ _ _ h => h) (Or.inl ⟨by rfl, ?_⟩) ?_ ?_
 rotate_left
 ·intro w'
  go_simp
  with_reducible rfl
 rotate_left
 ·simp only [Act.put, List.setIfInBounds_toArray, List.set_cons_zero, List.set_cons_succ, i64_w, i32_w]
  rfl
 refine pure_ (i := 57) (N := some 121) (v := ?_) (a' := ?_) (upTo 92 58) rfl rfl (any_of HT_.out (by kernel_rfl)) (fun _ _ _ h => h) (Or.inl ⟨by rfl, ?_⟩) ?_ ?_
 rotate_left
 ·intro w'
  go_simp
  with_reducible rfl
 rotate_left
 ·simp only [Act.put, List.setIfInBounds_toArray, List.set_cons_zero, List.set_cons_succ, i64_w, i32_w]
  rfl
 refine pure_ (i := 58) (N := some 122) (v := ?_) (a' := ?_) (upTo 92 59) rfl rfl (any_of HT_.out (by kernel_rfl)) (fun _ _ _ h => h) (Or.inl ⟨by rfl, ?_⟩) ?_ ?_
 rotate_left
 ·intro w'
  go_simp
  with_reducible rfl
 rotate_left
 ·simp only [Act.put, List.setIfInBounds_toArray, List.set_cons_zero, List.set_cons_succ, i64_w, i32_w]
  rfl
 refine pure_ (i := 59) (N := some 123) (v := ?_) (a' := ?_) (upTo 92 60) rfl rfl (any_of HT_.out (by kernel_rfl)) (fun _ _ _ h => h) (Or.inl ⟨by rfl, ?_⟩) ?_ ?_
 rotate_left
 ·intro w'
  go_simp
  with_reducible rfl
 rotate_left
 ·simp only [Act.put, List.setIfInBounds_toArray, List.set_cons_zero, List.set_cons_succ, i64_w, i32_w]
  rfl
 refine pure_ (i := 60) (N := some 124) (v := ?_) (a' := ?_) (upTo 92 61) rfl rfl (any_of HT_.out (by kernel_rfl)) (fun _ _ _ h => h) (Or.inl ⟨by rfl, ?_⟩) ?_ ?_
 rotate_left
 ·intro w'
  go_simp
  with_reducible rfl
 rotate_left
 ·simp only [Act.put, List.setIfInBounds_toArray, List.set_cons_zero, List.set_cons_succ, i64_w, i32_w]
  rfl
 refine pure_ (i := 61) (N := some 125) (v := ?_) (a' := ?_) (upTo 92 62) rfl rfl (any_of HT_.out (by kernel_rfl)) (fun _ _ _ h => h) (Or.inl ⟨by rfl, ?_⟩) ?_ ?_
 rotate_left
 ·intro w'
  go_simp
  with_reducible rfl
 rotate_left
 ·simp only [Act.put, List.setIfInBounds_toArray, List.set_cons_zero, List.set_cons_succ, i64_w, i32_w]
  rfl
 refine pure_ (i := 62) (N := some 126) (v := ?_) (a' := ?_) (upTo 92 63) rfl rfl (any_of HT_.out (by kernel_rfl)) (fun _ _ _ h => h) (Or.inl ⟨by rfl, ?_⟩) ?_ ?_
 rotate_left
 ·intro w'
  go_simp
  with_reducible rfl
 rotate_left
 ·simp only [Act.put, List.setIfInBounds_toArray, List.set_cons_zero, List.set_cons_succ, i64_w, i32_w]
  rfl
 refine pure_ (i := 63) (N := some 127) (v := ?_) (a' := ?_) (upTo 92 64) rfl rfl (any_of HT_.out (by kernel_rfl)) (fun _ _ _ h => h) (Or.inl ⟨by rfl, ?_⟩) ?_ ?_
 rotate_left
 ·intro w'
  go_simp
  with_reducible rfl
 rotate_left
 ·simp only [Act.put, List.setIfInBounds_toArray, List.set_cons_zero, List.set_cons_succ, i64_w, i32_w]
  rfl
 refine pure_ (i := 64) (N := some 128) (v := ?_) (a' := ?_) (upTo 92 65) rfl rfl (any_of HT_.out (by kernel_rfl)) (fun _ _ _ h => h) (Or.inl ⟨by rfl, ?_⟩) ?_ ?_
 rotate_left
 ·intro w'
  go_simp
  with_reducible rfl
 rotate_left
 ·simp only [Act.put, List.setIfInBounds_toArray, List.set_cons_zero, List.set_cons_succ, i64_w, i32_w]
  rfl
 refine pure_ (i := 65) (N := some 129) (v := ?_) (a' := ?_) (upTo 92 66) rfl rfl (any_of HT_.out (by kernel_rfl)) (fun _ _ _ h => h) (Or.inl ⟨by rfl, ?_⟩) ?_ ?_
 rotate_left
 ·intro w'
  go_simp
  with_reducible rfl
 rotate_left
 ·simp only [Act.put, List.setIfInBounds_toArray, List.set_cons_zero, List.set_cons_succ, i64_w, i32_w]
  rfl
 refine pure_ (i := 66) (N := some 130) (v := ?_) (a' := ?_) (upTo 92 67) rfl rfl (any_of HT_.out (by kernel_rfl)) (fun _ _ _ h => h) (Or.inl ⟨by rfl, ?_⟩) ?_ ?_
 rotate_left
 ·intro w'
  go_simp
  with_reducible rfl
 rotate_left
 ·simp only [Act.put, List.setIfInBounds_toArray, List.set_cons_zero, List.set_cons_succ, i64_w, i32_w]
  rfl
 refine pure_ (i := 67) (N := some 131) (v := ?_) (a' := ?_) (upTo 92 68) rfl rfl (any_of HT_.out (by kernel_rfl)) (fun _ _ _ h => h) (Or.inl ⟨by rfl, ?_⟩) ?_ ?_
 rotate_left
 ·intro w'
  go_simp
  with_reducible rfl
 rotate_left
 ·simp only [Act.put, List.setIfInBounds_toArray, List.set_cons_zero, List.set_cons_succ, i64_w, i32_w]
  rfl
 refine pure_ (i := 68) (N := some 132) (v := ?_) (a' := ?_) (upTo 92 69) rfl rfl (any_of HT_.out (by kernel_rfl)) (fun _ _ _ h => h) (Or.inl ⟨by rfl, ?_⟩) ?_ ?_
 rotate_left
 ·intro w'
  go_simp
  with_reducible rfl
 rotate_left
 ·simp only [Act.put, List.setIfInBounds_toArray, List.set_cons_zero, List.set_cons_succ, i64_w, i32_w]
  rfl
 refine pure_ (i := 69) (N := some 133) (v := ?_) (a' := ?_) (upTo 92 70) rfl rfl (any_of HT_.out (by kernel_rfl)) (fun _ _ _ h => h) (Or.inl ⟨by rfl, ?_⟩) ?_ ?_
 rotate_left
 ·intro w'
  go_simp
  with_reducible rfl
 rotate_left
 ·simp only [Act.put, List.setIfInBounds_toArray, List.set_cons_zero, List.set_cons_succ, i64_w, i32_w]
  rfl
 refine pure_ (i := 70) (N := some 134) (v := ?_) (a' := ?_) (upTo 92 71) rfl rfl (any_of HT_.out (by kernel_rfl)) (fun _ _ _ h => h) (Or.inl ⟨by rfl, ?_⟩) ?_ ?_
 rotate_left
 ·intro w'
  go_simp
  with_reducible rfl
 rotate_left
 ·simp only [Act.put, List.setIfInBounds_toArray, List.set_cons_zero, List.set_cons_succ, i64_w, i32_w]
  rfl
 refine one_ (i := 71) (N := some 135) (upTo 92 72) rfl rfl (one_of HT_.out (by kernel_rfl)) (by decide) (fun K hK => ?_)
 refine value_ (w1 := ?_) (v := ?_) (by rfl) rfl ?_ ?_
 rotate_left 2
 ·go_simp
  constructor
  ·rfl
  ·rfl
 refine hK.out _ _ ⟨cell_al _ (hHeld.1), cell_al _ (hHeld.2.1), cell_al _ (hHeld.2.2.1), cell_al _ (hHeld.2.2.2)⟩ (fun hHeld => ?_)
 clear hK K
 refine norm_ (a' := ?_) ?_ ?_
 rotate_left
 ·show Act.put _ (some 135) _ = _
  simp only [Act.put, List.setIfInBounds_toArray, List.set_cons_zero, List.set_cons_succ, i64_w, i32_w]
  rfl
 refine one_ (i := 72) (N := some 136) (upTo 92 73) rfl rfl (one_of HT_.out (by kernel_rfl)) (by decide) (fun K hK => ?_)
 refine goes_ Try.func38 (by kernel_rfl) rfl #[.slice A4 3 a4, .slice (some ⟨w21.heap.size, 0, none⟩) 3 3] (by rfl) rfl rfl (by simp only [List.map_toArray, List.map_cons, List.map_nil]; rfl) ?_
 with_reducible refine (ex_same (g := w21.heap.size) (A := A4) (c := a4) (a := 1) (b := 1) (d := 1) ((H21.out.alloc _).ints (A4, [1, 1, 1]) (by simp)) (Blk.new _ _ _ _ rfl)).mono ?_
 rintro e w22 ⟨rfl, hb⟩
 have H22 := Aside0.mk ((H21.out.alloc _).step hb.out)
 refine ⟨_, rfl, ?_⟩
 refine hK.out _ _ ⟨pw_cell_below hb.out (hHeld.1), pw_cell_below hb.out (hHeld.2.1), pw_cell_below hb.out (hHeld.2.2.1), pw_cell_below hb.out (hHeld.2.2.2)⟩ (fun hHeld => ?_)
 clear hK K
 refine norm_ (a' := ?_) ?_ ?_
 rotate_left
 ·show Act.put _ (some 136) _ = _
  simp only [Act.put, List.setIfInBounds_toArray, List.set_cons_zero, List.set_cons_succ, i64_w, i32_w]
  rfl
 refine pure_ (i := 73) (N := some 137) (v := ?_) (a' := ?_) (upTo 92 74) rfl rfl (any_of HT_.out (by kernel_rfl)) (fun _ _ _ h => h) (Or.inl ⟨by rfl, ?_⟩) ?_ ?_
 rotate_left
 ·intro w'
  go_simp
  with_reducible rfl
 rotate_left
 ·simp only [Act.put, List.setIfInBounds_toArray, List.set_cons_zero, List.set_cons_succ, i64_w, i32_w]
  rfl
 refine pure_ (i := 74) (N := some 138) (v := ?_) (a' := ?_) (upTo 92 75) rfl rfl (any_of HT_.out (by kernel_rfl)) (fun _ _ _ h => h) (Or.inl ⟨by rfl, ?_⟩) ?_ ?_
 rotate_left
 ·intro w'
  go_simp
  with_reducible rfl
 rotate_left
 ·simp only [Act.put, List.setIfInBounds_toArray, List.set_cons_zero, List.set_cons_succ, i64_w, i32_w]
  rfl
 refine pure_ (i := 75) (N := some 139) (v := ?_) (a' := ?_) (upTo 92 76) rfl rfl (any_of HT_.out (by kernel_rfl)) (fun _ _ _ h => h) (Or.inl ⟨by rfl, ?_⟩) ?_ ?_
 rotate_left
 ·intro w'
  go_simp
  with_reducible rfl
 rotate_left
 ·simp only [Act.put, List.setIfInBounds_toArray, List.set_cons_zero, List.set_cons_succ, i64_w, i32_w]
  rfl
 refine pure_ (i := 76) (N := some 140) (v := ?_) (a' := ?_) (upTo 92 77) rfl rfl (any_of HT_.out (by kernel_rfl)) (fun _ _ _ h => h) (Or.inl ⟨by rfl, ?_⟩) ?_ ?_
 rotate_left
 ·intro w'
  go_simp
  with_reducible rfl
 rotate_left
 ·simp only [Act.put, List.setIfInBounds_toArray, List.set_cons_zero, List.set_cons_succ, i64_w, i32_w]
  rfl
 refine pure_ (i := 77) (N := some 141) (v := ?_) (a' := ?_) (upTo 92 78) rfl rfl (any_of HT_.out (by kernel_rfl)) (fun _ _ _ h => h) (Or.inl ⟨by rfl, ?_⟩) ?_ ?_
 rotate_left
 ·intro w'
  go_simp
  with_reducible rfl
 rotate_left
 ·simp only [Act.put, List.setIfInBounds_toArray, List.set_cons_zero, List.set_cons_succ, i64_w, i32_w]
  rfl
 refine pure_ (i := 78) (N := some 142) (v := ?_) (a' := ?_) (upTo 92 79) rfl rfl (any_of HT_.out (by kernel_rfl)) (fun _ _ _ h => h) (Or.inl ⟨by rfl, ?_⟩) ?_ ?_
 rotate_left
 ·intro w'
  go_simp
  with_reducible rfl
 rotate_left
 ·simp only [Act.put, List.setIfInBounds_toArray, List.set_cons_zero, List.set_cons_succ, i64_w, i32_w]
  rfl
 refine pure_ (i := 79) (N := some 143) (v := ?_) (a' := ?_) (upTo 92 80) rfl rfl (any_of HT_.out (by kernel_rfl)) (fun _ _ _ h => h) (Or.inl ⟨by rfl, ?_⟩) ?_ ?_
 rotate_left
 ·intro w'
  go_simp
  with_reducible rfl
 rotate_left
 ·simp only [Act.put, List.setIfInBounds_toArray, List.set_cons_zero, List.set_cons_succ, i64_w, i32_w]
  rfl
 refine pure_ (i := 80) (N := some 144) (v := ?_) (a' := ?_) (upTo 92 81) rfl rfl (any_of HT_.out (by kernel_rfl)) (fun _ _ _ h => h) (Or.inl ⟨by rfl, ?_⟩) ?_ ?_
 rotate_left
 ·intro w'
  go_simp
  with_reducible rfl
 rotate_left
 ·simp only [Act.put, List.setIfInBounds_toArray, List.set_cons_zero, List.set_cons_succ, i64_w, i32_w]
  rfl
 refine pure_ (i := 81) (N := some 145) (v := ?_) (a' := ?_) (upTo 92 82) rfl rfl (any_of HT_.out (by kernel_rfl)) (fun _ _ _ h => h) (Or.inl ⟨by rfl, ?_⟩) ?_ ?_
 rotate_left
 ·intro w'
  go_simp
  with_reducible rfl
 rotate_left
 ·simp only [Act.put, List.setIfInBounds_toArray, List.set_cons_zero, List.set_cons_succ, i64_w, i32_w]
  rfl
 refine pure_ (i := 82) (N := some 146) (v := ?_) (a' := ?_) (upTo 92 83) rfl rfl (any_of HT_.out (by kernel_rfl)) (fun _ _ _ h => h) (Or.inl ⟨by rfl, ?_⟩) ?_ ?_
 rotate_left
 ·intro w'
  go_simp
  with_reducible rfl
 rotate_left
 ·simp only [Act.put, List.setIfInBounds_toArray, List.set_cons_zero, List.set_cons_succ, i64_w, i32_w]
  rfl
 refine pure_ (i := 83) (N := some 147) (v := ?_) (a' := ?_) (upTo 92 84) rfl rfl (any_of HT_.out (by kernel_rfl)) (fun _ _ _ h => h) (Or.inl ⟨by rfl, ?_⟩) ?_ ?_
 rotate_left
 ·intro w'
  go_simp
  with_reducible rfl
 rotate_left
 ·simp only [Act.put, List.setIfInBounds_toArray, List.set_cons_zero, List.set_cons_succ, i64_w, i32_w]
  rfl
 refine pure_ (i := 84) (N := some 148) (v := ?_) (a' := ?_) (upTo 92 85) rfl rfl (any_of HT_.out (by kernel_rfl)) (fun _ _ _ h => h) (Or.inl ⟨by rfl, ?_⟩) ?_ ?_
 rotate_left
 ·intro w'
  go_simp
  with_reducible rfl
 rotate_left
 ·simp only [Act.put, List.setIfInBounds_toArray, List.set_cons_zero, List.set_cons_succ, i64_w, i32_w]
  rfl
 refine pure_ (i := 85) (N := some 149) (v := ?_) (a' := ?_) (upTo 92 86) rfl rfl (any_of HT_.out (by kernel_rfl)) (fun _ _ _ h => h) (Or.inl ⟨by rfl, ?_⟩) ?_ ?_
 rotate_left
 ·intro w'
  go_simp
  with_reducible rfl
 rotate_left
 ·simp only [Act.put, List.setIfInBounds_toArray, List.set_cons_zero, List.set_cons_succ, i64_w, i32_w]
  rfl
 refine pure_ (i := 86) (N := some 150) (v := ?_) (a' := ?_) (upTo 92 87) rfl rfl (any_of HT_.out (by kernel_rfl)) (fun _ _ _ h => h) (Or.inl ⟨by rfl, ?_⟩) ?_ ?_
 rotate_left
 ·intro w'
  go_simp
  with_reducible rfl
 rotate_left
 ·simp only [Act.put, List.setIfInBounds_toArray, List.set_cons_zero, List.set_cons_succ, i64_w, i32_w]
  rfl
 refine pure_ (i := 87) (N := some 151) (v := ?_) (a' := ?_) (upTo 92 88) rfl rfl (any_of HT_.out (by kernel_rfl)) (fun _ _ _ h => h) (Or.inl ⟨by rfl, ?_⟩) ?_ ?_
 rotate_left
 ·intro w'
  go_simp
  with_reducible rfl
 rotate_left
 ·simp only [Act.put, List.setIfInBounds_toArray, List.set_cons_zero, List.set_cons_succ, i64_w, i32_w]
  rfl
 refine one_ (i := 88) (N := some 152) (upTo 92 89) rfl rfl (one_of HT_.out (by kernel_rfl)) (by decide) (fun K hK => ?_)
 refine value_ (w1 := ?_) (v := ?_) (by rfl) rfl ?_ ?_
 rotate_left 2
 ·go_simp
  constructor
  ·rfl
  ·rfl
 refine hK.out _ _ ⟨cell_al _ (hHeld.1), cell_al _ (hHeld.2.1), cell_al _ (hHeld.2.2.1), cell_al _ (hHeld.2.2.2)⟩ (fun hHeld => ?_)
 clear hK K
 refine norm_ (a' := ?_) ?_ ?_
 rotate_left
 ·show Act.put _ (some 152) _ = _
  simp only [Act.put, List.setIfInBounds_toArray, List.set_cons_zero, List.set_cons_succ, i64_w, i32_w]
  rfl
 refine one_ (i := 89) (N := some 153) (upTo 92 90) rfl rfl (one_of HT_.out (by kernel_rfl)) (by decide) (fun K hK => ?_)
 refine goes_ Try.func38 (by kernel_rfl) rfl #[.slice A5 1 a5, .slice (some ⟨w22.heap.size, 0, none⟩) 1 1] (by rfl) rfl rfl (by simp only [List.map_toArray, List.map_cons, List.map_nil]; rfl) ?_
 with_reducible refine (ex_same1 (g := w22.heap.size) (A := A5) (c := a5) (a := 0) ((H22.out.alloc _).ints (A5, [0]) (by simp)) (Blk.new _ _ _ _ rfl)).mono ?_
 rintro e w23 ⟨rfl, hb⟩
 have H23 := Aside0.mk ((H22.out.alloc _).step hb.out)
 refine ⟨_, rfl, ?_⟩
 refine hK.out _ _ ⟨pw_cell_below hb.out (hHeld.1), pw_cell_below hb.out (hHeld.2.1), pw_cell_below hb.out (hHeld.2.2.1), pw_cell_below hb.out (hHeld.2.2.2)⟩ (fun hHeld => ?_)
 clear hK K
 refine norm_ (a' := ?_) ?_ ?_
 rotate_left
 ·show Act.put _ (some 153) _ = _
  simp only [Act.put, List.setIfInBounds_toArray, List.set_cons_zero, List.set_cons_succ, i64_w, i32_w]
  rfl
 refine pure_ (i := 90) (N := some 154) (v := ?_) (a' := ?_) (upTo 92 91) rfl rfl (any_of HT_.out (by kernel_rfl)) (fun _ _ _ h => h) (Or.inl ⟨by rfl, ?_⟩) ?_ ?_
 rotate_left
 ·intro w'
  go_simp
  with_reducible rfl
 rotate_left
 ·simp only [Act.put, List.setIfInBounds_toArray, List.set_cons_zero, List.set_cons_succ, i64_w, i32_w]
  rfl
 refine pure_ (i := 91) (N := some 0) (v := ?_) (a' := ?_) (upTo 92 92) rfl rfl (any_of HT_.out (by kernel_rfl)) (fun _ _ _ h => h) (Or.inl ⟨by rfl, ?_⟩) ?_ ?_
 rotate_left
 ·intro w'
  go_simp
  with_reducible rfl
 rotate_left
 ·simp only [Act.put, List.setIfInBounds_toArray, List.set_cons_zero, List.set_cons_succ, i64_w, i32_w]
  rfl
 refine done_ (done_of HT_.out (by kernel_rfl)) ?_
 clear hHeld
 go_wp2
 go_ret
 exact ⟨rfl, H23.out.bel⟩
end Go.Proofs.Ytdgkhoflajdidaa
/- The reference's small functions. -/
namespace Go.Proofs.Ytdgkhoflajdidaa
open Go.RowKit Go.Proofs.YtdgkhoflajdidaaW.PrintWords Go.Proofs.YtdgkhoflajdidaaW.PrintMore Go.Proofs.YtdgkhoflajdidaaW.PrintLast Go.Proofs.Ytdgkhoflajdidaa.Print
set_option linter.unusedVariables false
set_option linter.unusedSimpArgs false
set_option maxRecDepth 100000
set_option maxHeartbeats 4000000
theorem rIn_calls (n lo hi : Int) (w : World) : Calls Try.prog 31 #[.int .i64 n, .int .i64 lo, .int .i64 hi] w fun e w' => e = .returned (.bool (inR n lo hi)) ∧ w = w' := by
 by_cases h1 : lo ≤ n <;> by_cases h2 : n ≤ hi
 all_goals
  go_enter Try.func31, Try.ntmps31
  go_wp2
  go_ret
  exact ⟨ret_bool (by simp [inR]; omega), rfl⟩
theorem rIs_calls (n : Int) (r : S35) (w : World) : Calls Try.prog 110 #[.int .i64 n, .agg #[.int .i64 r.f0, .int .i64 r.f1]] w fun e w' => e = .returned (.bool (inR n r.f0 r.f1)) ∧ Below w.heap.size w w' := by
 have hu := Try.underlying24
 go_enter Try.func110, Try.ntmps110
 go_wp2_with (go_at_call 31; refine (rIn_calls _ _ _ _).mono ?_; rintro e w' ⟨rfl, rfl⟩)
 go_ret
 exact ⟨rfl, below_alloc (Below.refl _ _) _⟩
theorem rInside_calls (r : S35) (m : Int) (w : World) : Calls Try.prog 122 #[.agg #[.int .i64 r.f0, .int .i64 r.f1], .int .i64 m] w fun e w' => e = .returned (.bool (inside r m)) ∧ Below w.heap.size w w' := by
 obtain ⟨lo, hi⟩ := r
 have hu := Try.underlying24
 by_cases h1 : 0 ≤ lo <;> by_cases h2 : lo ≤ hi <;> by_cases h3 : hi ≤ m
 all_goals
  go_enter Try.func122, Try.ntmps122
  go_wp2
  go_ret
  exact ⟨ret_bool (by simp [inside]; omega), below_alloc (Below.refl _ _) _⟩
theorem rSize_calls (r : S35) (w : World) (h0 : 0 ≤ r.f0) (h1 : r.f0 ≤ r.f1) (h2 : r.f1 ≤ 99) : Calls Try.prog 95 #[.agg #[.int .i64 r.f0, .int .i64 r.f1]] w fun e w' => e = .returned (.int .i64 (r.f1 - r.f0 + 1)) ∧ Below w.heap.size w w' := by
 have hu := Try.underlying24
 go_enter Try.func95, Try.ntmps95
 go_wp2
 go_ret
 exact ⟨rfl, below_alloc (Below.refl _ _) _⟩
theorem rEmpty_calls (w : World) : Calls Try.prog 81 #[] w fun e w' => e = .returned (.agg #[.int .i64 1099511627776, .int .i64 (-1)]) ∧ Below w.heap.size w w' := by
 have hu := Try.underlying24
 go_enter Try.func81, Try.ntmps81
 go_wp2
 refine bodyPost_ret (v := .agg #[.int .i64 1099511627776, .int .i64 (-1)]) (by simp [results, Try.results81, go_sem, hu]) rfl ⟨rfl, ?_⟩
 repeat (first | exact Below.refl _ _ | apply below_alloc | apply below_drew)
theorem rWider_calls (r : S35) (n : Int) (w : World) : Calls Try.prog 82 #[.agg #[.int .i64 r.f0, .int .i64 r.f1], .int .i64 n] w fun e w' => e = .returned (.agg #[.int .i64 (min r.f0 n), .int .i64 (max r.f1 n)]) ∧ Below w.heap.size w w' := by
 have hu := Try.underlying24
 by_cases h1 : n < r.f0 <;> by_cases h2 : r.f1 < n
 all_goals
  go_enter Try.func82, Try.ntmps82
  go_wp2
  refine bodyPost_ret (v := .agg #[.int .i64 (min r.f0 n), .int .i64 (max r.f1 n)]) (by simp [results, Try.results82, go_sem, hu]; omega) rfl ⟨rfl, ?_⟩
  repeat (first | exact Below.refl _ _ | apply below_alloc | apply below_drew)
def verd (yes many : Int) : Int := if yes = many then 1 else if yes = 0 then 2 else 3
theorem rVerdict_calls (y m : Int) (w : World) : Calls Try.prog 88 #[.int .i64 y, .int .i64 m] w fun e w' => e = .returned (.int .i64 (verd y m)) ∧ w = w' := by
 by_cases h1 : y = m
 ·have HX := Lib.hid (show verd y m = 1 by unfold verd; exact if_pos h1)
  have h2 : (y == m) = true := by simpa using h1
  go_enter Try.func88, Try.ntmps88
  go_wp2
  go_ret
  exact ⟨ret_int HX.out.symm, rfl⟩
 ·have h2 : (y == m) = false := by simpa using h1
  by_cases h3 : y = 0
  ·have HX := Lib.hid (show verd y m = 2 by unfold verd; rw [if_neg h1, if_pos h3])
   have h4 : (y == 0) = true := by simpa using h3
   go_enter Try.func88, Try.ntmps88
   go_wp2
   go_ret
   exact ⟨ret_int HX.out.symm, rfl⟩
  ·have HX := Lib.hid (show verd y m = 3 by unfold verd; rw [if_neg h1, if_neg h3])
   have h4 : (y == 0) = false := by simpa using h3
   go_enter Try.func88, Try.ntmps88
   go_wp2
   go_ret
   exact ⟨ret_int HX.out.symm, rfl⟩
theorem to_calls (r : S35) (w : World) : Calls Try.prog 25 #[.agg #[.int .i64 r.f0, .int .i64 r.f1]] w fun e w' => e = .returned (.agg #[.int .i64 r.f0, .int .i64 r.f1]) ∧ Below w.heap.size w w' := by
 have hu := Try.underlying24
 have hu2 := Try.underlying35
 go_enter Try.func25, Try.ntmps25
 go_wp2
 refine bodyPost_ret (v := .agg #[.int .i64 r.f0, .int .i64 r.f1]) (by simp [results, Try.results25, go_sem, hu2]) rfl ⟨rfl, ?_⟩
 repeat (first | exact Below.refl _ _ | apply below_alloc | apply below_drew)
/-- Lists of at most 30 elements. -/
def thinB (x : S38) : Bool := decide (x.f5.length ≤ 30) && (decide (x.f6.length ≤ 30) && (decide (x.f8.length ≤ 30) && decide (x.f9.length ≤ 30)))
theorem thin_calls (x : S38) (cs : List Value) (w : World) (hx : k38.K w x cs) : Calls Try.prog 19 #[.agg cs.toArray] w fun e w' => e = .returned (.bool (thinB x)) ∧ Below w.heap.size w w' := by
 obtain ⟨A5, c5, A6, c6, A9, c9, A10, c10, rfl, _⟩ := k38_open hx
 clear hx
 have hu := Try.underlying28
 by_cases h1 : (x.f5.length : Int) ≤ 30 <;> by_cases h2 : (x.f6.length : Int) ≤ 30 <;> by_cases h3 : (x.f8.length : Int) ≤ 30 <;> by_cases h4 : (x.f9.length : Int) ≤ 30
 all_goals
  go_enter Try.func19, Try.ntmps19
  go_wp2
  go_ret
  exact ⟨ret_bool (by simp [thinB]; omega), below_alloc (Below.refl _ _) _⟩
/-- One number for each hour, from 0 to m. -/
theorem each_calls (x : S38) (cs : List Value) (A : Option Addr) (c : Nat) (l : List Int) (m : Int) (w : World) (hx : k38.K w x cs) (hl : Kd.C (Kd.int .i64) w A l.length l) :
    Calls Try.prog 30 #[.agg cs.toArray, .slice A l.length c, .int .i64 m] w fun e w' => e = .returned (.bool (forHours x.f0 l m)) ∧ Below w.heap.size w w' := by
 obtain ⟨A5, c5, A6, c6, A9, c9, A10, c10, rfl, _⟩ := k38_open hx
 clear hx
 have HL := Aside0.mk hl
 have hn := hl.2.1
 clear hl
 have hu := Try.underlying28
 by_cases he : (l.length : Int) = wrap64 (x.f0 + 1)
 ·have he2 : ((l.length : Int) == wrap64 (x.f0 + 1)) = true := by simpa using he
  have HF := Lib.hid (show forHours x.f0 l m = l.all (fun n => inR n 0 m) by unfold forHours; rw [he2, Bool.true_and])
  have hws := he.symm
  have HB0 := Aside0.mk (below_alloc (Below.refl w.heap.size w) (.cells #[.int .i64 x.f0, .int .i64 x.f1, .int .i64 x.f2, .int .i64 x.f3, .int .i64 x.f4, .slice A5 x.f5.length c5, .slice A6 x.f6.length c6, .int .i64 x.f7.f0, .int .i64 x.f7.f1, .slice A9 x.f8.length c9, .slice A10 x.f9.length c10] 28))
  clear he he2
  go_enter Try.func30, Try.ntmps30
  go_wp2
  clear hws
  generalize (w.alloc (.cells #[.int .i64 x.f0, .int .i64 x.f1, .int .i64 x.f2, .int .i64 x.f3, .int .i64 x.f4, .slice A5 x.f5.length c5, .slice A6 x.f6.length c6, .int .i64 x.f7.f0, .int .i64 x.f7.f1, .slice A9 x.f8.length c9, .slice A10 x.f9.length c10] 28)) = w0 at *
  go_loopw [7] (fun s7 wr => ∃ k : Nat, k ≤ l.length ∧ s7 = .int .i64 k ∧ Aside0 (Below w.heap.size w wr ∧ (l.take k).all (fun n => inR n 0 m) = true)) (fun s7 _ => l.length - (intOf s7).toNat)
  case atStart => exact ⟨0, Nat.zero_le _, rfl, ⟨HB0.out, rfl⟩⟩
  case round =>
   obtain ⟨k, hk, rfl, HA⟩ := hrel
   by_cases hlt : k < l.length
   ·obtain ⟨aA, rfl, hcA⟩ := row_at_int (Kd.C_below HL.out HA.out.1) k hlt
    have hin := fun W => rIn_calls l[k] 0 m W
    cases hq : inR l[k] 0 m with
    | true =>
     rw [hq] at hin
     have HA2 := Aside0.mk (show (l.take (k + 1)).all (fun n => inR n 0 m) = true by rw [List.take_succ_eq_append_getElem hlt, List.all_append, HA.out.2, List.all_cons, hq]; rfl)
     clear hq
     go_wp2_with (go_at_call 31; refine (hin _).mono ?_; rintro e w' ⟨rfl, rfl⟩)
     go_roundw
     case rel => exact ⟨k + 1, hlt, by go_num, ⟨HA.out.1, HA2.out⟩⟩
     case measure => simp [intOf]; omega
    | false =>
     rw [hq] at hin
     have HN := Lib.hid (show l.all (fun n => inR n 0 m) = false from List.all_eq_false.2 ⟨l[k], List.getElem_mem hlt, by simp [hq]⟩)
     clear hq
     go_wp2_with (go_at_call 31; refine (hin _).mono ?_; rintro e w' ⟨rfl, rfl⟩)
     go_ret
     exact ⟨ret_bool (by rw [HF.out, HN.out]), HA.out.1⟩
   ·have HN := Lib.hid (show l.all (fun n => inR n 0 m) = true by have := HA.out.2; rwa [List.take_of_length_le (by omega)] at this)
    go_wp2
    go_ret
    exact ⟨ret_bool (by rw [HF.out, HN.out]), HA.out.1⟩
 ·have he2 : ((l.length : Int) == wrap64 (x.f0 + 1)) = false := by simpa using he
  have HF := Lib.hid (show forHours x.f0 l m = false by unfold forHours; rw [he2, Bool.false_and])
  go_enter Try.func30, Try.ntmps30
  go_wp2
  go_ret
  exact ⟨ret_bool HF.out.symm, below_alloc (Below.refl _ _) _⟩
end Go.Proofs.Ytdgkhoflajdidaa
/- What Copper (the conversion) keeps. -/
namespace Go.Proofs.Ytdgkhoflajdidaa
open Go.RowKit Go.Proofs.YtdgkhoflajdidaaW.PrintWords Go.Proofs.YtdgkhoflajdidaaW.PrintMore Go.Proofs.YtdgkhoflajdidaaW.PrintLast Go.Proofs.Ytdgkhoflajdidaa.Print
set_option linter.unusedVariables false
set_option linter.unusedSimpArgs false
/-- An append of one element that lies in a block, as an operation of a region. -/
theorem appendN_op {P : Program} {ops : Array Oper} {o : Oper} {a : Act} {K : Act → World → Prop} {Q : Exit → Act → World → Prop} {w : World} (s x : Operand) (t e : TypeId) (z : Value) (size bytes : Nat)
    (hw : Region.wanted o (yielded ops a.tmps) = true) (ho : o.op = .call { callee := .builtin .append, args := #[s, x], argTypes := #[t, t] })
    (ht : P.underlying t = some (.slice e)) (hinfo : (P.info? e).map (fun i => (i.zero, i.size, i.bytes)) = some (some z, size, bytes)) (hz : z.cells.size = size) (hsz : 0 < size) (hb0 : 0 < bytes)
    (base : Nat) (v : Value) (n : Nat) (xs news : List Value) (p c : Nat) (hs : a.eval s = v) (hx : a.eval x = .slice (some ⟨p, 0, none⟩) 1 c) (hown : w.ownsRow base e size v n xs) (hl : news.length = size) (hnews : ∀ j u, news[j]? = some u → w.cell? (Addr.add ⟨p, 0, none⟩ j) = some u) (h1 : ∀ u ∈ news, u.oneCell' = true)
    (hlen : (n + 1) * bytes ≤ 140737488355328) (hbase : base ≤ w.heap.size)
    (h : ∀ v1 w1, w1.ownsRow base e size v1 (n + 1) (xs ++ news) → w.grownBy w1 v.ownBlock → (v1.ownBlock = v.ownBlock ∨ v1.ownBlock = some w.heap.size) → K (a.put o.dst v1) w1) :
    if Region.wanted o (yielded ops a.tmps) = true then Oper.wp P o a w K Q else K (a.put o.dst undef) w := by
 obtain ⟨i0, hi, hzz⟩ := Option.map_eq_some_iff.1 hinfo
 simp only [Prod.mk.injEq] at hzz
 obtain ⟨hz0, hz1, hz2⟩ := hzz
 have hn : n + 1 ≤ 140737488355328 := Nat.le_trans (Nat.le_mul_of_pos_right _ hb0) hlen
 obtain ⟨v', w', hr, h2, h3, h4, h5⟩ := run_append_own_at (P := P) (w := w) base t o.type e i0 z size bytes ht hi hz0 hz1 hz2 hz hsz v n xs hown ⟨p, 0, none⟩ 1 c news (by rw [hl, Nat.one_mul]) hnews h1 (by simp only [maxLen]; omega) hlen hbase
 refine value_ (w1 := w') (v := v') hw rfl ?_ (h v' w' h2 h3 h5)
 unfold execOp
 simp only [ho, resolve, invoke, builtin, Sem.run_bind, Sem.run_pure, Result.andThen_ok, List.map_toArray, List.map_cons, List.map_nil, hs, hx, hr]
theorem listS_calls (A : Option Addr) (c : Nat) (l : List Int) (w : World) (hl : Kd.C (Kd.int .i64) w A l.length l) (h30 : l.length ≤ 1000) :
    Calls Try.prog 27 #[.slice A l.length c] w fun e w' => ∃ B d, e = .returned (.slice B l.length d) ∧ w'.ownsRow w.heap.size 3 1 (.slice B l.length d) l.length (nums .i64 l) ∧ Below w.heap.size w w' := by
 refine (list_calls A c l w hl h30).mono ?_
 rintro e w' ⟨v, rfl, ho, hb⟩
 obtain ⟨B, d, rfl, _, _⟩ := own_C (Kd.int .i64) (.int .i64) rfl (fun _ _ => rfl) (xs := l) rfl (by simp [nums]) ho
 exact ⟨B, d, rfl, ho, hb⟩
/-- Readings' cells in a row. -/
def rdCells (l : List S119) : List Value := l.flatMap fun r => [.int .i64 r.f0, .int .i64 r.f1.f0, .int .i64 r.f1.f1]
theorem rdCells_snoc (l : List S119) (r : S119) : rdCells (l ++ [r]) = rdCells l ++ [.int .i64 r.f0, .int .i64 r.f1.f0, .int .i64 r.f1.f1] := by simp [rdCells]
theorem rdCells_reps (w : World) (l : List S119) : Reps (k119.K w) 3 l (rdCells l) := by
 have key : ∀ (l acc : List S119), Reps (k119.K w) 3 acc (rdCells acc) → Reps (k119.K w) 3 (acc ++ l) (rdCells (acc ++ l)) := by
  intro l
  induction l with
  | nil => intro acc h; simpa using h
  | cons s r ih =>
   intro acc h
   rw [show acc ++ s :: r = (acc ++ [s]) ++ r by simp]
   refine ih _ ?_
   rw [rdCells_snoc]
   exact Reps.snoc h (k119_mk w s) rfl
 have := key l [] (Reps.none _ _)
 simpa using this
theorem rd_own_C {w : World} {base n : Nat} {v : Value} {l : List S119} (h : w.ownsRow base 119 3 v n (rdCells l)) (hn : l.length = n) : ∃ A c, v = .slice A l.length c ∧ Kd.C k119 w A l.length l := by
 subst hn
 exact own_reads_row h (rdCells_reps w l) rfl
theorem own_cap {w : World} {base e size n : Nat} {A : Option Addr} {c : Nat} {xs : List Value} {m : Nat} (h : w.ownsRow base e size (.slice A m c) n xs) : m ≤ c := by
 rcases h.2 with ⟨h1, _⟩ | ⟨g, cap, cur, h1, h2, h3, r⟩
 ·cases h1; exact Nat.le_refl _
 ·cases h1; exact r.1
theorem own_form {w : World} {base e size n : Nat} {v : Value} {xs : List Value} (h : w.ownsRow base e size v n xs) : ∃ A c, v = .slice A n c := by
 rcases h.2 with ⟨h1, h2⟩ | ⟨g, cap, cur, h1, h2, h3, r⟩
 ·refine ⟨none, 0, ?_⟩
  rw [h1]
  have h4 := h.1
  subst h2
  simp at h4
  first | rw [h4] | (subst h4; rfl)
 ·exact ⟨_, _, h1⟩
theorem blk_row {W : World} {p base size n : Nat} {t e : TypeId} {cs : Array Value} {v : Value} {xs : List Value} (h : Blk W p cs t) (hr : W.ownsRow base e size v n xs) (hne : t ≠ e) : some p ≠ v.ownBlock := by
 intro hp
 obtain ⟨cells, hc⟩ := own_typed hr p hp.symm
 unfold Blk at h
 rw [hc] at h
 cases h
 exact hne rfl
theorem row_row {W : World} {base1 size1 n1 base2 size2 n2 : Nat} {e1 e2 : TypeId} {v1 v2 : Value} {xs1 xs2 : List Value} (h1 : W.ownsRow base1 e1 size1 v1 n1 xs1) (h2 : W.ownsRow base2 e2 size2 v2 n2 xs2) (hne : e1 ≠ e2) : v1.ownBlock = none ∨ v1.ownBlock ≠ v2.ownBlock := by
 cases hk : v1.ownBlock with
 | none => exact .inl rfl
 | some k =>
  refine .inr fun e => ?_
  obtain ⟨c1, q1⟩ := own_typed h1 k hk
  obtain ⟨c2, q2⟩ := own_typed h2 k e.symm
  rw [q1] at q2
  cases q2
  exact hne rfl
theorem own_setCell {W : World} {base size n : Nat} {e : TypeId} {v : Value} {xs : List Value} (h : W.ownsRow base e size v n xs) {p : Addr} (hp : some p.block ≠ v.ownBlock) (u : Value) : (W.setCell p u).ownsRow base e size v n xs :=
 own_move h (fun k hk => Below.heap_setCell W p u k (fun e => hp (by rw [hk, e])))
theorem one3 (a b c : Int) : ∀ u ∈ [Value.int .i64 a, Value.int .i64 b, Value.int .i64 c], u.oneCell' = true := fun u hu => by
 simp only [List.mem_cons, List.mem_nil_iff, or_false] at hu
 rcases hu with rfl | rfl | rfl <;> rfl
theorem cells3 {W : World} {p : Nat} {a b c : Value} {t : TypeId} (h : Blk W p #[a, b, c] t) : ∀ j u, [a, b, c][j]? = some u → W.cell? (Addr.add ⟨p, 0, none⟩ j) = some u := fun j u hj => by
 match j, hj with
 | 0, hj => simp at hj; subst hj; exact h.cell 0 _ rfl
 | 1, hj => simp at hj; subst hj; exact h.cell 1 _ rfl
 | 2, hj => simp at hj; subst hj; exact h.cell 2 _ rfl
/-- The state of Copper's loops. -/
structure CpSt (x : S38) (w : World) (B Z : Array Value) (p : Nat) (v5 v6 v9 : Value) (n9 : Nat) (v10 : Value) (n10 : Nat) (W : World) : Prop where
 bel : Below w.heap.size w W
 box : Blk W w.heap.size B 28
 res : Blk W (w.heap.size + 1) Z 38
 blk : Blk W p #[.int .i64 x.f0, .int .i64 x.f1, .int .i64 x.f2, .int .i64 x.f3, .int .i64 x.f4, v5, v6, .int .i64 x.f7.f0, .int .i64 x.f7.f1, v9, v10] 38
 r5 : W.ownsRow w.heap.size 3 1 v5 x.f5.length (nums .i64 x.f5)
 r6 : W.ownsRow w.heap.size 3 1 v6 x.f6.length (nums .i64 x.f6)
 r9 : W.ownsRow w.heap.size 35 2 v9 n9 (rgCells (x.f8.take n9))
 r10 : W.ownsRow w.heap.size 119 3 v10 n10 (rdCells (x.f9.take n10))
 hp : w.heap.size + 1 < p
variable {x : S38} {w W V : World} {B Z : Array Value} {p : Nat} {v5 v6 v9 v10 v' : Value} {n9 n10 : Nat}
theorem CpSt.below (h : CpSt x w B Z p v5 v6 v9 n9 v10 n10 W) (hb : Below W.heap.size W V) : CpSt x w B Z p v5 v6 v9 n9 v10 n10 V :=
 ⟨bel2 h.bel hb, h.box.below hb, h.res.below hb, h.blk.below hb, own_bel h.r5 hb, own_bel h.r6 hb, own_bel h.r9 hb, own_bel h.r10 hb, h.hp⟩
theorem CpSt.app9 (h : CpSt x w B Z p v5 v6 v9 n9 v10 n10 W) (hk : n9 < x.f8.length) (ho : V.ownsRow w.heap.size 35 2 v' (n9 + 1) (rgCells (x.f8.take n9) ++ [.int .i64 x.f8[n9].f0, .int .i64 x.f8[n9].f1])) (hg : W.grownBy V v9.ownBlock) : CpSt x w B Z p v5 v6 v' (n9 + 1) v10 n10 (V.setCell ⟨p, 9, none⟩ v') := by
 have hblk := h.blk.grown hg (blk_row h.blk h.r9 (by decide))
 have h5 := own_other h.r5 hg (row_row h.r5 h.r9 (by decide))
 have h6 := own_other h.r6 hg (row_row h.r6 h.r9 (by decide))
 have h10 := own_other h.r10 hg (row_row h.r10 h.r9 (by decide))
 have hbox := h.box.grown hg (blk_row h.box h.r9 (by decide))
 have hres := h.res.grown hg (blk_row h.res h.r9 (by decide))
 have hp := h.hp
 exact ⟨(h.bel.grown hg h.bel.size (own_base h.r9)).setCell (p := ⟨p, 9, none⟩) (by show w.heap.size ≤ p; omega) _, hbox.set_other (p := ⟨p, 9, none⟩) (by show w.heap.size ≠ p; omega) _, hres.set_other (p := ⟨p, 9, none⟩) (by show w.heap.size + 1 ≠ p; omega) _, hblk.set 9 v',
  own_setCell h5 (p := ⟨p, 9, none⟩) (blk_row hblk h5 (by decide)) _, own_setCell h6 (p := ⟨p, 9, none⟩) (blk_row hblk h6 (by decide)) _,
  own_setCell (by rw [List.take_succ_eq_append_getElem hk, rgCells_snoc]; exact ho) (p := ⟨p, 9, none⟩) (blk_row hblk ho (by decide)) _, own_setCell h10 (p := ⟨p, 9, none⟩) (blk_row hblk h10 (by decide)) _, hp⟩
theorem CpSt.app10 (h : CpSt x w B Z p v5 v6 v9 n9 v10 n10 W) (hk : n10 < x.f9.length) (ho : V.ownsRow w.heap.size 119 3 v' (n10 + 1) (rdCells (x.f9.take n10) ++ [.int .i64 x.f9[n10].f0, .int .i64 x.f9[n10].f1.f0, .int .i64 x.f9[n10].f1.f1])) (hg : W.grownBy V v10.ownBlock) : CpSt x w B Z p v5 v6 v9 n9 v' (n10 + 1) (V.setCell ⟨p, 10, none⟩ v') := by
 have hblk := h.blk.grown hg (blk_row h.blk h.r10 (by decide))
 have h5 := own_other h.r5 hg (row_row h.r5 h.r10 (by decide))
 have h6 := own_other h.r6 hg (row_row h.r6 h.r10 (by decide))
 have h9 := own_other h.r9 hg (row_row h.r9 h.r10 (by decide))
 have hbox := h.box.grown hg (blk_row h.box h.r10 (by decide))
 have hres := h.res.grown hg (blk_row h.res h.r10 (by decide))
 have hp := h.hp
 exact ⟨(h.bel.grown hg h.bel.size (own_base h.r10)).setCell (p := ⟨p, 10, none⟩) (by show w.heap.size ≤ p; omega) _, hbox.set_other (p := ⟨p, 10, none⟩) (by show w.heap.size ≠ p; omega) _, hres.set_other (p := ⟨p, 10, none⟩) (by show w.heap.size + 1 ≠ p; omega) _, hblk.set 10 v',
  own_setCell h5 (p := ⟨p, 10, none⟩) (blk_row hblk h5 (by decide)) _, own_setCell h6 (p := ⟨p, 10, none⟩) (blk_row hblk h6 (by decide)) _, own_setCell h9 (p := ⟨p, 10, none⟩) (blk_row hblk h9 (by decide)) _,
  own_setCell (by rw [List.take_succ_eq_append_getElem hk, rdCells_snoc]; exact ho) (p := ⟨p, 10, none⟩) (blk_row hblk ho (by decide)) _, hp⟩
end Go.Proofs.Ytdgkhoflajdidaa
