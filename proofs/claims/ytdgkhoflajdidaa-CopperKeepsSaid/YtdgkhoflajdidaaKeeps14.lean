/- Lemmas for the law's proof: Lc, Mb, Md, Md1. -/
import Derived.Test.YtdgkhoflajdidaaKeeps13
import Derived.Test.YtdgkhoflajdidaaKeeps12
/- The examples' coppers with other promises. -/
namespace Go.Proofs.Ytdgkhoflajdidaa
open Go.RowKit Go.Proofs.YtdgkhoflajdidaaW.PrintWords Go.Proofs.YtdgkhoflajdidaaW.PrintMore Go.Proofs.YtdgkhoflajdidaaW.PrintLast Go.Proofs.Ytdgkhoflajdidaa.Print
set_option linter.unusedVariables false
set_option linter.unusedSimpArgs false
/-- Eleven stores. -/
theorem put11_blk {W : World} {g : Nat} {cs : Array Value} {t : TypeId} (h : Blk W g cs t) (hs : cs.size = 11) (v0 v1 v2 v3 v4 v5 v6 v7 v8 v9 v10 : Value) : Blk (((((((((((W.setCell ⟨g, 0, none⟩ v0).setCell ⟨g, 1, none⟩ v1).setCell ⟨g, 2, none⟩ v2).setCell ⟨g, 3, none⟩ v3).setCell ⟨g, 4, none⟩ v4).setCell ⟨g, 5, none⟩ v5).setCell ⟨g, 6, none⟩ v6).setCell ⟨g, 7, none⟩ v7).setCell ⟨g, 8, none⟩ v8).setCell ⟨g, 9, none⟩ v9).setCell ⟨g, 10, none⟩ v10) g #[v0, v1, v2, v3, v4, v5, v6, v7, v8, v9, v10] t := by
  obtain ⟨l, hl⟩ : ∃ l, cs = List.toArray l := ⟨cs.toList, by simp⟩
  subst hl
  match l, hs with
  | [a0, a1, a2, a3, a4, a5, a6, a7, a8, a9, a10], _ =>
    have h0 : Blk _ g #[v0, a1, a2, a3, a4, a5, a6, a7, a8, a9, a10] t := h.set 0 v0
    have h1 : Blk _ g #[v0, v1, a2, a3, a4, a5, a6, a7, a8, a9, a10] t := h0.set 1 v1
    have h2 : Blk _ g #[v0, v1, v2, a3, a4, a5, a6, a7, a8, a9, a10] t := h1.set 2 v2
    have h3 : Blk _ g #[v0, v1, v2, v3, a4, a5, a6, a7, a8, a9, a10] t := h2.set 3 v3
    have h4 : Blk _ g #[v0, v1, v2, v3, v4, a5, a6, a7, a8, a9, a10] t := h3.set 4 v4
    have h5 : Blk _ g #[v0, v1, v2, v3, v4, v5, a6, a7, a8, a9, a10] t := h4.set 5 v5
    have h6 : Blk _ g #[v0, v1, v2, v3, v4, v5, v6, a7, a8, a9, a10] t := h5.set 6 v6
    have h7 : Blk _ g #[v0, v1, v2, v3, v4, v5, v6, v7, a8, a9, a10] t := h6.set 7 v7
    have h8 : Blk _ g #[v0, v1, v2, v3, v4, v5, v6, v7, v8, a9, a10] t := h7.set 8 v8
    have h9 : Blk _ g #[v0, v1, v2, v3, v4, v5, v6, v7, v8, v9, a10] t := h8.set 9 v9
    have h10 : Blk _ g #[v0, v1, v2, v3, v4, v5, v6, v7, v8, v9, v10] t := h9.set 10 v10
    exact h10
theorem put11_below {W w : World} {m g : Nat} (h : Below m w W) (hg : m ≤ g) (v0 v1 v2 v3 v4 v5 v6 v7 v8 v9 v10 : Value) : Below m w (((((((((((W.setCell ⟨g, 0, none⟩ v0).setCell ⟨g, 1, none⟩ v1).setCell ⟨g, 2, none⟩ v2).setCell ⟨g, 3, none⟩ v3).setCell ⟨g, 4, none⟩ v4).setCell ⟨g, 5, none⟩ v5).setCell ⟨g, 6, none⟩ v6).setCell ⟨g, 7, none⟩ v7).setCell ⟨g, 8, none⟩ v8).setCell ⟨g, 9, none⟩ v9).setCell ⟨g, 10, none⟩ v10) := by
  iterate 11 refine Below.setCell ?_ (by exact hg) _
  exact h
theorem put11_other {W : World} {g k : Nat} {cs : Array Value} {t : TypeId} (h : Blk W k cs t) (hk : k ≠ g) (v0 v1 v2 v3 v4 v5 v6 v7 v8 v9 v10 : Value) : Blk (((((((((((W.setCell ⟨g, 0, none⟩ v0).setCell ⟨g, 1, none⟩ v1).setCell ⟨g, 2, none⟩ v2).setCell ⟨g, 3, none⟩ v3).setCell ⟨g, 4, none⟩ v4).setCell ⟨g, 5, none⟩ v5).setCell ⟨g, 6, none⟩ v6).setCell ⟨g, 7, none⟩ v7).setCell ⟨g, 8, none⟩ v8).setCell ⟨g, 9, none⟩ v9).setCell ⟨g, 10, none⟩ v10) k cs t := by
  iterate 11 refine Blk.set_other ?_ (by exact hk) _
  exact h
theorem ret38 {fn : Func} {t : Tmp} {tmps : Array Value} {W : World} {g : Nat} {v0 v1 v2 v3 v4 v5 v6 v7 v8 v9 v10 : Value} (h : fn.results = #[.cell t 38]) (ht : tmps.getD t undef = .pointer (some ⟨g, 0, none⟩)) (hb : Blk W g #[v0, v1, v2, v3, v4, v5, v6, v7, v8, v9, v10] 38) : (results fn tmps).run Try.prog W = .ok (.agg #[v0, v1, v2, v3, v4, v5, v6, v7, v8, v9, v10]) W := by
  have hu := Try.underlying38
  have q0 : W.cell? ⟨g, 0, none⟩ = some v0 := hb.cell 0 _ rfl
  have q1 : W.cell? ⟨g, 1, none⟩ = some v1 := hb.cell 1 _ rfl
  have q2 : W.cell? ⟨g, 2, none⟩ = some v2 := hb.cell 2 _ rfl
  have q3 : W.cell? ⟨g, 3, none⟩ = some v3 := hb.cell 3 _ rfl
  have q4 : W.cell? ⟨g, 4, none⟩ = some v4 := hb.cell 4 _ rfl
  have q5 : W.cell? ⟨g, 5, none⟩ = some v5 := hb.cell 5 _ rfl
  have q6 : W.cell? ⟨g, 6, none⟩ = some v6 := hb.cell 6 _ rfl
  have q7 : W.cell? ⟨g, 7, none⟩ = some v7 := hb.cell 7 _ rfl
  have q8 : W.cell? ⟨g, 8, none⟩ = some v8 := hb.cell 8 _ rfl
  have q9 : W.cell? ⟨g, 9, none⟩ = some v9 := hb.cell 9 _ rfl
  have q10 : W.cell? ⟨g, 10, none⟩ = some v10 := hb.cell 10 _ rfl
  have ht2 : tmps[t]?.getD undef = .pointer (some ⟨g, 0, none⟩) := by simpa using ht
  simp [results, h, go_sem, hu, ht, ht2, q0, q1, q2, q3, q4, q5, q6, q7, q8, q9, q10]
theorem ints3_C {W : World} {g : Nat} {t : TypeId} (a b c : Int) (h : Blk W g #[.int .i64 a, .int .i64 b, .int .i64 c] t) : Kd.C (Kd.int .i64) W (some ⟨g, 0, none⟩) [a, b, c].length [a, b, c] :=
  cells_C (Kd.int .i64) (fun p => [.int .i64 p]) (fun _ _ => rfl) (fun _ => rfl) [a, b, c] [] (by exact h) (by simp)
theorem loss_C {W : World} {g : Nat} {t : TypeId} (h : Blk W g #[.int .i64 2, .int .i64 3, .int .i64 4, .int .i64 4, .int .i64 0, .int .i64 2] t) : Kd.C k35 W (some ⟨g, 0, none⟩) [(⟨2, 3⟩ : S35), ⟨4, 4⟩, ⟨0, 2⟩].length [⟨2, 3⟩, ⟨4, 4⟩, ⟨0, 2⟩] :=
  cells_C k35 (fun p => [.int .i64 p.f0, .int .i64 p.f1]) (fun W p => k35_mk W p) (fun _ => rfl) [⟨2, 3⟩, ⟨4, 4⟩, ⟨0, 2⟩] [] (by exact h) (by simp)
theorem three_k {W : World} {n : Nat} (hn : n ≤ 3) (v : Int) {p5 p6 p9 p10 : Nat} (b5 : Blk W p5 #[.int .i64 2, .int .i64 1, .int .i64 0] 3) (b6 : Blk W p6 #[.int .i64 3, .int .i64 2, .int .i64 v] 3) (b9 : Blk W p9 #[.int .i64 2, .int .i64 3, .int .i64 4, .int .i64 4, .int .i64 0, .int .i64 2] 35)
    (b10 : Blk W p10 #[.int .i64 0, .int .i64 6, .int .i64 6, .int .i64 2, .int .i64 3, .int .i64 3, .int .i64 0, .int .i64 7, .int .i64 7] 119) :
    k38.K W (threeX n v) [.int .i64 2, .int .i64 7, .int .i64 60, .int .i64 4, .int .i64 3, .slice (some ⟨p5, 0, none⟩) 3 3, .slice (some ⟨p6, 0, none⟩) 3 3, .int .i64 10, .int .i64 12, .slice (some ⟨p9, 0, none⟩) 3 3, .slice (some ⟨p10, 0, none⟩) n 3] := by
  have h10 := threeR_C n b10
  have hl : (threeR.take n).length = n := by simp [threeR]; omega
  have := k38_mk W (threeX n v) (c5 := 3) (Nat.le_refl _) (ints3_C 2 1 0 b5) (c6 := 3) (Nat.le_refl _) (ints3_C 3 2 v b6) (c9 := 3) (Nat.le_refl _) (loss_C b9) (c10 := 3) (by show (threeR.take n).length ≤ 3; omega) h10
  rw [show (threeX n v).f9.length = n from hl] at this
  exact this
theorem threeK_calls (n : Nat) (hn : n ≤ 3) (w : World) : Calls Try.prog 74 #[.int .i64 n] w fun e w' => ∃ cs : List Value, e = .returned (.agg cs.toArray) ∧ Below w.heap.size w w' ∧ k38.K w' (threeX n 2) cs := by
  refine (three_calls n hn w).mono ?_
  rintro e w' ⟨p5, p6, p9, p10, rfl, hb, _, _, _, _, b5, b6, b9, b10⟩
  exact ⟨_, rfl, hb, three_k hn 2 b5 b6 b9 b10⟩
set_option maxRecDepth 100000 in
set_option maxHeartbeats 4000000 in
theorem wanting_calls (v : Int) (w : World) : Calls Try.prog 75 #[.int .i64 v] w fun e w' => ∃ cs : List Value, e = .returned (.agg cs.toArray) ∧ Below w.heap.size w w' ∧ k38.K w' (threeX 0 v) cs := by
  have hu := Try.underlying38
  have HB := Aside0.mk (And.intro (below_alloc (Below.refl w.heap.size w) (.cells #[.int .i64 0, .int .i64 0, .int .i64 0, .int .i64 0, .int .i64 0, .slice none 0 0, .slice none 0 0, .int .i64 0, .int .i64 0, .slice none 0 0, .slice none 0 0] 38)) (Blk.new w #[.int .i64 0, .int .i64 0, .int .i64 0, .int .i64 0, .int .i64 0, .slice none 0 0, .slice none 0 0, .int .i64 0, .int .i64 0, .slice none 0 0, .slice none 0 0] 38 _ rfl))
  go_enter Try.func75, Try.ntmps75
  go_wp2_with (go_at_call 74; refine (three_calls 0 (Nat.zero_le _) _).mono ?_; rintro e w1 ⟨p5, p6, p9, p10, rfl, hb1, hp, n5, n9, n10, b5, b6, b9, b10⟩; simp only [World.size_alloc] at hp; have hz0 := HB.out.2.below hb1; have HF := Aside0.mk (And.intro (bel2 HB.out.1 hb1) (And.intro hp (And.intro n5 (And.intro n9 (And.intro n10 (And.intro b5 (And.intro b6 (And.intro b9 (And.intro b10 hz0))))))))); have hW : Blk ((w1.setCell ⟨p6, 2, none⟩ (.int .i64 v)).alloc (.cells #[.int .i64 2, .int .i64 7, .int .i64 60, .int .i64 4, .int .i64 3, .slice (some ⟨p5, 0, none⟩) 3 3, .slice (some ⟨p6, 0, none⟩) 3 3, .int .i64 10, .int .i64 12, .slice (some ⟨p9, 0, none⟩) 3 3, .slice (some ⟨p10, 0, none⟩) 0 3] 38)) w.heap.size #[.int .i64 0, .int .i64 0, .int .i64 0, .int .i64 0, .int .i64 0, .slice none 0 0, .slice none 0 0, .int .i64 0, .int .i64 0, .slice none 0 0, .slice none 0 0] 38 := (hz0.set_other (by show w.heap.size ≠ p6; omega) _).alloc _; have hT : Blk ((w1.setCell ⟨p6, 2, none⟩ (.int .i64 v)).alloc (.cells #[.int .i64 2, .int .i64 7, .int .i64 60, .int .i64 4, .int .i64 3, .slice (some ⟨p5, 0, none⟩) 3 3, .slice (some ⟨p6, 0, none⟩) 3 3, .int .i64 10, .int .i64 12, .slice (some ⟨p9, 0, none⟩) 3 3, .slice (some ⟨p10, 0, none⟩) 0 3] 38)) w1.heap.size #[.int .i64 2, .int .i64 7, .int .i64 60, .int .i64 4, .int .i64 3, .slice (some ⟨p5, 0, none⟩) 3 3, .slice (some ⟨p6, 0, none⟩) 3 3, .int .i64 10, .int .i64 12, .slice (some ⟨p9, 0, none⟩) 3 3, .slice (some ⟨p10, 0, none⟩) 0 3] 38 := Blk.new _ _ _ _ (by simp [World.setCell]); have k6 := b6.cell 2 _ rfl; have f6 := b6.frozen 2; have l6 := b6.lt; have t0 := hT.cell 0 _ rfl; have z0 := hW.cell 0 _ rfl; have y0 := hW.frozen 0; have t1 := hT.cell 1 _ rfl; have z1 := hW.cell 1 _ rfl; have y1 := hW.frozen 1; have t2 := hT.cell 2 _ rfl; have z2 := hW.cell 2 _ rfl; have y2 := hW.frozen 2; have t3 := hT.cell 3 _ rfl; have z3 := hW.cell 3 _ rfl; have y3 := hW.frozen 3; have t4 := hT.cell 4 _ rfl; have z4 := hW.cell 4 _ rfl; have y4 := hW.frozen 4; have t5 := hT.cell 5 _ rfl; have z5 := hW.cell 5 _ rfl; have y5 := hW.frozen 5; have t6 := hT.cell 6 _ rfl; have z6 := hW.cell 6 _ rfl; have y6 := hW.frozen 6; have t7 := hT.cell 7 _ rfl; have z7 := hW.cell 7 _ rfl; have y7 := hW.frozen 7; have t8 := hT.cell 8 _ rfl; have z8 := hW.cell 8 _ rfl; have y8 := hW.frozen 8; have t9 := hT.cell 9 _ rfl; have z9 := hW.cell 9 _ rfl; have y9 := hW.frozen 9; have t10 := hT.cell 10 _ rfl; have z10 := hW.cell 10 _ rfl; have y10 := hW.frozen 10; clear hb1 n5 n9 n10 b5 b6 b9 b10 hz0 hW hT)
  have hn6 : w.heap.size ≠ p6 := by have := HF.out.2.1; omega
  have hz := HF.out.2.2.2.2.2.2.2.2.2
  have hzl := hz.lt
  have hb6 := ((HF.out.2.2.2.2.2.2.1.set 2 (.int .i64 v)).alloc (.cells #[.int .i64 2, .int .i64 7, .int .i64 60, .int .i64 4, .int .i64 3, .slice (some ⟨p5, 0, none⟩) 3 3, .slice (some ⟨p6, 0, none⟩) 3 3, .int .i64 10, .int .i64 12, .slice (some ⟨p9, 0, none⟩) 3 3, .slice (some ⟨p10, 0, none⟩) 0 3] 38))
  have hb5 := ((HF.out.2.2.2.2.2.1.set_other (p := ⟨p6, 2, none⟩) (Ne.symm HF.out.2.2.1) (.int .i64 v)).alloc (.cells #[.int .i64 2, .int .i64 7, .int .i64 60, .int .i64 4, .int .i64 3, .slice (some ⟨p5, 0, none⟩) 3 3, .slice (some ⟨p6, 0, none⟩) 3 3, .int .i64 10, .int .i64 12, .slice (some ⟨p9, 0, none⟩) 3 3, .slice (some ⟨p10, 0, none⟩) 0 3] 38))
  have hb9 := ((HF.out.2.2.2.2.2.2.2.1.set_other (p := ⟨p6, 2, none⟩) (Ne.symm HF.out.2.2.2.1) (.int .i64 v)).alloc (.cells #[.int .i64 2, .int .i64 7, .int .i64 60, .int .i64 4, .int .i64 3, .slice (some ⟨p5, 0, none⟩) 3 3, .slice (some ⟨p6, 0, none⟩) 3 3, .int .i64 10, .int .i64 12, .slice (some ⟨p9, 0, none⟩) 3 3, .slice (some ⟨p10, 0, none⟩) 0 3] 38))
  have hb10 := ((HF.out.2.2.2.2.2.2.2.2.1.set_other (p := ⟨p6, 2, none⟩) (Ne.symm HF.out.2.2.2.2.1) (.int .i64 v)).alloc (.cells #[.int .i64 2, .int .i64 7, .int .i64 60, .int .i64 4, .int .i64 3, .slice (some ⟨p5, 0, none⟩) 3 3, .slice (some ⟨p6, 0, none⟩) 3 3, .int .i64 10, .int .i64 12, .slice (some ⟨p9, 0, none⟩) 3 3, .slice (some ⟨p10, 0, none⟩) 0 3] 38))
  have hne : ∀ {p : Nat} {cs : Array Value} {t : TypeId}, Blk w1 p cs t → cs.size ≠ 11 → p ≠ w.heap.size := by
    rintro p cs t hp hs rfl
    unfold Blk at hp hz
    rw [hz] at hp
    cases hp
    exact hs rfl
  refine bodyPost_ret (ret38 Try.results75 rfl (put11_blk ((hz.set_other (p := ⟨p6, 2, none⟩) hn6 (.int .i64 v)).alloc (.cells #[.int .i64 2, .int .i64 7, .int .i64 60, .int .i64 4, .int .i64 3, .slice (some ⟨p5, 0, none⟩) 3 3, .slice (some ⟨p6, 0, none⟩) 3 3, .int .i64 10, .int .i64 12, .slice (some ⟨p9, 0, none⟩) 3 3, .slice (some ⟨p10, 0, none⟩) 0 3] 38)) rfl _ _ _ _ _ _ _ _ _ _ _)) rfl ⟨_, rfl, ?_, three_k (Nat.zero_le _) v (put11_other hb5 (hne HF.out.2.2.2.2.2.1 (by decide)) _ _ _ _ _ _ _ _ _ _ _) (put11_other hb6 (Ne.symm hn6) _ _ _ _ _ _ _ _ _ _ _) (put11_other hb9 (hne HF.out.2.2.2.2.2.2.2.1 (by decide)) _ _ _ _ _ _ _ _ _ _ _) (put11_other hb10 (hne HF.out.2.2.2.2.2.2.2.2.1 (by decide)) _ _ _ _ _ _ _ _ _ _ _)⟩
  exact put11_below (below_alloc (HF.out.1.setCell (p := ⟨p6, 2, none⟩) (by show w.heap.size ≤ p6; have := HF.out.2.1; omega) (.int .i64 v)) _) (Nat.le_refl _) _ _ _ _ _ _ _ _ _ _ _
end Go.Proofs.Ytdgkhoflajdidaa
/- What Copper (the conversion) keeps. -/
namespace Go.Proofs.Ytdgkhoflajdidaa
open Go.RowKit Go.Proofs.YtdgkhoflajdidaaW.PrintWords Go.Proofs.YtdgkhoflajdidaaW.PrintMore Go.Proofs.YtdgkhoflajdidaaW.PrintLast Go.Proofs.Ytdgkhoflajdidaa.Print
set_option linter.unusedVariables false
set_option linter.unusedSimpArgs false
/-- An append of one element that lies in a block, as an operation of a region. -/
theorem appendN_op {P : Program} {ops : Array Oper} {o : Oper} {a : Act} {K : Act → World → Prop} {Q : Exit → Act → World → Prop} {w : World} (s x : Operand) (t e : TypeId) (z : Value) (size bytes : Nat)
    (hw : Region.wanted o (yielded ops a.tmps) = true) (ho : o.op = .call { callee := .builtin .append, args := #[s, x], argTypes := #[t, t] })
    (ht : P.underlying t = some (.slice e)) (hinfo : (P.info? e).map (fun i => (i.zero, i.size, i.bytes)) = some (some z, size, bytes)) (hz : z.cells.size = size) (hsz : 0 < size) (hb0 : 0 < bytes)
    (base : Nat) (v : Value) (n : Nat) (xs news : List Value) (p c : Nat) (hs : a.eval s = v) (hx : a.eval x = .slice (some ⟨p, 0, none⟩) 1 c) (hown : w.ownsRow base e size v n xs) (hl : news.length = size) (hnews : ∀ j u, news[j]? = some u → w.cell? (Addr.add ⟨p, 0, none⟩ j) = some u) (h1 : ∀ u ∈ news, u.oneCell' = true)
    (hlen : (n + 1) * bytes ≤ 140737488355328) (hbase : base ≤ w.heap.size)
    (h : ∀ v1 w1, w1.ownsRow base e size v1 (n + 1) (xs ++ news) → w.grownBy w1 v.ownBlock → (v1.ownBlock = v.ownBlock ∨ v1.ownBlock = some w.heap.size) → K (a.put o.dst v1) w1) :
    if Region.wanted o (yielded ops a.tmps) = true then Oper.wp P o a w K Q else K (a.put o.dst undef) w := by
  obtain ⟨i0, hi, hzz⟩ := Option.map_eq_some_iff.1 hinfo
  simp only [Prod.mk.injEq] at hzz
  obtain ⟨hz0, hz1, hz2⟩ := hzz
  have hn : n + 1 ≤ 140737488355328 := Nat.le_trans (Nat.le_mul_of_pos_right _ hb0) hlen
  obtain ⟨v', w', hr, h2, h3, h4, h5⟩ := run_append_own_at (P := P) (w := w) base t o.type e i0 z size bytes ht hi hz0 hz1 hz2 hz hsz v n xs hown ⟨p, 0, none⟩ 1 c news (by rw [hl, Nat.one_mul]) hnews h1 (by simp only [maxLen]; omega) hlen hbase
  refine value_ (w1 := w') (v := v') hw rfl ?_ (h v' w' h2 h3 h5)
  unfold execOp
  simp only [ho, resolve, invoke, builtin, Sem.run_bind, Sem.run_pure, Result.andThen_ok, List.map_toArray, List.map_cons, List.map_nil, hs, hx, hr]
theorem listS_calls (A : Option Addr) (c : Nat) (l : List Int) (w : World) (hl : Kd.C (Kd.int .i64) w A l.length l) (h30 : l.length ≤ 1000) :
    Calls Try.prog 27 #[.slice A l.length c] w fun e w' => ∃ B d, e = .returned (.slice B l.length d) ∧ w'.ownsRow w.heap.size 3 1 (.slice B l.length d) l.length (nums .i64 l) ∧ Below w.heap.size w w' := by
  refine (list_calls A c l w hl h30).mono ?_
  rintro e w' ⟨v, rfl, ho, hb⟩
  obtain ⟨B, d, rfl, _, _⟩ := own_C (Kd.int .i64) (.int .i64) rfl (fun _ _ => rfl) (xs := l) rfl (by simp [nums]) ho
  exact ⟨B, d, rfl, ho, hb⟩
/-- Readings' cells in a row. -/
def rdCells (l : List S119) : List Value := l.flatMap fun r => [.int .i64 r.f0, .int .i64 r.f1.f0, .int .i64 r.f1.f1]
theorem rdCells_snoc (l : List S119) (r : S119) : rdCells (l ++ [r]) = rdCells l ++ [.int .i64 r.f0, .int .i64 r.f1.f0, .int .i64 r.f1.f1] := by simp [rdCells]
theorem rdCells_reps (w : World) (l : List S119) : Reps (k119.K w) 3 l (rdCells l) := by
  have key : ∀ (l acc : List S119), Reps (k119.K w) 3 acc (rdCells acc) → Reps (k119.K w) 3 (acc ++ l) (rdCells (acc ++ l)) := by
    intro l
    induction l with
    | nil => intro acc h; simpa using h
    | cons s r ih =>
      intro acc h
      rw [show acc ++ s :: r = (acc ++ [s]) ++ r by simp]
      refine ih _ ?_
      rw [rdCells_snoc]
      exact Reps.snoc h (k119_mk w s) rfl
  have := key l [] (Reps.none _ _)
  simpa using this
theorem rd_own_C {w : World} {base n : Nat} {v : Value} {l : List S119} (h : w.ownsRow base 119 3 v n (rdCells l)) (hn : l.length = n) : ∃ A c, v = .slice A l.length c ∧ Kd.C k119 w A l.length l := by
  subst hn
  exact own_reads_row h (rdCells_reps w l) rfl
theorem own_cap {w : World} {base e size n : Nat} {A : Option Addr} {c : Nat} {xs : List Value} {m : Nat} (h : w.ownsRow base e size (.slice A m c) n xs) : m ≤ c := by
  rcases h.2 with ⟨h1, _⟩ | ⟨g, cap, cur, h1, h2, h3, r⟩
  · cases h1; exact Nat.le_refl _
  · cases h1; exact r.1
theorem own_form {w : World} {base e size n : Nat} {v : Value} {xs : List Value} (h : w.ownsRow base e size v n xs) : ∃ A c, v = .slice A n c := by
  rcases h.2 with ⟨h1, h2⟩ | ⟨g, cap, cur, h1, h2, h3, r⟩
  · refine ⟨none, 0, ?_⟩
    rw [h1]
    have h4 := h.1
    subst h2
    simp at h4
    first | rw [h4] | (subst h4; rfl)
  · exact ⟨_, _, h1⟩
theorem blk_row {W : World} {p base size n : Nat} {t e : TypeId} {cs : Array Value} {v : Value} {xs : List Value} (h : Blk W p cs t) (hr : W.ownsRow base e size v n xs) (hne : t ≠ e) : some p ≠ v.ownBlock := by
  intro hp
  obtain ⟨cells, hc⟩ := own_typed hr p hp.symm
  unfold Blk at h
  rw [hc] at h
  cases h
  exact hne rfl
theorem row_row {W : World} {base1 size1 n1 base2 size2 n2 : Nat} {e1 e2 : TypeId} {v1 v2 : Value} {xs1 xs2 : List Value} (h1 : W.ownsRow base1 e1 size1 v1 n1 xs1) (h2 : W.ownsRow base2 e2 size2 v2 n2 xs2) (hne : e1 ≠ e2) : v1.ownBlock = none ∨ v1.ownBlock ≠ v2.ownBlock := by
  cases hk : v1.ownBlock with
  | none => exact .inl rfl
  | some k =>
    refine .inr fun e => ?_
    obtain ⟨c1, q1⟩ := own_typed h1 k hk
    obtain ⟨c2, q2⟩ := own_typed h2 k e.symm
    rw [q1] at q2
    cases q2
    exact hne rfl
theorem own_setCell {W : World} {base size n : Nat} {e : TypeId} {v : Value} {xs : List Value} (h : W.ownsRow base e size v n xs) {p : Addr} (hp : some p.block ≠ v.ownBlock) (u : Value) : (W.setCell p u).ownsRow base e size v n xs :=
  own_move h (fun k hk => Below.heap_setCell W p u k (fun e => hp (by rw [hk, e])))
theorem one3 (a b c : Int) : ∀ u ∈ [Value.int .i64 a, Value.int .i64 b, Value.int .i64 c], u.oneCell' = true := fun u hu => by
  simp only [List.mem_cons, List.mem_nil_iff, or_false] at hu
  rcases hu with rfl | rfl | rfl <;> rfl
theorem cells3 {W : World} {p : Nat} {a b c : Value} {t : TypeId} (h : Blk W p #[a, b, c] t) : ∀ j u, [a, b, c][j]? = some u → W.cell? (Addr.add ⟨p, 0, none⟩ j) = some u := fun j u hj => by
  match j, hj with
  | 0, hj => simp at hj; subst hj; exact h.cell 0 _ rfl
  | 1, hj => simp at hj; subst hj; exact h.cell 1 _ rfl
  | 2, hj => simp at hj; subst hj; exact h.cell 2 _ rfl
/-- The state of Copper's loops. -/
structure CpSt (x : S38) (w : World) (B Z : Array Value) (p : Nat) (v5 v6 v9 : Value) (n9 : Nat) (v10 : Value) (n10 : Nat) (W : World) : Prop where
  bel : Below w.heap.size w W
  box : Blk W w.heap.size B 28
  res : Blk W (w.heap.size + 1) Z 38
  blk : Blk W p #[.int .i64 x.f0, .int .i64 x.f1, .int .i64 x.f2, .int .i64 x.f3, .int .i64 x.f4, v5, v6, .int .i64 x.f7.f0, .int .i64 x.f7.f1, v9, v10] 38
  r5 : W.ownsRow w.heap.size 3 1 v5 x.f5.length (nums .i64 x.f5)
  r6 : W.ownsRow w.heap.size 3 1 v6 x.f6.length (nums .i64 x.f6)
  r9 : W.ownsRow w.heap.size 35 2 v9 n9 (rgCells (x.f8.take n9))
  r10 : W.ownsRow w.heap.size 119 3 v10 n10 (rdCells (x.f9.take n10))
  hp : w.heap.size + 1 < p
variable {x : S38} {w W V : World} {B Z : Array Value} {p : Nat} {v5 v6 v9 v10 v' : Value} {n9 n10 : Nat}
theorem CpSt.below (h : CpSt x w B Z p v5 v6 v9 n9 v10 n10 W) (hb : Below W.heap.size W V) : CpSt x w B Z p v5 v6 v9 n9 v10 n10 V :=
  ⟨bel2 h.bel hb, h.box.below hb, h.res.below hb, h.blk.below hb, own_bel h.r5 hb, own_bel h.r6 hb, own_bel h.r9 hb, own_bel h.r10 hb, h.hp⟩
theorem CpSt.app9 (h : CpSt x w B Z p v5 v6 v9 n9 v10 n10 W) (hk : n9 < x.f8.length) (ho : V.ownsRow w.heap.size 35 2 v' (n9 + 1) (rgCells (x.f8.take n9) ++ [.int .i64 x.f8[n9].f0, .int .i64 x.f8[n9].f1])) (hg : W.grownBy V v9.ownBlock) : CpSt x w B Z p v5 v6 v' (n9 + 1) v10 n10 (V.setCell ⟨p, 9, none⟩ v') := by
  have hblk := h.blk.grown hg (blk_row h.blk h.r9 (by decide))
  have h5 := own_other h.r5 hg (row_row h.r5 h.r9 (by decide))
  have h6 := own_other h.r6 hg (row_row h.r6 h.r9 (by decide))
  have h10 := own_other h.r10 hg (row_row h.r10 h.r9 (by decide))
  have hbox := h.box.grown hg (blk_row h.box h.r9 (by decide))
  have hres := h.res.grown hg (blk_row h.res h.r9 (by decide))
  have hp := h.hp
  exact ⟨(h.bel.grown hg h.bel.size (own_base h.r9)).setCell (p := ⟨p, 9, none⟩) (by show w.heap.size ≤ p; omega) _, hbox.set_other (p := ⟨p, 9, none⟩) (by show w.heap.size ≠ p; omega) _, hres.set_other (p := ⟨p, 9, none⟩) (by show w.heap.size + 1 ≠ p; omega) _, hblk.set 9 v',
    own_setCell h5 (p := ⟨p, 9, none⟩) (blk_row hblk h5 (by decide)) _, own_setCell h6 (p := ⟨p, 9, none⟩) (blk_row hblk h6 (by decide)) _,
    own_setCell (by rw [List.take_succ_eq_append_getElem hk, rgCells_snoc]; exact ho) (p := ⟨p, 9, none⟩) (blk_row hblk ho (by decide)) _, own_setCell h10 (p := ⟨p, 9, none⟩) (blk_row hblk h10 (by decide)) _, hp⟩
theorem CpSt.app10 (h : CpSt x w B Z p v5 v6 v9 n9 v10 n10 W) (hk : n10 < x.f9.length) (ho : V.ownsRow w.heap.size 119 3 v' (n10 + 1) (rdCells (x.f9.take n10) ++ [.int .i64 x.f9[n10].f0, .int .i64 x.f9[n10].f1.f0, .int .i64 x.f9[n10].f1.f1])) (hg : W.grownBy V v10.ownBlock) : CpSt x w B Z p v5 v6 v9 n9 v' (n10 + 1) (V.setCell ⟨p, 10, none⟩ v') := by
  have hblk := h.blk.grown hg (blk_row h.blk h.r10 (by decide))
  have h5 := own_other h.r5 hg (row_row h.r5 h.r10 (by decide))
  have h6 := own_other h.r6 hg (row_row h.r6 h.r10 (by decide))
  have h9 := own_other h.r9 hg (row_row h.r9 h.r10 (by decide))
  have hbox := h.box.grown hg (blk_row h.box h.r10 (by decide))
  have hres := h.res.grown hg (blk_row h.res h.r10 (by decide))
  have hp := h.hp
  exact ⟨(h.bel.grown hg h.bel.size (own_base h.r10)).setCell (p := ⟨p, 10, none⟩) (by show w.heap.size ≤ p; omega) _, hbox.set_other (p := ⟨p, 10, none⟩) (by show w.heap.size ≠ p; omega) _, hres.set_other (p := ⟨p, 10, none⟩) (by show w.heap.size + 1 ≠ p; omega) _, hblk.set 10 v',
    own_setCell h5 (p := ⟨p, 10, none⟩) (blk_row hblk h5 (by decide)) _, own_setCell h6 (p := ⟨p, 10, none⟩) (blk_row hblk h6 (by decide)) _, own_setCell h9 (p := ⟨p, 10, none⟩) (blk_row hblk h9 (by decide)) _,
    own_setCell (by rw [List.take_succ_eq_append_getElem hk, rdCells_snoc]; exact ho) (p := ⟨p, 10, none⟩) (blk_row hblk ho (by decide)) _, hp⟩
end Go.Proofs.Ytdgkhoflajdidaa
/- Fault: the error of coppers. -/
namespace Go.Proofs.Ytdgkhoflajdidaa
open Go.RowKit Go.Proofs.YtdgkhoflajdidaaW.PrintWords Go.Proofs.YtdgkhoflajdidaaW.PrintMore Go.Proofs.YtdgkhoflajdidaaW.PrintLast Go.Proofs.Ytdgkhoflajdidaa.Print
set_option linter.unusedVariables false
set_option linter.unusedSimpArgs false
set_option maxRecDepth 100000
set_option maxHeartbeats 4000000
/-- All that is asked but the sizes. -/
def goodB (x : S38) : Bool := decide (0 ≤ x.f0) && inR x.f2 0 999 && inR x.f1 0 x.f2 && inR x.f3 1 20 && inR x.f4 0 3 && forHours x.f0 x.f5 x.f4 && forHours x.f0 x.f6 20 && inside x.f7 99 && ((x.f8.length : Int) == x.f0 + 1) && x.f8.all (fun r => inside r 99) && x.f9.all (readingB x.f0)
theorem faultC_eq (x : S38) : faultC x = if 4 < x.f0 ∨ 5 < x.f9.length then 3 else if goodB x = true then overSize x else 1 := by
  have e1 : (inR x.f1 0 x.f2 = true ∧ ¬ 999 < x.f2) ↔ (inR x.f2 0 999 = true ∧ inR x.f1 0 x.f2 = true) := by simp only [inR_iff]; omega
  unfold faultC
  by_cases h1 : 4 < x.f0
  · simp [h1]
  by_cases h2 : 5 < x.f9.length
  · simp [h2]
  have hor : ¬ (4 < x.f0 ∨ 5 < x.f9.length) := by omega
  rw [if_neg h1, if_neg h2, if_neg hor]
  by_cases hg : goodB x = true
  · rw [if_pos hg]
    simp only [goodB, Bool.and_eq_true, decide_eq_true_eq] at hg
    obtain ⟨⟨⟨⟨⟨⟨⟨⟨⟨⟨g1, g2⟩, g3⟩, g4⟩, g5⟩, g6⟩, g7⟩, g8⟩, g9⟩, g10⟩, g11⟩ := hg
    have h3 := (e1.2 ⟨g2, g3⟩).2
    have g9' : ((x.f8.length : Int) != x.f0 + 1) = false := by simpa using g9
    simp only [g3, g4, g5, g6, g7, g8, g9', g10, g11, h3, show ¬ x.f0 < 0 by omega, if_false, Bool.true_eq_false, Bool.false_eq_true]
  · rw [if_neg hg]
    by_cases g1 : x.f0 < 0
    · rw [if_pos g1]
    rw [if_neg g1]
    by_cases g3 : inR x.f1 0 x.f2 = false
    · rw [if_pos g3]
    rw [if_neg g3]
    by_cases g2 : 999 < x.f2
    · rw [if_pos g2]
    rw [if_neg g2]
    by_cases g4 : inR x.f3 1 20 = false
    · rw [if_pos g4]
    rw [if_neg g4]
    by_cases g5 : inR x.f4 0 3 = false
    · rw [if_pos g5]
    rw [if_neg g5]
    by_cases g6 : forHours x.f0 x.f5 x.f4 = false
    · rw [if_pos g6]
    rw [if_neg g6]
    by_cases g7 : forHours x.f0 x.f6 20 = false
    · rw [if_pos g7]
    rw [if_neg g7]
    by_cases g8 : inside x.f7 99 = false
    · rw [if_pos g8]
    rw [if_neg g8]
    by_cases g9 : ((x.f8.length : Int) != x.f0 + 1) = true
    · rw [if_pos g9]
    rw [if_neg g9]
    by_cases g10 : x.f8.all (fun r => inside r 99) = false
    · rw [if_pos g10]
    rw [if_neg g10]
    by_cases g11 : x.f9.all (readingB x.f0) = false
    · rw [if_pos g11]
    exfalso
    apply hg
    simp only [Bool.not_eq_false] at g3 g4 g5 g6 g7 g8 g10 g11
    have h3 := e1.1 ⟨g3, g2⟩
    have g9' : ((x.f8.length : Int) == x.f0 + 1) = true := by simpa using g9
    simp only [goodB, h3.1, h3.2, g4, g5, g6, g7, g8, g9', g10, g11, Bool.and_self, Bool.and_true, decide_eq_true_eq]
    omega
theorem faultC_good {x : S38} (ha : x.f0 ≤ 4) (hr : x.f9.length ≤ 5) (h1 : 0 ≤ x.f0) (h2 : inR x.f2 0 999 = true) (h3 : inR x.f1 0 x.f2 = true) (h4 : inR x.f3 1 20 = true) (h5 : inR x.f4 0 3 = true) (h6 : forHours x.f0 x.f5 x.f4 = true) (h7 : forHours x.f0 x.f6 20 = true) (h8 : inside x.f7 99 = true) (h9 : ((x.f8.length : Int) == x.f0 + 1) = true) :
    faultC x = if (x.f8.all (fun r => inside r 99) && x.f9.all (readingB x.f0)) = true then overSize x else 1 := by
  rw [faultC_eq, if_neg (by omega)]
  have : goodB x = (x.f8.all (fun r => inside r 99) && x.f9.all (readingB x.f0)) := by
    simp only [goodB, decide_eq_true h1, h2, h3, h4, h5, h6, h7, h8, h9, Bool.true_and]
  rw [this]
/-- The sizes, as the reference multiplies them. -/
def manyR (m : Int) (l : List S35) : Int := l.foldl (fun m r => min 3000 (m * (r.f1 - r.f0 + 1))) m
theorem manyR_snoc (m : Int) (l : List S35) (r : S35) : manyR m (l ++ [r]) = min 3000 (manyR m l * (r.f1 - r.f0 + 1)) := by simp [manyR]
theorem manyR_bd (l : List S35) (h : ∀ r ∈ l, inside r 99 = true) (m : Int) (h0 : 0 ≤ m) (h1 : m ≤ 3000) : 0 ≤ manyR m l ∧ manyR m l ≤ 3000 := by
  induction l generalizing m with
  | nil => exact ⟨h0, h1⟩
  | cons r l ih =>
    have hr := inside_iff.1 (h r (List.mem_cons_self ..))
    refine ih (fun q hq => h q (List.mem_cons_of_mem _ hq)) _ ?_ ?_
    · have : 0 ≤ m * (r.f1 - r.f0 + 1) := Int.mul_nonneg h0 (by omega)
      show 0 ≤ min _ _; omega
    · show min _ _ ≤ _; omega
theorem manyR_C (l : List S35) (h : ∀ r ∈ l, inside r 99 = true) (m n : Int) (h0 : (m = n ∧ m ≤ 2000 ∧ 0 ≤ m) ∨ (2000 < m ∧ 2000 < n)) : (manyR m l = manyC n l ∧ manyR m l ≤ 2000 ∧ 0 ≤ manyR m l) ∨ (2000 < manyR m l ∧ 2000 < manyC n l) := by
  induction l generalizing m n with
  | nil => exact h0
  | cons r l ih =>
    have hr := inside_iff.1 (h r (List.mem_cons_self ..))
    refine ih (fun q hq => h q (List.mem_cons_of_mem _ hq)) _ _ ?_
    simp only [mn2_eq]
    have hs : 1 ≤ r.f1 - r.f0 + 1 := by omega
    generalize r.f1 - r.f0 + 1 = s at hs
    rcases h0 with ⟨rfl, h2, h3⟩ | ⟨h2, h3⟩
    · have : 0 ≤ m * s := Int.mul_nonneg h3 (by omega)
      omega
    · have e1 : m * 1 ≤ m * s := Int.mul_le_mul_of_nonneg_left hs (by omega)
      have e2 : n * 1 ≤ n * s := Int.mul_le_mul_of_nonneg_left hs (by omega)
      omega
def manyX (x : S38) : Int := manyR (x.f7.f1 - x.f7.f0 + 1) x.f8
theorem manyX_sizes {x : S38} (h7 : inside x.f7 99 = true) (h8 : x.f8.all (fun r => inside r 99) = true) : (manyX x = sizes x ∧ manyX x ≤ 2000 ∧ 0 ≤ manyX x) ∨ (2000 < manyX x ∧ 2000 < sizes x) :=
  manyR_C x.f8 (fun r hr => List.all_eq_true.1 h8 r hr) _ _ (.inl ⟨rfl, by have := inside_iff.1 h7; omega, by have := inside_iff.1 h7; omega⟩)
theorem rMany_calls (x : S38) (cs : List Value) (w : World) (hx : k38.K w x cs) (h7 : inside x.f7 99 = true) (h8 : x.f8.all (fun r => inside r 99) = true) :
    Calls Try.prog 46 #[.agg cs.toArray] w fun e w' => e = .returned (.int .i64 (manyX x)) ∧ Below w.heap.size w w' := by
  have HX := Aside0.mk hx
  obtain ⟨A5, c5, A6, c6, A9, c9, A10, c10, rfl, l5, g5, l6, g6, l9, g9, l10, g10⟩ := k38_open hx
  have G9 := Aside0.mk g9
  have hl8 : (x.f8.length : Int) ≤ 9223372036854775807 := by have := g9.2.1; omega
  clear hx g5 g6 g9 g10 l5 l6 l9 l10
  have hu := Try.underlying28
  have hu3 := Try.underlying24
  have hi7 := inside_iff.1 h7
  have hz0 := hi7.1
  have hz1 := hi7.2.1
  have hz2 := hi7.2.2
  have H8 := Aside0.mk (fun r hr => List.all_eq_true.1 h8 r hr)
  clear h7 h8 hi7
  have HB := Aside0.mk (And.intro (below_alloc (Below.refl w.heap.size w) (.cells #[.int .i64 x.f0, .int .i64 x.f1, .int .i64 x.f2, .int .i64 x.f3, .int .i64 x.f4, .slice A5 x.f5.length c5, .slice A6 x.f6.length c6, .int .i64 x.f7.f0, .int .i64 x.f7.f1, .slice A9 x.f8.length c9, .slice A10 x.f9.length c10] 28)) (Blk.new w #[.int .i64 x.f0, .int .i64 x.f1, .int .i64 x.f2, .int .i64 x.f3, .int .i64 x.f4, .slice A5 x.f5.length c5, .slice A6 x.f6.length c6, .int .i64 x.f7.f0, .int .i64 x.f7.f1, .slice A9 x.f8.length c9, .slice A10 x.f9.length c10] 28 _ rfl))
  go_enter Try.func46, Try.ntmps46
  go_wp2_with fail
  refine (rSize_calls x.f7 _ hz0 hz1 hz2).mono ?_
  rintro e w1 ⟨rfl, hb⟩
  have hb' := And.intro (bel2 HB.out.1 hb) (HB.out.2.below hb)
  clear HB hb
  have HB := Aside0.mk hb'
  have k9 := HB.out.2.cell 9 _ rfl
  clear hb'
  have HM0 := Lib.hid (show manyR (x.f7.f1 - x.f7.f0 + 1) (x.f8.take 0) = x.f7.f1 - x.f7.f0 + 1 from rfl)
  go_wp2
  go_loopw [3, 4] (fun s3 s4 wr => ∃ k : Nat, k ≤ x.f8.length ∧ s3 = .int .i64 (manyR (x.f7.f1 - x.f7.f0 + 1) (x.f8.take k)) ∧ s4 = .int .i64 k ∧ Aside0 (Below w.heap.size w wr ∧ Blk wr w.heap.size #[.int .i64 x.f0, .int .i64 x.f1, .int .i64 x.f2, .int .i64 x.f3, .int .i64 x.f4, .slice A5 x.f5.length c5, .slice A6 x.f6.length c6, .int .i64 x.f7.f0, .int .i64 x.f7.f1, .slice A9 x.f8.length c9, .slice A10 x.f9.length c10] 28)) (fun _ s4 _ => x.f8.length - (intOf s4).toNat)
  case atStart => exact ⟨0, Nat.zero_le _, by rw [HM0.out], rfl, HB⟩
  case round =>
    obtain ⟨k, hk, rfl, rfl, HW⟩ := hrel
    have q9 := HW.out.2.cell 9 _ rfl
    by_cases hlt : k < x.f8.length
    · obtain ⟨aA, rfl, q0, q1⟩ := row_at_rg (Kd.C_below G9.out HW.out.1) k hlt
      have hin := inside_iff.1 (H8.out _ (List.getElem_mem hlt))
      have hbd := manyR_bd (x.f8.take k) (fun r hr => H8.out r (List.mem_of_mem_take hr)) (x.f7.f1 - x.f7.f0 + 1) (by omega) (by omega)
      have HS := Lib.hid (show manyR (x.f7.f1 - x.f7.f0 + 1) (x.f8.take (k + 1)) = min 3000 (manyR (x.f7.f1 - x.f7.f0 + 1) (x.f8.take k) * (x.f8[k].f1 - x.f8[k].f0 + 1)) by rw [List.take_succ_eq_append_getElem hlt, manyR_snoc])
      generalize x.f8[k] = r at *
      generalize manyR (x.f7.f1 - x.f7.f0 + 1) (x.f8.take k) = m at *
      have hm0 := hbd.1
      have hm1 := hbd.2
      have r0 := hin.1
      have r1 := hin.2.1
      have r2 := hin.2.2
      clear hin hbd
      have hprod : m * (r.f1 - r.f0 + 1) ≤ 3000 * 100 := Int.mul_le_mul hm1 (by omega) (by omega) (by omega)
      have hprod0 : 0 ≤ m * (r.f1 - r.f0 + 1) := Int.mul_nonneg hm0 (by omega)
      go_wp2_with fail
      refine (rSize_calls r _ r0 r1 r2).mono ?_
      rintro e w2 ⟨rfl, hb⟩
      have HV := Aside0.mk (And.intro (bel2 HW.out.1 hb) (HW.out.2.below hb))
      clear hb
      generalize hpr : m * (r.f1 - r.f0 + 1) = pr at *
      have hkz : (k : Int) < (x.f8.length : Int) := by omega
      go_wp2
      go_roundw
      case rel => exact ⟨k + 1, hlt, by rw [HS.out]; congr 1; split <;> omega, by go_num, HV⟩
      case measure => simp [intOf]; omega
    · obtain rfl : k = x.f8.length := by omega
      have HE := Lib.hid (show manyX x = manyR (x.f7.f1 - x.f7.f0 + 1) (x.f8.take x.f8.length) by rw [List.take_length]; rfl)
      go_wp2
      go_ret
      exact ⟨ret_int HE.out.symm, HW.out.1⟩
end Go.Proofs.Ytdgkhoflajdidaa
/- Fault: where a test fails. -/
namespace Go.Proofs.Ytdgkhoflajdidaa
open Go.RowKit Go.Proofs.YtdgkhoflajdidaaW.PrintWords Go.Proofs.YtdgkhoflajdidaaW.PrintMore Go.Proofs.YtdgkhoflajdidaaW.PrintLast Go.Proofs.Ytdgkhoflajdidaa.Print
set_option linter.unusedVariables false
set_option linter.unusedSimpArgs false
set_option maxRecDepth 100000
set_option maxHeartbeats 4000000
theorem fault_1 (x : S38) (cs : List Value) (w : World) (hx : k38.K w x cs) (ha : x.f0 ≤ 4) (hr : x.f9.length ≤ 5) (h1 : x.f0 < 0) : Calls Try.prog 86 #[.agg cs.toArray] w fun e w' => e = .returned (.int .i64 1) ∧ Below w.heap.size w w' := by
  have HX := Aside0.mk hx
  obtain ⟨A5, c5, A6, c6, A9, c9, A10, c10, rfl, l5, g5, l6, g6, l9, g9, l10, g10⟩ := k38_open hx
  have G5 := Aside0.mk g5
  have G6 := Aside0.mk g6
  have G9 := Aside0.mk g9
  have G10 := Aside0.mk g10
  clear hx g5 g6 g9 g10 l5 l6 l9 l10
  have hu := Try.underlying28
  have hu3 := Try.underlying24
  have hu4 := Try.underlying96
  have HB := Aside0.mk (And.intro (below_alloc (Below.refl w.heap.size w) (.cells #[.int .i64 x.f0, .int .i64 x.f1, .int .i64 x.f2, .int .i64 x.f3, .int .i64 x.f4, .slice A5 x.f5.length c5, .slice A6 x.f6.length c6, .int .i64 x.f7.f0, .int .i64 x.f7.f1, .slice A9 x.f8.length c9, .slice A10 x.f9.length c10] 28)) (Blk.new w #[.int .i64 x.f0, .int .i64 x.f1, .int .i64 x.f2, .int .i64 x.f3, .int .i64 x.f4, .slice A5 x.f5.length c5, .slice A6 x.f6.length c6, .int .i64 x.f7.f0, .int .i64 x.f7.f1, .slice A9 x.f8.length c9, .slice A10 x.f9.length c10] 28 _ rfl))
  have hrz : (x.f9.length : Int) ≤ 5 := by omega
  go_enter Try.func86, Try.ntmps86
  go_wp2
  go_ret
  exact ⟨rfl, HB.out.1⟩
theorem fault_2 (x : S38) (cs : List Value) (w : World) (hx : k38.K w x cs) (ha : x.f0 ≤ 4) (hr : x.f9.length ≤ 5) (h1 : 0 ≤ x.f0) (h2 : inR x.f2 0 999 = false) : Calls Try.prog 86 #[.agg cs.toArray] w fun e w' => e = .returned (.int .i64 1) ∧ Below w.heap.size w w' := by
  have HX := Aside0.mk hx
  obtain ⟨A5, c5, A6, c6, A9, c9, A10, c10, rfl, l5, g5, l6, g6, l9, g9, l10, g10⟩ := k38_open hx
  have G5 := Aside0.mk g5
  have G6 := Aside0.mk g6
  have G9 := Aside0.mk g9
  have G10 := Aside0.mk g10
  clear hx g5 g6 g9 g10 l5 l6 l9 l10
  have hu := Try.underlying28
  have hu3 := Try.underlying24
  have hu4 := Try.underlying96
  have HB := Aside0.mk (And.intro (below_alloc (Below.refl w.heap.size w) (.cells #[.int .i64 x.f0, .int .i64 x.f1, .int .i64 x.f2, .int .i64 x.f3, .int .i64 x.f4, .slice A5 x.f5.length c5, .slice A6 x.f6.length c6, .int .i64 x.f7.f0, .int .i64 x.f7.f1, .slice A9 x.f8.length c9, .slice A10 x.f9.length c10] 28)) (Blk.new w #[.int .i64 x.f0, .int .i64 x.f1, .int .i64 x.f2, .int .i64 x.f3, .int .i64 x.f4, .slice A5 x.f5.length c5, .slice A6 x.f6.length c6, .int .i64 x.f7.f0, .int .i64 x.f7.f1, .slice A9 x.f8.length c9, .slice A10 x.f9.length c10] 28 _ rfl))
  have hrz : (x.f9.length : Int) ≤ 5 := by omega
  go_enter Try.func86, Try.ntmps86
  go_wp2_with fail
  refine (rIn_calls x.f2 0 999 _).mono ?_
  rintro e w' ⟨rfl, rfl⟩
  rw [h2]
  go_wp2
  go_ret
  exact ⟨rfl, HB.out.1⟩
theorem fault_3 (x : S38) (cs : List Value) (w : World) (hx : k38.K w x cs) (ha : x.f0 ≤ 4) (hr : x.f9.length ≤ 5) (h1 : 0 ≤ x.f0) (h2 : inR x.f2 0 999 = true) (h3 : inR x.f1 0 x.f2 = false) : Calls Try.prog 86 #[.agg cs.toArray] w fun e w' => e = .returned (.int .i64 1) ∧ Below w.heap.size w w' := by
  have HX := Aside0.mk hx
  obtain ⟨A5, c5, A6, c6, A9, c9, A10, c10, rfl, l5, g5, l6, g6, l9, g9, l10, g10⟩ := k38_open hx
  have G5 := Aside0.mk g5
  have G6 := Aside0.mk g6
  have G9 := Aside0.mk g9
  have G10 := Aside0.mk g10
  clear hx g5 g6 g9 g10 l5 l6 l9 l10
  have hu := Try.underlying28
  have hu3 := Try.underlying24
  have hu4 := Try.underlying96
  have HB := Aside0.mk (And.intro (below_alloc (Below.refl w.heap.size w) (.cells #[.int .i64 x.f0, .int .i64 x.f1, .int .i64 x.f2, .int .i64 x.f3, .int .i64 x.f4, .slice A5 x.f5.length c5, .slice A6 x.f6.length c6, .int .i64 x.f7.f0, .int .i64 x.f7.f1, .slice A9 x.f8.length c9, .slice A10 x.f9.length c10] 28)) (Blk.new w #[.int .i64 x.f0, .int .i64 x.f1, .int .i64 x.f2, .int .i64 x.f3, .int .i64 x.f4, .slice A5 x.f5.length c5, .slice A6 x.f6.length c6, .int .i64 x.f7.f0, .int .i64 x.f7.f1, .slice A9 x.f8.length c9, .slice A10 x.f9.length c10] 28 _ rfl))
  have hrz : (x.f9.length : Int) ≤ 5 := by omega
  go_enter Try.func86, Try.ntmps86
  go_wp2_with fail
  refine (rIn_calls x.f2 0 999 _).mono ?_
  rintro e w' ⟨rfl, rfl⟩
  rw [h2]
  go_wp2_with fail
  refine (rIn_calls x.f1 0 x.f2 _).mono ?_
  rintro e w' ⟨rfl, rfl⟩
  rw [h3]
  go_wp2
  go_ret
  exact ⟨rfl, HB.out.1⟩
theorem fault_4 (x : S38) (cs : List Value) (w : World) (hx : k38.K w x cs) (ha : x.f0 ≤ 4) (hr : x.f9.length ≤ 5) (h1 : 0 ≤ x.f0) (h2 : inR x.f2 0 999 = true) (h3 : inR x.f1 0 x.f2 = true) (h4 : inR x.f3 1 20 = false) : Calls Try.prog 86 #[.agg cs.toArray] w fun e w' => e = .returned (.int .i64 1) ∧ Below w.heap.size w w' := by
  have HX := Aside0.mk hx
  obtain ⟨A5, c5, A6, c6, A9, c9, A10, c10, rfl, l5, g5, l6, g6, l9, g9, l10, g10⟩ := k38_open hx
  have G5 := Aside0.mk g5
  have G6 := Aside0.mk g6
  have G9 := Aside0.mk g9
  have G10 := Aside0.mk g10
  clear hx g5 g6 g9 g10 l5 l6 l9 l10
  have hu := Try.underlying28
  have hu3 := Try.underlying24
  have hu4 := Try.underlying96
  have HB := Aside0.mk (And.intro (below_alloc (Below.refl w.heap.size w) (.cells #[.int .i64 x.f0, .int .i64 x.f1, .int .i64 x.f2, .int .i64 x.f3, .int .i64 x.f4, .slice A5 x.f5.length c5, .slice A6 x.f6.length c6, .int .i64 x.f7.f0, .int .i64 x.f7.f1, .slice A9 x.f8.length c9, .slice A10 x.f9.length c10] 28)) (Blk.new w #[.int .i64 x.f0, .int .i64 x.f1, .int .i64 x.f2, .int .i64 x.f3, .int .i64 x.f4, .slice A5 x.f5.length c5, .slice A6 x.f6.length c6, .int .i64 x.f7.f0, .int .i64 x.f7.f1, .slice A9 x.f8.length c9, .slice A10 x.f9.length c10] 28 _ rfl))
  have hrz : (x.f9.length : Int) ≤ 5 := by omega
  go_enter Try.func86, Try.ntmps86
  go_wp2_with fail
  refine (rIn_calls x.f2 0 999 _).mono ?_
  rintro e w' ⟨rfl, rfl⟩
  rw [h2]
  go_wp2_with fail
  refine (rIn_calls x.f1 0 x.f2 _).mono ?_
  rintro e w' ⟨rfl, rfl⟩
  rw [h3]
  go_wp2_with fail
  refine (rIn_calls x.f3 1 20 _).mono ?_
  rintro e w' ⟨rfl, rfl⟩
  rw [h4]
  go_wp2
  go_ret
  exact ⟨rfl, HB.out.1⟩
theorem fault_5 (x : S38) (cs : List Value) (w : World) (hx : k38.K w x cs) (ha : x.f0 ≤ 4) (hr : x.f9.length ≤ 5) (h1 : 0 ≤ x.f0) (h2 : inR x.f2 0 999 = true) (h3 : inR x.f1 0 x.f2 = true) (h4 : inR x.f3 1 20 = true) (h5 : inR x.f4 0 3 = false) : Calls Try.prog 86 #[.agg cs.toArray] w fun e w' => e = .returned (.int .i64 1) ∧ Below w.heap.size w w' := by
  have HX := Aside0.mk hx
  obtain ⟨A5, c5, A6, c6, A9, c9, A10, c10, rfl, l5, g5, l6, g6, l9, g9, l10, g10⟩ := k38_open hx
  have G5 := Aside0.mk g5
  have G6 := Aside0.mk g6
  have G9 := Aside0.mk g9
  have G10 := Aside0.mk g10
  clear hx g5 g6 g9 g10 l5 l6 l9 l10
  have hu := Try.underlying28
  have hu3 := Try.underlying24
  have hu4 := Try.underlying96
  have HB := Aside0.mk (And.intro (below_alloc (Below.refl w.heap.size w) (.cells #[.int .i64 x.f0, .int .i64 x.f1, .int .i64 x.f2, .int .i64 x.f3, .int .i64 x.f4, .slice A5 x.f5.length c5, .slice A6 x.f6.length c6, .int .i64 x.f7.f0, .int .i64 x.f7.f1, .slice A9 x.f8.length c9, .slice A10 x.f9.length c10] 28)) (Blk.new w #[.int .i64 x.f0, .int .i64 x.f1, .int .i64 x.f2, .int .i64 x.f3, .int .i64 x.f4, .slice A5 x.f5.length c5, .slice A6 x.f6.length c6, .int .i64 x.f7.f0, .int .i64 x.f7.f1, .slice A9 x.f8.length c9, .slice A10 x.f9.length c10] 28 _ rfl))
  have hrz : (x.f9.length : Int) ≤ 5 := by omega
  go_enter Try.func86, Try.ntmps86
  go_wp2_with fail
  refine (rIn_calls x.f2 0 999 _).mono ?_
  rintro e w' ⟨rfl, rfl⟩
  rw [h2]
  go_wp2_with fail
  refine (rIn_calls x.f1 0 x.f2 _).mono ?_
  rintro e w' ⟨rfl, rfl⟩
  rw [h3]
  go_wp2_with fail
  refine (rIn_calls x.f3 1 20 _).mono ?_
  rintro e w' ⟨rfl, rfl⟩
  rw [h4]
  go_wp2_with fail
  refine (rIn_calls x.f4 0 3 _).mono ?_
  rintro e w' ⟨rfl, rfl⟩
  rw [h5]
  go_wp2
  go_ret
  exact ⟨rfl, HB.out.1⟩
theorem fault_6 (x : S38) (cs : List Value) (w : World) (hx : k38.K w x cs) (ha : x.f0 ≤ 4) (hr : x.f9.length ≤ 5) (h1 : 0 ≤ x.f0) (h2 : inR x.f2 0 999 = true) (h3 : inR x.f1 0 x.f2 = true) (h4 : inR x.f3 1 20 = true) (h5 : inR x.f4 0 3 = true) (h6 : forHours x.f0 x.f5 x.f4 = false) : Calls Try.prog 86 #[.agg cs.toArray] w fun e w' => e = .returned (.int .i64 1) ∧ Below w.heap.size w w' := by
  have HX := Aside0.mk hx
  obtain ⟨A5, c5, A6, c6, A9, c9, A10, c10, rfl, l5, g5, l6, g6, l9, g9, l10, g10⟩ := k38_open hx
  have G5 := Aside0.mk g5
  have G6 := Aside0.mk g6
  have G9 := Aside0.mk g9
  have G10 := Aside0.mk g10
  clear hx g5 g6 g9 g10 l5 l6 l9 l10
  have hu := Try.underlying28
  have hu3 := Try.underlying24
  have hu4 := Try.underlying96
  have HB := Aside0.mk (And.intro (below_alloc (Below.refl w.heap.size w) (.cells #[.int .i64 x.f0, .int .i64 x.f1, .int .i64 x.f2, .int .i64 x.f3, .int .i64 x.f4, .slice A5 x.f5.length c5, .slice A6 x.f6.length c6, .int .i64 x.f7.f0, .int .i64 x.f7.f1, .slice A9 x.f8.length c9, .slice A10 x.f9.length c10] 28)) (Blk.new w #[.int .i64 x.f0, .int .i64 x.f1, .int .i64 x.f2, .int .i64 x.f3, .int .i64 x.f4, .slice A5 x.f5.length c5, .slice A6 x.f6.length c6, .int .i64 x.f7.f0, .int .i64 x.f7.f1, .slice A9 x.f8.length c9, .slice A10 x.f9.length c10] 28 _ rfl))
  have hrz : (x.f9.length : Int) ≤ 5 := by omega
  go_enter Try.func86, Try.ntmps86
  go_wp2_with fail
  refine (rIn_calls x.f2 0 999 _).mono ?_
  rintro e w' ⟨rfl, rfl⟩
  rw [h2]
  go_wp2_with fail
  refine (rIn_calls x.f1 0 x.f2 _).mono ?_
  rintro e w' ⟨rfl, rfl⟩
  rw [h3]
  go_wp2_with fail
  refine (rIn_calls x.f3 1 20 _).mono ?_
  rintro e w' ⟨rfl, rfl⟩
  rw [h4]
  go_wp2_with fail
  refine (rIn_calls x.f4 0 3 _).mono ?_
  rintro e w' ⟨rfl, rfl⟩
  rw [h5]
  go_wp2_with fail
  refine (each_calls x _ A5 c5 x.f5 x.f4 _ (k38.K_below HB.out.1 HX.out) (Kd.C_below G5.out HB.out.1)).mono ?_
  rintro e w5 ⟨rfl, hb⟩
  rw [h6]
  have hb' := And.intro (bel2 HB.out.1 hb) (HB.out.2.below hb)
  clear HB hb
  have HB := Aside0.mk hb'
  clear hb'
  have k0 := HB.out.2.cell 0 _ rfl
  have k1 := HB.out.2.cell 1 _ rfl
  have k2 := HB.out.2.cell 2 _ rfl
  have k3 := HB.out.2.cell 3 _ rfl
  have k4 := HB.out.2.cell 4 _ rfl
  have k5 := HB.out.2.cell 5 _ rfl
  have k6 := HB.out.2.cell 6 _ rfl
  have k7 := HB.out.2.cell 7 _ rfl
  have k8 := HB.out.2.cell 8 _ rfl
  have k9 := HB.out.2.cell 9 _ rfl
  have k10 := HB.out.2.cell 10 _ rfl
  go_wp2
  go_ret
  exact ⟨rfl, HB.out.1⟩
theorem fault_7 (x : S38) (cs : List Value) (w : World) (hx : k38.K w x cs) (ha : x.f0 ≤ 4) (hr : x.f9.length ≤ 5) (h1 : 0 ≤ x.f0) (h2 : inR x.f2 0 999 = true) (h3 : inR x.f1 0 x.f2 = true) (h4 : inR x.f3 1 20 = true) (h5 : inR x.f4 0 3 = true) (h6 : forHours x.f0 x.f5 x.f4 = true) (h7 : forHours x.f0 x.f6 20 = false) : Calls Try.prog 86 #[.agg cs.toArray] w fun e w' => e = .returned (.int .i64 1) ∧ Below w.heap.size w w' := by
  have HX := Aside0.mk hx
  obtain ⟨A5, c5, A6, c6, A9, c9, A10, c10, rfl, l5, g5, l6, g6, l9, g9, l10, g10⟩ := k38_open hx
  have G5 := Aside0.mk g5
  have G6 := Aside0.mk g6
  have G9 := Aside0.mk g9
  have G10 := Aside0.mk g10
  clear hx g5 g6 g9 g10 l5 l6 l9 l10
  have hu := Try.underlying28
  have hu3 := Try.underlying24
  have hu4 := Try.underlying96
  have HB := Aside0.mk (And.intro (below_alloc (Below.refl w.heap.size w) (.cells #[.int .i64 x.f0, .int .i64 x.f1, .int .i64 x.f2, .int .i64 x.f3, .int .i64 x.f4, .slice A5 x.f5.length c5, .slice A6 x.f6.length c6, .int .i64 x.f7.f0, .int .i64 x.f7.f1, .slice A9 x.f8.length c9, .slice A10 x.f9.length c10] 28)) (Blk.new w #[.int .i64 x.f0, .int .i64 x.f1, .int .i64 x.f2, .int .i64 x.f3, .int .i64 x.f4, .slice A5 x.f5.length c5, .slice A6 x.f6.length c6, .int .i64 x.f7.f0, .int .i64 x.f7.f1, .slice A9 x.f8.length c9, .slice A10 x.f9.length c10] 28 _ rfl))
  have hrz : (x.f9.length : Int) ≤ 5 := by omega
  go_enter Try.func86, Try.ntmps86
  go_wp2_with fail
  refine (rIn_calls x.f2 0 999 _).mono ?_
  rintro e w' ⟨rfl, rfl⟩
  rw [h2]
  go_wp2_with fail
  refine (rIn_calls x.f1 0 x.f2 _).mono ?_
  rintro e w' ⟨rfl, rfl⟩
  rw [h3]
  go_wp2_with fail
  refine (rIn_calls x.f3 1 20 _).mono ?_
  rintro e w' ⟨rfl, rfl⟩
  rw [h4]
  go_wp2_with fail
  refine (rIn_calls x.f4 0 3 _).mono ?_
  rintro e w' ⟨rfl, rfl⟩
  rw [h5]
  go_wp2_with fail
  refine (each_calls x _ A5 c5 x.f5 x.f4 _ (k38.K_below HB.out.1 HX.out) (Kd.C_below G5.out HB.out.1)).mono ?_
  rintro e w5 ⟨rfl, hb⟩
  rw [h6]
  have hb' := And.intro (bel2 HB.out.1 hb) (HB.out.2.below hb)
  clear HB hb
  have HB := Aside0.mk hb'
  clear hb'
  have k0 := HB.out.2.cell 0 _ rfl
  have k1 := HB.out.2.cell 1 _ rfl
  have k2 := HB.out.2.cell 2 _ rfl
  have k3 := HB.out.2.cell 3 _ rfl
  have k4 := HB.out.2.cell 4 _ rfl
  have k5 := HB.out.2.cell 5 _ rfl
  have k6 := HB.out.2.cell 6 _ rfl
  have k7 := HB.out.2.cell 7 _ rfl
  have k8 := HB.out.2.cell 8 _ rfl
  have k9 := HB.out.2.cell 9 _ rfl
  have k10 := HB.out.2.cell 10 _ rfl
  go_wp2_with fail
  refine (each_calls x _ A6 c6 x.f6 20 _ (k38.K_below HB.out.1 HX.out) (Kd.C_below G6.out HB.out.1)).mono ?_
  rintro e w6 ⟨rfl, hb⟩
  rw [h7]
  have hb' := And.intro (bel2 HB.out.1 hb) (HB.out.2.below hb)
  clear HB hb
  have HB := Aside0.mk hb'
  clear hb'
  have k0 := HB.out.2.cell 0 _ rfl
  have k1 := HB.out.2.cell 1 _ rfl
  have k2 := HB.out.2.cell 2 _ rfl
  have k3 := HB.out.2.cell 3 _ rfl
  have k4 := HB.out.2.cell 4 _ rfl
  have k5 := HB.out.2.cell 5 _ rfl
  have k6 := HB.out.2.cell 6 _ rfl
  have k7 := HB.out.2.cell 7 _ rfl
  have k8 := HB.out.2.cell 8 _ rfl
  have k9 := HB.out.2.cell 9 _ rfl
  have k10 := HB.out.2.cell 10 _ rfl
  go_wp2
  go_ret
  exact ⟨rfl, HB.out.1⟩
end Go.Proofs.Ytdgkhoflajdidaa
