/- Lemmas for the law's proof: Pb, Pc, Pd, Pe. -/
import Derived.Test.YtdgkhoflajdidaaBounds16
import Derived.Test.YtdgkhoflajdidaaBounds15
import Derived.Test.YtdgkhoflajdidaaBounds10
/- Truths: all truths of coppers. -/
namespace Go.Proofs.Ytdgkhoflajdidaa
open Go.RowKit Go.Proofs.YtdgkhoflajdidaaW.PrintWords Go.Proofs.YtdgkhoflajdidaaW.PrintMore Go.Proofs.YtdgkhoflajdidaaW.PrintLast Go.Proofs.Ytdgkhoflajdidaa.Print
set_option linter.unusedVariables false
set_option linter.unusedSimpArgs false
set_option maxRecDepth 100000
set_option maxHeartbeats 4000000
/-- Truths' cells in a row; each has a row of its own for Loss. -/
def trCells (L : List (S75 × Option Addr × Nat)) : List Value := L.flatMap fun q => [.int .i64 q.1.f0, .slice q.2.1 q.1.f1.length q.2.2]
theorem trCells_snoc (L : List (S75 × Option Addr × Nat)) (q : S75 × Option Addr × Nat) : trCells (L ++ [q]) = trCells L ++ [.int .i64 q.1.f0, .slice q.2.1 q.1.f1.length q.2.2] := by simp [trCells]
def TrOwn (L : List (S75 × Option Addr × Nat)) (base : Nat) (W : World) : Prop := ∀ q ∈ L, W.ownsRow base 3 1 (.slice q.2.1 q.1.f1.length q.2.2) q.1.f1.length (nums .i64 q.1.f1)
theorem TrOwn.reps {L : List (S75 × Option Addr × Nat)} {base : Nat} {W : World} (h : TrOwn L base W) : Reps (k75.K W) 2 (L.map (·.1)) (trCells L) := by
  have key : ∀ (l acc : List (S75 × Option Addr × Nat)), TrOwn l base W → Reps (k75.K W) 2 (acc.map (·.1)) (trCells acc) → Reps (k75.K W) 2 ((acc ++ l).map (·.1)) (trCells (acc ++ l)) := by
    intro l
    induction l with
    | nil => intro acc _ h; simpa using h
    | cons q r ih =>
      intro acc hl h
      rw [show acc ++ q :: r = (acc ++ [q]) ++ r by simp]
      refine ih _ (fun p hp => hl p (List.mem_cons_of_mem _ hp)) ?_
      rw [trCells_snoc, List.map_append]
      have ho := hl q (List.mem_cons_self ..)
      obtain ⟨A5, c5, e5, _, g5⟩ := own_C (Kd.int .i64) (.int .i64) rfl (fun _ _ => rfl) (xs := q.1.f1) rfl (by simp [nums]) ho
      simp only [Value.slice.injEq, true_and] at e5
      obtain ⟨e6, e7⟩ := e5
      refine Reps.snoc h ?_ rfl
      rw [e6, e7]
      exact k75_mk W q.1 (by have := own_cap ho; rw [e7] at this; exact this) g5
  have := key L [] h (Reps.none _ _)
  simpa using this
theorem tr_own_C {w : World} {base n : Nat} {v : Value} {L : List (S75 × Option Addr × Nat)} (h : w.ownsRow base 66 2 v n (trCells L)) (ho : TrOwn L base w) (hn : L.length = n) : ∃ A c, v = .slice A (L.map (·.1)).length c ∧ Kd.C k75 w A (L.map (·.1)).length (L.map (·.1)) := by
  subst hn
  rw [List.length_map]
  exact own_reads_row h ho.reps (by simp)
/-- The state of Truths' loop. -/
structure TrSt (w : World) (B : Array Value) (L : List (S75 × Option Addr × Nat)) (v : Value) (W : World) : Prop where
  bel : Below w.heap.size w W
  box : Blk W w.heap.size B 28
  r : W.ownsRow w.heap.size 66 2 v L.length (trCells L)
  own : TrOwn L w.heap.size W
theorem oneT (a : Int) (A : Option Addr) (n c : Nat) : ∀ u ∈ [Value.int .i64 a, Value.slice A n c], u.oneCell' = true := fun u hu => by
  simp only [List.mem_cons, List.mem_nil_iff, or_false] at hu
  rcases hu with rfl | rfl <;> rfl
theorem cells2T {W : World} {p : Nat} {a b : Value} {t : TypeId} (h : Blk W p #[a, b] t) : ∀ j u, [a, b][j]? = some u → W.cell? (Addr.add ⟨p, 0, none⟩ j) = some u := fun j u hj => by
  match j, hj with
  | 0, hj => simp at hj; subst hj; exact h.cell 0 _ rfl
  | 1, hj => simp at hj; subst hj; exact h.cell 1 _ rfl
variable {x : S38} {w W V : World} {B : Array Value} {L : List (S75 × Option Addr × Nat)} {v v' : Value}
theorem TrSt.below (s : TrSt w B L v W) (hb : Below W.heap.size W V) : TrSt w B L v V := ⟨bel2 s.bel hb, s.box.below hb, own_bel s.r hb, fun q hq => own_bel (s.own q hq) hb⟩
theorem TrSt.app (s : TrSt w B L v W) (q : S75 × Option Addr × Nat) (hq : W.ownsRow w.heap.size 3 1 (.slice q.2.1 q.1.f1.length q.2.2) q.1.f1.length (nums .i64 q.1.f1)) (ho : V.ownsRow w.heap.size 66 2 v' (L.length + 1) (trCells L ++ [.int .i64 q.1.f0, .slice q.2.1 q.1.f1.length q.2.2])) (hg : W.grownBy V v.ownBlock) : TrSt w B (L ++ [q]) v' V := by
  refine ⟨s.bel.grown hg s.bel.size (own_base s.r), s.box.grown hg (blk_row s.box s.r (by decide)), ?_, fun p hp => ?_⟩
  · rw [trCells_snoc, List.length_append]; exact ho
  · rcases List.mem_append.1 hp with h | h
    · exact own_other (s.own p h) hg (row_row (s.own p h) s.r (by decide))
    · rw [List.mem_singleton.1 h]
      exact own_other hq hg (row_row hq s.r (by decide))
theorem right_full (hV : Valid x) (s : Sc) : (rbits (okAt x s []) x.f9.length == 2 ^ x.f9.length - 1) = rightB x s [] := rbits_full _ _ hV.rdN
/-- What Truths leaves. -/
def TrPost (x : S38) (w : World) (e : Ending) (w' : World) : Prop := ∃ A c, e = .returned (.slice A (truthsX x).length c) ∧ Below w.heap.size w w' ∧ Kd.C k75 w' A (truthsX x).length (truthsX x)
theorem rTruths_calls (x : S38) (cs : List Value) (w : World) (hx : k38.K w x cs) (hV : Valid x) : Calls Try.prog 42 #[.agg cs.toArray] w (TrPost x w) := by
  have HX := Aside0.mk hx
  have HC := fun V (hb : Below w.heap.size w V) => And.intro (rMany_calls x cs V (k38.K_below hb hx) hV.inside7 hV.inside8) (And.intro (fun n hn => rNth_calls x cs n V (k38.K_below hb hx) hV.inside7 hV.inside8 hn (by have := hV.lossN; have := hV.last1; omega)) (rFull_calls x cs V (k38.K_below hb hx) hV.rdN))
  have HRT := fun V (hb : Below w.heap.size w V) (t : S75) (ts : List Value) (ht : k75.K V t ts) (hi : InSc x (toSc t)) (hn : (t.f1.length : Int) = x.f0 + 1) => rRight_calls (k38.K_below hb hx) ht hV (hi.ok hV) hn
  obtain ⟨A5, c5, A6, c6, A9, c9, A10, c10, rfl, l5, g5, l6, g6, l9, g9, l10, g10⟩ := k38_open hx
  have HC := Aside0.mk HC
  have HRT := Aside0.mk HRT
  clear hx g5 g6 g9 g10 l5 l6 l9 l10
  have hu := Try.underlying28
  have hu2 := Try.underlying66
  have hmx := manyX_ok hV
  have HV := Aside0.mk hV
  clear hV
  obtain ⟨N, hN⟩ : ∃ N : Nat, manyX x = (N : Int) := ⟨(manyX x).toNat, by omega⟩
  have hN2 : N ≤ 2000 := by omega
  have HTX := Lib.hid (show truthsX x = trs x N by unfold truthsX; rw [hN]; rfl)
  rw [hN] at HC
  clear hmx hN
  have ZB := Aside0.mk (And.intro (below_alloc (Below.refl w.heap.size w) (.cells #[.int .i64 x.f0, .int .i64 x.f1, .int .i64 x.f2, .int .i64 x.f3, .int .i64 x.f4, .slice A5 x.f5.length c5, .slice A6 x.f6.length c6, .int .i64 x.f7.f0, .int .i64 x.f7.f1, .slice A9 x.f8.length c9, .slice A10 x.f9.length c10] 28)) (Blk.new w #[.int .i64 x.f0, .int .i64 x.f1, .int .i64 x.f2, .int .i64 x.f3, .int .i64 x.f4, .slice A5 x.f5.length c5, .slice A6 x.f6.length c6, .int .i64 x.f7.f0, .int .i64 x.f7.f1, .slice A9 x.f8.length c9, .slice A10 x.f9.length c10] 28 _ rfl))
  go_enter Try.func42, Try.ntmps42
  go_wp2
  generalize (w.alloc (.cells #[.int .i64 x.f0, .int .i64 x.f1, .int .i64 x.f2, .int .i64 x.f3, .int .i64 x.f4, .slice A5 x.f5.length c5, .slice A6 x.f6.length c6, .int .i64 x.f7.f0, .int .i64 x.f7.f1, .slice A9 x.f8.length c9, .slice A10 x.f9.length c10] 28)) = W at *
  go_loopw [3, 4] (fun s3 s4 wr => ∃ k : Nat, k ≤ N ∧ s4 = .int .i64 k ∧ Aside0 (∃ L, L.map (·.1) = trs x k ∧ TrSt w #[.int .i64 x.f0, .int .i64 x.f1, .int .i64 x.f2, .int .i64 x.f3, .int .i64 x.f4, .slice A5 x.f5.length c5, .slice A6 x.f6.length c6, .int .i64 x.f7.f0, .int .i64 x.f7.f1, .slice A9 x.f8.length c9, .slice A10 x.f9.length c10] L s3 wr)) (fun _ s4 _ => N - (intOf s4).toNat)
  case atStart => exact ⟨0, Nat.zero_le _, rfl, ⟨[], rfl, ZB.out.1, ZB.out.2, own_nil _ _ _ _, fun q hq => by cases hq⟩⟩
  case round =>
    obtain ⟨k, hk, rfl, HW⟩ := hrel
    obtain ⟨L, hL, hst⟩ := HW.out
    have HL := Lib.hid hL
    have HT := Aside0.mk hst
    clear HW hst hL
    have k0 := HT.out.box.cell 0 _ rfl
    have k1 := HT.out.box.cell 1 _ rfl
    have k2 := HT.out.box.cell 2 _ rfl
    have k3 := HT.out.box.cell 3 _ rfl
    have k4 := HT.out.box.cell 4 _ rfl
    have k5 := HT.out.box.cell 5 _ rfl
    have k6 := HT.out.box.cell 6 _ rfl
    have k7 := HT.out.box.cell 7 _ rfl
    have k8 := HT.out.box.cell 8 _ rfl
    have k9 := HT.out.box.cell 9 _ rfl
    have k10 := HT.out.box.cell 10 _ rfl
    go_wp2_with fail
    refine ((HC.out _ HT.out.bel).1).mono ?_
    rintro e w6 ⟨rfl, hb⟩
    have HT2 := Aside0.mk (HT.out.below hb)
    clear hb HT k0 k1 k2 k3 k4 k5 k6 k7 k8 k9 k10
    have k0 := HT2.out.box.cell 0 _ rfl
    have k1 := HT2.out.box.cell 1 _ rfl
    have k2 := HT2.out.box.cell 2 _ rfl
    have k3 := HT2.out.box.cell 3 _ rfl
    have k4 := HT2.out.box.cell 4 _ rfl
    have k5 := HT2.out.box.cell 5 _ rfl
    have k6 := HT2.out.box.cell 6 _ rfl
    have k7 := HT2.out.box.cell 7 _ rfl
    have k8 := HT2.out.box.cell 8 _ rfl
    have k9 := HT2.out.box.cell 9 _ rfl
    have k10 := HT2.out.box.cell 10 _ rfl
    by_cases hlt : k < N
    · have hltz : (k : Int) < (N : Int) := by omega
      go_wp2_with fail
      refine ((HC.out _ HT2.out.bel).2.1 k (by omega)).mono ?_
      rintro e w7 ⟨T1, d1, rfl, hb7, ho7⟩
      have hin := nthX_in HV.out k
      have hn := nthX_len (x := x) k
      have hln := HV.out.lossN
      have hsn := trs_snoc (x := x) k
      have hrf := right_full HV.out (toSc (nthX x k))
      generalize nthX x k = t at *
      have HT3 := Aside0.mk (And.intro (HT2.out.below hb7) (own_weaken ho7 HT2.out.bel.size))
      have HIN := Aside0.mk (And.intro hin hn)
      have hnz : (t.f1.length : Int) = x.f0 + 1 := by omega
      clear hb7 HT2 hin hn hln ho7 k0 k1 k2 k3 k4 k5 k6 k7 k8 k9 k10
      have hlen : L.length ≤ k := by have := trs_len (x := x) k; rw [← HL.out] at this; simpa using this
      have HSN := Lib.hid hsn
      clear hsn
      have hbel9 : Below w7.heap.size w7 (w7.alloc (.cells #[.int .i64 t.f0, .slice T1 t.f1.length d1] 66)) := below_alloc (Below.refl _ _) _
      have H9 := Aside0.mk (And.intro hbel9 (And.intro (Blk.new w7 #[.int .i64 t.f0, .slice T1 t.f1.length d1] 66 _ rfl) (And.intro (HT3.out.1.below hbel9) (own_bel HT3.out.2 hbel9))))
      clear hbel9
      go_wp2
      generalize (w7.alloc (.cells #[.int .i64 t.f0, .slice T1 t.f1.length d1] 66)) = W9 at *
      have kt0 := H9.out.2.1.cell 0 _ rfl
      have kt1 := H9.out.2.1.cell 1 _ rfl
      have k0 := H9.out.2.2.1.box.cell 0 _ rfl
      have k1 := H9.out.2.2.1.box.cell 1 _ rfl
      have k2 := H9.out.2.2.1.box.cell 2 _ rfl
      have k3 := H9.out.2.2.1.box.cell 3 _ rfl
      have k4 := H9.out.2.2.1.box.cell 4 _ rfl
      have k5 := H9.out.2.2.1.box.cell 5 _ rfl
      have k6 := H9.out.2.2.1.box.cell 6 _ rfl
      have k7 := H9.out.2.2.1.box.cell 7 _ rfl
      have k8 := H9.out.2.2.1.box.cell 8 _ rfl
      have k9 := H9.out.2.2.1.box.cell 9 _ rfl
      have k10 := H9.out.2.2.1.box.cell 10 _ rfl
      obtain ⟨A5', c5', e5', _, gt9⟩ := own_C (Kd.int .i64) (.int .i64) rfl (fun _ _ => rfl) (xs := t.f1) rfl (by simp [nums]) H9.out.2.2.2
      simp only [Value.slice.injEq, true_and] at e5'
      have hkt : k75.K W9 t [.int .i64 t.f0, .slice T1 t.f1.length d1] := by
        rw [e5'.1, e5'.2]
        exact k75_mk W9 t (by have := own_cap H9.out.2.2.2; rw [e5'.2] at this; exact this) gt9
      have HRI := Aside0.mk (fun V (hb : Below W9.heap.size W9 V) => HRT.out V (bel2 H9.out.2.2.1.bel hb) t _ (k75.K_below hb hkt) HIN.out.1 hnz)
      have HFU := Aside0.mk (fun V (hb : Below W9.heap.size W9 V) => (HC.out V (bel2 H9.out.2.2.1.bel hb)).2.2)
      clear gt9 hkt e5' hnz
      generalize rbits (okAt x (toSc t) []) x.f9.length = rb at *
      generalize (2 : Int) ^ x.f9.length - 1 = fb at *
      refine start_ (n := 6) (S := fun w' => w'.cell? ⟨w.heap.size, 0, none⟩ = some (.int .i64 x.f0) ∧ w'.cell? ⟨w.heap.size, 1, none⟩ = some (.int .i64 x.f1) ∧ w'.cell? ⟨w.heap.size, 2, none⟩ = some (.int .i64 x.f2) ∧ w'.cell? ⟨w.heap.size, 3, none⟩ = some (.int .i64 x.f3) ∧ w'.cell? ⟨w.heap.size, 4, none⟩ = some (.int .i64 x.f4) ∧ w'.cell? ⟨w.heap.size, 5, none⟩ = some (.slice A5 x.f5.length c5) ∧ w'.cell? ⟨w.heap.size, 6, none⟩ = some (.slice A6 x.f6.length c6) ∧ w'.cell? ⟨w.heap.size, 7, none⟩ = some (.int .i64 x.f7.f0) ∧ w'.cell? ⟨w.heap.size, 8, none⟩ = some (.int .i64 x.f7.f1) ∧ w'.cell? ⟨w.heap.size, 9, none⟩ = some (.slice A9 x.f8.length c9) ∧ w'.cell? ⟨w.heap.size, 10, none⟩ = some (.slice A10 x.f9.length c10) ∧ w'.cell? ⟨w7.heap.size, 0, none⟩ = some (.int .i64 t.f0) ∧ w'.cell? ⟨w7.heap.size, 1, none⟩ = some (.slice T1 t.f1.length d1)) (ds := []) #[false, false, false, false, false, false] (by kernel_rfl) rfl rfl ⟨k0, k1, k2, k3, k4, k5, k6, k7, k8, k9, k10, kt0, kt1⟩ (fun hHeld => ?_)
      refine take_ (i := 0) (N := some 15) (v := ?_) (a' := ?_) #[true, false, false, false, false, false] rfl rfl (by kernel_rfl) (fun _ _ _ h => h) (Or.inl ⟨by rfl, ?_⟩) hHeld ?_ ?_
      rotate_left
      · rintro w' ⟨s0, s1, s2, s3, s4, s5, s6, s7, s8, s9, s10, s11, s12⟩
        go_simp
        with_reducible rfl
      rotate_left
      · simp only [Act.put, List.setIfInBounds_toArray, List.set_cons_zero, List.set_cons_succ, i64_w, i32_w]
        rfl
      refine take_ (i := 1) (N := some 16) (v := ?_) (a' := ?_) #[true, true, false, false, false, false] rfl rfl (by kernel_rfl) (fun _ _ _ h => h) (Or.inl ⟨by rfl, ?_⟩) hHeld ?_ ?_
      rotate_left
      · rintro w' ⟨s0, s1, s2, s3, s4, s5, s6, s7, s8, s9, s10, s11, s12⟩
        go_simp
        with_reducible rfl
      rotate_left
      · simp only [Act.put, List.setIfInBounds_toArray, List.set_cons_zero, List.set_cons_succ, i64_w, i32_w]
        rfl
      refine take_ (i := 3) (N := some 18) (v := ?_) (a' := ?_) #[true, true, false, true, false, false] rfl rfl (by kernel_rfl) (fun _ _ _ h => h) (Or.inl ⟨by rfl, ?_⟩) hHeld ?_ ?_
      rotate_left
      · rintro w' ⟨s0, s1, s2, s3, s4, s5, s6, s7, s8, s9, s10, s11, s12⟩
        go_simp
        with_reducible rfl
      rotate_left
      · simp only [Act.put, List.setIfInBounds_toArray, List.set_cons_zero, List.set_cons_succ, i64_w, i32_w]
        rfl
      refine one_ (i := 2) (N := some 17) #[true, true, true, true, false, false] rfl rfl (by kernel_rfl) (by decide) (fun K hK => ?_)
      refine goes_ Try.func92 (by kernel_rfl) rfl #[.agg #[.int .i64 x.f0, .int .i64 x.f1, .int .i64 x.f2, .int .i64 x.f3, .int .i64 x.f4, .slice A5 x.f5.length c5, .slice A6 x.f6.length c6, .int .i64 x.f7.f0, .int .i64 x.f7.f1, .slice A9 x.f8.length c9, .slice A10 x.f9.length c10], .agg #[.int .i64 t.f0, .slice T1 t.f1.length d1]] (by rfl) rfl rfl (by simp only [List.map_toArray, List.map_cons, List.map_nil]; rfl) ?_
      with_reducible refine (HRI.out _ (below_drew (Below.refl W9.heap.size W9))).mono ?_
      rintro e w3 ⟨rfl, hb3⟩
      refine ⟨_, rfl, ?_⟩
      refine hK.out _ _ ⟨pw_cell_below hb3 (hHeld.1), pw_cell_below hb3 (hHeld.2.1), pw_cell_below hb3 (hHeld.2.2.1), pw_cell_below hb3 (hHeld.2.2.2.1), pw_cell_below hb3 (hHeld.2.2.2.2.1), pw_cell_below hb3 (hHeld.2.2.2.2.2.1), pw_cell_below hb3 (hHeld.2.2.2.2.2.2.1), pw_cell_below hb3 (hHeld.2.2.2.2.2.2.2.1), pw_cell_below hb3 (hHeld.2.2.2.2.2.2.2.2.1), pw_cell_below hb3 (hHeld.2.2.2.2.2.2.2.2.2.1), pw_cell_below hb3 (hHeld.2.2.2.2.2.2.2.2.2.2.1), pw_cell_below hb3 (hHeld.2.2.2.2.2.2.2.2.2.2.2.1), pw_cell_below hb3 (hHeld.2.2.2.2.2.2.2.2.2.2.2.2)⟩ (fun hHeld => ?_)
      clear hK K
      refine norm_ (a' := ?_) ?_ ?_
      rotate_left
      · show Act.put _ (some 17) _ = _
        simp only [Act.put, List.setIfInBounds_toArray, List.set_cons_zero, List.set_cons_succ, i64_w, i32_w]
        rfl
      refine one_ (i := 4) (N := some 19) #[true, true, true, true, true, false] rfl rfl (by kernel_rfl) (by decide) (fun K hK => ?_)
      refine goes_ Try.func54 (by kernel_rfl) rfl #[.agg #[.int .i64 x.f0, .int .i64 x.f1, .int .i64 x.f2, .int .i64 x.f3, .int .i64 x.f4, .slice A5 x.f5.length c5, .slice A6 x.f6.length c6, .int .i64 x.f7.f0, .int .i64 x.f7.f1, .slice A9 x.f8.length c9, .slice A10 x.f9.length c10]] (by rfl) rfl rfl (by simp only [List.map_toArray, List.map_cons, List.map_nil]; rfl) ?_
      with_reducible refine (HFU.out _ (bel2 (below_drew (Below.refl W9.heap.size W9)) hb3)).mono ?_
      rintro e w4 ⟨rfl, hb4⟩
      refine ⟨_, rfl, ?_⟩
      refine hK.out _ _ ⟨pw_cell_below hb4 (hHeld.1), pw_cell_below hb4 (hHeld.2.1), pw_cell_below hb4 (hHeld.2.2.1), pw_cell_below hb4 (hHeld.2.2.2.1), pw_cell_below hb4 (hHeld.2.2.2.2.1), pw_cell_below hb4 (hHeld.2.2.2.2.2.1), pw_cell_below hb4 (hHeld.2.2.2.2.2.2.1), pw_cell_below hb4 (hHeld.2.2.2.2.2.2.2.1), pw_cell_below hb4 (hHeld.2.2.2.2.2.2.2.2.1), pw_cell_below hb4 (hHeld.2.2.2.2.2.2.2.2.2.1), pw_cell_below hb4 (hHeld.2.2.2.2.2.2.2.2.2.2.1), pw_cell_below hb4 (hHeld.2.2.2.2.2.2.2.2.2.2.2.1), pw_cell_below hb4 (hHeld.2.2.2.2.2.2.2.2.2.2.2.2)⟩ (fun hHeld => ?_)
      clear hK K
      refine norm_ (a' := ?_) ?_ ?_
      rotate_left
      · show Act.put _ (some 19) _ = _
        simp only [Act.put, List.setIfInBounds_toArray, List.set_cons_zero, List.set_cons_succ, i64_w, i32_w]
        rfl
      refine pure_ (i := 5) (N := some 20) (v := ?_) (a' := ?_) #[true, true, true, true, true, true] rfl rfl (by kernel_rfl) (fun _ _ _ h => h) (Or.inl ⟨by rfl, ?_⟩) ?_ ?_
      rotate_left
      · intro w'
        go_simp
        with_reducible rfl
      rotate_left
      · simp only [Act.put, List.setIfInBounds_toArray, List.set_cons_zero, List.set_cons_succ, i64_w, i32_w]
        rfl
      refine done_ (by kernel_rfl) ?_
      have hB : Below W9.heap.size W9 w4 := bel2 (bel2 (below_drew (Below.refl W9.heap.size W9)) hb3) hb4
      have H10 := Aside0.mk (And.intro (hB : Below W9.heap.size W9 _) (And.intro (H9.out.2.1.below hB) (And.intro (H9.out.2.2.1.below hB) (own_bel H9.out.2.2.2 hB))))
      clear hHeld hB kt0 kt1 k0 k1 k2 k3 k4 k5 k6 k7 k8 k9 k10
      have kt0 := H10.out.2.1.cell 0 _ rfl
      have kt1 := H10.out.2.1.cell 1 _ rfl
      cases hrt : rightB x (toSc t) [] with
      | true =>
        rw [hrt] at hrf HSN
        have e1 : trs x (k + 1) = trs x k ++ [t] := by rw [HSN.out]; rfl
        have E1 := Lib.hid e1
        clear e1
        go_wp2_with (at_builtin; refine append_list rfl (.tmp 21) (.tmp 23) 40 66 (.agg #[.int .i64 0, .slice none 0 0]) 2 32 rfl Try.underlying40 info66 rfl (by decide) (by decide) w.heap.size u3 L.length (trCells L) [.int .i64 t.f0, .slice T1 t.f1.length d1] w4.heap.size 1 rfl rfl (H10.out.2.2.1.r.alloc _) rfl (cells2T (Blk.new _ _ _ _ rfl)) (oneT _ _ _ _) (by omega) (by have h1 := H10.out.2.2.1.bel.size; simp; omega) ?_; intro v4 w4 ho4 hg4 hat4; have H4 := Aside0.mk ((H10.out.2.2.1.below (below_alloc (Below.refl _ _) _)).app (t, T1, d1) (own_bel H10.out.2.2.2 (below_alloc (Below.refl _ _) _)) ho4 hg4); clear ho4 hg4 hat4)
        go_roundw
        case rel => exact ⟨k + 1, hlt, by go_num, ⟨L ++ [(t, T1, d1)], by rw [E1.out, List.map_append, HL.out]; rfl, H4.out⟩⟩
        case measure => simp [intOf]; omega
      | false =>
        rw [hrt] at hrf HSN
        have e1 : trs x (k + 1) = trs x k := by rw [HSN.out]; rfl
        have E1 := Lib.hid e1
        clear e1
        go_wp2
        go_roundw
        case rel => exact ⟨k + 1, hlt, by go_num, ⟨L, by rw [E1.out, HL.out], H10.out.2.2.1⟩⟩
        case measure => simp [intOf]; omega
    · obtain rfl : k = N := by omega
      have hltz : ¬ (k : Int) < (k : Int) := by omega
      obtain ⟨A, c, rfl, hC⟩ := tr_own_C HT2.out.r HT2.out.own rfl
      have HE := Aside0.mk (And.intro HT2.out.bel hC)
      clear hC HT2
      go_wp2
      refine bodyPost_ret (results_tmp rfl _ _ _) rfl ?_
      refine ⟨A, c, ?_, HE.out.1, ?_⟩
      · rw [HTX.out, ← HL.out, List.length_map]; rfl
      · rw [HTX.out, ← HL.out]; exact HE.out.2
end Go.Proofs.Ytdgkhoflajdidaa
/- sure: the error of coppers that have no truth, and all truths. -/
namespace Go.Proofs.Ytdgkhoflajdidaa
open Go.RowKit Go.Proofs.YtdgkhoflajdidaaW.PrintWords Go.Proofs.YtdgkhoflajdidaaW.PrintMore Go.Proofs.YtdgkhoflajdidaaW.PrintLast Go.Proofs.Ytdgkhoflajdidaa.Print
set_option linter.unusedVariables false
set_option linter.unusedSimpArgs false
set_option maxRecDepth 100000
set_option maxHeartbeats 4000000
theorem askE_t (x : S38) : askE x true = if faultC x = 0 then (if truthL x = [] then 11 else 0) else faultC x := by
  unfold askE
  by_cases h : faultC x = 0 <;> simp [h]
theorem post_eq {P : Ending → World → Prop} {e e' : Ending} {w : World} (h : P e w) (he : e' = e) : P e' w := he ▸ h
/-- What sure leaves. -/
def LsPost (x : S38) (w : World) (e : Ending) (w' : World) : Prop :=
  if askE x true = 0 then ∃ A c, e = .returned (.tuple #[.slice A (truthsX x).length c, .int .i64 0]) ∧ Below w.heap.size w w' ∧ Kd.C k75 w' A (truthsX x).length (truthsX x)
  else e = .returned (.tuple #[.slice none 0 0, .int .i64 (askE x true)]) ∧ Below w.heap.size w w'
theorem lsure_calls (x : S38) (cs : List Value) (w : World) (hx : k38.K w x cs) : Calls Try.prog 23 #[.agg cs.toArray] w (LsPost x w) := by
  have hb0 := below_alloc (Below.refl w.heap.size w) (.cells cs.toArray 28)
  have hf := lfault_calls x cs (w.alloc (.cells cs.toArray 28)) (k38.K_below hb0 hx)
  have hT := fun hV V (hb : Below w.heap.size w V) => rTruths_calls x cs V (k38.K_below hb hx) hV
  have hB0 := Aside0.mk hb0
  have hBX := Aside0.mk (Blk.new w cs.toArray 28 _ rfl)
  obtain ⟨A5, c5, A6, c6, A9, c9, A10, c10, rfl, l5, g5, l6, g6, l9, g9, l10, g10⟩ := k38_open hx
  clear hx g5 g6 g9 g10 l5 l6 l9 l10 hb0
  have hu := Try.underlying28
  by_cases hF : faultC x = 0
  · have hV := (valid_iff x).1 hF
    have hT2 := Aside0.mk (hT hV)
    clear hT
    rw [hF] at hf
    go_enter Try.func23, Try.ntmps23
    go_wp2_with (go_at_call 29; refine hf.mono ?_; clear hf; rintro e w1 ⟨rfl, hb1⟩; have H1 := Aside0.mk (And.intro (bel2 hB0.out hb1) (hBX.out.below hb1)); clear hb1; have k0 := H1.out.2.cell 0 _ rfl; have k1 := H1.out.2.cell 1 _ rfl; have k2 := H1.out.2.cell 2 _ rfl; have k3 := H1.out.2.cell 3 _ rfl; have k4 := H1.out.2.cell 4 _ rfl; have k5 := H1.out.2.cell 5 _ rfl; have k6 := H1.out.2.cell 6 _ rfl; have k7 := H1.out.2.cell 7 _ rfl; have k8 := H1.out.2.cell 8 _ rfl; have k9 := H1.out.2.cell 9 _ rfl; have k10 := H1.out.2.cell 10 _ rfl)
    go_wp2_with fail
    refine (hT2.out _ H1.out.1).mono ?_
    rintro e w2 ⟨A, c, rfl, hb2, hC⟩
    have H2 := Aside0.mk (And.intro (bel2 H1.out.1 hb2) hC)
    clear hb2 hC k0 k1 k2 k3 k4 k5 k6 k7 k8 k9 k10
    by_cases hn : truthsX x = []
    · have hE : askE x true = 11 := by rw [askE_t, if_pos hF, if_pos ((truthsX_nil hV).1 hn)]
      have HE := Lib.hid hE
      have hl0 : (truthsX x).length = 0 := by rw [hn]; rfl
      rw [hl0]
      clear hE hl0 hn
      go_wp2
      refine bodyPost_ret (results_tmp2 rfl _ _ _) rfl ?_
      unfold LsPost
      rw [HE.out]
      exact ⟨rfl, H2.out.1⟩
    · have hE : askE x true = 0 := by rw [askE_t, if_pos hF, if_neg (fun h => hn ((truthsX_nil hV).2 h))]
      have HE := Lib.hid hE
      have hl0 : ¬ ((truthsX x).length : Int) = 0 := by
        intro h
        exact hn (List.length_eq_zero_iff.1 (by omega))
      clear hE hn
      have HP : LsPost x w (.returned (.tuple #[.slice A (truthsX x).length c, .int .i64 0])) w2 := by
        unfold LsPost
        rw [HE.out]
        exact ⟨A, c, rfl, H2.out.1, H2.out.2⟩
      have HP2 := Aside0.mk HP
      clear HP HE H2
      generalize (truthsX x).length = n at *
      have hl1 : ((n : Int) == 0) = false := by rw [beq_eq_false_iff_ne]; exact hl0
      go_wp2
      refine bodyPost_ret (results_tmp2 rfl _ _ _) rfl (post_eq HP2.out ?_)
      rfl
  · have hE : askE x true = faultC x := by rw [askE_t, if_neg hF]
    have HE := Lib.hid hE
    clear hT
    have hF2 : (faultC x == 0) = false := by simpa using hF
    clear hE
    generalize faultC x = ec at *
    go_enter Try.func23, Try.ntmps23
    go_wp2_with (go_at_call 29; refine hf.mono ?_; clear hf; rintro e w1 ⟨rfl, hb1⟩; have H1 := Aside0.mk (bel2 hB0.out hb1); clear hb1)
    refine bodyPost_ret (results_tmp2 rfl _ _ _) rfl ?_
    unfold LsPost
    rw [if_neg (by rw [HE.out]; exact hF), HE.out]
    exact ⟨rfl, H1.out⟩
end Go.Proofs.Ytdgkhoflajdidaa
/- Bounds of the reference: of the hot buckets of an hour, and of the heat that is left. -/
namespace Go.Proofs.Ytdgkhoflajdidaa
open Go.RowKit Go.Proofs.YtdgkhoflajdidaaW.PrintWords Go.Proofs.YtdgkhoflajdidaaW.PrintMore Go.Proofs.YtdgkhoflajdidaaW.PrintLast Go.Proofs.Ytdgkhoflajdidaa.Print
set_option linter.unusedVariables false
set_option linter.unusedSimpArgs false
set_option maxRecDepth 100000
set_option maxHeartbeats 4000000
theorem row_at_tr {w : World} {A : Option Addr} {xs : List S75} (h : Kd.C k75 w A xs.length xs) (kk : Nat) (hk : kk < xs.length) : ∃ ad A1 c1, A = some ad ∧ w.cell? (ad.add (kk * 2)) = some (.int .i64 xs[kk].f0) ∧ w.cell? ⟨(ad.add (kk * 2)).block, (ad.add (kk * 2)).off + 1, none⟩ = some (.slice A1 xs[kk].f1.length c1) ∧ k75.K w xs[kk] [.int .i64 xs[kk].f0, .slice A1 xs[kk].f1.length c1] := by
  obtain ⟨ad, A1, c1, e, h1, h2, h3, h4⟩ := at_T75 h (kk : Int) (by omega) (by omega)
  have hx : rd_T75 xs (kk : Int) = xs[kk] := by simp [rd_T75, hk]
  rw [hx, Int.toNat_natCast] at h1 h2
  rw [hx] at h3 h4
  exact ⟨ad, A1, c1, e, h1, h2, k75_mk w _ h3 h4⟩
def widB (f : Sc → Int) (l : List S75) : S35 := l.foldl (fun r t => ⟨min r.f0 (f (toSc t)), max r.f1 (f (toSc t))⟩) ⟨1099511627776, -1⟩
theorem widB_snoc (f : Sc → Int) (l : List S75) (t : S75) : widB f (l ++ [t]) = ⟨min (widB f l).f0 (f (toSc t)), max (widB f l).f1 (f (toSc t))⟩ := by simp [widB]
/-- The state of Bounds' loop. -/
structure BdSt (w : World) (B : Array Value) (p8 p9 : Nat) (a b : S35) (W : World) : Prop where
  bel : Below w.heap.size w W
  box : Blk W w.heap.size B 28
  r6 : Blk W (w.heap.size + 1) #[.int .i64 0, .int .i64 0] 24
  r7 : Blk W (w.heap.size + 1 + 1) #[.int .i64 0, .int .i64 0] 24
  b8 : Blk W p8 #[.int .i64 a.f0, .int .i64 a.f1] 24
  b9 : Blk W p9 #[.int .i64 b.f0, .int .i64 b.f1] 24
  h8 : w.heap.size + 2 < p8
  h9 : p8 < p9
variable {x : S38} {w W V : World} {B : Array Value} {p8 p9 : Nat} {a b a' b' : S35}
theorem BdSt.below (s : BdSt w B p8 p9 a b W) (hb : Below W.heap.size W V) : BdSt w B p8 p9 a b V := ⟨bel2 s.bel hb, s.box.below hb, s.r6.below hb, s.r7.below hb, s.b8.below hb, s.b9.below hb, s.h8, s.h9⟩
theorem BdSt.put (s : BdSt w B p8 p9 a b W) (a' b' : S35) : BdSt w B p8 p9 a' b' ((((W.setCell ⟨p8, 0, none⟩ (.int .i64 a'.f0)).setCell ⟨p8, 1, none⟩ (.int .i64 a'.f1)).setCell ⟨p9, 0, none⟩ (.int .i64 b'.f0)).setCell ⟨p9, 1, none⟩ (.int .i64 b'.f1)) := by
  have h8 := s.h8
  have h9 := s.h9
  have ne : ∀ q, q < p8 → ∀ cs t, Blk W q cs t → Blk ((((W.setCell ⟨p8, 0, none⟩ (.int .i64 a'.f0)).setCell ⟨p8, 1, none⟩ (.int .i64 a'.f1)).setCell ⟨p9, 0, none⟩ (.int .i64 b'.f0)).setCell ⟨p9, 1, none⟩ (.int .i64 b'.f1)) q cs t := fun q hq cs t h =>
    (((h.set_other (p := ⟨p8, 0, none⟩) (by show q ≠ p8; omega) _).set_other (p := ⟨p8, 1, none⟩) (by show q ≠ p8; omega) _).set_other (p := ⟨p9, 0, none⟩) (by show q ≠ p9; omega) _).set_other (p := ⟨p9, 1, none⟩) (by show q ≠ p9; omega) _
  refine ⟨(((s.bel.setCell (p := ⟨p8, 0, none⟩) (by show w.heap.size ≤ p8; omega) _).setCell (p := ⟨p8, 1, none⟩) (by show w.heap.size ≤ p8; omega) _).setCell (p := ⟨p9, 0, none⟩) (by show w.heap.size ≤ p9; omega) _).setCell (p := ⟨p9, 1, none⟩) (by show w.heap.size ≤ p9; omega) _, ne _ (by omega) _ _ s.box, ne _ (by omega) _ _ s.r6, ne _ (by omega) _ _ s.r7, ?_, ?_, h8, h9⟩
  · exact (((s.b8.set 0 _).set 1 _).set_other (p := ⟨p9, 0, none⟩) (by show p8 ≠ p9; omega) _).set_other (p := ⟨p9, 1, none⟩) (by show p8 ≠ p9; omega) _
  · exact (((s.b9.set_other (p := ⟨p8, 0, none⟩) (by show p9 ≠ p8; omega) _).set_other (p := ⟨p8, 1, none⟩) (by show p9 ≠ p8; omega) _).set 0 _).set 1 _
theorem rBounds_calls (x : S38) (cs : List Value) (A : Option Addr) (c : Nat) (L : List S75) (h : Nat) (w : World) (hx : k38.K w x cs) (hL : Kd.C k75 w A L.length L) (hV : Valid x) (hin : ∀ t ∈ L, InSc x (toSc t) ∧ t.f1.length = x.f8.length) (hh : (h : Int) ≤ x.f0) (hn : L.length ≤ 3000) :
    Calls Try.prog 24 #[.agg cs.toArray, .slice A L.length c, .int .i64 h] w fun e w' => e = .returned (.tuple #[.agg #[.int .i64 (widB (fun s => hotAt x s x.f5 x.f6 h) L).f0, .int .i64 (widB (fun s => hotAt x s x.f5 x.f6 h) L).f1], .agg #[.int .i64 (widB (fun s => heatAt x s x.f5 x.f6 (h + 1)) L).f0, .int .i64 (widB (fun s => heatAt x s x.f5 x.f6 (h + 1)) L).f1]]) ∧ Below w.heap.size w w' := by
  obtain ⟨A5, c5, A6, c6, A9, c9, A10, c10, rfl, l5, g5, l6, g6, l9, g9, l10, g10⟩ := k38_open hx
  have HA := Aside0.mk (fun (t : S75) (ht : t ∈ L) (ts : List Value) V (hb : Below w.heap.size w V) (hk : k75.K V t ts) => (HArgs.mk (k38.K_below hb hx) hk (Kd.C_below g5 hb) (Kd.C_below g6 hb) (hV.play0 ((hin t ht).1.ok hV)) (by have := (hin t ht).2; have := hV.lossN; omega) : HArgs x _ t ts A5 A6 c5 c6 x.f5 x.f6 V))
  have HL := Aside0.mk hL
  clear hx g5 g6 g9 g10 l5 l6 l9 l10 hV hin hL
  have hu := Try.underlying28
  have hu2 := Try.underlying66
  have hu3 := Try.underlying24
  have ZB := Aside0.mk (And.intro (below_alloc (below_alloc (below_alloc (Below.refl w.heap.size w) (.cells #[.int .i64 x.f0, .int .i64 x.f1, .int .i64 x.f2, .int .i64 x.f3, .int .i64 x.f4, .slice A5 x.f5.length c5, .slice A6 x.f6.length c6, .int .i64 x.f7.f0, .int .i64 x.f7.f1, .slice A9 x.f8.length c9, .slice A10 x.f9.length c10] 28)) (.cells #[.int .i64 0, .int .i64 0] 24)) (.cells #[.int .i64 0, .int .i64 0] 24)) (And.intro (((Blk.new w #[.int .i64 x.f0, .int .i64 x.f1, .int .i64 x.f2, .int .i64 x.f3, .int .i64 x.f4, .slice A5 x.f5.length c5, .slice A6 x.f6.length c6, .int .i64 x.f7.f0, .int .i64 x.f7.f1, .slice A9 x.f8.length c9, .slice A10 x.f9.length c10] 28 _ rfl).alloc (.cells #[.int .i64 0, .int .i64 0] 24)).alloc (.cells #[.int .i64 0, .int .i64 0] 24)) (And.intro ((Blk.new (w.alloc (.cells #[.int .i64 x.f0, .int .i64 x.f1, .int .i64 x.f2, .int .i64 x.f3, .int .i64 x.f4, .slice A5 x.f5.length c5, .slice A6 x.f6.length c6, .int .i64 x.f7.f0, .int .i64 x.f7.f1, .slice A9 x.f8.length c9, .slice A10 x.f9.length c10] 28)) #[.int .i64 0, .int .i64 0] 24 (w.heap.size + 1) (by simp)).alloc (.cells #[.int .i64 0, .int .i64 0] 24)) (Blk.new ((w.alloc (.cells #[.int .i64 x.f0, .int .i64 x.f1, .int .i64 x.f2, .int .i64 x.f3, .int .i64 x.f4, .slice A5 x.f5.length c5, .slice A6 x.f6.length c6, .int .i64 x.f7.f0, .int .i64 x.f7.f1, .slice A9 x.f8.length c9, .slice A10 x.f9.length c10] 28)).alloc (.cells #[.int .i64 0, .int .i64 0] 24)) #[.int .i64 0, .int .i64 0] 24 (w.heap.size + 1 + 1) (by simp)))))
  go_enter Try.func24, Try.ntmps24
  go_wp2_with fail
  have hsz0 : w.heap.size + 2 < (((w.alloc (.cells #[.int .i64 x.f0, .int .i64 x.f1, .int .i64 x.f2, .int .i64 x.f3, .int .i64 x.f4, .slice A5 x.f5.length c5, .slice A6 x.f6.length c6, .int .i64 x.f7.f0, .int .i64 x.f7.f1, .slice A9 x.f8.length c9, .slice A10 x.f9.length c10] 28)).alloc (.cells #[.int .i64 0, .int .i64 0] 24)).alloc (.cells #[.int .i64 0, .int .i64 0] 24)).heap.size := by simp
  generalize (((w.alloc (.cells #[.int .i64 x.f0, .int .i64 x.f1, .int .i64 x.f2, .int .i64 x.f3, .int .i64 x.f4, .slice A5 x.f5.length c5, .slice A6 x.f6.length c6, .int .i64 x.f7.f0, .int .i64 x.f7.f1, .slice A9 x.f8.length c9, .slice A10 x.f9.length c10] 28)).alloc (.cells #[.int .i64 0, .int .i64 0] 24)).alloc (.cells #[.int .i64 0, .int .i64 0] 24)) = W at *
  refine (rEmpty_calls _).mono ?_
  rintro e w1 ⟨rfl, hb1⟩
  go_wp2_with fail
  refine (rEmpty_calls _).mono ?_
  rintro e w2 ⟨rfl, hb2⟩
  have hb12 := bel2 hb1 hb2
  go_wp2
  have hlw1 := hb12.size
  have hS0 : BdSt w #[.int .i64 x.f0, .int .i64 x.f1, .int .i64 x.f2, .int .i64 x.f3, .int .i64 x.f4, .slice A5 x.f5.length c5, .slice A6 x.f6.length c6, .int .i64 x.f7.f0, .int .i64 x.f7.f1, .slice A9 x.f8.length c9, .slice A10 x.f9.length c10] w2.heap.size (w2.heap.size + 1) ⟨1099511627776, -1⟩ ⟨1099511627776, -1⟩ ((w2.alloc (.cells #[.int .i64 1099511627776, .int .i64 (-1)] 24)).alloc (.cells #[.int .i64 1099511627776, .int .i64 (-1)] 24)) :=
    ⟨below_alloc (below_alloc (bel2 ZB.out.1 hb12) _) _, ((ZB.out.2.1.below hb12).alloc _).alloc _, ((ZB.out.2.2.1.below hb12).alloc _).alloc _, ((ZB.out.2.2.2.below hb12).alloc _).alloc _, (Blk.new w2 _ _ _ rfl).alloc _, Blk.new (w2.alloc _) _ _ _ (by simp), by omega, by omega⟩
  have HS := Aside0.mk hS0
  clear hS0 hb1 hb2 hb12 hlw1 hsz0 ZB
  generalize ((w2.alloc (.cells #[.int .i64 1099511627776, .int .i64 (-1)] 24)).alloc (.cells #[.int .i64 1099511627776, .int .i64 (-1)] 24)) = W2 at *
  generalize w2.heap.size + 1 = p9 at *
  generalize w2.heap.size = p8 at *
  go_loopw [10] (fun s10 wr => ∃ k : Nat, k ≤ L.length ∧ s10 = .int .i64 k ∧ Aside0 (BdSt w #[.int .i64 x.f0, .int .i64 x.f1, .int .i64 x.f2, .int .i64 x.f3, .int .i64 x.f4, .slice A5 x.f5.length c5, .slice A6 x.f6.length c6, .int .i64 x.f7.f0, .int .i64 x.f7.f1, .slice A9 x.f8.length c9, .slice A10 x.f9.length c10] p8 p9 (widB (fun s => hotAt x s x.f5 x.f6 h) (L.take k)) (widB (fun s => heatAt x s x.f5 x.f6 (h + 1)) (L.take k)) wr)) (fun s10 _ => L.length - (intOf s10).toNat)
  case atStart => exact ⟨0, Nat.zero_le _, rfl, HS⟩
  case round =>
    obtain ⟨k, hk, rfl, HW⟩ := hrel
    have HT := HW
    clear HW HS
    by_cases hlt : k < L.length
    · have hltz : (k : Int) < (L.length : Int) := by omega
      obtain ⟨aA, T1, d1, rfl, q0, q1, hkt⟩ := row_at_tr (Kd.C_below HL.out HT.out.bel) k hlt
      have hsn : L.take (k + 1) = L.take k ++ [L[k]] := List.take_succ_eq_append_getElem hlt
      have hw1 := widB_snoc (fun s => hotAt x s x.f5 x.f6 h) (L.take k) L[k]
      have hw2 := widB_snoc (fun s => heatAt x s x.f5 x.f6 (h + 1)) (L.take k) L[k]
      rw [← hsn] at hw1 hw2
      have htm : L[k] ∈ L := List.getElem_mem hlt
      have HHOT := Aside0.mk (fun V (hb : Below wr.heap.size wr V) => hot_calls h hh (HA.out L[k] htm _ V (bel2 HT.out.bel hb) (k75.K_below hb hkt)))
      have HLEFT := Aside0.mk (fun V (hb : Below wr.heap.size wr V) => (heat_left h hh V (HA.out L[k] htm _ V (bel2 HT.out.bel hb) (k75.K_below hb hkt))).2)
      unfold HeatC at HHOT HLEFT
      clear hkt htm hsn
      generalize L[k] = t at *
      have HW1 := Lib.hid hw1
      have HW2 := Lib.hid hw2
      clear hw1 hw2
      generalize hotAt x (toSc t) x.f5 x.f6 h = hv at *
      generalize heatAt x (toSc t) x.f5 x.f6 (h + 1) = lv at *
      generalize widB (fun s => hotAt x s x.f5 x.f6 h) (L.take k) = a at *
      generalize widB (fun s => heatAt x s x.f5 x.f6 (h + 1)) (L.take k) = b at *
      have hw1 := fun V => rWider_calls a hv V
      have hw2 := fun V => rWider_calls b lv V
      have k0 := HT.out.box.cell 0 _ rfl
      have k1 := HT.out.box.cell 1 _ rfl
      have k2 := HT.out.box.cell 2 _ rfl
      have k3 := HT.out.box.cell 3 _ rfl
      have k4 := HT.out.box.cell 4 _ rfl
      have k5 := HT.out.box.cell 5 _ rfl
      have k6 := HT.out.box.cell 6 _ rfl
      have k7 := HT.out.box.cell 7 _ rfl
      have k8 := HT.out.box.cell 8 _ rfl
      have k9 := HT.out.box.cell 9 _ rfl
      have k10 := HT.out.box.cell 10 _ rfl
      have m0 := HT.out.b8.cell 0 _ rfl
      have m1 := HT.out.b8.cell 1 _ rfl
      have n0 := HT.out.b9.cell 0 _ rfl
      have n1 := HT.out.b9.cell 1 _ rfl
      go_wp2
      refine start_ (n := 28) (S := fun w' => w'.cell? ⟨w.heap.size, 0, none⟩ = some (.int .i64 x.f0) ∧ w'.cell? ⟨w.heap.size, 1, none⟩ = some (.int .i64 x.f1) ∧ w'.cell? ⟨w.heap.size, 2, none⟩ = some (.int .i64 x.f2) ∧ w'.cell? ⟨w.heap.size, 3, none⟩ = some (.int .i64 x.f3) ∧ w'.cell? ⟨w.heap.size, 4, none⟩ = some (.int .i64 x.f4) ∧ w'.cell? ⟨w.heap.size, 5, none⟩ = some (.slice A5 x.f5.length c5) ∧ w'.cell? ⟨w.heap.size, 6, none⟩ = some (.slice A6 x.f6.length c6) ∧ w'.cell? ⟨w.heap.size, 7, none⟩ = some (.int .i64 x.f7.f0) ∧ w'.cell? ⟨w.heap.size, 8, none⟩ = some (.int .i64 x.f7.f1) ∧ w'.cell? ⟨w.heap.size, 9, none⟩ = some (.slice A9 x.f8.length c9) ∧ w'.cell? ⟨w.heap.size, 10, none⟩ = some (.slice A10 x.f9.length c10) ∧ w'.cell? (aA.add (k * 2)) = some (.int .i64 t.f0) ∧ w'.cell? ⟨(aA.add (k * 2)).block, (aA.add (k * 2)).off + 1, none⟩ = some (.slice T1 t.f1.length d1) ∧ w'.cell? ⟨p8, 0, none⟩ = some (.int .i64 a.f0) ∧ w'.cell? ⟨p8, 1, none⟩ = some (.int .i64 a.f1) ∧ w'.cell? ⟨p9, 0, none⟩ = some (.int .i64 b.f0) ∧ w'.cell? ⟨p9, 1, none⟩ = some (.int .i64 b.f1)) (ds := [26, 27]) #[false, false, false, false, false, false, false, false, false, false, false, false, false, false, false, false, false, false, false, false, false, false, false, false, false, false, false, false] (by kernel_rfl) rfl rfl ⟨k0, k1, k2, k3, k4, k5, k6, k7, k8, k9, k10, q0, q1, m0, m1, n0, n1⟩ (fun hHeld => ?_)
      refine pure_ (i := 2) (N := some 21) (v := ?_) (a' := ?_) #[false, false, true, false, false, false, false, false, false, false, false, false, false, false, false, false, false, false, false, false, false, false, false, false, false, false, false, false] rfl rfl (by kernel_rfl) (fun _ _ _ h => h) (Or.inl ⟨by rfl, ?_⟩) ?_ ?_
      rotate_left
      · intro w'
        go_simp
        with_reducible rfl
      rotate_left
      · simp only [Act.put, List.setIfInBounds_toArray, List.set_cons_zero, List.set_cons_succ, i64_w, i32_w]
        rfl
      refine pure_ (i := 3) (N := some 22) (v := ?_) (a' := ?_) #[false, false, true, true, false, false, false, false, false, false, false, false, false, false, false, false, false, false, false, false, false, false, false, false, false, false, false, false] rfl rfl (by kernel_rfl) (fun _ _ _ h => h) (Or.inl ⟨by rfl, ?_⟩) ?_ ?_
      rotate_left
      · intro w'
        go_simp
        with_reducible rfl
      rotate_left
      · simp only [Act.put, List.setIfInBounds_toArray, List.set_cons_zero, List.set_cons_succ, i64_w, i32_w]
        rfl
      refine pure_ (i := 4) (N := some 23) (v := ?_) (a' := ?_) #[false, false, true, true, true, false, false, false, false, false, false, false, false, false, false, false, false, false, false, false, false, false, false, false, false, false, false, false] rfl rfl (by kernel_rfl) (fun _ _ _ h => h) (Or.inl ⟨by rfl, ?_⟩) ?_ ?_
      rotate_left
      · intro w'
        go_simp
        with_reducible rfl
      rotate_left
      · simp only [Act.put, List.setIfInBounds_toArray, List.set_cons_zero, List.set_cons_succ, i64_w, i32_w]
        rfl
      refine pure_ (i := 6) (N := some 25) (v := ?_) (a' := ?_) #[false, false, true, true, true, false, true, false, false, false, false, false, false, false, false, false, false, false, false, false, false, false, false, false, false, false, false, false] rfl rfl (by kernel_rfl) (fun _ _ _ h => h) (Or.inl ⟨by rfl, ?_⟩) ?_ ?_
      rotate_left
      · intro w'
        go_simp
        with_reducible rfl
      rotate_left
      · simp only [Act.put, List.setIfInBounds_toArray, List.set_cons_zero, List.set_cons_succ, i64_w, i32_w]
        rfl
      refine pure_ (i := 8) (N := some 27) (v := ?_) (a' := ?_) #[false, false, true, true, true, false, true, false, true, false, false, false, false, false, false, false, false, false, false, false, false, false, false, false, false, false, false, false] rfl rfl (by kernel_rfl) (fun _ _ _ h => h) (Or.inl ⟨by rfl, ?_⟩) ?_ ?_
      rotate_left
      · intro w'
        go_simp
        with_reducible rfl
      rotate_left
      · simp only [Act.put, List.setIfInBounds_toArray, List.set_cons_zero, List.set_cons_succ, i64_w, i32_w]
        rfl
      refine pure_ (i := 10) (N := some 29) (v := ?_) (a' := ?_) #[false, false, true, true, true, false, true, false, true, false, true, false, false, false, false, false, false, false, false, false, false, false, false, false, false, false, false, false] rfl rfl (by kernel_rfl) (fun _ _ _ h => h) (Or.inl ⟨by rfl, ?_⟩) ?_ ?_
      rotate_left
      · intro w'
        go_simp
        with_reducible rfl
      rotate_left
      · simp only [Act.put, List.setIfInBounds_toArray, List.set_cons_zero, List.set_cons_succ, i64_w, i32_w]
        rfl
      refine pure_ (i := 15) (N := some 34) (v := ?_) (a' := ?_) #[false, false, true, true, true, false, true, false, true, false, true, false, false, false, false, true, false, false, false, false, false, false, false, false, false, false, false, false] rfl rfl (by kernel_rfl) (fun _ _ _ h => h) (Or.inl ⟨by rfl, ?_⟩) ?_ ?_
      rotate_left
      · intro w'
        go_simp
        with_reducible rfl
      rotate_left
      · simp only [Act.put, List.setIfInBounds_toArray, List.set_cons_zero, List.set_cons_succ, i64_w, i32_w]
        rfl
      refine pure_ (i := 16) (N := some 35) (v := ?_) (a' := ?_) #[false, false, true, true, true, false, true, false, true, false, true, false, false, false, false, true, true, false, false, false, false, false, false, false, false, false, false, false] rfl rfl (by kernel_rfl) (fun _ _ _ h => h) (Or.inl ⟨by rfl, ?_⟩) ?_ ?_
      rotate_left
      · intro w'
        go_simp
        with_reducible rfl
      rotate_left
      · simp only [Act.put, List.setIfInBounds_toArray, List.set_cons_zero, List.set_cons_succ, i64_w, i32_w]
        rfl
      refine pure_ (i := 17) (N := some 36) (v := ?_) (a' := ?_) #[false, false, true, true, true, false, true, false, true, false, true, false, false, false, false, true, true, true, false, false, false, false, false, false, false, false, false, false] rfl rfl (by kernel_rfl) (fun _ _ _ h => h) (Or.inl ⟨by rfl, ?_⟩) ?_ ?_
      rotate_left
      · intro w'
        go_simp
        with_reducible rfl
      rotate_left
      · simp only [Act.put, List.setIfInBounds_toArray, List.set_cons_zero, List.set_cons_succ, i64_w, i32_w]
        rfl
      refine pure_ (i := 19) (N := some 38) (v := ?_) (a' := ?_) #[false, false, true, true, true, false, true, false, true, false, true, false, false, false, false, true, true, true, false, true, false, false, false, false, false, false, false, false] rfl rfl (by kernel_rfl) (fun _ _ _ h => h) (Or.inl ⟨by rfl, ?_⟩) ?_ ?_
      rotate_left
      · intro w'
        go_simp
        with_reducible rfl
      rotate_left
      · simp only [Act.put, List.setIfInBounds_toArray, List.set_cons_zero, List.set_cons_succ, i64_w, i32_w]
        rfl
      refine pure_ (i := 21) (N := some 40) (v := ?_) (a' := ?_) #[false, false, true, true, true, false, true, false, true, false, true, false, false, false, false, true, true, true, false, true, false, true, false, false, false, false, false, false] rfl rfl (by kernel_rfl) (fun _ _ _ h => h) (Or.inl ⟨by rfl, ?_⟩) ?_ ?_
      rotate_left
      · intro w'
        go_simp
        with_reducible rfl
      rotate_left
      · simp only [Act.put, List.setIfInBounds_toArray, List.set_cons_zero, List.set_cons_succ, i64_w, i32_w]
        rfl
      refine pure_ (i := 23) (N := some 42) (v := ?_) (a' := ?_) #[false, false, true, true, true, false, true, false, true, false, true, false, false, false, false, true, true, true, false, true, false, true, false, true, false, false, false, false] rfl rfl (by kernel_rfl) (fun _ _ _ h => h) (Or.inl ⟨by rfl, ?_⟩) ?_ ?_
      rotate_left
      · intro w'
        go_simp
        with_reducible rfl
      rotate_left
      · simp only [Act.put, List.setIfInBounds_toArray, List.set_cons_zero, List.set_cons_succ, i64_w, i32_w]
        rfl
      refine take_ (i := 0) (N := some 19) (v := ?_) (a' := ?_) #[true, false, true, true, true, false, true, false, true, false, true, false, false, false, false, true, true, true, false, true, false, true, false, true, false, false, false, false] rfl rfl (by kernel_rfl) (fun _ _ _ h => h) (Or.inl ⟨by rfl, ?_⟩) hHeld ?_ ?_
      rotate_left
      · rintro w' ⟨s0, s1, s2, s3, s4, s5, s6, s7, s8, s9, s10, s11, s12, s13, s14, s15, s16⟩
        go_simp
        with_reducible rfl
      rotate_left
      · simp only [Act.put, List.setIfInBounds_toArray, List.set_cons_zero, List.set_cons_succ, i64_w, i32_w]
        rfl
      refine take_ (i := 1) (N := some 20) (v := ?_) (a' := ?_) #[true, true, true, true, true, false, true, false, true, false, true, false, false, false, false, true, true, true, false, true, false, true, false, true, false, false, false, false] rfl rfl (by kernel_rfl) (fun _ _ _ h => h) (Or.inl ⟨by rfl, ?_⟩) hHeld ?_ ?_
      rotate_left
      · rintro w' ⟨s0, s1, s2, s3, s4, s5, s6, s7, s8, s9, s10, s11, s12, s13, s14, s15, s16⟩
        go_simp
        with_reducible rfl
      rotate_left
      · simp only [Act.put, List.setIfInBounds_toArray, List.set_cons_zero, List.set_cons_succ, i64_w, i32_w]
        rfl
      refine take_ (i := 5) (N := some 24) (v := ?_) (a' := ?_) #[true, true, true, true, true, true, true, false, true, false, true, false, false, false, false, true, true, true, false, true, false, true, false, true, false, false, false, false] rfl rfl (by kernel_rfl) (fun _ _ _ h => h) (Or.inl ⟨by rfl, ?_⟩) hHeld ?_ ?_
      rotate_left
      · rintro w' ⟨s0, s1, s2, s3, s4, s5, s6, s7, s8, s9, s10, s11, s12, s13, s14, s15, s16⟩
        go_simp
        with_reducible rfl
      rotate_left
      · simp only [Act.put, List.setIfInBounds_toArray, List.set_cons_zero, List.set_cons_succ, i64_w, i32_w]
        rfl
      refine take_ (i := 7) (N := some 26) (v := ?_) (a' := ?_) #[true, true, true, true, true, true, true, true, true, false, true, false, false, false, false, true, true, true, false, true, false, true, false, true, false, false, false, false] rfl rfl (by kernel_rfl) (fun _ _ _ h => h) (Or.inl ⟨by rfl, ?_⟩) hHeld ?_ ?_
      rotate_left
      · rintro w' ⟨s0, s1, s2, s3, s4, s5, s6, s7, s8, s9, s10, s11, s12, s13, s14, s15, s16⟩
        go_simp
        with_reducible rfl
      rotate_left
      · simp only [Act.put, List.setIfInBounds_toArray, List.set_cons_zero, List.set_cons_succ, i64_w, i32_w]
        rfl
      refine take_ (i := 9) (N := some 28) (v := ?_) (a' := ?_) #[true, true, true, true, true, true, true, true, true, true, true, false, false, false, false, true, true, true, false, true, false, true, false, true, false, false, false, false] rfl rfl (by kernel_rfl) (fun _ _ _ h => h) (Or.inl ⟨by rfl, ?_⟩) hHeld ?_ ?_
      rotate_left
      · rintro w' ⟨s0, s1, s2, s3, s4, s5, s6, s7, s8, s9, s10, s11, s12, s13, s14, s15, s16⟩
        go_simp
        with_reducible rfl
      rotate_left
      · simp only [Act.put, List.setIfInBounds_toArray, List.set_cons_zero, List.set_cons_succ, i64_w, i32_w]
        rfl
      refine take_ (i := 13) (N := some 32) (v := ?_) (a' := ?_) #[true, true, true, true, true, true, true, true, true, true, true, false, false, true, false, true, true, true, false, true, false, true, false, true, false, false, false, false] rfl rfl (by kernel_rfl) (fun _ _ _ h => h) (Or.inl ⟨by rfl, ?_⟩) hHeld ?_ ?_
      rotate_left
      · rintro w' ⟨s0, s1, s2, s3, s4, s5, s6, s7, s8, s9, s10, s11, s12, s13, s14, s15, s16⟩
        go_simp
        with_reducible rfl
      rotate_left
      · simp only [Act.put, List.setIfInBounds_toArray, List.set_cons_zero, List.set_cons_succ, i64_w, i32_w]
        rfl
      refine take_ (i := 14) (N := some 33) (v := ?_) (a' := ?_) #[true, true, true, true, true, true, true, true, true, true, true, false, false, true, true, true, true, true, false, true, false, true, false, true, false, false, false, false] rfl rfl (by kernel_rfl) (fun _ _ _ h => h) (Or.inl ⟨by rfl, ?_⟩) hHeld ?_ ?_
      rotate_left
      · rintro w' ⟨s0, s1, s2, s3, s4, s5, s6, s7, s8, s9, s10, s11, s12, s13, s14, s15, s16⟩
        go_simp
        with_reducible rfl
      rotate_left
      · simp only [Act.put, List.setIfInBounds_toArray, List.set_cons_zero, List.set_cons_succ, i64_w, i32_w]
        rfl
      refine take_ (i := 18) (N := some 37) (v := ?_) (a' := ?_) #[true, true, true, true, true, true, true, true, true, true, true, false, false, true, true, true, true, true, true, true, false, true, false, true, false, false, false, false] rfl rfl (by kernel_rfl) (fun _ _ _ h => h) (Or.inl ⟨by rfl, ?_⟩) hHeld ?_ ?_
      rotate_left
      · rintro w' ⟨s0, s1, s2, s3, s4, s5, s6, s7, s8, s9, s10, s11, s12, s13, s14, s15, s16⟩
        go_simp
        with_reducible rfl
      rotate_left
      · simp only [Act.put, List.setIfInBounds_toArray, List.set_cons_zero, List.set_cons_succ, i64_w, i32_w]
        rfl
      refine take_ (i := 20) (N := some 39) (v := ?_) (a' := ?_) #[true, true, true, true, true, true, true, true, true, true, true, false, false, true, true, true, true, true, true, true, true, true, false, true, false, false, false, false] rfl rfl (by kernel_rfl) (fun _ _ _ h => h) (Or.inl ⟨by rfl, ?_⟩) hHeld ?_ ?_
      rotate_left
      · rintro w' ⟨s0, s1, s2, s3, s4, s5, s6, s7, s8, s9, s10, s11, s12, s13, s14, s15, s16⟩
        go_simp
        with_reducible rfl
      rotate_left
      · simp only [Act.put, List.setIfInBounds_toArray, List.set_cons_zero, List.set_cons_succ, i64_w, i32_w]
        rfl
      refine take_ (i := 22) (N := some 41) (v := ?_) (a' := ?_) #[true, true, true, true, true, true, true, true, true, true, true, false, false, true, true, true, true, true, true, true, true, true, true, true, false, false, false, false] rfl rfl (by kernel_rfl) (fun _ _ _ h => h) (Or.inl ⟨by rfl, ?_⟩) hHeld ?_ ?_
      rotate_left
      · rintro w' ⟨s0, s1, s2, s3, s4, s5, s6, s7, s8, s9, s10, s11, s12, s13, s14, s15, s16⟩
        go_simp
        with_reducible rfl
      rotate_left
      · simp only [Act.put, List.setIfInBounds_toArray, List.set_cons_zero, List.set_cons_succ, i64_w, i32_w]
        rfl
      refine one_ (i := 11) (N := some 30) #[true, true, true, true, true, true, true, true, true, true, true, true, false, true, true, true, true, true, true, true, true, true, true, true, false, false, false, false] rfl rfl (by kernel_rfl) (by decide) (fun K hK => ?_)
      refine goes_ Try.func43 (by kernel_rfl) rfl #[.agg #[.int .i64 x.f0, .int .i64 x.f1, .int .i64 x.f2, .int .i64 x.f3, .int .i64 x.f4, .slice A5 x.f5.length c5, .slice A6 x.f6.length c6, .int .i64 x.f7.f0, .int .i64 x.f7.f1, .slice A9 x.f8.length c9, .slice A10 x.f9.length c10], .agg #[.int .i64 t.f0, .slice T1 t.f1.length d1], .slice A5 x.f5.length c5, .slice A6 x.f6.length c6, .int .i64 h] (by rfl) rfl rfl (by simp only [List.map_toArray, List.map_cons, List.map_nil]; rfl) ?_
      with_reducible refine (HHOT.out _ (below_drew (Below.refl wr.heap.size wr))).mono ?_
      rintro e w3 ⟨rfl, hb3⟩
      refine ⟨_, rfl, ?_⟩
      refine hK.out _ _ ⟨pw_cell_below hb3 (hHeld.1), pw_cell_below hb3 (hHeld.2.1), pw_cell_below hb3 (hHeld.2.2.1), pw_cell_below hb3 (hHeld.2.2.2.1), pw_cell_below hb3 (hHeld.2.2.2.2.1), pw_cell_below hb3 (hHeld.2.2.2.2.2.1), pw_cell_below hb3 (hHeld.2.2.2.2.2.2.1), pw_cell_below hb3 (hHeld.2.2.2.2.2.2.2.1), pw_cell_below hb3 (hHeld.2.2.2.2.2.2.2.2.1), pw_cell_below hb3 (hHeld.2.2.2.2.2.2.2.2.2.1), pw_cell_below hb3 (hHeld.2.2.2.2.2.2.2.2.2.2.1), pw_cell_below hb3 (hHeld.2.2.2.2.2.2.2.2.2.2.2.1), pw_cell_below hb3 (hHeld.2.2.2.2.2.2.2.2.2.2.2.2.1), pw_cell_below hb3 (hHeld.2.2.2.2.2.2.2.2.2.2.2.2.2.1), pw_cell_below hb3 (hHeld.2.2.2.2.2.2.2.2.2.2.2.2.2.2.1), pw_cell_below hb3 (hHeld.2.2.2.2.2.2.2.2.2.2.2.2.2.2.2.1), pw_cell_below hb3 (hHeld.2.2.2.2.2.2.2.2.2.2.2.2.2.2.2.2)⟩ (fun hHeld => ?_)
      clear hK K
      refine norm_ (a' := ?_) ?_ ?_
      rotate_left
      · show Act.put _ (some 30) _ = _
        simp only [Act.put, List.setIfInBounds_toArray, List.set_cons_zero, List.set_cons_succ, i64_w, i32_w]
        rfl
      refine one_ (i := 12) (N := some 31) #[true, true, true, true, true, true, true, true, true, true, true, true, true, true, true, true, true, true, true, true, true, true, true, true, false, false, false, false] rfl rfl (by kernel_rfl) (by decide) (fun K hK => ?_)
      refine goes_ Try.func82 (by kernel_rfl) rfl #[.agg #[.int .i64 a.f0, .int .i64 a.f1], .int .i64 hv] (by rfl) rfl rfl (by simp only [List.map_toArray, List.map_cons, List.map_nil]; rfl) ?_
      with_reducible refine (hw1 _).mono ?_
      rintro e w4 ⟨rfl, hb4⟩
      refine ⟨_, rfl, ?_⟩
      refine hK.out _ _ ⟨pw_cell_below hb4 (hHeld.1), pw_cell_below hb4 (hHeld.2.1), pw_cell_below hb4 (hHeld.2.2.1), pw_cell_below hb4 (hHeld.2.2.2.1), pw_cell_below hb4 (hHeld.2.2.2.2.1), pw_cell_below hb4 (hHeld.2.2.2.2.2.1), pw_cell_below hb4 (hHeld.2.2.2.2.2.2.1), pw_cell_below hb4 (hHeld.2.2.2.2.2.2.2.1), pw_cell_below hb4 (hHeld.2.2.2.2.2.2.2.2.1), pw_cell_below hb4 (hHeld.2.2.2.2.2.2.2.2.2.1), pw_cell_below hb4 (hHeld.2.2.2.2.2.2.2.2.2.2.1), pw_cell_below hb4 (hHeld.2.2.2.2.2.2.2.2.2.2.2.1), pw_cell_below hb4 (hHeld.2.2.2.2.2.2.2.2.2.2.2.2.1), pw_cell_below hb4 (hHeld.2.2.2.2.2.2.2.2.2.2.2.2.2.1), pw_cell_below hb4 (hHeld.2.2.2.2.2.2.2.2.2.2.2.2.2.2.1), pw_cell_below hb4 (hHeld.2.2.2.2.2.2.2.2.2.2.2.2.2.2.2.1), pw_cell_below hb4 (hHeld.2.2.2.2.2.2.2.2.2.2.2.2.2.2.2.2)⟩ (fun hHeld => ?_)
      clear hK K
      refine norm_ (a' := ?_) ?_ ?_
      rotate_left
      · show Act.put _ (some 31) _ = _
        simp only [Act.put, List.setIfInBounds_toArray, List.set_cons_zero, List.set_cons_succ, i64_w, i32_w]
        rfl
      refine one_ (i := 24) (N := some 43) #[true, true, true, true, true, true, true, true, true, true, true, true, true, true, true, true, true, true, true, true, true, true, true, true, true, false, false, false] rfl rfl (by kernel_rfl) (by decide) (fun K hK => ?_)
      refine goes_ Try.func44 (by kernel_rfl) rfl #[.agg #[.int .i64 x.f0, .int .i64 x.f1, .int .i64 x.f2, .int .i64 x.f3, .int .i64 x.f4, .slice A5 x.f5.length c5, .slice A6 x.f6.length c6, .int .i64 x.f7.f0, .int .i64 x.f7.f1, .slice A9 x.f8.length c9, .slice A10 x.f9.length c10], .agg #[.int .i64 t.f0, .slice T1 t.f1.length d1], .slice A5 x.f5.length c5, .slice A6 x.f6.length c6, .int .i64 h] (by rfl) rfl rfl (by simp only [List.map_toArray, List.map_cons, List.map_nil]; rfl) ?_
      with_reducible refine (HLEFT.out _ (bel2 (bel2 (below_drew (Below.refl wr.heap.size wr)) hb3) hb4)).mono ?_
      rintro e w5 ⟨rfl, hb5⟩
      refine ⟨_, rfl, ?_⟩
      refine hK.out _ _ ⟨pw_cell_below hb5 (hHeld.1), pw_cell_below hb5 (hHeld.2.1), pw_cell_below hb5 (hHeld.2.2.1), pw_cell_below hb5 (hHeld.2.2.2.1), pw_cell_below hb5 (hHeld.2.2.2.2.1), pw_cell_below hb5 (hHeld.2.2.2.2.2.1), pw_cell_below hb5 (hHeld.2.2.2.2.2.2.1), pw_cell_below hb5 (hHeld.2.2.2.2.2.2.2.1), pw_cell_below hb5 (hHeld.2.2.2.2.2.2.2.2.1), pw_cell_below hb5 (hHeld.2.2.2.2.2.2.2.2.2.1), pw_cell_below hb5 (hHeld.2.2.2.2.2.2.2.2.2.2.1), pw_cell_below hb5 (hHeld.2.2.2.2.2.2.2.2.2.2.2.1), pw_cell_below hb5 (hHeld.2.2.2.2.2.2.2.2.2.2.2.2.1), pw_cell_below hb5 (hHeld.2.2.2.2.2.2.2.2.2.2.2.2.2.1), pw_cell_below hb5 (hHeld.2.2.2.2.2.2.2.2.2.2.2.2.2.2.1), pw_cell_below hb5 (hHeld.2.2.2.2.2.2.2.2.2.2.2.2.2.2.2.1), pw_cell_below hb5 (hHeld.2.2.2.2.2.2.2.2.2.2.2.2.2.2.2.2)⟩ (fun hHeld => ?_)
      clear hK K
      refine norm_ (a' := ?_) ?_ ?_
      rotate_left
      · show Act.put _ (some 43) _ = _
        simp only [Act.put, List.setIfInBounds_toArray, List.set_cons_zero, List.set_cons_succ, i64_w, i32_w]
        rfl
      refine one_ (i := 25) (N := some 44) #[true, true, true, true, true, true, true, true, true, true, true, true, true, true, true, true, true, true, true, true, true, true, true, true, true, true, false, false] rfl rfl (by kernel_rfl) (by decide) (fun K hK => ?_)
      refine goes_ Try.func82 (by kernel_rfl) rfl #[.agg #[.int .i64 b.f0, .int .i64 b.f1], .int .i64 lv] (by rfl) rfl rfl (by simp only [List.map_toArray, List.map_cons, List.map_nil]; rfl) ?_
      with_reducible refine (hw2 _).mono ?_
      rintro e w6 ⟨rfl, hb6⟩
      refine ⟨_, rfl, ?_⟩
      refine hK.out _ _ ⟨pw_cell_below hb6 (hHeld.1), pw_cell_below hb6 (hHeld.2.1), pw_cell_below hb6 (hHeld.2.2.1), pw_cell_below hb6 (hHeld.2.2.2.1), pw_cell_below hb6 (hHeld.2.2.2.2.1), pw_cell_below hb6 (hHeld.2.2.2.2.2.1), pw_cell_below hb6 (hHeld.2.2.2.2.2.2.1), pw_cell_below hb6 (hHeld.2.2.2.2.2.2.2.1), pw_cell_below hb6 (hHeld.2.2.2.2.2.2.2.2.1), pw_cell_below hb6 (hHeld.2.2.2.2.2.2.2.2.2.1), pw_cell_below hb6 (hHeld.2.2.2.2.2.2.2.2.2.2.1), pw_cell_below hb6 (hHeld.2.2.2.2.2.2.2.2.2.2.2.1), pw_cell_below hb6 (hHeld.2.2.2.2.2.2.2.2.2.2.2.2.1), pw_cell_below hb6 (hHeld.2.2.2.2.2.2.2.2.2.2.2.2.2.1), pw_cell_below hb6 (hHeld.2.2.2.2.2.2.2.2.2.2.2.2.2.2.1), pw_cell_below hb6 (hHeld.2.2.2.2.2.2.2.2.2.2.2.2.2.2.2.1), pw_cell_below hb6 (hHeld.2.2.2.2.2.2.2.2.2.2.2.2.2.2.2.2)⟩ (fun hHeld => ?_)
      clear hK K
      refine norm_ (a' := ?_) ?_ ?_
      rotate_left
      · show Act.put _ (some 44) _ = _
        simp only [Act.put, List.setIfInBounds_toArray, List.set_cons_zero, List.set_cons_succ, i64_w, i32_w]
        rfl
      refine last_ (i := 26) (N := none) #[true, true, true, true, true, true, true, true, true, true, true, true, true, true, true, true, true, true, true, true, true, true, true, true, true, true, true, false] rfl rfl (by kernel_rfl) (by decide) (fun K hK => ?_)
      have HT7 := HT.out.below (bel2 (bel2 (bel2 (bel2 (below_drew (Below.refl wr.heap.size wr)) hb3) hb4) hb5) hb6)
      have z0 := HT7.b8.cell 0 _ rfl
      have z1 := HT7.b8.cell 1 _ rfl
      have y0 := HT7.b8.frozen 0
      have y1 := HT7.b8.frozen 1
      refine skip_ (w1 := ?_) (by rfl) rfl ?_ ?_
      rotate_left
      · go_simp
        rfl
      refine hK.out _ _ ?_
      clear hK K
      refine last_ (i := 27) (N := none) #[true, true, true, true, true, true, true, true, true, true, true, true, true, true, true, true, true, true, true, true, true, true, true, true, true, true, true, true] rfl rfl (by kernel_rfl) (by decide) (fun K hK => ?_)
      have HT8 := HT7.b9.set_other (p := ⟨p8, 0, none⟩) (show p9 ≠ p8 by have := HT7.h9; omega) (.int .i64 (min a.f0 hv))
      have HT9 := HT8.set_other (p := ⟨p8, 1, none⟩) (show p9 ≠ p8 by have := HT7.h9; omega) (.int .i64 (max a.f1 hv))
      have v0 := HT9.cell 0 _ rfl
      have v1 := HT9.cell 1 _ rfl
      have x0 := HT9.frozen 0
      have x1 := HT9.frozen 1
      refine skip_ (w1 := ?_) (by rfl) rfl ?_ ?_
      rotate_left
      · go_simp
        rfl
      refine hK.out _ _ ?_
      clear hK K
      refine done_ (by kernel_rfl) ?_
      have HN := Aside0.mk (HT7.put ⟨min a.f0 hv, max a.f1 hv⟩ ⟨min b.f0 lv, max b.f1 lv⟩)
      clear hHeld HT7 HT8 HT9 z0 z1 y0 y1 v0 v1 x0 x1 k0 k1 k2 k3 k4 k5 k6 k7 k8 k9 k10 m0 m1 n0 n1 q0 q1
      go_wp2
      go_roundw
      case rel => exact ⟨k + 1, hlt, by go_num, by rw [HW1.out, HW2.out]; exact HN⟩
      case measure => simp [intOf]; omega
    · obtain rfl : k = L.length := by omega
      have hltz : ¬ (L.length : Int) < (L.length : Int) := by omega
      rw [List.take_length] at HT
      generalize ha : widB (fun s => hotAt x s x.f5 x.f6 h) L = a at HT
      generalize hb : widB (fun s => heatAt x s x.f5 x.f6 (h + 1)) L = b at HT
      have HAB := Aside0.mk (And.intro ha hb)
      clear ha hb
      have m0 := HT.out.b8.cell 0 _ rfl
      have m1 := HT.out.b8.cell 1 _ rfl
      have n0 := HT.out.b9.cell 0 _ rfl
      have n1 := HT.out.b9.cell 1 _ rfl
      have z0 := HT.out.r6.cell 0 _ rfl
      have z1 := HT.out.r6.cell 1 _ rfl
      have y0 := HT.out.r6.frozen 0
      have y1 := HT.out.r6.frozen 1
      have v0 := HT.out.r7.cell 0 _ rfl
      have v1 := HT.out.r7.cell 1 _ rfl
      have x0 := HT.out.r7.frozen 0
      have x1 := HT.out.r7.frozen 1
      have h8 := HT.out.h8
      have h9 := HT.out.h9
      go_wp2
      go_region
      have hB := below_drew ((((HT.out.bel.setCell (p := ⟨w.heap.size + 1, 0, none⟩) (show w.heap.size ≤ w.heap.size + 1 by omega) (.int .i64 a.f0)).setCell (p := ⟨w.heap.size + 1, 1, none⟩) (show w.heap.size ≤ w.heap.size + 1 by omega) (.int .i64 a.f1)).setCell (p := ⟨w.heap.size + 1 + 1, 0, none⟩) (show w.heap.size ≤ w.heap.size + 1 + 1 by omega) (.int .i64 b.f0)).setCell (p := ⟨w.heap.size + 1 + 1, 1, none⟩) (show w.heap.size ≤ w.heap.size + 1 + 1 by omega) (.int .i64 b.f1))
      have B6 := ((((HT.out.r6.set 0 (.int .i64 a.f0)).set 1 (.int .i64 a.f1)).set_other (p := ⟨w.heap.size + 1 + 1, 0, none⟩) (show w.heap.size + 1 ≠ w.heap.size + 1 + 1 by omega) (.int .i64 b.f0)).set_other (p := ⟨w.heap.size + 1 + 1, 1, none⟩) (show w.heap.size + 1 ≠ w.heap.size + 1 + 1 by omega) (.int .i64 b.f1)).drew
      have B7 := ((((HT.out.r7.set_other (p := ⟨w.heap.size + 1, 0, none⟩) (show w.heap.size + 1 + 1 ≠ w.heap.size + 1 by omega) (.int .i64 a.f0)).set_other (p := ⟨w.heap.size + 1, 1, none⟩) (show w.heap.size + 1 + 1 ≠ w.heap.size + 1 by omega) (.int .i64 a.f1)).set 0 (.int .i64 b.f0)).set 1 (.int .i64 b.f1)).drew
      have HE := Aside0.mk (And.intro hB (And.intro B6 B7))
      clear hB B6 B7
      go_wp2
      have g0 := HE.out.2.1.cell 0 _ rfl
      have g1 := HE.out.2.1.cell 1 _ rfl
      have g2 := HE.out.2.2.cell 0 _ rfl
      have g3 := HE.out.2.2.cell 1 _ rfl
      generalize ((((wr.setCell ⟨w.heap.size + 1, 0, none⟩ (.int .i64 a.f0)).setCell ⟨w.heap.size + 1, 1, none⟩ (.int .i64 a.f1)).setCell ⟨w.heap.size + 1 + 1, 0, none⟩ (.int .i64 b.f0)).setCell ⟨w.heap.size + 1 + 1, 1, none⟩ (.int .i64 b.f1)).drew = WE at *
      refine bodyPost_ret (v := .tuple #[.agg #[.int .i64 a.f0, .int .i64 a.f1], .agg #[.int .i64 b.f0, .int .i64 b.f1]]) (by simp [results, Try.results24, go_sem, hu3, g0, g1, g2, g3]) rfl ⟨by rw [HAB.out.1, HAB.out.2], HE.out.1⟩
end Go.Proofs.Ytdgkhoflajdidaa
/- The bounds of copper are those of the reference. -/
namespace Go.Proofs.Ytdgkhoflajdidaa
open Go.RowKit Go.Proofs.YtdgkhoflajdidaaW.PrintWords Go.Proofs.YtdgkhoflajdidaaW.PrintMore Go.Proofs.YtdgkhoflajdidaaW.PrintLast Go.Proofs.Ytdgkhoflajdidaa.Print
set_option linter.unusedVariables false
set_option linter.unusedSimpArgs false
theorem wid_key (f : Sc → Int) (L : List S75) : ∀ (r q : S35), L.foldl (fun r t => (⟨min r.f0 (f (toSc t)), max r.f1 (f (toSc t))⟩ : S35)) r = q →
    q.f0 ≤ r.f0 ∧ r.f1 ≤ q.f1 ∧ (∀ t ∈ L, q.f0 ≤ f (toSc t) ∧ f (toSc t) ≤ q.f1) ∧ (q.f0 = r.f0 ∨ ∃ t ∈ L, f (toSc t) = q.f0) ∧ (q.f1 = r.f1 ∨ ∃ t ∈ L, f (toSc t) = q.f1) := by
  induction L with
  | nil =>
    rintro r q rfl
    exact ⟨Int.le_refl _, Int.le_refl _, fun t ht => (by cases ht), .inl rfl, .inl rfl⟩
  | cons t L ih =>
    intro r q hq
    rw [List.foldl_cons] at hq
    obtain ⟨h1, h2, h3, h4, h5⟩ := ih _ q hq
    clear hq ih
    obtain ⟨n, hn⟩ : ∃ n, f (toSc t) = n := ⟨_, rfl⟩
    rw [hn] at h1 h2 h4 h5
    simp only at h1 h2 h4 h5
    refine ⟨by omega, by omega, fun u hu => ?_, ?_, ?_⟩
    · rcases List.mem_cons.1 hu with rfl | hu
      · rw [hn]; constructor <;> omega
      · exact h3 u hu
    · rcases h4 with h4 | ⟨u, hu, e⟩
      · by_cases hc : n ≤ r.f0
        · exact .inr ⟨t, List.mem_cons_self .., by rw [hn]; omega⟩
        · exact .inl (by omega)
      · exact .inr ⟨u, List.mem_cons_of_mem _ hu, e⟩
    · rcases h5 with h5 | ⟨u, hu, e⟩
      · by_cases hc : r.f1 ≤ n
        · exact .inr ⟨t, List.mem_cons_self .., by rw [hn]; omega⟩
        · exact .inl (by omega)
      · exact .inr ⟨u, List.mem_cons_of_mem _ hu, e⟩
theorem widB_spec (f : Sc → Int) {L : List S75} (hne : L ≠ []) (hb : ∀ t ∈ L, 0 ≤ f (toSc t) ∧ f (toSc t) ≤ 1099511627775) : (∀ t ∈ L, (widB f L).f0 ≤ f (toSc t) ∧ f (toSc t) ≤ (widB f L).f1) ∧ (∃ t ∈ L, f (toSc t) = (widB f L).f0) ∧ ∃ t ∈ L, f (toSc t) = (widB f L).f1 := by
  obtain ⟨h1, h2, h3, h4, h5⟩ := wid_key f L ⟨1099511627776, -1⟩ (widB f L) rfl
  obtain ⟨t, ht⟩ := List.exists_mem_of_ne_nil L hne
  have h6 := h3 t ht
  have h7 := hb t ht
  change _ = (1099511627776 : Int) ∨ _ at h4
  change _ = (-1 : Int) ∨ _ at h5
  refine ⟨h3, ?_, ?_⟩
  · rcases h4 with h4 | h4
    · omega
    · exact h4
  · rcases h5 with h5 | h5
    · omega
    · exact h5
theorem ask_spec {x : S38} (hne : truthL x ≠ []) (val : S114 → Int) (wa : List Int) : (∀ s ∈ truthL x, (askB x wa val).f0 ≤ val (pastOf x s x.f5 wa) ∧ val (pastOf x s x.f5 wa) ≤ (askB x wa val).f1) ∧ (∃ s ∈ truthL x, val (pastOf x s x.f5 wa) = (askB x wa val).f0) ∧ ∃ s ∈ truthL x, val (pastOf x s x.f5 wa) = (askB x wa val).f1 := by
  have hl : 0 < (truthL x).length := List.length_pos_iff.2 hne
  obtain ⟨h1, ⟨j1, hj1, e1⟩, ⟨j2, hj2, e2⟩⟩ := bnd_spec (fun k => val (pastOf x ((truthL x).getD k zSc) x.f5 wa)) (truthL x).length hl
  have hg : ∀ k (hk : k < (truthL x).length), (truthL x).getD k zSc = (truthL x)[k] := fun k hk => by simp [hk]
  change val (pastOf x ((truthL x).getD j1 zSc) x.f5 wa) = _ at e1
  change val (pastOf x ((truthL x).getD j2 zSc) x.f5 wa) = _ at e2
  rw [hg j1 hj1] at e1
  rw [hg j2 hj2] at e2
  unfold askB
  refine ⟨fun s hs => ?_, ⟨_, List.getElem_mem hj1, e1⟩, ⟨_, List.getElem_mem hj2, e2⟩⟩
  obtain ⟨k, hk, rfl⟩ := List.getElem_of_mem hs
  have := h1 k hk
  change _ ≤ val (pastOf x ((truthL x).getD k zSc) x.f5 wa) ∧ val (pastOf x ((truthL x).getD k zSc) x.f5 wa) ≤ _ at this
  rw [hg k hk] at this
  exact this
theorem ask_wid {x : S38} (hV : Valid x) (hne : truthL x ≠ []) (val : S114 → Int) (f : Sc → Int) (hvf : ∀ s, val (pastOf x s x.f5 x.f6) = f s) (hb : ∀ s ∈ truthL x, 0 ≤ f s ∧ f s ≤ 1099511627775) : askB x x.f6 val = widB f (truthsX x) := by
  have hne2 : truthsX x ≠ [] := fun h => hne ((truthsX_nil hV).1 h)
  have hin : ∀ t ∈ truthsX x, toSc t ∈ truthL x := fun t ht => (mem_truthsX hV).2 ⟨t, ht, rfl⟩
  obtain ⟨a1, ⟨s1, hs1, a2⟩, ⟨s2, hs2, a3⟩⟩ := ask_spec hne val x.f6
  obtain ⟨b1, ⟨t1, ht1, b2⟩, ⟨t2, ht2, b3⟩⟩ := widB_spec f hne2 (fun t ht => hb _ (hin t ht))
  simp only [hvf] at a1 a2 a3
  obtain ⟨u1, hu1, rfl⟩ := (mem_truthsX hV).1 hs1
  obtain ⟨u2, hu2, rfl⟩ := (mem_truthsX hV).1 hs2
  have c1 := a1 _ (hin t1 ht1)
  have c2 := a1 _ (hin t2 ht2)
  have d1 := b1 _ hu1
  have d2 := b1 _ hu2
  have e1 : (askB x x.f6 val).f0 = (widB f (truthsX x)).f0 := by omega
  have e2 : (askB x x.f6 val).f1 = (widB f (truthsX x)).f1 := by omega
  generalize askB x x.f6 val = p at *
  generalize widB f (truthsX x) = q at *
  cases p
  cases q
  simp only at e1 e2
  subst e1
  subst e2
  rfl
theorem truth_ok {x : S38} (hV : Valid x) {s : Sc} (hs : s ∈ truthL x) : ScOk s := ((mem_allSc hV).1 (mem_truthL.1 hs).1).ok hV
theorem hotB_bd {x : S38} (hV : Valid x) {s : Sc} (hs : ScOk s) (k : Nat) : 0 ≤ hotAt x s x.f5 x.f6 k ∧ hotAt x s x.f5 x.f6 k ≤ 999 := by
  have ok := hV.play0 hs
  have hpb := preH_bd ok (heatAt x s x.f5 x.f6 k) k
  change 0 ≤ preAt x s x.f5 x.f6 k ∧ preAt x s x.f5 x.f6 k ≤ x.f2 at hpb
  have hp0 := ok.per0
  have hm := ok.most
  exact ⟨Int.ediv_nonneg hpb.1 (by omega), Int.le_trans (Int.ediv_le_self _ hpb.1) (by omega)⟩
theorem heatB_bd {x : S38} (hV : Valid x) {s : Sc} (hs : ScOk s) (k : Nat) : 0 ≤ heatAt x s x.f5 x.f6 k ∧ heatAt x s x.f5 x.f6 k ≤ 999 := by
  have ok := hV.play0 hs
  have := heatAt_bd ok k
  have hm := ok.most
  omega
theorem hotsB_wid {x : S38} (hV : Valid x) (hne : truthL x ≠ []) {k : Nat} (hk : (k : Int) ≤ x.f0) : askB x x.f6 (valHot k) = widB (fun s => hotAt x s x.f5 x.f6 k) (truthsX x) :=
  ask_wid hV hne _ _ (fun s => hot_get hk) fun s hs => by have := hotB_bd hV (truth_ok hV hs) k; omega
theorem leftsB_wid {x : S38} (hV : Valid x) (hne : truthL x ≠ []) {k : Nat} (hk : (k : Int) ≤ x.f0) : askB x x.f6 (valLeft k) = widB (fun s => heatAt x s x.f5 x.f6 (k + 1)) (truthsX x) :=
  ask_wid hV hne _ _ (fun s => left_get hk) fun s hs => by have := heatB_bd hV (truth_ok hV hs) (k + 1); omega
end Go.Proofs.Ytdgkhoflajdidaa
