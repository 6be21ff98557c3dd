/- Lemmas for the law's proof: Sa, Pe, Sb. -/
import Derived.Test.YtdgkhoflajdidaaKeeps17
import Derived.Test.YtdgkhoflajdidaaKeeps10
/- Keeps, Whole, Wholes of the reference: truths are counted. -/
namespace Go.Proofs.Ytdgkhoflajdidaa
open Go.RowKit Go.Proofs.YtdgkhoflajdidaaW.PrintWords Go.Proofs.YtdgkhoflajdidaaW.PrintMore Go.Proofs.YtdgkhoflajdidaaW.PrintLast Go.Proofs.Ytdgkhoflajdidaa.Print
set_option linter.unusedVariables false
set_option linter.unusedSimpArgs false
set_option maxRecDepth 100000
set_option maxHeartbeats 4000000
def cnt (p : S75 → Bool) (L : List S75) : Nat := (L.filter p).length
theorem cnt_t {p : S75 → Bool} {L : List S75} {t : S75} (h : p t = true) : cnt p (L ++ [t]) = cnt p L + 1 := by simp [cnt, List.filter_append, h]
theorem cnt_f {p : S75 → Bool} {L : List S75} {t : S75} (h : p t = false) : cnt p (L ++ [t]) = cnt p L := by simp [cnt, List.filter_append, h]
theorem cnt_le (p : S75 → Bool) (L : List S75) : cnt p L ≤ L.length := List.length_filter_le ..
/-- What is handed to those that go through truths. -/
structure TrArgs (x : S38) (cs : List Value) (A C D : Option Addr) (L : List S75) (co wa : List Int) (w : World) : Prop where
  kx : k38.K w x cs
  kl : Kd.C k75 w A L.length L
  kc : Kd.C (Kd.int .i64) w C co.length co
  kw : Kd.C (Kd.int .i64) w D wa.length wa
  ok : ∀ t ∈ L, PlayOk x (toSc t) co wa ∧ (t.f1.length : Int) = x.f0 + 1
  len : L.length ≤ 3000
  l0 : 0 ≤ x.f0
  l1 : x.f0 ≤ 4
variable {x : S38} {cs ts : List Value} {A C D : Option Addr} {c d d' : Nat} {L : List S75} {t : S75} {co wa : List Int} {w V : World}
theorem TrArgs.below (h : TrArgs x cs A C D L co wa w) (hb : Below w.heap.size w V) : TrArgs x cs A C D L co wa V :=
  ⟨k38.K_below hb h.kx, Kd.C_below h.kl hb, Kd.C_below h.kc hb, Kd.C_below h.kw hb, h.ok, h.len, h.l0, h.l1⟩
theorem TrArgs.h (h : TrArgs x cs A C D L co wa w) {t : S75} (ht : t ∈ L) (hk : k75.K w t ts) : HArgs x cs t ts C D c d co wa w := ⟨h.kx, hk, h.kc, h.kw, (h.ok t ht).1, (h.ok t ht).2⟩
theorem k38_rows {A5 A6 A9 A10 : Option Addr} {c5 c6 c9 c10 : Nat} (h : k38.K w x [.int .i64 x.f0, .int .i64 x.f1, .int .i64 x.f2, .int .i64 x.f3, .int .i64 x.f4, .slice A5 x.f5.length c5, .slice A6 x.f6.length c6, .int .i64 x.f7.f0, .int .i64 x.f7.f1, .slice A9 x.f8.length c9, .slice A10 x.f9.length c10]) : Kd.C (Kd.int .i64) w A5 x.f5.length x.f5 ∧ Kd.C (Kd.int .i64) w A6 x.f6.length x.f6 := by
  obtain ⟨_, _, _, _, _, _, _, _, he, _, g5, _, g6, _⟩ := k38_open h
  simp only [List.cons.injEq, Value.slice.injEq, true_and, and_true] at he
  obtain ⟨⟨rfl, rfl⟩, ⟨rfl, rfl⟩, _⟩ := he
  exact ⟨g5, g6⟩
theorem rKeeps_calls (h : Nat) (hA : TrArgs x cs A C D L co wa w) (hC : ∀ A5 A6 A9 A10 c5 c6 c9 c10, cs = [.int .i64 x.f0, .int .i64 x.f1, .int .i64 x.f2, .int .i64 x.f3, .int .i64 x.f4, .slice A5 x.f5.length c5, .slice A6 x.f6.length c6, .int .i64 x.f7.f0, .int .i64 x.f7.f1, .slice A9 x.f8.length c9, .slice A10 x.f9.length c10] → A5 = C ∧ A6 = D ∧ x.f5 = co ∧ x.f6 = wa) (hh : (h : Int) ≤ x.f0) :
    Calls Try.prog 70 #[.agg cs.toArray, .slice A L.length c, .int .i64 h] w fun e w' => e = .returned (.int .i64 (verd (cnt (fun t => keptAt x (toSc t) co wa h) L : Nat) L.length)) ∧ Below w.heap.size w w' := by
  obtain ⟨A5, c5, A6, c6, A9, c9, A10, c10, rfl, _⟩ := k38_open hA.kx
  obtain ⟨rfl, rfl, rfl, rfl⟩ := hC _ _ _ _ _ _ _ _ rfl
  have HA := Aside0.mk hA
  clear hA hC
  have hu := Try.underlying28
  have hu2 := Try.underlying66
  have ZB := Aside0.mk (And.intro (below_alloc (Below.refl w.heap.size w) (.cells #[.int .i64 x.f0, .int .i64 x.f1, .int .i64 x.f2, .int .i64 x.f3, .int .i64 x.f4, .slice A5 x.f5.length c5, .slice A6 x.f6.length c6, .int .i64 x.f7.f0, .int .i64 x.f7.f1, .slice A9 x.f8.length c9, .slice A10 x.f9.length c10] 28)) (Blk.new w #[.int .i64 x.f0, .int .i64 x.f1, .int .i64 x.f2, .int .i64 x.f3, .int .i64 x.f4, .slice A5 x.f5.length c5, .slice A6 x.f6.length c6, .int .i64 x.f7.f0, .int .i64 x.f7.f1, .slice A9 x.f8.length c9, .slice A10 x.f9.length c10] 28 _ rfl))
  have hle := HA.out.len
  go_enter Try.func70, Try.ntmps70
  go_wp2
  generalize (w.alloc (.cells #[.int .i64 x.f0, .int .i64 x.f1, .int .i64 x.f2, .int .i64 x.f3, .int .i64 x.f4, .slice A5 x.f5.length c5, .slice A6 x.f6.length c6, .int .i64 x.f7.f0, .int .i64 x.f7.f1, .slice A9 x.f8.length c9, .slice A10 x.f9.length c10] 28)) = W at *
  go_loopw [7, 8] (fun s7 s8 wr => ∃ k : Nat, k ≤ L.length ∧ s7 = .int .i64 (cnt (fun t => keptAt x (toSc t) x.f5 x.f6 h) (L.take k) : Nat) ∧ s8 = .int .i64 k ∧ Aside0 (Below w.heap.size w wr ∧ Blk wr w.heap.size #[.int .i64 x.f0, .int .i64 x.f1, .int .i64 x.f2, .int .i64 x.f3, .int .i64 x.f4, .slice A5 x.f5.length c5, .slice A6 x.f6.length c6, .int .i64 x.f7.f0, .int .i64 x.f7.f1, .slice A9 x.f8.length c9, .slice A10 x.f9.length c10] 28)) (fun _ s8 _ => L.length - (intOf s8).toNat)
  case atStart => exact ⟨0, Nat.zero_le _, rfl, rfl, ZB⟩
  case round =>
    obtain ⟨k, hk, rfl, rfl, HW⟩ := hrel
    by_cases hlt : k < L.length
    · have hltz : (k : Int) < (L.length : Int) := by omega
      obtain ⟨aA, T1, d1, rfl, q0, q1, hkt⟩ := row_at_tr (HA.out.below HW.out.1).kl k hlt
      have hsn : L.take (k + 1) = L.take k ++ [L[k]] := List.take_succ_eq_append_getElem hlt
      have htm : L[k] ∈ L := List.getElem_mem hlt
      have HK := Aside0.mk (fun V (hb : Below wr.heap.size wr V) => kept_calls (c := c5) (d := c6) h hh ((HA.out.below (bel2 HW.out.1 hb)).h htm (k75.K_below hb hkt)))
      have hcl := cnt_le (fun t => keptAt x (toSc t) x.f5 x.f6 h) (L.take k)
      rw [List.length_take] at hcl
      clear hkt htm
      generalize L[k] = t at *
      cases hq : keptAt x (toSc t) x.f5 x.f6 h with
      | true =>
        rw [hq] at HK
        have HSN := Lib.hid (show cnt (fun t => keptAt x (toSc t) x.f5 x.f6 h) (L.take (k + 1)) = cnt (fun t => keptAt x (toSc t) x.f5 x.f6 h) (L.take k) + 1 by rw [hsn]; exact cnt_t hq)
        clear hsn hq
        generalize cnt (fun t => keptAt x (toSc t) x.f5 x.f6 h) (L.take k) = n at *
        have k0 := HW.out.2.cell 0 _ rfl
        have k1 := HW.out.2.cell 1 _ rfl
        have k2 := HW.out.2.cell 2 _ rfl
        have k3 := HW.out.2.cell 3 _ rfl
        have k4 := HW.out.2.cell 4 _ rfl
        have k5 := HW.out.2.cell 5 _ rfl
        have k6 := HW.out.2.cell 6 _ rfl
        have k7 := HW.out.2.cell 7 _ rfl
        have k8 := HW.out.2.cell 8 _ rfl
        have k9 := HW.out.2.cell 9 _ rfl
        have k10 := HW.out.2.cell 10 _ rfl
        go_wp2
        refine start_ (n := 11) (S := fun w' => w'.cell? ⟨w.heap.size, 0, none⟩ = some (.int .i64 x.f0) ∧ w'.cell? ⟨w.heap.size, 1, none⟩ = some (.int .i64 x.f1) ∧ w'.cell? ⟨w.heap.size, 2, none⟩ = some (.int .i64 x.f2) ∧ w'.cell? ⟨w.heap.size, 3, none⟩ = some (.int .i64 x.f3) ∧ w'.cell? ⟨w.heap.size, 4, none⟩ = some (.int .i64 x.f4) ∧ w'.cell? ⟨w.heap.size, 5, none⟩ = some (.slice A5 x.f5.length c5) ∧ w'.cell? ⟨w.heap.size, 6, none⟩ = some (.slice A6 x.f6.length c6) ∧ w'.cell? ⟨w.heap.size, 7, none⟩ = some (.int .i64 x.f7.f0) ∧ w'.cell? ⟨w.heap.size, 8, none⟩ = some (.int .i64 x.f7.f1) ∧ w'.cell? ⟨w.heap.size, 9, none⟩ = some (.slice A9 x.f8.length c9) ∧ w'.cell? ⟨w.heap.size, 10, none⟩ = some (.slice A10 x.f9.length c10) ∧ w'.cell? (aA.add (k * 2)) = some (.int .i64 t.f0) ∧ w'.cell? ⟨(aA.add (k * 2)).block, (aA.add (k * 2)).off + 1, none⟩ = some (.slice T1 t.f1.length d1)) (ds := []) #[false, false, false, false, false, false, false, false, false, false, false] (by kernel_rfl) rfl rfl ⟨k0, k1, k2, k3, k4, k5, k6, k7, k8, k9, k10, q0, q1⟩ (fun hHeld => ?_)
        refine pure_ (i := 1) (N := some 16) (v := ?_) (a' := ?_) #[false, true, false, false, false, false, false, false, false, false, false] rfl rfl (by kernel_rfl) (fun _ _ _ h => h) (Or.inl ⟨by rfl, ?_⟩) ?_ ?_
        rotate_left
        · intro w'
          go_simp
          with_reducible rfl
        rotate_left
        · simp only [Act.put, List.setIfInBounds_toArray, List.set_cons_zero, List.set_cons_succ, i64_w, i32_w]
          rfl
        refine pure_ (i := 2) (N := some 17) (v := ?_) (a' := ?_) #[false, true, true, false, false, false, false, false, false, false, false] rfl rfl (by kernel_rfl) (fun _ _ _ h => h) (Or.inl ⟨by rfl, ?_⟩) ?_ ?_
        rotate_left
        · intro w'
          go_simp
          with_reducible rfl
        rotate_left
        · simp only [Act.put, List.setIfInBounds_toArray, List.set_cons_zero, List.set_cons_succ, i64_w, i32_w]
          rfl
        refine pure_ (i := 3) (N := some 18) (v := ?_) (a' := ?_) #[false, true, true, true, false, false, false, false, false, false, false] rfl rfl (by kernel_rfl) (fun _ _ _ h => h) (Or.inl ⟨by rfl, ?_⟩) ?_ ?_
        rotate_left
        · intro w'
          go_simp
          with_reducible rfl
        rotate_left
        · simp only [Act.put, List.setIfInBounds_toArray, List.set_cons_zero, List.set_cons_succ, i64_w, i32_w]
          rfl
        refine pure_ (i := 5) (N := some 20) (v := ?_) (a' := ?_) #[false, true, true, true, false, true, false, false, false, false, false] rfl rfl (by kernel_rfl) (fun _ _ _ h => h) (Or.inl ⟨by rfl, ?_⟩) ?_ ?_
        rotate_left
        · intro w'
          go_simp
          with_reducible rfl
        rotate_left
        · simp only [Act.put, List.setIfInBounds_toArray, List.set_cons_zero, List.set_cons_succ, i64_w, i32_w]
          rfl
        refine pure_ (i := 7) (N := some 22) (v := ?_) (a' := ?_) #[false, true, true, true, false, true, false, true, false, false, false] rfl rfl (by kernel_rfl) (fun _ _ _ h => h) (Or.inl ⟨by rfl, ?_⟩) ?_ ?_
        rotate_left
        · intro w'
          go_simp
          with_reducible rfl
        rotate_left
        · simp only [Act.put, List.setIfInBounds_toArray, List.set_cons_zero, List.set_cons_succ, i64_w, i32_w]
          rfl
        refine pure_ (i := 9) (N := some 24) (v := ?_) (a' := ?_) #[false, true, true, true, false, true, false, true, false, true, false] rfl rfl (by kernel_rfl) (fun _ _ _ h => h) (Or.inl ⟨by rfl, ?_⟩) ?_ ?_
        rotate_left
        · intro w'
          go_simp
          with_reducible rfl
        rotate_left
        · simp only [Act.put, List.setIfInBounds_toArray, List.set_cons_zero, List.set_cons_succ, i64_w, i32_w]
          rfl
        refine take_ (i := 0) (N := some 15) (v := ?_) (a' := ?_) #[true, true, true, true, false, true, false, true, false, true, false] rfl rfl (by kernel_rfl) (fun _ _ _ h => h) (Or.inl ⟨by rfl, ?_⟩) hHeld ?_ ?_
        rotate_left
        · rintro w' ⟨s0, s1, s2, s3, s4, s5, s6, s7, s8, s9, s10, s11, s12⟩
          go_simp
          with_reducible rfl
        rotate_left
        · simp only [Act.put, List.setIfInBounds_toArray, List.set_cons_zero, List.set_cons_succ, i64_w, i32_w]
          rfl
        refine take_ (i := 4) (N := some 19) (v := ?_) (a' := ?_) #[true, true, true, true, true, true, false, true, false, true, false] rfl rfl (by kernel_rfl) (fun _ _ _ h => h) (Or.inl ⟨by rfl, ?_⟩) hHeld ?_ ?_
        rotate_left
        · rintro w' ⟨s0, s1, s2, s3, s4, s5, s6, s7, s8, s9, s10, s11, s12⟩
          go_simp
          with_reducible rfl
        rotate_left
        · simp only [Act.put, List.setIfInBounds_toArray, List.set_cons_zero, List.set_cons_succ, i64_w, i32_w]
          rfl
        refine take_ (i := 6) (N := some 21) (v := ?_) (a' := ?_) #[true, true, true, true, true, true, true, true, false, true, false] rfl rfl (by kernel_rfl) (fun _ _ _ h => h) (Or.inl ⟨by rfl, ?_⟩) hHeld ?_ ?_
        rotate_left
        · rintro w' ⟨s0, s1, s2, s3, s4, s5, s6, s7, s8, s9, s10, s11, s12⟩
          go_simp
          with_reducible rfl
        rotate_left
        · simp only [Act.put, List.setIfInBounds_toArray, List.set_cons_zero, List.set_cons_succ, i64_w, i32_w]
          rfl
        refine take_ (i := 8) (N := some 23) (v := ?_) (a' := ?_) #[true, true, true, true, true, true, true, true, true, true, false] rfl rfl (by kernel_rfl) (fun _ _ _ h => h) (Or.inl ⟨by rfl, ?_⟩) hHeld ?_ ?_
        rotate_left
        · rintro w' ⟨s0, s1, s2, s3, s4, s5, s6, s7, s8, s9, s10, s11, s12⟩
          go_simp
          with_reducible rfl
        rotate_left
        · simp only [Act.put, List.setIfInBounds_toArray, List.set_cons_zero, List.set_cons_succ, i64_w, i32_w]
          rfl
        refine one_ (i := 10) (N := some 25) #[true, true, true, true, true, true, true, true, true, true, true] rfl rfl (by kernel_rfl) (by decide) (fun K hK => ?_)
        refine goes_ Try.func116 (by kernel_rfl) rfl #[.agg #[.int .i64 x.f0, .int .i64 x.f1, .int .i64 x.f2, .int .i64 x.f3, .int .i64 x.f4, .slice A5 x.f5.length c5, .slice A6 x.f6.length c6, .int .i64 x.f7.f0, .int .i64 x.f7.f1, .slice A9 x.f8.length c9, .slice A10 x.f9.length c10], .agg #[.int .i64 t.f0, .slice T1 t.f1.length d1], .slice A5 x.f5.length c5, .slice A6 x.f6.length c6, .int .i64 h] (by rfl) rfl rfl (by simp only [List.map_toArray, List.map_cons, List.map_nil]; rfl) ?_
        with_reducible refine (HK.out _ (below_drew (Below.refl wr.heap.size wr))).mono ?_
        rintro e w3 ⟨rfl, hb3⟩
        refine ⟨_, rfl, ?_⟩
        refine hK.out _ _ ⟨pw_cell_below hb3 (hHeld.1), pw_cell_below hb3 (hHeld.2.1), pw_cell_below hb3 (hHeld.2.2.1), pw_cell_below hb3 (hHeld.2.2.2.1), pw_cell_below hb3 (hHeld.2.2.2.2.1), pw_cell_below hb3 (hHeld.2.2.2.2.2.1), pw_cell_below hb3 (hHeld.2.2.2.2.2.2.1), pw_cell_below hb3 (hHeld.2.2.2.2.2.2.2.1), pw_cell_below hb3 (hHeld.2.2.2.2.2.2.2.2.1), pw_cell_below hb3 (hHeld.2.2.2.2.2.2.2.2.2.1), pw_cell_below hb3 (hHeld.2.2.2.2.2.2.2.2.2.2.1), pw_cell_below hb3 (hHeld.2.2.2.2.2.2.2.2.2.2.2.1), pw_cell_below hb3 (hHeld.2.2.2.2.2.2.2.2.2.2.2.2)⟩ (fun hHeld => ?_)
        clear hK K
        refine norm_ (a' := ?_) ?_ ?_
        rotate_left
        · show Act.put _ (some 25) _ = _
          simp only [Act.put, List.setIfInBounds_toArray, List.set_cons_zero, List.set_cons_succ, i64_w, i32_w]
          rfl
        refine done_ (by kernel_rfl) ?_
        have HN := Aside0.mk (And.intro (bel2 HW.out.1 (bel2 (below_drew (Below.refl _ _)) hb3)) (HW.out.2.below (bel2 (below_drew (Below.refl _ _)) hb3)))
        clear hHeld hb3 q0 q1 k0 k1 k2 k3 k4 k5 k6 k7 k8 k9 k10
        go_wp2
        go_roundw
        case rel => exact ⟨k + 1, hlt, by rw [HSN.out]; go_num, by go_num, HN⟩
        case measure => simp [intOf]; omega
      | false =>
        rw [hq] at HK
        have HSN := Lib.hid (show cnt (fun t => keptAt x (toSc t) x.f5 x.f6 h) (L.take (k + 1)) = cnt (fun t => keptAt x (toSc t) x.f5 x.f6 h) (L.take k) by rw [hsn]; exact cnt_f hq)
        clear hsn hq
        generalize cnt (fun t => keptAt x (toSc t) x.f5 x.f6 h) (L.take k) = n at *
        have k0 := HW.out.2.cell 0 _ rfl
        have k1 := HW.out.2.cell 1 _ rfl
        have k2 := HW.out.2.cell 2 _ rfl
        have k3 := HW.out.2.cell 3 _ rfl
        have k4 := HW.out.2.cell 4 _ rfl
        have k5 := HW.out.2.cell 5 _ rfl
        have k6 := HW.out.2.cell 6 _ rfl
        have k7 := HW.out.2.cell 7 _ rfl
        have k8 := HW.out.2.cell 8 _ rfl
        have k9 := HW.out.2.cell 9 _ rfl
        have k10 := HW.out.2.cell 10 _ rfl
        go_wp2
        refine start_ (n := 11) (S := fun w' => w'.cell? ⟨w.heap.size, 0, none⟩ = some (.int .i64 x.f0) ∧ w'.cell? ⟨w.heap.size, 1, none⟩ = some (.int .i64 x.f1) ∧ w'.cell? ⟨w.heap.size, 2, none⟩ = some (.int .i64 x.f2) ∧ w'.cell? ⟨w.heap.size, 3, none⟩ = some (.int .i64 x.f3) ∧ w'.cell? ⟨w.heap.size, 4, none⟩ = some (.int .i64 x.f4) ∧ w'.cell? ⟨w.heap.size, 5, none⟩ = some (.slice A5 x.f5.length c5) ∧ w'.cell? ⟨w.heap.size, 6, none⟩ = some (.slice A6 x.f6.length c6) ∧ w'.cell? ⟨w.heap.size, 7, none⟩ = some (.int .i64 x.f7.f0) ∧ w'.cell? ⟨w.heap.size, 8, none⟩ = some (.int .i64 x.f7.f1) ∧ w'.cell? ⟨w.heap.size, 9, none⟩ = some (.slice A9 x.f8.length c9) ∧ w'.cell? ⟨w.heap.size, 10, none⟩ = some (.slice A10 x.f9.length c10) ∧ w'.cell? (aA.add (k * 2)) = some (.int .i64 t.f0) ∧ w'.cell? ⟨(aA.add (k * 2)).block, (aA.add (k * 2)).off + 1, none⟩ = some (.slice T1 t.f1.length d1)) (ds := []) #[false, false, false, false, false, false, false, false, false, false, false] (by kernel_rfl) rfl rfl ⟨k0, k1, k2, k3, k4, k5, k6, k7, k8, k9, k10, q0, q1⟩ (fun hHeld => ?_)
        refine pure_ (i := 1) (N := some 16) (v := ?_) (a' := ?_) #[false, true, false, false, false, false, false, false, false, false, false] rfl rfl (by kernel_rfl) (fun _ _ _ h => h) (Or.inl ⟨by rfl, ?_⟩) ?_ ?_
        rotate_left
        · intro w'
          go_simp
          with_reducible rfl
        rotate_left
        · simp only [Act.put, List.setIfInBounds_toArray, List.set_cons_zero, List.set_cons_succ, i64_w, i32_w]
          rfl
        refine pure_ (i := 2) (N := some 17) (v := ?_) (a' := ?_) #[false, true, true, false, false, false, false, false, false, false, false] rfl rfl (by kernel_rfl) (fun _ _ _ h => h) (Or.inl ⟨by rfl, ?_⟩) ?_ ?_
        rotate_left
        · intro w'
          go_simp
          with_reducible rfl
        rotate_left
        · simp only [Act.put, List.setIfInBounds_toArray, List.set_cons_zero, List.set_cons_succ, i64_w, i32_w]
          rfl
        refine pure_ (i := 3) (N := some 18) (v := ?_) (a' := ?_) #[false, true, true, true, false, false, false, false, false, false, false] rfl rfl (by kernel_rfl) (fun _ _ _ h => h) (Or.inl ⟨by rfl, ?_⟩) ?_ ?_
        rotate_left
        · intro w'
          go_simp
          with_reducible rfl
        rotate_left
        · simp only [Act.put, List.setIfInBounds_toArray, List.set_cons_zero, List.set_cons_succ, i64_w, i32_w]
          rfl
        refine pure_ (i := 5) (N := some 20) (v := ?_) (a' := ?_) #[false, true, true, true, false, true, false, false, false, false, false] rfl rfl (by kernel_rfl) (fun _ _ _ h => h) (Or.inl ⟨by rfl, ?_⟩) ?_ ?_
        rotate_left
        · intro w'
          go_simp
          with_reducible rfl
        rotate_left
        · simp only [Act.put, List.setIfInBounds_toArray, List.set_cons_zero, List.set_cons_succ, i64_w, i32_w]
          rfl
        refine pure_ (i := 7) (N := some 22) (v := ?_) (a' := ?_) #[false, true, true, true, false, true, false, true, false, false, false] rfl rfl (by kernel_rfl) (fun _ _ _ h => h) (Or.inl ⟨by rfl, ?_⟩) ?_ ?_
        rotate_left
        · intro w'
          go_simp
          with_reducible rfl
        rotate_left
        · simp only [Act.put, List.setIfInBounds_toArray, List.set_cons_zero, List.set_cons_succ, i64_w, i32_w]
          rfl
        refine pure_ (i := 9) (N := some 24) (v := ?_) (a' := ?_) #[false, true, true, true, false, true, false, true, false, true, false] rfl rfl (by kernel_rfl) (fun _ _ _ h => h) (Or.inl ⟨by rfl, ?_⟩) ?_ ?_
        rotate_left
        · intro w'
          go_simp
          with_reducible rfl
        rotate_left
        · simp only [Act.put, List.setIfInBounds_toArray, List.set_cons_zero, List.set_cons_succ, i64_w, i32_w]
          rfl
        refine take_ (i := 0) (N := some 15) (v := ?_) (a' := ?_) #[true, true, true, true, false, true, false, true, false, true, false] rfl rfl (by kernel_rfl) (fun _ _ _ h => h) (Or.inl ⟨by rfl, ?_⟩) hHeld ?_ ?_
        rotate_left
        · rintro w' ⟨s0, s1, s2, s3, s4, s5, s6, s7, s8, s9, s10, s11, s12⟩
          go_simp
          with_reducible rfl
        rotate_left
        · simp only [Act.put, List.setIfInBounds_toArray, List.set_cons_zero, List.set_cons_succ, i64_w, i32_w]
          rfl
        refine take_ (i := 4) (N := some 19) (v := ?_) (a' := ?_) #[true, true, true, true, true, true, false, true, false, true, false] rfl rfl (by kernel_rfl) (fun _ _ _ h => h) (Or.inl ⟨by rfl, ?_⟩) hHeld ?_ ?_
        rotate_left
        · rintro w' ⟨s0, s1, s2, s3, s4, s5, s6, s7, s8, s9, s10, s11, s12⟩
          go_simp
          with_reducible rfl
        rotate_left
        · simp only [Act.put, List.setIfInBounds_toArray, List.set_cons_zero, List.set_cons_succ, i64_w, i32_w]
          rfl
        refine take_ (i := 6) (N := some 21) (v := ?_) (a' := ?_) #[true, true, true, true, true, true, true, true, false, true, false] rfl rfl (by kernel_rfl) (fun _ _ _ h => h) (Or.inl ⟨by rfl, ?_⟩) hHeld ?_ ?_
        rotate_left
        · rintro w' ⟨s0, s1, s2, s3, s4, s5, s6, s7, s8, s9, s10, s11, s12⟩
          go_simp
          with_reducible rfl
        rotate_left
        · simp only [Act.put, List.setIfInBounds_toArray, List.set_cons_zero, List.set_cons_succ, i64_w, i32_w]
          rfl
        refine take_ (i := 8) (N := some 23) (v := ?_) (a' := ?_) #[true, true, true, true, true, true, true, true, true, true, false] rfl rfl (by kernel_rfl) (fun _ _ _ h => h) (Or.inl ⟨by rfl, ?_⟩) hHeld ?_ ?_
        rotate_left
        · rintro w' ⟨s0, s1, s2, s3, s4, s5, s6, s7, s8, s9, s10, s11, s12⟩
          go_simp
          with_reducible rfl
        rotate_left
        · simp only [Act.put, List.setIfInBounds_toArray, List.set_cons_zero, List.set_cons_succ, i64_w, i32_w]
          rfl
        refine one_ (i := 10) (N := some 25) #[true, true, true, true, true, true, true, true, true, true, true] rfl rfl (by kernel_rfl) (by decide) (fun K hK => ?_)
        refine goes_ Try.func116 (by kernel_rfl) rfl #[.agg #[.int .i64 x.f0, .int .i64 x.f1, .int .i64 x.f2, .int .i64 x.f3, .int .i64 x.f4, .slice A5 x.f5.length c5, .slice A6 x.f6.length c6, .int .i64 x.f7.f0, .int .i64 x.f7.f1, .slice A9 x.f8.length c9, .slice A10 x.f9.length c10], .agg #[.int .i64 t.f0, .slice T1 t.f1.length d1], .slice A5 x.f5.length c5, .slice A6 x.f6.length c6, .int .i64 h] (by rfl) rfl rfl (by simp only [List.map_toArray, List.map_cons, List.map_nil]; rfl) ?_
        with_reducible refine (HK.out _ (below_drew (Below.refl wr.heap.size wr))).mono ?_
        rintro e w3 ⟨rfl, hb3⟩
        refine ⟨_, rfl, ?_⟩
        refine hK.out _ _ ⟨pw_cell_below hb3 (hHeld.1), pw_cell_below hb3 (hHeld.2.1), pw_cell_below hb3 (hHeld.2.2.1), pw_cell_below hb3 (hHeld.2.2.2.1), pw_cell_below hb3 (hHeld.2.2.2.2.1), pw_cell_below hb3 (hHeld.2.2.2.2.2.1), pw_cell_below hb3 (hHeld.2.2.2.2.2.2.1), pw_cell_below hb3 (hHeld.2.2.2.2.2.2.2.1), pw_cell_below hb3 (hHeld.2.2.2.2.2.2.2.2.1), pw_cell_below hb3 (hHeld.2.2.2.2.2.2.2.2.2.1), pw_cell_below hb3 (hHeld.2.2.2.2.2.2.2.2.2.2.1), pw_cell_below hb3 (hHeld.2.2.2.2.2.2.2.2.2.2.2.1), pw_cell_below hb3 (hHeld.2.2.2.2.2.2.2.2.2.2.2.2)⟩ (fun hHeld => ?_)
        clear hK K
        refine norm_ (a' := ?_) ?_ ?_
        rotate_left
        · show Act.put _ (some 25) _ = _
          simp only [Act.put, List.setIfInBounds_toArray, List.set_cons_zero, List.set_cons_succ, i64_w, i32_w]
          rfl
        refine done_ (by kernel_rfl) ?_
        have HN := Aside0.mk (And.intro (bel2 HW.out.1 (bel2 (below_drew (Below.refl _ _)) hb3)) (HW.out.2.below (bel2 (below_drew (Below.refl _ _)) hb3)))
        clear hHeld hb3 q0 q1 k0 k1 k2 k3 k4 k5 k6 k7 k8 k9 k10
        go_wp2
        go_roundw
        case rel => exact ⟨k + 1, hlt, by rw [HSN.out], by go_num, HN⟩
        case measure => simp [intOf]; omega
    · obtain rfl : k = L.length := by omega
      have hltz : ¬ (L.length : Int) < (L.length : Int) := by omega
      rw [List.take_length]
      have hv := fun W => rVerdict_calls (cnt (fun t => keptAt x (toSc t) x.f5 x.f6 h) L : Nat) L.length W
      have HV := Lib.hid (rfl : verd (cnt (fun t => keptAt x (toSc t) x.f5 x.f6 h) L : Nat) L.length = verd (cnt (fun t => keptAt x (toSc t) x.f5 x.f6 h) L : Nat) L.length)
      go_wp2_with fail
      refine (hv _).mono ?_
      rintro e w5 ⟨rfl, rfl⟩
      go_wp2
      go_ret
      exact ⟨rfl, HW.out.1⟩
def wholeR (x : S38) (s : Sc) (co wa : List Int) : Bool := (List.range (x.f0 + 1).toNat).all (keptAt x s co wa)
end Go.Proofs.Ytdgkhoflajdidaa
/- The bounds of copper are those of the reference. -/
namespace Go.Proofs.Ytdgkhoflajdidaa
open Go.RowKit Go.Proofs.YtdgkhoflajdidaaW.PrintWords Go.Proofs.YtdgkhoflajdidaaW.PrintMore Go.Proofs.YtdgkhoflajdidaaW.PrintLast Go.Proofs.Ytdgkhoflajdidaa.Print
set_option linter.unusedVariables false
set_option linter.unusedSimpArgs false
theorem ask_spec {x : S38} (hne : truthL x ≠ []) (val : S114 → Int) (wa : List Int) : (∀ s ∈ truthL x, (askB x wa val).f0 ≤ val (pastOf x s x.f5 wa) ∧ val (pastOf x s x.f5 wa) ≤ (askB x wa val).f1) ∧ (∃ s ∈ truthL x, val (pastOf x s x.f5 wa) = (askB x wa val).f0) ∧ ∃ s ∈ truthL x, val (pastOf x s x.f5 wa) = (askB x wa val).f1 := by
  have hl : 0 < (truthL x).length := List.length_pos_iff.2 hne
  obtain ⟨h1, ⟨j1, hj1, e1⟩, ⟨j2, hj2, e2⟩⟩ := bnd_spec (fun k => val (pastOf x ((truthL x).getD k zSc) x.f5 wa)) (truthL x).length hl
  have hg : ∀ k (hk : k < (truthL x).length), (truthL x).getD k zSc = (truthL x)[k] := fun k hk => by simp [hk]
  change val (pastOf x ((truthL x).getD j1 zSc) x.f5 wa) = _ at e1
  change val (pastOf x ((truthL x).getD j2 zSc) x.f5 wa) = _ at e2
  rw [hg j1 hj1] at e1
  rw [hg j2 hj2] at e2
  unfold askB
  refine ⟨fun s hs => ?_, ⟨_, List.getElem_mem hj1, e1⟩, ⟨_, List.getElem_mem hj2, e2⟩⟩
  obtain ⟨k, hk, rfl⟩ := List.getElem_of_mem hs
  have := h1 k hk
  change _ ≤ val (pastOf x ((truthL x).getD k zSc) x.f5 wa) ∧ val (pastOf x ((truthL x).getD k zSc) x.f5 wa) ≤ _ at this
  rw [hg k hk] at this
  exact this
end Go.Proofs.Ytdgkhoflajdidaa
/- The verdicts of copper are those of the reference; Lacks of the reference. -/
namespace Go.Proofs.Ytdgkhoflajdidaa
open Go.RowKit Go.Proofs.YtdgkhoflajdidaaW.PrintWords Go.Proofs.YtdgkhoflajdidaaW.PrintMore Go.Proofs.YtdgkhoflajdidaaW.PrintLast Go.Proofs.Ytdgkhoflajdidaa.Print
set_option linter.unusedVariables false
set_option linter.unusedSimpArgs false
set_option maxRecDepth 100000
set_option maxHeartbeats 4000000
def vB (a n : Bool) : Int := if a = true then 1 else if n = true then 2 else 3
theorem verd_cnt (p : S75 → Bool) {L : List S75} (hne : L ≠ []) : verd (cnt p L : Nat) L.length = vB (L.all p) (L.all fun t => !p t) := by
  unfold verd vB
  have h1 : ((cnt p L : Nat) : Int) = (L.length : Int) ↔ L.all p = true := by
    rw [List.all_eq_true]
    unfold cnt
    constructor
    · intro h t ht
      have h2 : (L.filter p).length = L.length := by omega
      exact List.length_filter_eq_length_iff.1 h2 t ht
    · intro h
      rw [List.length_filter_eq_length_iff.2 h]
  have h2 : ((cnt p L : Nat) : Int) = 0 ↔ L.all (fun t => !p t) = true := by
    rw [List.all_eq_true]
    unfold cnt
    constructor
    · intro h t ht
      have h2 : (L.filter p) = [] := List.length_eq_zero_iff.1 (by omega)
      have := List.filter_eq_nil_iff.1 h2 t ht
      simpa using this
    · intro h
      rw [List.filter_eq_nil_iff.2 fun t ht => by have := h t ht; simpa using this]
      rfl
  by_cases c1 : L.all p = true
  · rw [if_pos (h1.2 c1), if_pos c1]
  · rw [if_neg (fun h => c1 (h1.1 h)), if_neg c1]
    by_cases c2 : L.all (fun t => !p t) = true
    · rw [if_pos (h2.2 c2), if_pos c2]
    · rw [if_neg (fun h => c2 (h2.1 h)), if_neg c2]
variable {x : S38}
theorem vdict_ask (hne : truthL x ≠ []) (val : S114 → Int) (wa : List Int) (p : Sc → Bool) (hval : ∀ s ∈ truthL x, val (pastOf x s x.f5 wa) = if p s = true then 1 else 0) : vdict (askB x wa val) = vB ((truthL x).all p) ((truthL x).all fun s => !p s) := by
  obtain ⟨h1, ⟨s1, hs1, e1⟩, ⟨s2, hs2, e2⟩⟩ := ask_spec hne val wa
  rw [hval s1 hs1] at e1
  rw [hval s2 hs2] at e2
  have hb : ∀ s ∈ truthL x, (askB x wa val).f0 ≤ (if p s = true then 1 else 0) ∧ (if p s = true then 1 else 0) ≤ (askB x wa val).f1 := fun s hs => by rw [← hval s hs]; exact h1 s hs
  generalize askB x wa val = r at *
  unfold vdict vB
  have c1 : 0 < r.f0 ↔ (truthL x).all p = true := by
    rw [List.all_eq_true]
    constructor
    · intro h s hs
      have := (hb s hs).1
      by_cases hp : p s = true
      · exact hp
      · rw [if_neg hp] at this; omega
    · intro h
      rw [if_pos (h s1 hs1)] at e1
      omega
  have c2 : r.f1 = 0 ↔ (truthL x).all (fun s => !p s) = true := by
    rw [List.all_eq_true]
    constructor
    · intro h s hs
      have := (hb s hs).2
      by_cases hp : p s = true
      · rw [if_pos hp] at this; omega
      · simpa using hp
    · intro h
      have := h s2 hs2
      rw [if_neg (by simpa using this)] at e2
      omega
  by_cases d1 : (truthL x).all p = true
  · rw [if_pos (c1.2 d1), if_pos d1]
  · rw [if_neg (fun h => d1 (c1.1 h)), if_neg d1]
    by_cases d2 : (truthL x).all (fun s => !p s) = true
    · rw [if_pos (c2.2 d2), if_pos d2]
    · rw [if_neg (fun h => d2 (c2.1 h)), if_neg d2]
theorem all_truthsX (hV : Valid x) (p : Sc → Bool) : (truthsX x).all (fun t => p (toSc t)) = (truthL x).all p := by
  rw [Bool.eq_iff_iff, List.all_eq_true, List.all_eq_true]
  constructor
  · intro h s hs
    obtain ⟨t, ht, rfl⟩ := (mem_truthsX hV).1 hs
    exact h t ht
  · intro h t ht
    exact h _ ((mem_truthsX hV).2 ⟨t, ht, rfl⟩)
theorem verd_ask (hV : Valid x) (hne : truthL x ≠ []) (val : S114 → Int) (wa : List Int) (p : Sc → Bool) (hval : ∀ s ∈ truthL x, val (pastOf x s x.f5 wa) = if p s = true then 1 else 0) : verd (cnt (fun t => p (toSc t)) (truthsX x) : Nat) (truthsX x).length = vdict (askB x wa val) := by
  rw [vdict_ask hne val wa p hval, verd_cnt _ (fun h => hne ((truthsX_nil hV).1 h)), all_truthsX hV p, all_truthsX hV fun s => !p s]
theorem kept_verd (hV : Valid x) (hne : truthL x ≠ []) {k : Nat} (hk : (k : Int) ≤ x.f0) : verd (cnt (fun t => keptAt x (toSc t) x.f5 x.f6 k) (truthsX x) : Nat) (truthsX x).length = vdict (askB x x.f6 (valKept k)) :=
  verd_ask hV hne (valKept k) x.f6 (fun s => keptAt x s x.f5 x.f6 k) fun s _ => kept_get hk
/-- The verdicts of all hours, as the reference counts them. -/
def keepsR (x : S38) (L : List S75) (n : Nat) : List Int := (List.range n).map fun k => verd (cnt (fun t => keptAt x (toSc t) x.f5 x.f6 k) L : Nat) L.length
theorem keepsR_eq (hV : Valid x) (hne : truthL x ≠ []) : keepsR x (truthsX x) (x.f0 + 1).toNat = keepsL x (x.f0 + 1).toNat := by
  unfold keepsR keepsL
  refine List.map_congr_left fun k hk => ?_
  have := List.mem_range.1 hk
  exact kept_verd hV hne (by omega)
variable {cs : List Value} {A C D : Option Addr} {c : Nat} {L : List S75} {w : World}
theorem rLacks_calls (hA : TrArgs x cs A C D L x.f5 x.f6 w) (hC : ∀ A5 A6 A9 A10 c5 c6 c9 c10, cs = [.int .i64 x.f0, .int .i64 x.f1, .int .i64 x.f2, .int .i64 x.f3, .int .i64 x.f4, .slice A5 x.f5.length c5, .slice A6 x.f6.length c6, .int .i64 x.f7.f0, .int .i64 x.f7.f1, .slice A9 x.f8.length c9, .slice A10 x.f9.length c10] → A5 = C ∧ A6 = D) :
    Calls Try.prog 71 #[.agg cs.toArray, .slice A L.length c] w fun e w' => e = .returned (.int .i64 (fIdx notAlways (keepsR x L (x.f0 + 1).toNat))) ∧ Below w.heap.size w w' := by
  have HK0 := Aside0.mk (fun V (hb : Below w.heap.size w V) (h : Nat) (hh : (h : Int) ≤ x.f0) => rKeeps_calls (c := c) h (hA.below hb) (fun A5 A6 A9 A10 c5 c6 c9 c10 e => ⟨(hC _ _ _ _ _ _ _ _ e).1, (hC _ _ _ _ _ _ _ _ e).2, rfl, rfl⟩) hh)
  obtain ⟨A5, c5, A6, c6, A9, c9, A10, c10, rfl, _⟩ := k38_open hA.kx
  have hl0 := hA.l0
  have hl1 := hA.l1
  clear hA hC
  have hu := Try.underlying28
  have ZB := Aside0.mk (And.intro (below_alloc (Below.refl w.heap.size w) (.cells #[.int .i64 x.f0, .int .i64 x.f1, .int .i64 x.f2, .int .i64 x.f3, .int .i64 x.f4, .slice A5 x.f5.length c5, .slice A6 x.f6.length c6, .int .i64 x.f7.f0, .int .i64 x.f7.f1, .slice A9 x.f8.length c9, .slice A10 x.f9.length c10] 28)) (Blk.new w #[.int .i64 x.f0, .int .i64 x.f1, .int .i64 x.f2, .int .i64 x.f3, .int .i64 x.f4, .slice A5 x.f5.length c5, .slice A6 x.f6.length c6, .int .i64 x.f7.f0, .int .i64 x.f7.f1, .slice A9 x.f8.length c9, .slice A10 x.f9.length c10] 28 _ rfl))
  have hget : ∀ k (hk : k < (x.f0 + 1).toNat), (keepsR x L (x.f0 + 1).toNat)[k]'(by simp [keepsR]; omega) = verd (cnt (fun t => keptAt x (toSc t) x.f5 x.f6 k) L : Nat) L.length := fun k hk => by simp [keepsR]
  have hlen : (keepsR x L (x.f0 + 1).toNat).length = (x.f0 + 1).toNat := by simp [keepsR]
  have HG := Aside0.mk (And.intro hget hlen)
  clear hget hlen
  go_enter Try.func71, Try.ntmps71
  go_wp2
  generalize (w.alloc (.cells #[.int .i64 x.f0, .int .i64 x.f1, .int .i64 x.f2, .int .i64 x.f3, .int .i64 x.f4, .slice A5 x.f5.length c5, .slice A6 x.f6.length c6, .int .i64 x.f7.f0, .int .i64 x.f7.f1, .slice A9 x.f8.length c9, .slice A10 x.f9.length c10] 28)) = W at *
  go_loopw [5] (fun s5 wr => ∃ k : Nat, (k : Int) ≤ x.f0 + 1 ∧ s5 = .int .i64 k ∧ Aside0 ((Below w.heap.size w wr ∧ Blk wr w.heap.size #[.int .i64 x.f0, .int .i64 x.f1, .int .i64 x.f2, .int .i64 x.f3, .int .i64 x.f4, .slice A5 x.f5.length c5, .slice A6 x.f6.length c6, .int .i64 x.f7.f0, .int .i64 x.f7.f1, .slice A9 x.f8.length c9, .slice A10 x.f9.length c10] 28) ∧ ∀ j, j < k → verd (cnt (fun t => keptAt x (toSc t) x.f5 x.f6 j) L : Nat) L.length = 1)) (fun s5 _ => (x.f0 + 1).toNat - (intOf s5).toNat)
  case atStart => exact ⟨0, by omega, rfl, ⟨ZB.out, fun j hj => absurd hj (Nat.not_lt_zero _)⟩⟩
  case round =>
    obtain ⟨k, hk, rfl, HW⟩ := hrel
    have k0 := HW.out.1.2.cell 0 _ rfl
    have k1 := HW.out.1.2.cell 1 _ rfl
    have k2 := HW.out.1.2.cell 2 _ rfl
    have k3 := HW.out.1.2.cell 3 _ rfl
    have k4 := HW.out.1.2.cell 4 _ rfl
    have k5 := HW.out.1.2.cell 5 _ rfl
    have k6 := HW.out.1.2.cell 6 _ rfl
    have k7 := HW.out.1.2.cell 7 _ rfl
    have k8 := HW.out.1.2.cell 8 _ rfl
    have k9 := HW.out.1.2.cell 9 _ rfl
    have k10 := HW.out.1.2.cell 10 _ rfl
    by_cases hlt : (k : Int) ≤ x.f0
    · have hkc := HK0.out wr HW.out.1.1 k hlt
      have hg := HG.out.1 k (by omega)
      by_cases hq : verd (cnt (fun t => keptAt x (toSc t) x.f5 x.f6 k) L : Nat) L.length = 1
      · rw [hq] at hkc
        have HQ := Lib.hid hq
        clear hq hg
        go_wp2_with fail
        refine hkc.mono ?_
        rintro e w5 ⟨rfl, hb⟩
        have HN := Aside0.mk (And.intro (And.intro (bel2 HW.out.1.1 hb) (HW.out.1.2.below hb)) (show ∀ j, j < k + 1 → verd (cnt (fun t => keptAt x (toSc t) x.f5 x.f6 j) L : Nat) L.length = 1 from fun j hj => by
          by_cases e : j = k
          · rw [e]; exact HQ.out
          · exact HW.out.2 j (by omega)))
        clear hb k0 k1 k2 k3 k4 k5 k6 k7 k8 k9 k10
        go_wp2
        go_roundw
        case rel => exact ⟨k + 1, by omega, by go_num, HN⟩
        case measure => simp [intOf]; omega
      · have HF := Lib.hid (show fIdx notAlways (keepsR x L (x.f0 + 1).toNat) = (k : Int) from fIdx_hit _ _ k (by rw [HG.out.2]; omega) (by rw [hg]; simp [notAlways, hq]) (fun j hj hjk => by rw [HG.out.1 j (by rw [← HG.out.2]; exact hj), HW.out.2 j hjk]; rfl))
        generalize verd (cnt (fun t => keptAt x (toSc t) x.f5 x.f6 k) L : Nat) L.length = vv at *
        have hq2 : (vv == 1) = false := by simpa using hq
        clear hg
        go_wp2_with fail
        refine hkc.mono ?_
        rintro e w5 ⟨rfl, hb⟩
        have HN := Aside0.mk (bel2 HW.out.1.1 hb)
        clear hb k0 k1 k2 k3 k4 k5 k6 k7 k8 k9 k10
        go_wp2
        go_ret
        exact ⟨ret_int HF.out.symm, HN.out⟩
    · have HF := Lib.hid (show fIdx notAlways (keepsR x L (x.f0 + 1).toNat) = -1 from fIdx_miss _ _ (fun j hj _ => by rw [HG.out.1 j (by rw [← HG.out.2]; exact hj), HW.out.2 j (by rw [HG.out.2] at hj; omega)]; rfl))
      go_wp2
      go_ret
      exact ⟨ret_int HF.out.symm, HW.out.1.1⟩
end Go.Proofs.Ytdgkhoflajdidaa
