/- Lemmas for the law's proof: Na, Ra. -/
import Derived.Test.YtdgkhoflajdidaaPlays16
import Derived.Test.YtdgkhoflajdidaaPlays17
import Derived.Test.YtdgkhoflajdidaaPlays18
import Derived.Test.YtdgkhoflajdidaaPlays03
import Derived.WalkKit
import Derived.ProofKit
import Derived.OpenShut
import Derived.ShutString
import Derived.ChangeOld
import Derived.ChangeArms
import Derived.ChangeSlices
import Derived.Deep.Slices
import Derived.Carry
import Derived.Below
import Derived.SizedLaws
/- CopperPlays: the walk. -/
namespace Go.Proofs.Ytdgkhoflajdidaa
open Go.RowKit Go.Proofs.YtdgkhoflajdidaaW.PrintWords Go.Proofs.YtdgkhoflajdidaaW.PrintMore Go.Proofs.YtdgkhoflajdidaaW.PrintLast Go.Proofs.Ytdgkhoflajdidaa.Print
set_option linter.unusedVariables false
set_option linter.unusedSimpArgs false
set_option maxRecDepth 100000
set_option maxHeartbeats 4000000
/-- What CopperPlays keeps: the boxes of coppers and truth, and what Play returned. -/
structure PlSt (w : World) (B T : Array Value) (A A2 : Option Addr) (la lb : List Int) (W : World) : Prop where
  bel : Below w.heap.size w W
  box : Blk W w.heap.size B 28
  tb : Blk W (w.heap.size + 1) T 66
  ca : Kd.C (Kd.int .i64) W A la.length la
  cb : Kd.C (Kd.int .i64) W A2 lb.length lb
theorem PlSt.step {w : World} {B T : Array Value} {A A2 : Option Addr} {la lb : List Int} {W V : World} (h : PlSt w B T A A2 la lb W) (hb : Below W.heap.size W V) : PlSt w B T A A2 la lb V :=
  ⟨bel2 h.bel hb, h.box.below hb, h.tb.below hb, Kd.C_below h.ca hb, Kd.C_below h.cb hb⟩
theorem plays_awake (x : S38) (cs : List Value) (t : S75) (ts : List Value) (w : World) (hx : k38.K w x cs) (ht : k75.K w t ts) (h : thinB x = false ∨ 30 < t.f1.length) : Calls Try.prog 11 #[.agg cs.toArray, .agg ts.toArray] w fun e w' => e = .returned (.bool true) ∧ Below w.heap.size w w' := by
  have hthin := fun W (hW : Below w.heap.size w W) => thin_calls x cs W (k38.K_below hW hx)
  obtain ⟨A5, c5, A6, c6, A9, c9, A10, c10, rfl, _⟩ := k38_open hx
  obtain ⟨T1, d1, rfl, _, _⟩ := k75_open ht
  clear hx ht
  have hu := Try.underlying28
  have hu2 := Try.underlying66
  have ZB := Aside0.mk (And.intro (below_alloc (below_alloc (Below.refl w.heap.size w) (.cells #[.int .i64 x.f0, .int .i64 x.f1, .int .i64 x.f2, .int .i64 x.f3, .int .i64 x.f4, .slice A5 x.f5.length c5, .slice A6 x.f6.length c6, .int .i64 x.f7.f0, .int .i64 x.f7.f1, .slice A9 x.f8.length c9, .slice A10 x.f9.length c10] 28)) (.cells #[.int .i64 t.f0, .slice T1 t.f1.length d1] 66)) (Blk.new (w.alloc (.cells #[.int .i64 x.f0, .int .i64 x.f1, .int .i64 x.f2, .int .i64 x.f3, .int .i64 x.f4, .slice A5 x.f5.length c5, .slice A6 x.f6.length c6, .int .i64 x.f7.f0, .int .i64 x.f7.f1, .slice A9 x.f8.length c9, .slice A10 x.f9.length c10] 28)) #[.int .i64 t.f0, .slice T1 t.f1.length d1] 66 (w.heap.size + 1) (by simp)))
  have HTH := Aside0.mk hthin
  cases hq : thinB x with
  | false =>
    have hth := HTH.out _ ZB.out.1
    rw [hq] at hth
    clear hthin h hq
    go_enter Try.func11, Try.ntmps11
    go_wp2_with fail
    refine hth.mono ?_
    rintro e w1 ⟨rfl, hb⟩
    have HB := Aside0.mk (bel2 ZB.out.1 hb)
    clear hb hth
    go_wp2_with fail
    refine (awake_calls _).mono ?_
    rintro e w2 ⟨rfl, hb⟩
    have HB2 := Aside0.mk (bel2 HB.out hb)
    clear hb
    go_wp2
    go_ret
    exact ⟨rfl, HB2.out⟩
  | true =>
    have hlz : (30 : Int) < (t.f1.length : Int) := h.elim (fun h => by rw [hq] at h; cases h) (fun h => by omega)
    have hth := HTH.out _ ZB.out.1
    rw [hq] at hth
    clear hthin h hq
    go_enter Try.func11, Try.ntmps11
    go_wp2_with fail
    refine hth.mono ?_
    rintro e w1 ⟨rfl, hb⟩
    have HB := Aside0.mk (bel2 ZB.out.1 hb)
    have t1 := (ZB.out.2.below hb).cell 1 _ rfl
    clear hb hth
    go_wp2_with fail
    refine (awake_calls _).mono ?_
    rintro e w2 ⟨rfl, hb⟩
    have HB2 := Aside0.mk (bel2 HB.out hb)
    clear hb
    go_wp2
    go_ret
    exact ⟨rfl, HB2.out⟩
theorem plays_main (x : S38) (cs : List Value) (t : S75) (ts : List Value) (w : World) (hx : k38.K w x cs) (ht : k75.K w t ts) (h1 : thinB x = true) (h2 : t.f1.length ≤ 30) : Calls Try.prog 11 #[.agg cs.toArray, .agg ts.toArray] w fun e w' => e = .returned (.bool true) ∧ Below w.heap.size w w' := by
  have hthin := fun W (hW : Below w.heap.size w W) => thin_calls x cs W (k38.K_below hW hx)
  rw [h1] at hthin
  have HCP := Aside0.mk (fun W (hW : Below w.heap.size w W) => copper_calls x cs W (k38.K_below hW hx) h1)
  have HTR := Aside0.mk (fun W (hW : Below w.heap.size w W) => ltruth_calls (k75.K_below hW ht) h2)
  have hfa := fun W (hW : Below w.heap.size w W) => lfault_calls x cs W (k38.K_below hW hx)
  have hpl := fun W ds es (hd : k38.K W x ds) (he : k75.K W t es) => playT_calls x ds t es W hd he
  have hpr := fun W ds es (hd : k38.K W x ds) (he : k75.K W t es) => proveT_calls x ds t es W hd he
  have HCK := Aside0.mk (fun W ds (hd : k38.K W x ds) => check_calls x ds W hd)
  have HX := Aside0.mk (And.intro hx ht)
  obtain ⟨A5, c5, A6, c6, A9, c9, A10, c10, hcs, _⟩ := k38_open hx
  obtain ⟨T1, d1, hts, _, _⟩ := k75_open ht
  have HCS := Aside0.mk (And.intro hcs hts)
  subst hcs
  subst hts
  clear hx ht h1
  have hu := Try.underlying28
  have hu2 := Try.underlying66
  have ZB := Aside0.mk (And.intro (below_alloc (below_alloc (Below.refl w.heap.size w) (.cells #[.int .i64 x.f0, .int .i64 x.f1, .int .i64 x.f2, .int .i64 x.f3, .int .i64 x.f4, .slice A5 x.f5.length c5, .slice A6 x.f6.length c6, .int .i64 x.f7.f0, .int .i64 x.f7.f1, .slice A9 x.f8.length c9, .slice A10 x.f9.length c10] 28)) (.cells #[.int .i64 t.f0, .slice T1 t.f1.length d1] 66)) (And.intro ((Blk.new w #[.int .i64 x.f0, .int .i64 x.f1, .int .i64 x.f2, .int .i64 x.f3, .int .i64 x.f4, .slice A5 x.f5.length c5, .slice A6 x.f6.length c6, .int .i64 x.f7.f0, .int .i64 x.f7.f1, .slice A9 x.f8.length c9, .slice A10 x.f9.length c10] 28 _ rfl).alloc (.cells #[.int .i64 t.f0, .slice T1 t.f1.length d1] 66)) (Blk.new (w.alloc (.cells #[.int .i64 x.f0, .int .i64 x.f1, .int .i64 x.f2, .int .i64 x.f3, .int .i64 x.f4, .slice A5 x.f5.length c5, .slice A6 x.f6.length c6, .int .i64 x.f7.f0, .int .i64 x.f7.f1, .slice A9 x.f8.length c9, .slice A10 x.f9.length c10] 28)) #[.int .i64 t.f0, .slice T1 t.f1.length d1] 66 (w.heap.size + 1) (by simp))))
  have hth := hthin _ ZB.out.1
  have hlz : (t.f1.length : Int) ≤ 30 := by omega
  clear hthin
  obtain ⟨la, hla⟩ : ∃ l, (playF x t).1 = l := ⟨_, rfl⟩
  obtain ⟨lb, hlb⟩ : ∃ l, (playF x t).2.1 = l := ⟨_, rfl⟩
  obtain ⟨pe, hpe⟩ : ∃ l, (playF x t).2.2 = l := ⟨_, rfl⟩
  rw [hla, hlb, hpe] at hpl
  obtain ⟨pb, hpb⟩ : ∃ b, proveF x t = b := ⟨_, rfl⟩
  rw [hpb] at hpr
  obtain ⟨ec, hec⟩ : ∃ b, faultC x = b := ⟨_, rfl⟩
  have hck := HCK.out
  rw [hec] at hfa hck
  have HPL := Aside0.mk hpl
  have HPR := Aside0.mk hpr
  have HFA := Aside0.mk hfa
  have HCK2 := Aside0.mk hck
  have HEQ := Lib.hid (And.intro hla (And.intro hlb (And.intro hpe (And.intro hpb hec))))
  clear hpl hpr hfa hck hla hlb hpe hpb hec HCK
  go_enter Try.func11, Try.ntmps11
  go_wp2_with fail
  refine hth.mono ?_
  rintro e w1 ⟨rfl, hb⟩
  have H1 := Aside0.mk (And.intro (bel2 ZB.out.1 hb) (And.intro (ZB.out.2.1.below hb) (ZB.out.2.2.below hb)))
  clear hb hth ZB
  have k0 := H1.out.2.1.cell 0 _ rfl
  have k1 := H1.out.2.1.cell 1 _ rfl
  have k2 := H1.out.2.1.cell 2 _ rfl
  have k3 := H1.out.2.1.cell 3 _ rfl
  have k4 := H1.out.2.1.cell 4 _ rfl
  have k5 := H1.out.2.1.cell 5 _ rfl
  have k6 := H1.out.2.1.cell 6 _ rfl
  have k7 := H1.out.2.1.cell 7 _ rfl
  have k8 := H1.out.2.1.cell 8 _ rfl
  have k9 := H1.out.2.1.cell 9 _ rfl
  have k10 := H1.out.2.1.cell 10 _ rfl
  have t0 := H1.out.2.2.cell 0 _ rfl
  have t1 := H1.out.2.2.cell 1 _ rfl
  go_wp2
  refine start_ (n := 12) (S := fun w' => w'.cell? ⟨w.heap.size, 0, none⟩ = some (.int .i64 x.f0) ∧ w'.cell? ⟨w.heap.size, 1, none⟩ = some (.int .i64 x.f1) ∧ w'.cell? ⟨w.heap.size, 2, none⟩ = some (.int .i64 x.f2) ∧ w'.cell? ⟨w.heap.size, 3, none⟩ = some (.int .i64 x.f3) ∧ w'.cell? ⟨w.heap.size, 4, none⟩ = some (.int .i64 x.f4) ∧ w'.cell? ⟨w.heap.size, 5, none⟩ = some (.slice A5 x.f5.length c5) ∧ w'.cell? ⟨w.heap.size, 6, none⟩ = some (.slice A6 x.f6.length c6) ∧ w'.cell? ⟨w.heap.size, 7, none⟩ = some (.int .i64 x.f7.f0) ∧ w'.cell? ⟨w.heap.size, 8, none⟩ = some (.int .i64 x.f7.f1) ∧ w'.cell? ⟨w.heap.size, 9, none⟩ = some (.slice A9 x.f8.length c9) ∧ w'.cell? ⟨w.heap.size, 10, none⟩ = some (.slice A10 x.f9.length c10) ∧ w'.cell? ⟨w.heap.size + 1, 0, none⟩ = some (.int .i64 t.f0) ∧ w'.cell? ⟨w.heap.size + 1, 1, none⟩ = some (.slice T1 t.f1.length d1)) (ds := []) #[false, false, false, false, false, false, false, false, false, false, false, false] (by kernel_rfl) rfl rfl ⟨k0, k1, k2, k3, k4, k5, k6, k7, k8, k9, k10, t0, t1⟩ (fun hHeld => ?_)
  refine take_ (i := 0) (N := some 22) (v := ?_) (a' := ?_) #[true, false, false, false, false, false, false, false, false, false, false, false] rfl rfl (by kernel_rfl) (fun _ _ _ h => h) (Or.inl ⟨by rfl, ?_⟩) hHeld ?_ ?_
  rotate_left
  · rintro w' ⟨s0, s1, s2, s3, s4, s5, s6, s7, s8, s9, s10, s11, s12⟩
    go_simp
    with_reducible rfl
  rotate_left
  · simp only [Act.put, List.setIfInBounds_toArray, List.set_cons_zero, List.set_cons_succ, i64_w, i32_w]
    rfl
  refine take_ (i := 2) (N := some 24) (v := ?_) (a' := ?_) #[true, false, true, false, false, false, false, false, false, false, false, false] rfl rfl (by kernel_rfl) (fun _ _ _ h => h) (Or.inl ⟨by rfl, ?_⟩) hHeld ?_ ?_
  rotate_left
  · rintro w' ⟨s0, s1, s2, s3, s4, s5, s6, s7, s8, s9, s10, s11, s12⟩
    go_simp
    with_reducible rfl
  rotate_left
  · simp only [Act.put, List.setIfInBounds_toArray, List.set_cons_zero, List.set_cons_succ, i64_w, i32_w]
    rfl
  refine one_ (i := 1) (N := some 23) #[true, true, true, false, false, false, false, false, false, false, false, false] rfl rfl (by kernel_rfl) (by decide) (fun K hK => ?_)
  refine goes_ Try.func22 (by kernel_rfl) rfl #[.agg #[.int .i64 x.f0, .int .i64 x.f1, .int .i64 x.f2, .int .i64 x.f3, .int .i64 x.f4, .slice A5 x.f5.length c5, .slice A6 x.f6.length c6, .int .i64 x.f7.f0, .int .i64 x.f7.f1, .slice A9 x.f8.length c9, .slice A10 x.f9.length c10]] (by rfl) rfl rfl (by simp only [List.map_toArray, List.map_cons, List.map_nil]; rfl) ?_
  with_reducible refine (HCP.out _ (below_drew H1.out.1)).mono ?_
  rintro e w3 ⟨d3, rfl, hb3, hk3⟩
  refine ⟨_, rfl, ?_⟩
  refine hK.out _ _ ⟨pw_cell_below hb3 (hHeld.1), pw_cell_below hb3 (hHeld.2.1), pw_cell_below hb3 (hHeld.2.2.1), pw_cell_below hb3 (hHeld.2.2.2.1), pw_cell_below hb3 (hHeld.2.2.2.2.1), pw_cell_below hb3 (hHeld.2.2.2.2.2.1), pw_cell_below hb3 (hHeld.2.2.2.2.2.2.1), pw_cell_below hb3 (hHeld.2.2.2.2.2.2.2.1), pw_cell_below hb3 (hHeld.2.2.2.2.2.2.2.2.1), pw_cell_below hb3 (hHeld.2.2.2.2.2.2.2.2.2.1), pw_cell_below hb3 (hHeld.2.2.2.2.2.2.2.2.2.2.1), pw_cell_below hb3 (hHeld.2.2.2.2.2.2.2.2.2.2.2.1), pw_cell_below hb3 (hHeld.2.2.2.2.2.2.2.2.2.2.2.2)⟩ (fun hHeld => ?_)
  clear hK K
  refine norm_ (a' := ?_) ?_ ?_
  rotate_left
  · show Act.put _ (some 23) _ = _
    simp only [Act.put, List.setIfInBounds_toArray, List.set_cons_zero, List.set_cons_succ, i64_w, i32_w]
    rfl
  refine one_ (i := 3) (N := some 25) #[true, true, true, true, false, false, false, false, false, false, false, false] rfl rfl (by kernel_rfl) (by decide) (fun K hK => ?_)
  refine goes_ Try.func48 (by kernel_rfl) rfl #[.agg #[.int .i64 t.f0, .slice T1 t.f1.length d1]] (by rfl) rfl rfl (by simp only [List.map_toArray, List.map_cons, List.map_nil]; rfl) ?_
  with_reducible refine (HTR.out _ (bel2 (below_drew H1.out.1) hb3)).mono ?_
  rintro e w4 ⟨d4, rfl, hb4, hk4⟩
  refine ⟨_, rfl, ?_⟩
  refine hK.out _ _ ⟨pw_cell_below hb4 (hHeld.1), pw_cell_below hb4 (hHeld.2.1), pw_cell_below hb4 (hHeld.2.2.1), pw_cell_below hb4 (hHeld.2.2.2.1), pw_cell_below hb4 (hHeld.2.2.2.2.1), pw_cell_below hb4 (hHeld.2.2.2.2.2.1), pw_cell_below hb4 (hHeld.2.2.2.2.2.2.1), pw_cell_below hb4 (hHeld.2.2.2.2.2.2.2.1), pw_cell_below hb4 (hHeld.2.2.2.2.2.2.2.2.1), pw_cell_below hb4 (hHeld.2.2.2.2.2.2.2.2.2.1), pw_cell_below hb4 (hHeld.2.2.2.2.2.2.2.2.2.2.1), pw_cell_below hb4 (hHeld.2.2.2.2.2.2.2.2.2.2.2.1), pw_cell_below hb4 (hHeld.2.2.2.2.2.2.2.2.2.2.2.2)⟩ (fun hHeld => ?_)
  clear hK K
  refine norm_ (a' := ?_) ?_ ?_
  rotate_left
  · show Act.put _ (some 25) _ = _
    simp only [Act.put, List.setIfInBounds_toArray, List.set_cons_zero, List.set_cons_succ, i64_w, i32_w]
    rfl
  refine one_ (i := 4) (N := some 26) #[true, true, true, true, true, false, false, false, false, false, false, false] rfl rfl (by kernel_rfl) (by decide) (fun K hK => ?_)
  refine goes_ Try.func47 (by kernel_rfl) rfl #[.agg d3.toArray, .agg d4.toArray] (by rfl) rfl rfl (by simp only [List.map_toArray, List.map_cons, List.map_nil]; rfl) ?_
  with_reducible refine (HPL.out _ d3 d4 (k38.K_below hb4 hk3) hk4).mono ?_
  rintro e w5 ⟨Aa, aa, Ab, ab, rfl, hca, hcb, hb5⟩
  refine ⟨_, rfl, ?_⟩
  refine hK.out _ _ ⟨pw_cell_below hb5 (hHeld.1), pw_cell_below hb5 (hHeld.2.1), pw_cell_below hb5 (hHeld.2.2.1), pw_cell_below hb5 (hHeld.2.2.2.1), pw_cell_below hb5 (hHeld.2.2.2.2.1), pw_cell_below hb5 (hHeld.2.2.2.2.2.1), pw_cell_below hb5 (hHeld.2.2.2.2.2.2.1), pw_cell_below hb5 (hHeld.2.2.2.2.2.2.2.1), pw_cell_below hb5 (hHeld.2.2.2.2.2.2.2.2.1), pw_cell_below hb5 (hHeld.2.2.2.2.2.2.2.2.2.1), pw_cell_below hb5 (hHeld.2.2.2.2.2.2.2.2.2.2.1), pw_cell_below hb5 (hHeld.2.2.2.2.2.2.2.2.2.2.2.1), pw_cell_below hb5 (hHeld.2.2.2.2.2.2.2.2.2.2.2.2)⟩ (fun hHeld => ?_)
  clear hK K
  refine norm_ (a' := ?_) ?_ ?_
  rotate_left
  · show Act.put _ (some 26) _ = _
    simp only [Act.put, List.setIfInBounds_toArray, List.set_cons_zero, List.set_cons_succ, i64_w, i32_w]
    rfl
  refine pure_ (i := 5) (N := some 21) (v := ?_) (a' := ?_) #[true, true, true, true, true, true, false, false, false, false, false, false] rfl rfl (by kernel_rfl) (fun _ _ _ h => h) (Or.inl ⟨by rfl, ?_⟩) ?_ ?_
  rotate_left
  · intro w'
    go_simp
    with_reducible rfl
  rotate_left
  · simp only [Act.put, List.setIfInBounds_toArray, List.set_cons_zero, List.set_cons_succ, i64_w, i32_w]
    rfl
  refine pure_ (i := 6) (N := some 27) (v := ?_) (a' := ?_) #[true, true, true, true, true, true, true, false, false, false, false, false] rfl rfl (by kernel_rfl) (fun _ _ _ h => h) (Or.inl ⟨by rfl, ?_⟩) ?_ ?_
  rotate_left
  · intro w'
    go_simp
    with_reducible rfl
  rotate_left
  · simp only [Act.put, List.setIfInBounds_toArray, List.set_cons_zero, List.set_cons_succ, i64_w, i32_w]
    rfl
  refine pure_ (i := 7) (N := some 28) (v := ?_) (a' := ?_) #[true, true, true, true, true, true, true, true, false, false, false, false] rfl rfl (by kernel_rfl) (fun _ _ _ h => h) (Or.inl ⟨by rfl, ?_⟩) ?_ ?_
  rotate_left
  · intro w'
    go_simp
    with_reducible rfl
  rotate_left
  · simp only [Act.put, List.setIfInBounds_toArray, List.set_cons_zero, List.set_cons_succ, i64_w, i32_w]
    rfl
  refine pure_ (i := 8) (N := some 29) (v := ?_) (a' := ?_) #[true, true, true, true, true, true, true, true, true, false, false, false] rfl rfl (by kernel_rfl) (fun _ _ _ h => h) (Or.inl ⟨by rfl, ?_⟩) ?_ ?_
  rotate_left
  · intro w'
    go_simp
    with_reducible rfl
  rotate_left
  · simp only [Act.put, List.setIfInBounds_toArray, List.set_cons_zero, List.set_cons_succ, i64_w, i32_w]
    rfl
  refine pure_ (i := 9) (N := some 5) (v := ?_) (a' := ?_) #[true, true, true, true, true, true, true, true, true, true, false, false] rfl rfl (by kernel_rfl) (fun _ _ _ h => h) (Or.inl ⟨by rfl, ?_⟩) ?_ ?_
  rotate_left
  · intro w'
    go_simp
    with_reducible rfl
  rotate_left
  · simp only [Act.put, List.setIfInBounds_toArray, List.set_cons_zero, List.set_cons_succ, i64_w, i32_w]
    rfl
  refine pure_ (i := 10) (N := some 6) (v := ?_) (a' := ?_) #[true, true, true, true, true, true, true, true, true, true, true, false] rfl rfl (by kernel_rfl) (fun _ _ _ h => h) (Or.inl ⟨by rfl, ?_⟩) ?_ ?_
  rotate_left
  · intro w'
    go_simp
    with_reducible rfl
  rotate_left
  · simp only [Act.put, List.setIfInBounds_toArray, List.set_cons_zero, List.set_cons_succ, i64_w, i32_w]
    rfl
  refine pure_ (i := 11) (N := some 7) (v := ?_) (a' := ?_) #[true, true, true, true, true, true, true, true, true, true, true, true] rfl rfl (by kernel_rfl) (fun _ _ _ h => h) (Or.inl ⟨by rfl, ?_⟩) ?_ ?_
  rotate_left
  · intro w'
    go_simp
    with_reducible rfl
  rotate_left
  · simp only [Act.put, List.setIfInBounds_toArray, List.set_cons_zero, List.set_cons_succ, i64_w, i32_w]
    rfl
  refine done_ (by kernel_rfl) ?_
  have H2 := Aside0.mk (PlSt.mk (w := w) (B := #[.int .i64 x.f0, .int .i64 x.f1, .int .i64 x.f2, .int .i64 x.f3, .int .i64 x.f4, .slice A5 x.f5.length c5, .slice A6 x.f6.length c6, .int .i64 x.f7.f0, .int .i64 x.f7.f1, .slice A9 x.f8.length c9, .slice A10 x.f9.length c10]) (T := #[.int .i64 t.f0, .slice T1 t.f1.length d1]) (bel2 (bel2 (bel2 (below_drew H1.out.1) hb3) hb4) hb5) (((H1.out.2.1.drew.below hb3).below hb4).below hb5) (((H1.out.2.2.drew.below hb3).below hb4).below hb5) hca hcb)
  clear hHeld hb3 hb4 hb5 hk3 hk4 hca hcb k0 k1 k2 k3 k4 k5 k6 k7 k8 k9 k10 t0 t1
  have k0 := H2.out.box.cell 0 _ rfl
  have k1 := H2.out.box.cell 1 _ rfl
  have k2 := H2.out.box.cell 2 _ rfl
  have k3 := H2.out.box.cell 3 _ rfl
  have k4 := H2.out.box.cell 4 _ rfl
  have k5 := H2.out.box.cell 5 _ rfl
  have k6 := H2.out.box.cell 6 _ rfl
  have k7 := H2.out.box.cell 7 _ rfl
  have k8 := H2.out.box.cell 8 _ rfl
  have k9 := H2.out.box.cell 9 _ rfl
  have k10 := H2.out.box.cell 10 _ rfl
  have t0 := H2.out.tb.cell 0 _ rfl
  have t1 := H2.out.tb.cell 1 _ rfl
  go_wp2
  refine start_ (n := 6) (S := fun w' => w'.cell? ⟨w.heap.size, 0, none⟩ = some (.int .i64 x.f0) ∧ w'.cell? ⟨w.heap.size, 1, none⟩ = some (.int .i64 x.f1) ∧ w'.cell? ⟨w.heap.size, 2, none⟩ = some (.int .i64 x.f2) ∧ w'.cell? ⟨w.heap.size, 3, none⟩ = some (.int .i64 x.f3) ∧ w'.cell? ⟨w.heap.size, 4, none⟩ = some (.int .i64 x.f4) ∧ w'.cell? ⟨w.heap.size, 5, none⟩ = some (.slice A5 x.f5.length c5) ∧ w'.cell? ⟨w.heap.size, 6, none⟩ = some (.slice A6 x.f6.length c6) ∧ w'.cell? ⟨w.heap.size, 7, none⟩ = some (.int .i64 x.f7.f0) ∧ w'.cell? ⟨w.heap.size, 8, none⟩ = some (.int .i64 x.f7.f1) ∧ w'.cell? ⟨w.heap.size, 9, none⟩ = some (.slice A9 x.f8.length c9) ∧ w'.cell? ⟨w.heap.size, 10, none⟩ = some (.slice A10 x.f9.length c10) ∧ w'.cell? ⟨w.heap.size + 1, 0, none⟩ = some (.int .i64 t.f0) ∧ w'.cell? ⟨w.heap.size + 1, 1, none⟩ = some (.slice T1 t.f1.length d1)) (ds := []) #[false, false, false, false, false, false] (by kernel_rfl) rfl rfl ⟨k0, k1, k2, k3, k4, k5, k6, k7, k8, k9, k10, t0, t1⟩ (fun hHeld => ?_)
  refine take_ (i := 0) (N := some 30) (v := ?_) (a' := ?_) #[true, false, false, false, false, false] rfl rfl (by kernel_rfl) (fun _ _ _ h => h) (Or.inl ⟨by rfl, ?_⟩) hHeld ?_ ?_
  rotate_left
  · rintro w' ⟨s0, s1, s2, s3, s4, s5, s6, s7, s8, s9, s10, s11, s12⟩
    go_simp
    with_reducible rfl
  rotate_left
  · simp only [Act.put, List.setIfInBounds_toArray, List.set_cons_zero, List.set_cons_succ, i64_w, i32_w]
    rfl
  refine take_ (i := 2) (N := some 32) (v := ?_) (a' := ?_) #[true, false, true, false, false, false] rfl rfl (by kernel_rfl) (fun _ _ _ h => h) (Or.inl ⟨by rfl, ?_⟩) hHeld ?_ ?_
  rotate_left
  · rintro w' ⟨s0, s1, s2, s3, s4, s5, s6, s7, s8, s9, s10, s11, s12⟩
    go_simp
    with_reducible rfl
  rotate_left
  · simp only [Act.put, List.setIfInBounds_toArray, List.set_cons_zero, List.set_cons_succ, i64_w, i32_w]
    rfl
  refine one_ (i := 1) (N := some 31) #[true, true, true, false, false, false] rfl rfl (by kernel_rfl) (by decide) (fun K hK => ?_)
  refine goes_ Try.func22 (by kernel_rfl) rfl #[.agg #[.int .i64 x.f0, .int .i64 x.f1, .int .i64 x.f2, .int .i64 x.f3, .int .i64 x.f4, .slice A5 x.f5.length c5, .slice A6 x.f6.length c6, .int .i64 x.f7.f0, .int .i64 x.f7.f1, .slice A9 x.f8.length c9, .slice A10 x.f9.length c10]] (by rfl) rfl rfl (by simp only [List.map_toArray, List.map_cons, List.map_nil]; rfl) ?_
  with_reducible refine (HCP.out _ (below_drew H2.out.bel)).mono ?_
  rintro e v3 ⟨e3, rfl, hq3, hl3⟩
  refine ⟨_, rfl, ?_⟩
  refine hK.out _ _ ⟨pw_cell_below hq3 (hHeld.1), pw_cell_below hq3 (hHeld.2.1), pw_cell_below hq3 (hHeld.2.2.1), pw_cell_below hq3 (hHeld.2.2.2.1), pw_cell_below hq3 (hHeld.2.2.2.2.1), pw_cell_below hq3 (hHeld.2.2.2.2.2.1), pw_cell_below hq3 (hHeld.2.2.2.2.2.2.1), pw_cell_below hq3 (hHeld.2.2.2.2.2.2.2.1), pw_cell_below hq3 (hHeld.2.2.2.2.2.2.2.2.1), pw_cell_below hq3 (hHeld.2.2.2.2.2.2.2.2.2.1), pw_cell_below hq3 (hHeld.2.2.2.2.2.2.2.2.2.2.1), pw_cell_below hq3 (hHeld.2.2.2.2.2.2.2.2.2.2.2.1), pw_cell_below hq3 (hHeld.2.2.2.2.2.2.2.2.2.2.2.2)⟩ (fun hHeld => ?_)
  clear hK K
  refine norm_ (a' := ?_) ?_ ?_
  rotate_left
  · show Act.put _ (some 31) _ = _
    simp only [Act.put, List.setIfInBounds_toArray, List.set_cons_zero, List.set_cons_succ, i64_w, i32_w]
    rfl
  refine one_ (i := 3) (N := some 33) #[true, true, true, true, false, false] rfl rfl (by kernel_rfl) (by decide) (fun K hK => ?_)
  refine goes_ Try.func48 (by kernel_rfl) rfl #[.agg #[.int .i64 t.f0, .slice T1 t.f1.length d1]] (by rfl) rfl rfl (by simp only [List.map_toArray, List.map_cons, List.map_nil]; rfl) ?_
  with_reducible refine (HTR.out _ (bel2 (below_drew H2.out.bel) hq3)).mono ?_
  rintro e v4 ⟨e4, rfl, hq4, hl4⟩
  refine ⟨_, rfl, ?_⟩
  refine hK.out _ _ ⟨pw_cell_below hq4 (hHeld.1), pw_cell_below hq4 (hHeld.2.1), pw_cell_below hq4 (hHeld.2.2.1), pw_cell_below hq4 (hHeld.2.2.2.1), pw_cell_below hq4 (hHeld.2.2.2.2.1), pw_cell_below hq4 (hHeld.2.2.2.2.2.1), pw_cell_below hq4 (hHeld.2.2.2.2.2.2.1), pw_cell_below hq4 (hHeld.2.2.2.2.2.2.2.1), pw_cell_below hq4 (hHeld.2.2.2.2.2.2.2.2.1), pw_cell_below hq4 (hHeld.2.2.2.2.2.2.2.2.2.1), pw_cell_below hq4 (hHeld.2.2.2.2.2.2.2.2.2.2.1), pw_cell_below hq4 (hHeld.2.2.2.2.2.2.2.2.2.2.2.1), pw_cell_below hq4 (hHeld.2.2.2.2.2.2.2.2.2.2.2.2)⟩ (fun hHeld => ?_)
  clear hK K
  refine norm_ (a' := ?_) ?_ ?_
  rotate_left
  · show Act.put _ (some 33) _ = _
    simp only [Act.put, List.setIfInBounds_toArray, List.set_cons_zero, List.set_cons_succ, i64_w, i32_w]
    rfl
  refine one_ (i := 4) (N := some 34) #[true, true, true, true, true, false] rfl rfl (by kernel_rfl) (by decide) (fun K hK => ?_)
  refine goes_ Try.func57 (by kernel_rfl) rfl #[.agg e3.toArray, .agg e4.toArray] (by rfl) rfl rfl (by simp only [List.map_toArray, List.map_cons, List.map_nil]; rfl) ?_
  with_reducible refine (HPR.out _ e3 e4 (k38.K_below hq4 hl3) hl4).mono ?_
  rintro e v5 ⟨rfl, hq5⟩
  refine ⟨_, rfl, ?_⟩
  refine hK.out _ _ ⟨pw_cell_below hq5 (hHeld.1), pw_cell_below hq5 (hHeld.2.1), pw_cell_below hq5 (hHeld.2.2.1), pw_cell_below hq5 (hHeld.2.2.2.1), pw_cell_below hq5 (hHeld.2.2.2.2.1), pw_cell_below hq5 (hHeld.2.2.2.2.2.1), pw_cell_below hq5 (hHeld.2.2.2.2.2.2.1), pw_cell_below hq5 (hHeld.2.2.2.2.2.2.2.1), pw_cell_below hq5 (hHeld.2.2.2.2.2.2.2.2.1), pw_cell_below hq5 (hHeld.2.2.2.2.2.2.2.2.2.1), pw_cell_below hq5 (hHeld.2.2.2.2.2.2.2.2.2.2.1), pw_cell_below hq5 (hHeld.2.2.2.2.2.2.2.2.2.2.2.1), pw_cell_below hq5 (hHeld.2.2.2.2.2.2.2.2.2.2.2.2)⟩ (fun hHeld => ?_)
  clear hK K
  refine norm_ (a' := ?_) ?_ ?_
  rotate_left
  · show Act.put _ (some 34) _ = _
    simp only [Act.put, List.setIfInBounds_toArray, List.set_cons_zero, List.set_cons_succ, i64_w, i32_w]
    rfl
  refine pure_ (i := 5) (N := some 8) (v := ?_) (a' := ?_) #[true, true, true, true, true, true] rfl rfl (by kernel_rfl) (fun _ _ _ h => h) (Or.inl ⟨by rfl, ?_⟩) ?_ ?_
  rotate_left
  · intro w'
    go_simp
    with_reducible rfl
  rotate_left
  · simp only [Act.put, List.setIfInBounds_toArray, List.set_cons_zero, List.set_cons_succ, i64_w, i32_w]
    rfl
  refine done_ (by kernel_rfl) ?_
  have H3 := Aside0.mk (H2.out.step (bel2 (bel2 (bel2 (below_drew (Below.refl _ _)) hq3) hq4) hq5))
  clear hHeld hq3 hq4 hq5 hl3 hl4 k0 k1 k2 k3 k4 k5 k6 k7 k8 k9 k10 t0 t1
  have k0 := H3.out.box.cell 0 _ rfl
  have k1 := H3.out.box.cell 1 _ rfl
  have k2 := H3.out.box.cell 2 _ rfl
  have k3 := H3.out.box.cell 3 _ rfl
  have k4 := H3.out.box.cell 4 _ rfl
  have k5 := H3.out.box.cell 5 _ rfl
  have k6 := H3.out.box.cell 6 _ rfl
  have k7 := H3.out.box.cell 7 _ rfl
  have k8 := H3.out.box.cell 8 _ rfl
  have k9 := H3.out.box.cell 9 _ rfl
  have k10 := H3.out.box.cell 10 _ rfl
  have t0 := H3.out.tb.cell 0 _ rfl
  have t1 := H3.out.tb.cell 1 _ rfl
  go_wp2_with fail
  refine (HFA.out _ H3.out.bel).mono ?_
  rintro e w9 ⟨rfl, hb⟩
  have H4 := Aside0.mk (H3.out.step hb)
  clear hb k0 k1 k2 k3 k4 k5 k6 k7 k8 k9 k10 t0 t1
  have k0 := H4.out.box.cell 0 _ rfl
  have k1 := H4.out.box.cell 1 _ rfl
  have k2 := H4.out.box.cell 2 _ rfl
  have k3 := H4.out.box.cell 3 _ rfl
  have k4 := H4.out.box.cell 4 _ rfl
  have k5 := H4.out.box.cell 5 _ rfl
  have k6 := H4.out.box.cell 6 _ rfl
  have k7 := H4.out.box.cell 7 _ rfl
  have k8 := H4.out.box.cell 8 _ rfl
  have k9 := H4.out.box.cell 9 _ rfl
  have k10 := H4.out.box.cell 10 _ rfl
  have t0 := H4.out.tb.cell 0 _ rfl
  have t1 := H4.out.tb.cell 1 _ rfl
  go_wp2_with fail
  refine (HCP.out _ H4.out.bel).mono ?_
  rintro e w10 ⟨ds, rfl, hb, hkd⟩
  have H5 := Aside0.mk (H4.out.step hb)
  clear hb k0 k1 k2 k3 k4 k5 k6 k7 k8 k9 k10 t0 t1
  go_wp2_with fail
  refine (HCK2.out _ ds hkd).mono ?_
  rintro e w11 ⟨rfl, hb⟩
  have H6 := Aside0.mk (H5.out.step hb)
  clear hb hkd
  have k0 := H6.out.box.cell 0 _ rfl
  have k1 := H6.out.box.cell 1 _ rfl
  have k2 := H6.out.box.cell 2 _ rfl
  have k3 := H6.out.box.cell 3 _ rfl
  have k4 := H6.out.box.cell 4 _ rfl
  have k5 := H6.out.box.cell 5 _ rfl
  have k6 := H6.out.box.cell 6 _ rfl
  have k7 := H6.out.box.cell 7 _ rfl
  have k8 := H6.out.box.cell 8 _ rfl
  have k9 := H6.out.box.cell 9 _ rfl
  have k10 := H6.out.box.cell 10 _ rfl
  have t0 := H6.out.tb.cell 0 _ rfl
  have t1 := H6.out.tb.cell 1 _ rfl
  by_cases hz : ec = 0
  · have HV := Aside0.mk ((valid_iff x).1 (HEQ.out.2.2.2.2.trans hz))
    have hpb2 : (isScB x t && rightB x (toSc t) []) = pb := by rw [← HEQ.out.2.2.2.1]; unfold proveF; rw [HEQ.out.2.2.2.2, hz]; rfl
    have hrt := rTruth_calls (k38.K_below H6.out.bel HX.out.1) (k75.K_below H6.out.bel HX.out.2) HV.out
    rw [hpb2] at hrt
    have hpl : playF x t = if isScB x t = true then (hots x (toSc t) x.f5 x.f6 (x.f0 + 1).toNat, lefts x (toSc t) x.f5 x.f6 (x.f0 + 1).toNat, 0) else ([], [], 2) := by unfold playF; rw [if_pos (HEQ.out.2.2.2.2.trans hz)]
    have HPF := Lib.hid hpl
    subst hz
    clear hpb2 hpl
    go_wp2_with fail
    refine hrt.mono ?_
    rintro e w12 ⟨rfl, hb⟩
    have H7 := Aside0.mk (H6.out.step hb)
    clear hb hrt k0 k1 k2 k3 k4 k5 k6 k7 k8 k9 k10 t0 t1
    have k0 := H7.out.box.cell 0 _ rfl
    have k1 := H7.out.box.cell 1 _ rfl
    have k2 := H7.out.box.cell 2 _ rfl
    have k3 := H7.out.box.cell 3 _ rfl
    have k4 := H7.out.box.cell 4 _ rfl
    have k5 := H7.out.box.cell 5 _ rfl
    have k6 := H7.out.box.cell 6 _ rfl
    have k7 := H7.out.box.cell 7 _ rfl
    have k8 := H7.out.box.cell 8 _ rfl
    have k9 := H7.out.box.cell 9 _ rfl
    have k10 := H7.out.box.cell 10 _ rfl
    have t0 := H7.out.tb.cell 0 _ rfl
    have t1 := H7.out.tb.cell 1 _ rfl
    have hrl := rListed_calls (k38.K_below H7.out.bel HX.out.1) (k75.K_below H7.out.bel HX.out.2) HV.out
    cases hq : isScB x t with
    | false =>
      rw [hq] at hrl
      have h1 : playF x t = ([], [], 2) := by rw [HPF.out, hq]; rfl
      obtain rfl : la = [] := by rw [← HEQ.out.1, h1]
      obtain rfl : lb = [] := by rw [← HEQ.out.2.1, h1]
      obtain rfl : pe = 2 := by rw [← HEQ.out.2.2.1, h1]
      clear h1 hq
      have hl0 : (([] : List Int).length : Int) = 0 := rfl
      go_wp2_with fail
      refine hrl.mono ?_
      rintro e w13 ⟨rfl, hb⟩
      have H8 := Aside0.mk (H7.out.step hb)
      clear hb hrl k0 k1 k2 k3 k4 k5 k6 k7 k8 k9 k10 t0 t1
      go_wp2_with fail
      refine (awake_calls _).mono ?_
      rintro e w14 ⟨rfl, hb⟩
      have H9 := Aside0.mk (bel2 H8.out.bel hb)
      clear hb
      go_wp2
      go_ret
      exact ⟨rfl, H9.out⟩
    | true =>
      rw [hq] at hrl
      have h1 : playF x t = (hots x (toSc t) x.f5 x.f6 (x.f0 + 1).toNat, lefts x (toSc t) x.f5 x.f6 (x.f0 + 1).toNat, 0) := by rw [HPF.out, hq]; rfl
      have hS := Aside0.mk ((isScB_in HV.out hq).ok HV.out)
      have htn : (t.f1.length : Int) = x.f0 + 1 := by
        unfold isScB at hq
        simp only [Bool.and_eq_true, beq_iff_eq] at hq
        exact hq.1.2
      have HTN := Lib.hid htn
      have e1 : la = hots x (toSc t) x.f5 x.f6 (x.f0 + 1).toNat := by rw [← HEQ.out.1, h1]
      have e2 : lb = lefts x (toSc t) x.f5 x.f6 (x.f0 + 1).toNat := by rw [← HEQ.out.2.1, h1]
      obtain rfl : pe = 0 := by rw [← HEQ.out.2.2.1, h1]
      have hn1 : la.length = (x.f0 + 1).toNat := by rw [e1, hots_len]
      have hn2 : lb.length = (x.f0 + 1).toNat := by rw [e2, lefts_len]
      have hl0 := HV.out.last0
      have hl1 := HV.out.last1
      have hz1 : x.f0 + 1 = (la.length : Int) := by omega
      have hz2 : (lb.length : Int) = (la.length : Int) := by omega
      have HG := Aside0.mk (show ∀ k (hk : k < la.length) (hk2 : k < lb.length), la[k] = hotAt x (toSc t) x.f5 x.f6 k ∧ lb[k] = heatAt x (toSc t) x.f5 x.f6 (k + 1) from fun k hk hk2 => by
        subst e1
        subst e2
        exact ⟨by simp [hots], by simp [lefts]⟩)
      have HNN := Lib.hid (And.intro hn1 hn2)
      clear h1 hq htn e1 e2 hn1 hn2
      go_wp2_with fail
      refine hrl.mono ?_
      rintro e w13 ⟨rfl, hb⟩
      have H8 := Aside0.mk (H7.out.step hb)
      clear hb hrl k0 k1 k2 k3 k4 k5 k6 k7 k8 k9 k10 t0 t1
      have k0 := H8.out.box.cell 0 _ rfl
      go_wp2
      clear hz1 hz2
      go_loopw [10] (fun s10 wr => ∃ k : Nat, k ≤ la.length ∧ s10 = .int .i64 k ∧ Aside0 (PlSt w #[.int .i64 x.f0, .int .i64 x.f1, .int .i64 x.f2, .int .i64 x.f3, .int .i64 x.f4, .slice A5 x.f5.length c5, .slice A6 x.f6.length c6, .int .i64 x.f7.f0, .int .i64 x.f7.f1, .slice A9 x.f8.length c9, .slice A10 x.f9.length c10] #[.int .i64 t.f0, .slice T1 t.f1.length d1] Aa Ab la lb wr)) (fun s10 _ => la.length - (intOf s10).toNat)
      case atStart => exact ⟨0, Nat.zero_le _, rfl, H8⟩
      case round =>
        obtain ⟨k, hk, rfl, HW⟩ := hrel
        by_cases hlt : k < la.length
        · have hlt2 : k < lb.length := by have := HNN.out; omega
          have hkz : (k : Int) < (la.length : Int) := by omega
          have hkz2 : (k : Int) < (lb.length : Int) := by omega
          have hkf : (k : Int) ≤ x.f0 := by have := HNN.out; omega
          obtain ⟨qa, hqa, qva⟩ := row_at_int HW.out.ca k hlt
          obtain ⟨qb, hqb, qvb⟩ := row_at_int HW.out.cb k hlt2
          subst hqa
          subst hqb
          have hg := HG.out k hlt hlt2
          have hargs := fun W (hW : Below w.heap.size w W) => (⟨k38.K_below hW HX.out.1, k75.K_below hW HX.out.2, (by
            obtain ⟨_, _, _, _, _, _, _, _, he, _, g5, _⟩ := k38_open (k38.K_below hW HX.out.1)
            simp only [List.cons.injEq, Value.slice.injEq, true_and, and_true] at he
            obtain ⟨⟨rfl, rfl⟩, _⟩ := he
            exact g5), (by
            obtain ⟨_, _, _, _, _, _, _, _, he, _, _, _, g6, _⟩ := k38_open (k38.K_below hW HX.out.1)
            simp only [List.cons.injEq, Value.slice.injEq, true_and, and_true] at he
            obtain ⟨_, ⟨rfl, rfl⟩, _⟩ := he
            exact g6), HV.out.play0 hS.out, HTN.out⟩ : HArgs x _ t _ A5 A6 c5 c6 x.f5 x.f6 W)
          have hhot := fun W hW => hot_calls k hkf (hargs W hW)
          have hleft := fun W hW => (heat_left k hkf W (hargs W hW)).2
          unfold HeatC at hhot hleft
          rw [← hg.1] at hhot
          rw [← hg.2] at hleft
          have HHOT := Aside0.mk hhot
          have HLEFT := Aside0.mk hleft
          clear hg hargs hhot hleft
          generalize la[k] = va at *
          generalize lb[k] = vb at *
          have k0 := HW.out.box.cell 0 _ rfl
          have k1 := HW.out.box.cell 1 _ rfl
          have k2 := HW.out.box.cell 2 _ rfl
          have k3 := HW.out.box.cell 3 _ rfl
          have k4 := HW.out.box.cell 4 _ rfl
          have k5 := HW.out.box.cell 5 _ rfl
          have k6 := HW.out.box.cell 6 _ rfl
          have k7 := HW.out.box.cell 7 _ rfl
          have k8 := HW.out.box.cell 8 _ rfl
          have k9 := HW.out.box.cell 9 _ rfl
          have k10 := HW.out.box.cell 10 _ rfl
          have t0 := HW.out.tb.cell 0 _ rfl
          have t1 := HW.out.tb.cell 1 _ rfl
          go_wp2
          refine start_ (n := 28) (S := fun w' => w'.cell? ⟨w.heap.size, 0, none⟩ = some (.int .i64 x.f0) ∧ w'.cell? ⟨w.heap.size, 1, none⟩ = some (.int .i64 x.f1) ∧ w'.cell? ⟨w.heap.size, 2, none⟩ = some (.int .i64 x.f2) ∧ w'.cell? ⟨w.heap.size, 3, none⟩ = some (.int .i64 x.f3) ∧ w'.cell? ⟨w.heap.size, 4, none⟩ = some (.int .i64 x.f4) ∧ w'.cell? ⟨w.heap.size, 5, none⟩ = some (.slice A5 x.f5.length c5) ∧ w'.cell? ⟨w.heap.size, 6, none⟩ = some (.slice A6 x.f6.length c6) ∧ w'.cell? ⟨w.heap.size, 7, none⟩ = some (.int .i64 x.f7.f0) ∧ w'.cell? ⟨w.heap.size, 8, none⟩ = some (.int .i64 x.f7.f1) ∧ w'.cell? ⟨w.heap.size, 9, none⟩ = some (.slice A9 x.f8.length c9) ∧ w'.cell? ⟨w.heap.size, 10, none⟩ = some (.slice A10 x.f9.length c10) ∧ w'.cell? ⟨w.heap.size + 1, 0, none⟩ = some (.int .i64 t.f0) ∧ w'.cell? ⟨w.heap.size + 1, 1, none⟩ = some (.slice T1 t.f1.length d1) ∧ w'.cell? (qa.add k) = some (.int .i64 va) ∧ w'.cell? (qb.add k) = some (.int .i64 vb)) (ds := []) #[false, false, false, false, false, false, false, false, false, false, false, false, false, false, false, false, false, false, false, false, false, false, false, false, false, false, false, false] (by kernel_rfl) rfl rfl ⟨k0, k1, k2, k3, k4, k5, k6, k7, k8, k9, k10, t0, t1, qva, qvb⟩ (fun hHeld => ?_)
          refine pure_ (i := 0) (N := some 100) (v := ?_) (a' := ?_) #[true, false, false, false, false, false, false, false, false, false, false, false, false, false, false, false, false, false, false, false, false, false, false, false, false, false, false, false] rfl rfl (by kernel_rfl) (fun _ _ _ h => h) (Or.inl ⟨by rfl, ?_⟩) ?_ ?_
          rotate_left
          · intro w'
            go_simp
            with_reducible rfl
          rotate_left
          · simp only [Act.put, List.setIfInBounds_toArray, List.set_cons_zero, List.set_cons_succ, i64_w, i32_w]
            rfl
          refine pure_ (i := 1) (N := some 101) (v := ?_) (a' := ?_) #[true, true, false, false, false, false, false, false, false, false, false, false, false, false, false, false, false, false, false, false, false, false, false, false, false, false, false, false] rfl rfl (by kernel_rfl) (fun _ _ _ h => h) (Or.inl ⟨by rfl, ?_⟩) ?_ ?_
          rotate_left
          · intro w'
            go_simp
            with_reducible rfl
          rotate_left
          · simp only [Act.put, List.setIfInBounds_toArray, List.set_cons_zero, List.set_cons_succ, i64_w, i32_w]
            rfl
          refine pure_ (i := 2) (N := some 102) (v := ?_) (a' := ?_) #[true, true, true, false, false, false, false, false, false, false, false, false, false, false, false, false, false, false, false, false, false, false, false, false, false, false, false, false] rfl rfl (by kernel_rfl) (fun _ _ _ h => h) (Or.inl ⟨by rfl, ?_⟩) ?_ ?_
          rotate_left
          · intro w'
            go_simp
            with_reducible rfl
          rotate_left
          · simp only [Act.put, List.setIfInBounds_toArray, List.set_cons_zero, List.set_cons_succ, i64_w, i32_w]
            rfl
          refine pure_ (i := 6) (N := some 106) (v := ?_) (a' := ?_) #[true, true, true, false, false, false, true, false, false, false, false, false, false, false, false, false, false, false, false, false, false, false, false, false, false, false, false, false] rfl rfl (by kernel_rfl) (fun _ _ _ h => h) (Or.inl ⟨by rfl, ?_⟩) ?_ ?_
          rotate_left
          · intro w'
            go_simp
            with_reducible rfl
          rotate_left
          · simp only [Act.put, List.setIfInBounds_toArray, List.set_cons_zero, List.set_cons_succ, i64_w, i32_w]
            rfl
          refine pure_ (i := 8) (N := some 108) (v := ?_) (a' := ?_) #[true, true, true, false, false, false, true, false, true, false, false, false, false, false, false, false, false, false, false, false, false, false, false, false, false, false, false, false] rfl rfl (by kernel_rfl) (fun _ _ _ h => h) (Or.inl ⟨by rfl, ?_⟩) ?_ ?_
          rotate_left
          · intro w'
            go_simp
            with_reducible rfl
          rotate_left
          · simp only [Act.put, List.setIfInBounds_toArray, List.set_cons_zero, List.set_cons_succ, i64_w, i32_w]
            rfl
          refine pure_ (i := 10) (N := some 110) (v := ?_) (a' := ?_) #[true, true, true, false, false, false, true, false, true, false, true, false, false, false, false, false, false, false, false, false, false, false, false, false, false, false, false, false] rfl rfl (by kernel_rfl) (fun _ _ _ h => h) (Or.inl ⟨by rfl, ?_⟩) ?_ ?_
          rotate_left
          · intro w'
            go_simp
            with_reducible rfl
          rotate_left
          · simp only [Act.put, List.setIfInBounds_toArray, List.set_cons_zero, List.set_cons_succ, i64_w, i32_w]
            rfl
          refine take_ (i := 3) (N := some 103) (v := ?_) (a' := ?_) #[true, true, true, true, false, false, true, false, true, false, true, false, false, false, false, false, false, false, false, false, false, false, false, false, false, false, false, false] rfl rfl (by kernel_rfl) (fun _ _ _ h => h) (Or.inl ⟨by rfl, ?_⟩) hHeld ?_ ?_
          rotate_left
          · rintro w' ⟨s0, s1, s2, s3, s4, s5, s6, s7, s8, s9, s10, s11, s12, s13, s14⟩
            go_simp
            with_reducible rfl
          rotate_left
          · simp only [Act.put, List.setIfInBounds_toArray, List.set_cons_zero, List.set_cons_succ, i64_w, i32_w]
            rfl
          refine take_ (i := 4) (N := some 104) (v := ?_) (a' := ?_) #[true, true, true, true, true, false, true, false, true, false, true, false, false, false, false, false, false, false, false, false, false, false, false, false, false, false, false, false] rfl rfl (by kernel_rfl) (fun _ _ _ h => h) (Or.inl ⟨by rfl, ?_⟩) hHeld ?_ ?_
          rotate_left
          · rintro w' ⟨s0, s1, s2, s3, s4, s5, s6, s7, s8, s9, s10, s11, s12, s13, s14⟩
            go_simp
            with_reducible rfl
          rotate_left
          · simp only [Act.put, List.setIfInBounds_toArray, List.set_cons_zero, List.set_cons_succ, i64_w, i32_w]
            rfl
          refine take_ (i := 5) (N := some 105) (v := ?_) (a' := ?_) #[true, true, true, true, true, true, true, false, true, false, true, false, false, false, false, false, false, false, false, false, false, false, false, false, false, false, false, false] rfl rfl (by kernel_rfl) (fun _ _ _ h => h) (Or.inl ⟨by rfl, ?_⟩) hHeld ?_ ?_
          rotate_left
          · rintro w' ⟨s0, s1, s2, s3, s4, s5, s6, s7, s8, s9, s10, s11, s12, s13, s14⟩
            go_simp
            with_reducible rfl
          rotate_left
          · simp only [Act.put, List.setIfInBounds_toArray, List.set_cons_zero, List.set_cons_succ, i64_w, i32_w]
            rfl
          refine take_ (i := 7) (N := some 107) (v := ?_) (a' := ?_) #[true, true, true, true, true, true, true, true, true, false, true, false, false, false, false, false, false, false, false, false, false, false, false, false, false, false, false, false] rfl rfl (by kernel_rfl) (fun _ _ _ h => h) (Or.inl ⟨by rfl, ?_⟩) hHeld ?_ ?_
          rotate_left
          · rintro w' ⟨s0, s1, s2, s3, s4, s5, s6, s7, s8, s9, s10, s11, s12, s13, s14⟩
            go_simp
            with_reducible rfl
          rotate_left
          · simp only [Act.put, List.setIfInBounds_toArray, List.set_cons_zero, List.set_cons_succ, i64_w, i32_w]
            rfl
          refine take_ (i := 9) (N := some 109) (v := ?_) (a' := ?_) #[true, true, true, true, true, true, true, true, true, true, true, false, false, false, false, false, false, false, false, false, false, false, false, false, false, false, false, false] rfl rfl (by kernel_rfl) (fun _ _ _ h => h) (Or.inl ⟨by rfl, ?_⟩) hHeld ?_ ?_
          rotate_left
          · rintro w' ⟨s0, s1, s2, s3, s4, s5, s6, s7, s8, s9, s10, s11, s12, s13, s14⟩
            go_simp
            with_reducible rfl
          rotate_left
          · simp only [Act.put, List.setIfInBounds_toArray, List.set_cons_zero, List.set_cons_succ, i64_w, i32_w]
            rfl
          refine one_ (i := 11) (N := some 111) #[true, true, true, true, true, true, true, true, true, true, true, true, false, false, false, false, false, false, false, false, false, false, false, false, false, false, false, false] rfl rfl (by kernel_rfl) (by decide) (fun K hK => ?_)
          refine goes_ Try.func43 (by kernel_rfl) rfl #[.agg #[.int .i64 x.f0, .int .i64 x.f1, .int .i64 x.f2, .int .i64 x.f3, .int .i64 x.f4, .slice A5 x.f5.length c5, .slice A6 x.f6.length c6, .int .i64 x.f7.f0, .int .i64 x.f7.f1, .slice A9 x.f8.length c9, .slice A10 x.f9.length c10], .agg #[.int .i64 t.f0, .slice T1 t.f1.length d1], .slice A5 x.f5.length c5, .slice A6 x.f6.length c6, .int .i64 k] (by rfl) rfl rfl (by simp only [List.map_toArray, List.map_cons, List.map_nil]; rfl) ?_
          with_reducible refine (HHOT.out _ (below_drew HW.out.bel)).mono ?_
          rintro e w5 ⟨rfl, hb5⟩
          refine ⟨_, rfl, ?_⟩
          refine hK.out _ _ ⟨pw_cell_below hb5 (hHeld.1), pw_cell_below hb5 (hHeld.2.1), pw_cell_below hb5 (hHeld.2.2.1), pw_cell_below hb5 (hHeld.2.2.2.1), pw_cell_below hb5 (hHeld.2.2.2.2.1), pw_cell_below hb5 (hHeld.2.2.2.2.2.1), pw_cell_below hb5 (hHeld.2.2.2.2.2.2.1), pw_cell_below hb5 (hHeld.2.2.2.2.2.2.2.1), pw_cell_below hb5 (hHeld.2.2.2.2.2.2.2.2.1), pw_cell_below hb5 (hHeld.2.2.2.2.2.2.2.2.2.1), pw_cell_below hb5 (hHeld.2.2.2.2.2.2.2.2.2.2.1), pw_cell_below hb5 (hHeld.2.2.2.2.2.2.2.2.2.2.2.1), pw_cell_below hb5 (hHeld.2.2.2.2.2.2.2.2.2.2.2.2.1), pw_cell_below hb5 (hHeld.2.2.2.2.2.2.2.2.2.2.2.2.2.1), pw_cell_below hb5 (hHeld.2.2.2.2.2.2.2.2.2.2.2.2.2.2)⟩ (fun hHeld => ?_)
          clear hK K
          refine norm_ (a' := ?_) ?_ ?_
          rotate_left
          · show Act.put _ (some 111) _ = _
            simp only [Act.put, List.setIfInBounds_toArray, List.set_cons_zero, List.set_cons_succ, i64_w, i32_w]
            rfl
          refine pure_ (i := 12) (N := some 112) (v := ?_) (a' := ?_) #[true, true, true, true, true, true, true, true, true, true, true, true, true, false, false, false, false, false, false, false, false, false, false, false, false, false, false, false] rfl rfl (by kernel_rfl) (fun _ _ _ h => h) (Or.inl ⟨by rfl, ?_⟩) ?_ ?_
          rotate_left
          · intro w'
            go_simp
            with_reducible rfl
          rotate_left
          · simp only [Act.put, List.setIfInBounds_toArray, List.set_cons_zero, List.set_cons_succ, i64_w, i32_w]
            rfl
          refine pure_ (i := 13) (N := some 113) (v := ?_) (a' := ?_) #[true, true, true, true, true, true, true, true, true, true, true, true, true, true, false, false, false, false, false, false, false, false, false, false, false, false, false, false] rfl rfl (by kernel_rfl) (fun _ _ _ h => h) (Or.inl ⟨by rfl, ?_⟩) ?_ ?_
          rotate_left
          · intro w'
            go_simp
            with_reducible rfl
          rotate_left
          · simp only [Act.put, List.setIfInBounds_toArray, List.set_cons_zero, List.set_cons_succ, i64_w, i32_w]
            rfl
          refine pure_ (i := 14) (N := some 114) (v := ?_) (a' := ?_) #[true, true, true, true, true, true, true, true, true, true, true, true, true, true, true, false, false, false, false, false, false, false, false, false, false, false, false, false] rfl rfl (by kernel_rfl) (fun _ _ _ h => h) (Or.inl ⟨by rfl, ?_⟩) ?_ ?_
          rotate_left
          · intro w'
            go_simp
            with_reducible rfl
          rotate_left
          · simp only [Act.put, List.setIfInBounds_toArray, List.set_cons_zero, List.set_cons_succ, i64_w, i32_w]
            rfl
          refine pure_ (i := 15) (N := some 115) (v := ?_) (a' := ?_) #[true, true, true, true, true, true, true, true, true, true, true, true, true, true, true, true, false, false, false, false, false, false, false, false, false, false, false, false] rfl rfl (by kernel_rfl) (fun _ _ _ h => h) (Or.inl ⟨by rfl, ?_⟩) ?_ ?_
          rotate_left
          · intro w'
            go_simp
            with_reducible rfl
          rotate_left
          · simp only [Act.put, List.setIfInBounds_toArray, List.set_cons_zero, List.set_cons_succ, i64_w, i32_w]
            rfl
          refine pure_ (i := 16) (N := some 116) (v := ?_) (a' := ?_) #[true, true, true, true, true, true, true, true, true, true, true, true, true, true, true, true, true, false, false, false, false, false, false, false, false, false, false, false] rfl rfl (by kernel_rfl) (fun _ _ _ h => h) (Or.inl ⟨by rfl, ?_⟩) ?_ ?_
          rotate_left
          · intro w'
            go_simp
            with_reducible rfl
          rotate_left
          · simp only [Act.put, List.setIfInBounds_toArray, List.set_cons_zero, List.set_cons_succ, i64_w, i32_w]
            rfl
          refine pure_ (i := 20) (N := some 120) (v := ?_) (a' := ?_) #[true, true, true, true, true, true, true, true, true, true, true, true, true, true, true, true, true, false, false, false, true, false, false, false, false, false, false, false] rfl rfl (by kernel_rfl) (fun _ _ _ h => h) (Or.inl ⟨by rfl, ?_⟩) ?_ ?_
          rotate_left
          · intro w'
            go_simp
            with_reducible rfl
          rotate_left
          · simp only [Act.put, List.setIfInBounds_toArray, List.set_cons_zero, List.set_cons_succ, i64_w, i32_w]
            rfl
          refine pure_ (i := 22) (N := some 122) (v := ?_) (a' := ?_) #[true, true, true, true, true, true, true, true, true, true, true, true, true, true, true, true, true, false, false, false, true, false, true, false, false, false, false, false] rfl rfl (by kernel_rfl) (fun _ _ _ h => h) (Or.inl ⟨by rfl, ?_⟩) ?_ ?_
          rotate_left
          · intro w'
            go_simp
            with_reducible rfl
          rotate_left
          · simp only [Act.put, List.setIfInBounds_toArray, List.set_cons_zero, List.set_cons_succ, i64_w, i32_w]
            rfl
          refine pure_ (i := 24) (N := some 124) (v := ?_) (a' := ?_) #[true, true, true, true, true, true, true, true, true, true, true, true, true, true, true, true, true, false, false, false, true, false, true, false, true, false, false, false] rfl rfl (by kernel_rfl) (fun _ _ _ h => h) (Or.inl ⟨by rfl, ?_⟩) ?_ ?_
          rotate_left
          · intro w'
            go_simp
            with_reducible rfl
          rotate_left
          · simp only [Act.put, List.setIfInBounds_toArray, List.set_cons_zero, List.set_cons_succ, i64_w, i32_w]
            rfl
          refine take_ (i := 17) (N := some 117) (v := ?_) (a' := ?_) #[true, true, true, true, true, true, true, true, true, true, true, true, true, true, true, true, true, true, false, false, true, false, true, false, true, false, false, false] rfl rfl (by kernel_rfl) (fun _ _ _ h => h) (Or.inl ⟨by rfl, ?_⟩) hHeld ?_ ?_
          rotate_left
          · rintro w' ⟨s0, s1, s2, s3, s4, s5, s6, s7, s8, s9, s10, s11, s12, s13, s14⟩
            go_simp
            with_reducible rfl
          rotate_left
          · simp only [Act.put, List.setIfInBounds_toArray, List.set_cons_zero, List.set_cons_succ, i64_w, i32_w]
            rfl
          refine take_ (i := 18) (N := some 118) (v := ?_) (a' := ?_) #[true, true, true, true, true, true, true, true, true, true, true, true, true, true, true, true, true, true, true, false, true, false, true, false, true, false, false, false] rfl rfl (by kernel_rfl) (fun _ _ _ h => h) (Or.inl ⟨by rfl, ?_⟩) hHeld ?_ ?_
          rotate_left
          · rintro w' ⟨s0, s1, s2, s3, s4, s5, s6, s7, s8, s9, s10, s11, s12, s13, s14⟩
            go_simp
            with_reducible rfl
          rotate_left
          · simp only [Act.put, List.setIfInBounds_toArray, List.set_cons_zero, List.set_cons_succ, i64_w, i32_w]
            rfl
          refine take_ (i := 19) (N := some 119) (v := ?_) (a' := ?_) #[true, true, true, true, true, true, true, true, true, true, true, true, true, true, true, true, true, true, true, true, true, false, true, false, true, false, false, false] rfl rfl (by kernel_rfl) (fun _ _ _ h => h) (Or.inl ⟨by rfl, ?_⟩) hHeld ?_ ?_
          rotate_left
          · rintro w' ⟨s0, s1, s2, s3, s4, s5, s6, s7, s8, s9, s10, s11, s12, s13, s14⟩
            go_simp
            with_reducible rfl
          rotate_left
          · simp only [Act.put, List.setIfInBounds_toArray, List.set_cons_zero, List.set_cons_succ, i64_w, i32_w]
            rfl
          refine take_ (i := 21) (N := some 121) (v := ?_) (a' := ?_) #[true, true, true, true, true, true, true, true, true, true, true, true, true, true, true, true, true, true, true, true, true, true, true, false, true, false, false, false] rfl rfl (by kernel_rfl) (fun _ _ _ h => h) (Or.inl ⟨by rfl, ?_⟩) hHeld ?_ ?_
          rotate_left
          · rintro w' ⟨s0, s1, s2, s3, s4, s5, s6, s7, s8, s9, s10, s11, s12, s13, s14⟩
            go_simp
            with_reducible rfl
          rotate_left
          · simp only [Act.put, List.setIfInBounds_toArray, List.set_cons_zero, List.set_cons_succ, i64_w, i32_w]
            rfl
          refine take_ (i := 23) (N := some 123) (v := ?_) (a' := ?_) #[true, true, true, true, true, true, true, true, true, true, true, true, true, true, true, true, true, true, true, true, true, true, true, true, true, false, false, false] rfl rfl (by kernel_rfl) (fun _ _ _ h => h) (Or.inl ⟨by rfl, ?_⟩) hHeld ?_ ?_
          rotate_left
          · rintro w' ⟨s0, s1, s2, s3, s4, s5, s6, s7, s8, s9, s10, s11, s12, s13, s14⟩
            go_simp
            with_reducible rfl
          rotate_left
          · simp only [Act.put, List.setIfInBounds_toArray, List.set_cons_zero, List.set_cons_succ, i64_w, i32_w]
            rfl
          refine one_ (i := 25) (N := some 125) #[true, true, true, true, true, true, true, true, true, true, true, true, true, true, true, true, true, true, true, true, true, true, true, true, true, true, false, false] rfl rfl (by kernel_rfl) (by decide) (fun K hK => ?_)
          refine goes_ Try.func44 (by kernel_rfl) rfl #[.agg #[.int .i64 x.f0, .int .i64 x.f1, .int .i64 x.f2, .int .i64 x.f3, .int .i64 x.f4, .slice A5 x.f5.length c5, .slice A6 x.f6.length c6, .int .i64 x.f7.f0, .int .i64 x.f7.f1, .slice A9 x.f8.length c9, .slice A10 x.f9.length c10], .agg #[.int .i64 t.f0, .slice T1 t.f1.length d1], .slice A5 x.f5.length c5, .slice A6 x.f6.length c6, .int .i64 k] (by rfl) rfl rfl (by simp only [List.map_toArray, List.map_cons, List.map_nil]; rfl) ?_
          with_reducible refine (HLEFT.out _ (bel2 (below_drew HW.out.bel) hb5)).mono ?_
          rintro e w6 ⟨rfl, hb6⟩
          refine ⟨_, rfl, ?_⟩
          refine hK.out _ _ ⟨pw_cell_below hb6 (hHeld.1), pw_cell_below hb6 (hHeld.2.1), pw_cell_below hb6 (hHeld.2.2.1), pw_cell_below hb6 (hHeld.2.2.2.1), pw_cell_below hb6 (hHeld.2.2.2.2.1), pw_cell_below hb6 (hHeld.2.2.2.2.2.1), pw_cell_below hb6 (hHeld.2.2.2.2.2.2.1), pw_cell_below hb6 (hHeld.2.2.2.2.2.2.2.1), pw_cell_below hb6 (hHeld.2.2.2.2.2.2.2.2.1), pw_cell_below hb6 (hHeld.2.2.2.2.2.2.2.2.2.1), pw_cell_below hb6 (hHeld.2.2.2.2.2.2.2.2.2.2.1), pw_cell_below hb6 (hHeld.2.2.2.2.2.2.2.2.2.2.2.1), pw_cell_below hb6 (hHeld.2.2.2.2.2.2.2.2.2.2.2.2.1), pw_cell_below hb6 (hHeld.2.2.2.2.2.2.2.2.2.2.2.2.2.1), pw_cell_below hb6 (hHeld.2.2.2.2.2.2.2.2.2.2.2.2.2.2)⟩ (fun hHeld => ?_)
          clear hK K
          refine norm_ (a' := ?_) ?_ ?_
          rotate_left
          · show Act.put _ (some 125) _ = _
            simp only [Act.put, List.setIfInBounds_toArray, List.set_cons_zero, List.set_cons_succ, i64_w, i32_w]
            rfl
          refine pure_ (i := 26) (N := some 126) (v := ?_) (a' := ?_) #[true, true, true, true, true, true, true, true, true, true, true, true, true, true, true, true, true, true, true, true, true, true, true, true, true, true, true, false] rfl rfl (by kernel_rfl) (fun _ _ _ h => h) (Or.inl ⟨by rfl, ?_⟩) ?_ ?_
          rotate_left
          · intro w'
            go_simp
            with_reducible rfl
          rotate_left
          · simp only [Act.put, List.setIfInBounds_toArray, List.set_cons_zero, List.set_cons_succ, i64_w, i32_w]
            rfl
          refine pure_ (i := 27) (N := some 127) (v := ?_) (a' := ?_) #[true, true, true, true, true, true, true, true, true, true, true, true, true, true, true, true, true, true, true, true, true, true, true, true, true, true, true, true] rfl rfl (by kernel_rfl) (fun _ _ _ h => h) (Or.inl ⟨by rfl, ?_⟩) ?_ ?_
          rotate_left
          · intro w'
            go_simp
            with_reducible rfl
          rotate_left
          · simp only [Act.put, List.setIfInBounds_toArray, List.set_cons_zero, List.set_cons_succ, i64_w, i32_w]
            rfl
          refine done_ (by kernel_rfl) ?_
          have HN := Aside0.mk (HW.out.step (bel2 (bel2 (below_drew (Below.refl _ _)) hb5) hb6))
          clear hHeld hb5 hb6 k0 k1 k2 k3 k4 k5 k6 k7 k8 k9 k10 t0 t1
          go_wp2
          go_roundw
          case rel => exact ⟨k + 1, hlt, by go_num, HN⟩
          case measure => simp [intOf]; omega
        · have hkz : ¬ (k : Int) < (la.length : Int) := by omega
          go_wp2_with fail
          refine (awake_calls _).mono ?_
          rintro e w14 ⟨rfl, hb⟩
          have H9 := Aside0.mk (bel2 HW.out.bel hb)
          clear hb
          go_wp2
          go_ret
          exact ⟨rfl, H9.out⟩
  · have h1 : playF x t = ([], [], ec) := by unfold playF; rw [if_neg (by rw [HEQ.out.2.2.2.2]; exact hz), HEQ.out.2.2.2.2]
    obtain rfl : la = [] := by rw [← HEQ.out.1, h1]
    obtain rfl : lb = [] := by rw [← HEQ.out.2.1, h1]
    obtain rfl : ec = pe := by rw [← HEQ.out.2.2.1, h1]
    obtain rfl : pb = false := by rw [← HEQ.out.2.2.2.1]; unfold proveF; rw [decide_eq_false (by rw [HEQ.out.2.2.2.2]; exact hz)]; rfl
    have hz2 : (ec == 0) = false := by simpa using hz
    have hl0 : (([] : List Int).length : Int) = 0 := rfl
    clear h1 hz
    go_wp2_with fail
    refine (awake_calls _).mono ?_
    rintro e w14 ⟨rfl, hb⟩
    have H9 := Aside0.mk (bel2 H6.out.bel hb)
    clear hb
    go_wp2
    go_ret
    exact ⟨rfl, H9.out⟩
theorem plays_law (x : S38) (cs : List Value) (t : S75) (ts : List Value) (w : World) (hx : k38.K w x cs) (ht : k75.K w t ts) : Calls Try.prog 11 #[.agg cs.toArray, .agg ts.toArray] w fun e w' => e = .returned (.bool true) ∧ Below w.heap.size w w' := by
  cases h1 : thinB x with
  | false => exact plays_awake x cs t ts w hx ht (.inl h1)
  | true =>
    by_cases h2 : t.f1.length ≤ 30
    · exact plays_main x cs t ts w hx ht h1 h2
    · exact plays_awake x cs t ts w hx ht (.inr (by omega))
end Go.Proofs.Ytdgkhoflajdidaa
/- Arguments opened: coppers, truths, lists, readings. -/
namespace Go.Proofs.Ytdgkhoflajdidaa
open Go.RowKit Go.Proofs.YtdgkhoflajdidaaW.PrintWords Go.Proofs.YtdgkhoflajdidaaW.PrintMore Go.Proofs.YtdgkhoflajdidaaW.PrintLast Go.Proofs.Ytdgkhoflajdidaa.Print
open Go.ChangeShapes Go.WideShapes Go.ChangeAt
set_option linter.unusedVariables false
set_option linter.unusedSimpArgs false
set_option maxRecDepth 100000
set_option maxHeartbeats 4000000
section
variable {H : Type} {enc : TypeId × Value → H} {W : World}
/-- What a type's reading says of the cells. -/
def Opens (enc : TypeId × Value → H) (W : World) (t : TypeId) {α : Type} (d : Kd α) : Prop := ∀ (fuel : Nat) (cs : List Value) (x : DataW H × List MemPlace), DataW.trod enc Try.prog W 0 (fun _ => true) true fuel t cs = some x → ∃ v, d.K W v cs
theorem opens_int : Opens enc W 3 (Kd.int .i64) := fun fuel cs x h => by
  obtain ⟨n, hc, _⟩ := DataW.trod_int Try.underlying3 h
  exact ⟨n, hc⟩
theorem opens_slice {t e : TypeId} {α : Type} {d : Kd α} (z : α) (ht : Try.prog.underlying t = some (.slice e)) (he : Opens enc W e d) (hC : Try.prog.cellsOf e = d.sz) {fuel : Nat} {cs : List Value} {x : DataW H × List MemPlace} (h : DataW.trod enc Try.prog W 0 (fun _ => true) true fuel t cs = some x) :
    ∃ (A : Option Addr) (cap : Nat) (xs : List α), cs = [.slice A xs.length cap] ∧ xs.length ≤ cap ∧ Kd.C d W A xs.length xs := by
  rcases Deep.open_slice ht h with ⟨h0, _⟩ | ⟨a, len, cap, m, n, D, Pl, hcs, hb, hl, hm, hmm, hx, hi⟩
  · exact ⟨none, 0, [], h0, Nat.le_refl _, rfl, by simp, fun h => absurd h (by simp)⟩
  · have hm2 : m = cap := by simpa using hmm
    have key : ∀ i, ∃ v, i < len → ∃ c, c.length = d.sz ∧ d.K W v c ∧ ∀ j u, c[j]? = some u → W.cell? (a.add (i * d.sz + j)) = some u := by
      intro i
      by_cases hlt : i < len
      · obtain ⟨cs', hcells, htr⟩ := hi i (by omega)
        obtain ⟨v, hv⟩ := he _ _ _ htr
        obtain ⟨_, hcl, hat⟩ := World.cells?_some hcells
        refine ⟨v, fun _ => ⟨cs', by rw [hcl, hC], hv, fun j u hj => ?_⟩⟩
        have hjl := (List.getElem?_eq_some_iff.1 hj).1
        have := hat j (by omega)
        rw [Deep.add_add, hC] at this
        rw [this, hj]
      · exact ⟨z, fun h => absurd h hlt⟩
    obtain ⟨f, hf⟩ := Classical.skolem.1 key
    refine ⟨some a, cap, (List.range len).map f, by simpa using hcs, by simpa using hl, by simp, by simp; exact Nat.le_trans hl (Nat.le_trans hm (by decide)), fun _ => ⟨a, rfl, fun j p hj => ?_⟩⟩
    have hlt : j < len := by have := (List.getElem?_eq_some_iff.1 hj).1; simpa using this
    have hp : p = f j := by
      rw [List.getElem?_map, List.getElem?_range hlt] at hj
      exact (Option.some.inj hj).symm
    subst hp
    exact hf j hlt
theorem opens_range {t : TypeId} (ht : t = 24 ∨ t = 35) : Opens enc W t k35 := fun fuel cs x h => by
  have key : ∃ a b : Int, cs = [.int .i64 a, .int .i64 b] := by
    rcases ht with rfl | rfl
    · obtain ⟨xs, n, _, _, hlen, hxl, hf⟩ := DataW.trod_struct Try.underlying24 h
      have hl : cs.length = 2 := hlen.trans (by kernel_rfl)
      have hx2 : xs.length = 2 := hxl
      match cs, hl with
      | [u, v], _ =>
        have h0 := hf 0 _ rfl
        have h1 := hf 1 _ rfl
        have c1 : Try.prog.cellsOf 3 = 1 := by kernel_rfl
        match xs, hx2 with
        | [x0, x1], _ =>
          obtain ⟨a, ha, _⟩ := DataW.trod_int Try.underlying3 (by simpa [c1] using h0)
          obtain ⟨b, hb, _⟩ := DataW.trod_int Try.underlying3 (by simpa [c1] using h1)
          simp only [List.cons.injEq, and_true] at ha hb
          exact ⟨a, b, by rw [ha, hb]⟩
    · obtain ⟨xs, n, _, _, hlen, hxl, hf⟩ := DataW.trod_struct Try.underlying35 h
      have hl : cs.length = 2 := hlen.trans (by kernel_rfl)
      have hx2 : xs.length = 2 := hxl
      match cs, hl with
      | [u, v], _ =>
        have h0 := hf 0 _ rfl
        have h1 := hf 1 _ rfl
        have c1 : Try.prog.cellsOf 3 = 1 := by kernel_rfl
        match xs, hx2 with
        | [x0, x1], _ =>
          obtain ⟨a, ha, _⟩ := DataW.trod_int Try.underlying3 (by simpa [c1] using h0)
          obtain ⟨b, hb, _⟩ := DataW.trod_int Try.underlying3 (by simpa [c1] using h1)
          simp only [List.cons.injEq, and_true] at ha hb
          exact ⟨a, b, by rw [ha, hb]⟩
  obtain ⟨a, b, rfl⟩ := key
  exact ⟨⟨a, b⟩, k35_mk W ⟨a, b⟩⟩
theorem opens_reading : Opens enc W 96 k119 := fun fuel cs x h => by
  obtain ⟨xs, n, _, _, hlen, hxl, hf⟩ := DataW.trod_struct Try.underlying96 h
  have hl : cs.length = 3 := hlen.trans (by kernel_rfl)
  have hx2 : xs.length = 2 := hxl
  match cs, hl with
  | [u, v, r], _ =>
    have h0 := hf 0 _ rfl
    have h1 := hf 1 _ rfl
    have c1 : Try.prog.cellsOf 3 = 1 := by kernel_rfl
    have c2 : Try.prog.cellsOf 24 = 2 := by kernel_rfl
    match xs, hx2 with
    | [x0, x1], _ =>
      obtain ⟨a, ha, _⟩ := DataW.trod_int Try.underlying3 (by simpa [c1] using h0)
      obtain ⟨b, hb⟩ := opens_range (.inl rfl) _ _ _ (show DataW.trod enc Try.prog W 0 (fun _ => true) true n 24 [v, r] = some x1 by simpa [c2] using h1)
      have hb2 := k35_open hb
      simp only [List.cons.injEq, and_true] at ha hb2
      exact ⟨⟨a, b⟩, by rw [ha, hb2.1, hb2.2]; exact k119_mk W ⟨a, b⟩⟩
theorem opens_copper {fuel : Nat} {cs : List Value} {x : DataW H × List MemPlace} (h : DataW.trod enc Try.prog W 0 (fun _ => true) true fuel 28 cs = some x) : ∃ v, k38.K W v cs := by
  obtain ⟨xs, n, _, _, hlen, hxl, hf⟩ := DataW.trod_struct Try.underlying28 h
  have hl : cs.length = 11 := hlen.trans (by kernel_rfl)
  have hx2 : xs.length = 10 := hxl
  have c1 : Try.prog.cellsOf 3 = 1 := by kernel_rfl
  have c2 : Try.prog.cellsOf 24 = 2 := by kernel_rfl
  have c3 : Try.prog.cellsOf 22 = 1 := by kernel_rfl
  have c4 : Try.prog.cellsOf 25 = 1 := by kernel_rfl
  have c5 : Try.prog.cellsOf 26 = 1 := by kernel_rfl
  match cs, hl with
  | [v0, v1, v2, v3, v4, v5, v6, v7, v8, v9, v10], _ =>
    match xs, hx2 with
    | [x0, x1, x2, x3, x4, x5, x6, x7, x8, x9], _ =>
      have h0 := hf 0 _ rfl
      have h1 := hf 1 _ rfl
      have h2 := hf 2 _ rfl
      have h3 := hf 3 _ rfl
      have h4 := hf 4 _ rfl
      have h5 := hf 5 _ rfl
      have h6 := hf 6 _ rfl
      have h7 := hf 7 _ rfl
      have h8 := hf 8 _ rfl
      have h9 := hf 9 _ rfl
      obtain ⟨a0, e0, _⟩ := DataW.trod_int Try.underlying3 (by simpa [c1] using h0)
      obtain ⟨a1, e1, _⟩ := DataW.trod_int Try.underlying3 (by simpa [c1] using h1)
      obtain ⟨a2, e2, _⟩ := DataW.trod_int Try.underlying3 (by simpa [c1] using h2)
      obtain ⟨a3, e3, _⟩ := DataW.trod_int Try.underlying3 (by simpa [c1] using h3)
      obtain ⟨a4, e4, _⟩ := DataW.trod_int Try.underlying3 (by simpa [c1] using h4)
      obtain ⟨A5, p5, l5, e5, q5, g5⟩ := opens_slice (d := Kd.int .i64) (0 : Int) Try.underlying22 opens_int (by kernel_rfl) (show DataW.trod enc Try.prog W 0 (fun _ => true) true n 22 [v5] = some x5 by simpa [c3] using h5)
      obtain ⟨A6, p6, l6, e6, q6, g6⟩ := opens_slice (d := Kd.int .i64) (0 : Int) Try.underlying22 opens_int (by kernel_rfl) (show DataW.trod enc Try.prog W 0 (fun _ => true) true n 22 [v6] = some x6 by simpa [c3] using h6)
      obtain ⟨b, hb⟩ := opens_range (.inl rfl) _ _ _ (show DataW.trod enc Try.prog W 0 (fun _ => true) true n 24 [v7, v8] = some x7 by simpa [c2] using h7)
      have hb2 := k35_open hb
      obtain ⟨A9, p9, l9, e9, q9, g9⟩ := opens_slice (d := k35) z35 Try.underlying25 (opens_range (.inl rfl)) (by kernel_rfl) (show DataW.trod enc Try.prog W 0 (fun _ => true) true n 25 [v9] = some x8 by simpa [c4] using h8)
      obtain ⟨A10, p10, l10, e10, q10, g10⟩ := opens_slice (d := k119) z119 Try.underlying26 opens_reading (by kernel_rfl) (show DataW.trod enc Try.prog W 0 (fun _ => true) true n 26 [v10] = some x9 by simpa [c5] using h9)
      simp only [List.cons.injEq, and_true] at e0 e1 e2 e3 e4 e5 e6 hb2 e9 e10
      refine ⟨⟨a0, a1, a2, a3, a4, l5, l6, b, l9, l10⟩, ?_⟩
      rw [e0, e1, e2, e3, e4, e5, e6, hb2.1, hb2.2, e9, e10]
      exact k38_mk W ⟨a0, a1, a2, a3, a4, l5, l6, b, l9, l10⟩ q5 g5 q6 g6 q9 g9 q10 g10
theorem opens_truth {fuel : Nat} {cs : List Value} {x : DataW H × List MemPlace} (h : DataW.trod enc Try.prog W 0 (fun _ => true) true fuel 66 cs = some x) : ∃ v, k75.K W v cs := by
  obtain ⟨xs, n, _, _, hlen, hxl, hf⟩ := DataW.trod_struct Try.underlying66 h
  have hl : cs.length = 2 := hlen.trans (by kernel_rfl)
  have hx2 : xs.length = 2 := hxl
  have c1 : Try.prog.cellsOf 3 = 1 := by kernel_rfl
  have c3 : Try.prog.cellsOf 22 = 1 := by kernel_rfl
  match cs, hl with
  | [v0, v1], _ =>
    match xs, hx2 with
    | [x0, x1], _ =>
      have h0 := hf 0 _ rfl
      have h1 := hf 1 _ rfl
      obtain ⟨a0, e0, _⟩ := DataW.trod_int Try.underlying3 (by simpa [c1] using h0)
      obtain ⟨A5, p5, l5, e5, q5, g5⟩ := opens_slice (d := Kd.int .i64) (0 : Int) Try.underlying22 opens_int (by kernel_rfl) (show DataW.trod enc Try.prog W 0 (fun _ => true) true n 22 [v1] = some x1 by simpa [c3] using h1)
      simp only [List.cons.injEq, and_true] at e0 e5
      refine ⟨⟨a0, l5⟩, ?_⟩
      rw [e0, e5]
      exact k75_mk W ⟨a0, l5⟩ q5 g5
end
theorem row_own : ownKnob Try.prog.godebug = none := by kernel_rfl
theorem row_laid : laidOutB Try.prog = true := by kernel_rfl
end Go.Proofs.Ytdgkhoflajdidaa
