/- Lemmas for the laws' proofs: Gb, Ha, Hc. -/
import Derived.Test.YtdgkhoflajdidaaCore07
import Derived.ChangeKeysEq
import Derived.Carry
/- Play and ProveTruth. -/
namespace Go.Proofs.Ytdgkhoflajdidaa
open Go.RowKit Go.Proofs.YtdgkhoflajdidaaW.PrintWords Go.Proofs.YtdgkhoflajdidaaW.PrintMore Go.Proofs.YtdgkhoflajdidaaW.PrintLast Go.Proofs.Ytdgkhoflajdidaa.Print
set_option linter.unusedVariables false
set_option linter.unusedSimpArgs false
theorem isScB_in {x : S38} (hv : Valid x) {t : S75} (h : isScB x t = true) : InSc x (toSc t) := by
 unfold isScB at h
 rw [Bool.and_eq_true, Bool.and_eq_true, inR_iff, beq_iff_eq, List.all_eq_true] at h
 obtain ⟨⟨h1, h2⟩, h3⟩ := h
 have h5 := hv.last1
 refine ⟨h1, fun k hk => ?_, fun k hk => ?_⟩
 ·have := h3 k (List.mem_range.2 (by omega))
  unfold lossOk at this
  rw [inR_iff] at this
  have h4 : (toSc t).loss k = t.f1.getD k 0 := mkSc_loss _ _ k (by omega)
  rw [h4]
  exact this
 ·by_cases h6 : k < 5
  ·have h4 : (toSc t).loss k = t.f1.getD k 0 := mkSc_loss _ _ k h6
   rw [h4, List.getD_eq_getElem?_getD, List.getElem?_eq_none (by omega)]
   rfl
  ·exact Sc.loss_far _ (by omega)
/-- What Play returns. -/
def playF (x : S38) (t : S75) : List Int × List Int × Int := if faultC x = 0 then (if isScB x t = true then (hots x (toSc t) x.f5 x.f6 (x.f0 + 1).toNat, lefts x (toSc t) x.f5 x.f6 (x.f0 + 1).toNat, 0) else ([], [], 2)) else ([], [], faultC x)
set_option maxRecDepth 100000 in
set_option maxHeartbeats 4000000 in
theorem playT_calls (x : S38) (cs : List Value) (t : S75) (ts : List Value) (w : World) (hx : k38.K w x cs) (ht : k75.K w t ts) :
    Calls Try.prog 47 #[.agg cs.toArray, .agg ts.toArray] w fun e w' => ∃ A a B b, e = .returned (.tuple #[.slice A (playF x t).1.length a, .slice B (playF x t).2.1.length b, .int .i64 (playF x t).2.2]) ∧
     Kd.C (Kd.int .i64) w' A (playF x t).1.length (playF x t).1 ∧ Kd.C (Kd.int .i64) w' B (playF x t).2.1.length (playF x t).2.1 ∧ Below w.heap.size w w' := by
 have hb0 := fun o1 o2 => below_alloc (below_alloc (Below.refl w.heap.size w) o1) o2
 have hchk := fun o1 o2 => check_calls x cs ((w.alloc o1).alloc o2) (k38.K_below (hb0 o1 o2) hx)
 have hscn := fun (hv : Valid x) W (hW : Below w.heap.size w W) => scene_calls x cs t ts W (k38.K_below hW hx) (k75.K_below hW ht) hv
 have HX := Aside0.mk hx
 have HT := Aside0.mk ht
 obtain ⟨A5, c5, A6, c6, A9, c9, A10, c10, hcs, l5, g5, l6, g6, l9, g9, l10, g10⟩ := k38_open hx
 obtain ⟨T1, d1, hts, lt1, gt1⟩ := k75_open ht
 have G5 := Aside0.mk g5
 have G6 := Aside0.mk g6
 subst hcs hts
 clear hx ht g5 g6 g9 g10 l5 l6 l9 l10 lt1 gt1
 have hu := Try.underlying38
 have hu2 := Try.underlying133
 have hu3 := Try.underlying75
 have hu4 := Try.underlying114
 by_cases hv : faultC x = 0
 ·have HV := Aside0.mk ((valid_iff x).1 hv)
  have HF := Lib.hid hv
  have hsc := hscn HV.out
  rw [hv] at hchk
  clear hv hscn
  cases hs : isScB x t with
  | true =>
   have hso : sceneOf x t = toSc t := by unfold sceneOf; rw [hs, if_pos rfl]
   have hin := (isScB_in HV.out hs).ok HV.out
   rw [hs, hso] at hsc
   have HS := Lib.hid hs
   have HPY := Aside0.mk (fun W (hW : Below w.heap.size w W) => play_calls x _ (toSc t) A5 A6 c5 c6 x.f5 x.f6 W (k38.K_below hW HX.out) (Kd.C_below G5.out hW) (Kd.C_below G6.out hW) (HV.out.play0 hin))
   have HPF : Aside0 (playF x t = (hots x (toSc t) x.f5 x.f6 (x.f0 + 1).toNat, lefts x (toSc t) x.f5 x.f6 (x.f0 + 1).toNat, 0)) := ⟨by unfold playF; rw [if_pos HF.out, if_pos hs]⟩
   unfold Sc.arr at hsc
   clear hs hso hin
   generalize toSc t = s at *
   have HSC := Aside0.mk hsc
   clear hsc
   go_enter Try.func47, Try.ntmps47
   go_wp2_with (first
    | (go_at_call 58; refine (hchk _ _).mono ?_; rintro e w1 ⟨rfl, hb1⟩; clear hchk; have hB := bel2 (hb0 _ _) hb1; have BC : Blk w1 w.heap.size #[.int .i64 x.f0, .int .i64 x.f1, .int .i64 x.f2, .int .i64 x.f3, .int .i64 x.f4, .slice A5 x.f5.length c5, .slice A6 x.f6.length c6, .int .i64 x.f7.f0, .int .i64 x.f7.f1, .slice A9 x.f8.length c9, .slice A10 x.f9.length c10] 38 := ((Blk.new w _ 38 _ rfl).alloc _).below hb1; have BT : Blk w1 (w.heap.size + 1) #[.int .i64 t.f0, .slice T1 t.f1.length d1] 75 := (Blk.new _ _ 75 _ (by simp)).below hb1; have HB := Aside0.mk hB; have HBC := Aside0.mk BC; have hlz := BC.lt; have k0 := BC.cell 0 _ rfl; have k1 := BC.cell 1 _ rfl; have k2 := BC.cell 2 _ rfl; have k3 := BC.cell 3 _ rfl; have k4 := BC.cell 4 _ rfl; have k5 := BC.cell 5 _ rfl; have k6 := BC.cell 6 _ rfl; have k7 := BC.cell 7 _ rfl; have k8 := BC.cell 8 _ rfl; have k9 := BC.cell 9 _ rfl; have k10 := BC.cell 10 _ rfl; have kt0 := BT.cell 0 _ rfl; have kt1 := BT.cell 1 _ rfl; clear hB BC BT hb1)
    | (go_at_call 96; refine (HSC.out _ HB.out).mono ?_; rintro e w2 ⟨rfl, hb2⟩; have HB2 := Aside0.mk (bel2 HB.out hb2); have BC := HBC.out.below hb2; have HBC2 := Aside0.mk BC; clear k0 k1 k2 k3 k4 k5 k6 k7 k8 k9 k10 kt0 kt1 HBC HSC; have hlz2 := BC.lt; have k0 := BC.cell 0 _ rfl; have k1 := BC.cell 1 _ rfl; have k2 := BC.cell 2 _ rfl; have k3 := BC.cell 3 _ rfl; have k4 := BC.cell 4 _ rfl; have k5 := BC.cell 5 _ rfl; have k6 := BC.cell 6 _ rfl; have k7 := BC.cell 7 _ rfl; have k8 := BC.cell 8 _ rfl; have k9 := BC.cell 9 _ rfl; have k10 := BC.cell 10 _ rfl; clear BC hb2)
    | (go_at_call 97; refine (HPY.out _ (bel2 HB2.out (below_alloc (Below.refl _ _) _))).mono ?_; rintro e w3 ⟨v0, v1, v2, rfl, hpast, hb3⟩; obtain ⟨P0, e0, P1, e1, P2, e2, hve, hl0, hg0, hl1, hg1, hl2, hg2⟩ := k114_open hpast; simp only [List.cons.injEq, and_true] at hve; obtain ⟨rfl, rfl, rfl⟩ := hve; have HG0 := Aside0.mk hg0; have HG1 := Aside0.mk hg1; clear hg0 hg1 hg2 hl0 hl1 hl2; have HB3 := Aside0.mk (bel2 (bel2 HB2.out (below_alloc (Below.refl _ _) _)) hb3); clear hb3 hpast k0 k1 k2 k3 k4 k5 k6 k7 k8 k9 k10))
   have hfa : (pastOf x s x.f5 x.f6).f0 = hots x s x.f5 x.f6 (x.f0 + 1).toNat := rfl
   have hfb : (pastOf x s x.f5 x.f6).f1 = lefts x s x.f5 x.f6 (x.f0 + 1).toNat := rfl
   rw [hfa, hfb] at *
   have hb7 := below_alloc (Below.refl w3.heap.size w3) (.cells #[.slice P0 (hots x s x.f5 x.f6 (x.f0 + 1).toNat).length e0, .slice P1 (lefts x s x.f5 x.f6 (x.f0 + 1).toNat).length e1, .slice P2 (pastOf x s x.f5 x.f6).f2.length e2] 114)
   have BG := Blk.new w3 #[.slice P0 (hots x s x.f5 x.f6 (x.f0 + 1).toNat).length e0, .slice P1 (lefts x s x.f5 x.f6 (x.f0 + 1).toNat).length e1, .slice P2 (pastOf x s x.f5 x.f6).f2.length e2] 114 _ rfl
   generalize w3.alloc (.cells #[.slice P0 (hots x s x.f5 x.f6 (x.f0 + 1).toNat).length e0, .slice P1 (lefts x s x.f5 x.f6 (x.f0 + 1).toNat).length e1, .slice P2 (pastOf x s x.f5 x.f6).f2.length e2] 114) = W7 at *
   have HB7 := Aside0.mk (below_drew (bel2 HB3.out hb7))
   have HGG : Aside0 (Kd.C (Kd.int .i64) W7.drew P0 (hots x s x.f5 x.f6 (x.f0 + 1).toNat).length (hots x s x.f5 x.f6 (x.f0 + 1).toNat) ∧ Kd.C (Kd.int .i64) W7.drew P1 (lefts x s x.f5 x.f6 (x.f0 + 1).toNat).length (lefts x s x.f5 x.f6 (x.f0 + 1).toNat)) := ⟨Kd.C_below HG0.out (below_drew hb7), Kd.C_below HG1.out (below_drew hb7)⟩
   have kp0 : W7.cell? ⟨w3.heap.size, 0, none⟩ = _ := BG.cell 0 _ rfl
   have kp1 : W7.cell? ⟨w3.heap.size, 1, none⟩ = _ := BG.cell 1 _ rfl
   generalize (hots x s x.f5 x.f6 (x.f0 + 1).toNat) = hs at *
   generalize (lefts x s x.f5 x.f6 (x.f0 + 1).toNat) = ls at *
   clear hb7 BG hfa hfb
   refine start_ (n := 7) (S := fun w' => w'.cell? ⟨w3.heap.size, 0, none⟩ = some (.slice P0 hs.length e0) ∧ w'.cell? ⟨w3.heap.size, 1, none⟩ = some (.slice P1 ls.length e1)) (ds := []) #[false, false, false, false, false, false, false] (by kernel_rfl) rfl rfl ⟨kp0, kp1⟩ (fun hHeld => ?_)
   refine pure_ (i := 0) (N := some 31) (v := ?_) (a' := ?_) (bs 7 1) rfl rfl (by kernel_rfl) (fun _ _ _ h => h) (Or.inl ⟨by rfl, ?_⟩) ?_ ?_
   rotate_left
   ·intro w'
    go_simp
    with_reducible rfl
   rotate_left
   ·simp only [Act.put, List.setIfInBounds_toArray, List.set_cons_zero, List.set_cons_succ, i64_w, i32_w]
    rfl
   refine pure_ (i := 2) (N := some 33) (v := ?_) (a' := ?_) (bs 7 5) rfl rfl (by kernel_rfl) (fun _ _ _ h => h) (Or.inl ⟨by rfl, ?_⟩) ?_ ?_
   rotate_left
   ·intro w'
    go_simp
    with_reducible rfl
   rotate_left
   ·simp only [Act.put, List.setIfInBounds_toArray, List.set_cons_zero, List.set_cons_succ, i64_w, i32_w]
    rfl
   refine take_ (i := 1) (N := some 32) (v := ?_) (a' := ?_) (bs 7 7) rfl rfl (by kernel_rfl) (fun _ _ _ h => h) (Or.inl ⟨by rfl, ?_⟩) hHeld ?_ ?_
   rotate_left
   ·rintro w' ⟨s0, s1⟩
    go_simp
    with_reducible rfl
   rotate_left
   ·simp only [Act.put, List.setIfInBounds_toArray, List.set_cons_zero, List.set_cons_succ, i64_w, i32_w]
    rfl
   refine pure_ (i := 4) (N := some 4) (v := ?_) (a' := ?_) (bs 7 23) rfl rfl (by kernel_rfl) (fun _ _ _ h => h) (Or.inl ⟨by rfl, ?_⟩) ?_ ?_
   rotate_left
   ·intro w'
    go_simp
    with_reducible rfl
   rotate_left
   ·simp only [Act.put, List.setIfInBounds_toArray, List.set_cons_zero, List.set_cons_succ, i64_w, i32_w]
    rfl
   refine take_ (i := 3) (N := some 34) (v := ?_) (a' := ?_) (bs 7 31) rfl rfl (by kernel_rfl) (fun _ _ _ h => h) (Or.inl ⟨by rfl, ?_⟩) hHeld ?_ ?_
   rotate_left
   ·rintro w' ⟨s0, s1⟩
    go_simp
    with_reducible rfl
   rotate_left
   ·simp only [Act.put, List.setIfInBounds_toArray, List.set_cons_zero, List.set_cons_succ, i64_w, i32_w]
    rfl
   refine pure_ (i := 5) (N := some 5) (v := ?_) (a' := ?_) (bs 7 63) rfl rfl (by kernel_rfl) (fun _ _ _ h => h) (Or.inl ⟨by rfl, ?_⟩) ?_ ?_
   rotate_left
   ·intro w'
    go_simp
    with_reducible rfl
   rotate_left
   ·simp only [Act.put, List.setIfInBounds_toArray, List.set_cons_zero, List.set_cons_succ, i64_w, i32_w]
    rfl
   refine pure_ (i := 6) (N := some 6) (v := ?_) (a' := ?_) (bs 7 127) rfl rfl (by kernel_rfl) (fun _ _ _ h => h) (Or.inl ⟨by rfl, ?_⟩) ?_ ?_
   rotate_left
   ·intro w'
    go_simp
    with_reducible rfl
   rotate_left
   ·simp only [Act.put, List.setIfInBounds_toArray, List.set_cons_zero, List.set_cons_succ, i64_w, i32_w]
    rfl
   refine done_ (by kernel_rfl) ?_
   clear hHeld
   go_wp2
   refine bodyPost_ret (results_tmp3 rfl _ _ _) rfl ⟨P0, e0, P1, e1, ?_, ?_, ?_, HB7.out⟩
   ·rw [HPF.out]; rfl
   ·rw [HPF.out]; exact HGG.out.1
   ·rw [HPF.out]; exact HGG.out.2
  | false =>
   rw [hs] at hsc
   have HPF : Aside0 (playF x t = ([], [], 2)) := ⟨by unfold playF; rw [if_pos HF.out, if_neg (by simp [hs])]⟩
   unfold Sc.arr at hsc
   clear hs
   generalize sceneOf x t = s at *
   have HSC := Aside0.mk hsc
   clear hsc
   go_enter Try.func47, Try.ntmps47
   go_wp2_with (first
    | (go_at_call 58; refine (hchk _ _).mono ?_; rintro e w1 ⟨rfl, hb1⟩; clear hchk; have hB := bel2 (hb0 _ _) hb1; have BC : Blk w1 w.heap.size #[.int .i64 x.f0, .int .i64 x.f1, .int .i64 x.f2, .int .i64 x.f3, .int .i64 x.f4, .slice A5 x.f5.length c5, .slice A6 x.f6.length c6, .int .i64 x.f7.f0, .int .i64 x.f7.f1, .slice A9 x.f8.length c9, .slice A10 x.f9.length c10] 38 := ((Blk.new w _ 38 _ rfl).alloc _).below hb1; have BT : Blk w1 (w.heap.size + 1) #[.int .i64 t.f0, .slice T1 t.f1.length d1] 75 := (Blk.new _ _ 75 _ (by simp)).below hb1; have HB := Aside0.mk hB; have HBC := Aside0.mk BC; have hlz := BC.lt; have k0 := BC.cell 0 _ rfl; have k1 := BC.cell 1 _ rfl; have k2 := BC.cell 2 _ rfl; have k3 := BC.cell 3 _ rfl; have k4 := BC.cell 4 _ rfl; have k5 := BC.cell 5 _ rfl; have k6 := BC.cell 6 _ rfl; have k7 := BC.cell 7 _ rfl; have k8 := BC.cell 8 _ rfl; have k9 := BC.cell 9 _ rfl; have k10 := BC.cell 10 _ rfl; have kt0 := BT.cell 0 _ rfl; have kt1 := BT.cell 1 _ rfl; clear hB BC BT hb1)
    | (go_at_call 96; refine (HSC.out _ HB.out).mono ?_; rintro e w2 ⟨rfl, hb2⟩; have HB2 := Aside0.mk (bel2 HB.out hb2); clear hb2))
   refine bodyPost_ret (results_tmp3 rfl _ _ _) rfl ⟨none, 0, none, 0, ?_, ?_, ?_, below_alloc HB2.out _⟩
   ·rw [HPF.out]; rfl
   ·rw [HPF.out]; exact nil_int _
   ·rw [HPF.out]; exact nil_int _
 ·have HPF : Aside0 (playF x t = ([], [], faultC x)) := ⟨by unfold playF; rw [if_neg hv]⟩
  generalize hf : faultC x = ec at *
  have hv2 : (ec == 0) = false := by simpa using hv
  clear hscn
  go_enter Try.func47, Try.ntmps47
  go_wp2_with (go_at_call 58; refine (hchk _ _).mono ?_; rintro e w1 ⟨rfl, hb1⟩; have HB := Aside0.mk (bel2 (hb0 _ _) hb1); clear hb1)
  refine bodyPost_ret (results_tmp3 rfl _ _ _) rfl ⟨none, 0, none, 0, ?_, ?_, ?_, HB.out⟩
  ·rw [HPF.out]; rfl
  ·rw [HPF.out]; exact nil_int _
  ·rw [HPF.out]; exact nil_int _
/-- What ProveTruth returns. -/
def proveF (x : S38) (t : S75) : Bool := decide (faultC x = 0) && (isScB x t && rightB x (toSc t) [])
set_option maxRecDepth 100000 in
set_option maxHeartbeats 4000000 in
theorem proveT_calls (x : S38) (cs : List Value) (t : S75) (ts : List Value) (w : World) (hx : k38.K w x cs) (ht : k75.K w t ts) :
    Calls Try.prog 57 #[.agg cs.toArray, .agg ts.toArray] w fun e w' => e = .returned (.bool (proveF x t)) ∧ Below w.heap.size w w' := by
 have hb0 := fun o1 o2 => below_alloc (below_alloc (Below.refl w.heap.size w) o1) o2
 have hchk := fun o1 o2 => check_calls x cs ((w.alloc o1).alloc o2) (k38.K_below (hb0 o1 o2) hx)
 have hscn := fun (hv : Valid x) W (hW : Below w.heap.size w W) => scene_calls x cs t ts W (k38.K_below hW hx) (k75.K_below hW ht) hv
 have HX := Aside0.mk hx
 have HT := Aside0.mk ht
 obtain ⟨A5, c5, A6, c6, A9, c9, A10, c10, hcs, l5, g5, l6, g6, l9, g9, l10, g10⟩ := k38_open hx
 obtain ⟨T1, d1, hts, lt1, gt1⟩ := k75_open ht
 subst hcs hts
 clear hx ht g5 g6 g9 g10 l5 l6 l9 l10 lt1 gt1
 have hu := Try.underlying38
 have hu2 := Try.underlying133
 have hu3 := Try.underlying75
 by_cases hv : faultC x = 0
 ·have HV := Aside0.mk ((valid_iff x).1 hv)
  have HF := Lib.hid hv
  have hsc := hscn HV.out
  rw [hv] at hchk
  clear hv hscn
  cases hs : isScB x t with
  | true =>
   have hso : sceneOf x t = toSc t := by unfold sceneOf; rw [hs, if_pos rfl]
   have hin := (isScB_in HV.out hs).ok HV.out
   rw [hs, hso] at hsc
   have HPY := Aside0.mk (fun W (hW : Below w.heap.size w W) => right_calls x _ (toSc t) none 0 [] W (k38.K_below hW HX.out) (nil_int W) HV.out hin)
   have HPF : Aside0 (proveF x t = rightB x (toSc t) []) := ⟨by unfold proveF; rw [hs, HF.out]; simp⟩
   unfold Sc.arr at hsc
   clear hs hso hin
   generalize toSc t = s at *
   have HSC := Aside0.mk hsc
   clear hsc
   generalize hrr : rightB x s [] = rr at *
   clear hrr
   go_enter Try.func57, Try.ntmps57
   go_wp2_with (first
    | (go_at_call 58; refine (hchk _ _).mono ?_; rintro e w1 ⟨rfl, hb1⟩; clear hchk; have hB := bel2 (hb0 _ _) hb1; have BC : Blk w1 w.heap.size #[.int .i64 x.f0, .int .i64 x.f1, .int .i64 x.f2, .int .i64 x.f3, .int .i64 x.f4, .slice A5 x.f5.length c5, .slice A6 x.f6.length c6, .int .i64 x.f7.f0, .int .i64 x.f7.f1, .slice A9 x.f8.length c9, .slice A10 x.f9.length c10] 38 := ((Blk.new w _ 38 _ rfl).alloc _).below hb1; have BT : Blk w1 (w.heap.size + 1) #[.int .i64 t.f0, .slice T1 t.f1.length d1] 75 := (Blk.new _ _ 75 _ (by simp)).below hb1; have HB := Aside0.mk hB; have HBC := Aside0.mk BC; have hlz := BC.lt; have k0 := BC.cell 0 _ rfl; have k1 := BC.cell 1 _ rfl; have k2 := BC.cell 2 _ rfl; have k3 := BC.cell 3 _ rfl; have k4 := BC.cell 4 _ rfl; have k5 := BC.cell 5 _ rfl; have k6 := BC.cell 6 _ rfl; have k7 := BC.cell 7 _ rfl; have k8 := BC.cell 8 _ rfl; have k9 := BC.cell 9 _ rfl; have k10 := BC.cell 10 _ rfl; have kt0 := BT.cell 0 _ rfl; have kt1 := BT.cell 1 _ rfl; clear hB BC BT hb1)
    | (go_at_call 96; refine (HSC.out _ HB.out).mono ?_; rintro e w2 ⟨rfl, hb2⟩; have HB2 := Aside0.mk (bel2 HB.out hb2); have BC := HBC.out.below hb2; have HBC2 := Aside0.mk BC; clear k0 k1 k2 k3 k4 k5 k6 k7 k8 k9 k10 kt0 kt1 HBC HSC; have hlz2 := BC.lt; have k0 := BC.cell 0 _ rfl; have k1 := BC.cell 1 _ rfl; have k2 := BC.cell 2 _ rfl; have k3 := BC.cell 3 _ rfl; have k4 := BC.cell 4 _ rfl; have k5 := BC.cell 5 _ rfl; have k6 := BC.cell 6 _ rfl; have k7 := BC.cell 7 _ rfl; have k8 := BC.cell 8 _ rfl; have k9 := BC.cell 9 _ rfl; have k10 := BC.cell 10 _ rfl; clear BC hb2)
    | (go_at_call 100; refine (HPY.out _ (bel2 HB2.out (below_alloc (Below.refl _ _) _))).mono ?_; rintro e w3 ⟨rfl, hb3⟩; have HB3 := Aside0.mk (bel2 (bel2 HB2.out (below_alloc (Below.refl _ _) _)) hb3); clear hb3 k0 k1 k2 k3 k4 k5 k6 k7 k8 k9 k10))
   go_ret
   exact ⟨ret_bool HPF.out.symm, HB3.out⟩
  | false =>
   rw [hs] at hsc
   have HPF : Aside0 (proveF x t = false) := ⟨by unfold proveF; rw [hs]; simp⟩
   unfold Sc.arr at hsc
   clear hs
   generalize sceneOf x t = s at *
   have HSC := Aside0.mk hsc
   clear hsc
   go_enter Try.func57, Try.ntmps57
   go_wp2_with (first
    | (go_at_call 58; refine (hchk _ _).mono ?_; rintro e w1 ⟨rfl, hb1⟩; clear hchk; have hB := bel2 (hb0 _ _) hb1; have BC : Blk w1 w.heap.size #[.int .i64 x.f0, .int .i64 x.f1, .int .i64 x.f2, .int .i64 x.f3, .int .i64 x.f4, .slice A5 x.f5.length c5, .slice A6 x.f6.length c6, .int .i64 x.f7.f0, .int .i64 x.f7.f1, .slice A9 x.f8.length c9, .slice A10 x.f9.length c10] 38 := ((Blk.new w _ 38 _ rfl).alloc _).below hb1; have BT : Blk w1 (w.heap.size + 1) #[.int .i64 t.f0, .slice T1 t.f1.length d1] 75 := (Blk.new _ _ 75 _ (by simp)).below hb1; have HB := Aside0.mk hB; have HBC := Aside0.mk BC; have hlz := BC.lt; have k0 := BC.cell 0 _ rfl; have k1 := BC.cell 1 _ rfl; have k2 := BC.cell 2 _ rfl; have k3 := BC.cell 3 _ rfl; have k4 := BC.cell 4 _ rfl; have k5 := BC.cell 5 _ rfl; have k6 := BC.cell 6 _ rfl; have k7 := BC.cell 7 _ rfl; have k8 := BC.cell 8 _ rfl; have k9 := BC.cell 9 _ rfl; have k10 := BC.cell 10 _ rfl; have kt0 := BT.cell 0 _ rfl; have kt1 := BT.cell 1 _ rfl; clear hB BC BT hb1)
    | (go_at_call 96; refine (HSC.out _ HB.out).mono ?_; rintro e w2 ⟨rfl, hb2⟩; have HB2 := Aside0.mk (bel2 HB.out hb2); clear hb2))
   go_ret
   exact ⟨ret_bool HPF.out.symm, below_alloc HB2.out _⟩
 ·have HPF : Aside0 (proveF x t = false) := ⟨by unfold proveF; simp [hv]⟩
  generalize hf : faultC x = ec at *
  have hv2 : (ec == 0) = false := by simpa using hv
  clear hscn
  go_enter Try.func57, Try.ntmps57
  go_wp2_with (go_at_call 58; refine (hchk _ _).mono ?_; rintro e w1 ⟨rfl, hb1⟩; have HB := Aside0.mk (bel2 (hb0 _ _) hb1); clear hb1)
  go_ret
  exact ⟨ret_bool HPF.out.symm, HB.out⟩
end Go.Proofs.Ytdgkhoflajdidaa
/- A region of open order in a round: by the same steps as outside. -/
namespace Go.Proofs.Ytdgkhoflajdidaa
open Go.RowKit Go.Proofs.YtdgkhoflajdidaaW.PrintWords Go.Proofs.YtdgkhoflajdidaaW.PrintMore Go.Proofs.YtdgkhoflajdidaaW.PrintLast Go.Proofs.Ytdgkhoflajdidaa.Print
set_option linter.unusedVariables false
set_option linter.unusedSimpArgs false
section
variable {P : Program} {ops : Array Oper} {Q : Exit → Act → World → Prop} {l n : Nat} {md : Region.Mode}
def noDefer (ops : Array Oper) : Bool := ops.all fun o => match o.op with
 | .defer _ => false
 | _ => true
theorem noDefer_spec (h : noDefer ops = true) {i : Nat} {o : Oper} (ho : ops[i]? = some o) (c : Call) : o.op ≠ .defer c := by
 intro e
 unfold noDefer at h
 rw [Array.all_eq_true] at h
 obtain ⟨hi, he⟩ := Array.getElem?_eq_some_iff.1 ho
 have := h i hi
 rw [he, e] at this
 cases this
theorem Oper.wp_in {o : Oper} {a : Act} {w : World} {K K' : Act → World → Prop} (hd : ∀ c, o.op ≠ .defer c) (h : Oper.wp P o a w K Q) (hK : ∀ a w, K a w → K' a w) : Oper.wpIn (Fence.wide.inRound l) n P o a w K' Q := by
 unfold Oper.wp at h
 refine ⟨fun _ _ => trivial, ?_⟩
 rw [show (Fence.wide.inRound l).round = some l from rfl, Oper.semAt_some l a.eval o hd]
 generalize (execOp a.eval o).run P w = r at *
 cases r with
 | ok x w' =>
  cases x with
  | value v => exact hK _ _ h
  | skip => exact hK _ _ h
  | defer d => exact hK _ _ h
  | enter f args =>
   refine ⟨fun h => absurd (show (false : Bool) = true from h) (by decide), ?_⟩
   refine CallsIn.inRound l (callsIn_wide.2 (h.mono fun e w'' he => ?_))
   cases e with
   | returned v => exact hK _ _ he
   | panicked c => exact he
   | outgrown => exact he
  | row row args =>
   refine ⟨fun h => absurd (show (false : Bool) = true from h) (by decide), ?_⟩
   intro c cs _
   obtain ⟨v, w'', hv, hs⟩ := h c cs
   exact ⟨v, w'', hK _ _ hv, stepsIn_wide.2 hs⟩
  | _ => exact h.elim
 | halt x w' =>
  cases x with
  | panic v => exact h
  | _ => exact h.elim
theorem wpOp_in (hd : noDefer ops = true) (hQ : ¬ LetsOut Q) {i : Nat} {a : Act} {w : World} {K K' : Act → World → Prop} (h : wpOp P ops Q i K a w) (hK : ∀ a w, K a w → K' a w) : wpOpIn (Fence.wide.inRound l) n P ops Q i K' a w := by
 unfold wpOp at h
 unfold wpOpIn
 cases ho : ops[i]? with
 | none => rw [ho] at h; exact hK _ _ h
 | some o =>
  rw [ho] at h
  simp only at h ⊢
  split
  ·rename_i hw
   rw [if_pos hw] at h
   exact Oper.wp_in (noDefer_spec hd ho) (h.resolve_right fun e => hQ e.2) hK
  ·rename_i hw
   rw [if_neg hw] at h
   exact ⟨fun _ _ => trivial, hK _ _ h⟩
theorem wpAny_in (hd : noDefer ops = true) (hQ : ¬ LetsOut Q) : ∀ (fuel : Nat) (listed : Array Bool) (a : Act) (w : World), wpAny P md ops Q fuel listed a w → wpAnyIn (Fence.wide.inRound l) n P md ops Q fuel listed a w
 | 0, _, _, _, h => h
 | fuel + 1, _, _, _, h => ⟨h.1, fun i hi => wpOp_in hd hQ (h.2 i hi) (fun a w h' => wpAny_in hd hQ fuel _ a w h')⟩
/-- Whatever order is drawn. -/
def RegionAny (P : Program) (ops : Array Oper) (Q : Exit → Act → World → Prop) (a : Act) (w : World) : Prop := wpAny P .any ops Q ops.size (Array.replicate ops.size false) a w.drew
theorem toRound_ {id : Nat} {a : Act} {w : World} (hd : noDefer ops = true) (hQ : ¬ LetsOut Q) (hm : P.follows .mixedOrders = true) (h : RegionAny P ops Q a w) : (Code.region id ops true).wpIn (Fence.wide.inRound l) n P Q a w :=
 wpIn_region_any hm (wpAny_in hd hQ _ _ _ _ h)
/-- start_ in a round. -/
theorem startAny_ {S : World → Prop} {ds : List Nat} {n : Nat} {a : Act} {w : World} (l' : Array Bool) (hm : P.follows .mixedOrders = true) (hn : ops.size = n) (hl : Array.replicate n false = l') (hS : S w.drew)
    (h : S w.drew → wpAnyLast P .any ops Q S ds n l' a w.drew) : RegionAny P ops Q a w := by
 subst hn
 subst hl
 exact wpAny_of_last _ _ _ _ (h hS)
end
end Go.Proofs.Ytdgkhoflajdidaa
/- Rows of scenes: told apart, appended to, read. -/
namespace Go.Proofs.Ytdgkhoflajdidaa
open Go.RowKit Go.Proofs.YtdgkhoflajdidaaW.PrintWords Go.Proofs.YtdgkhoflajdidaaW.PrintMore Go.Proofs.YtdgkhoflajdidaaW.PrintLast Go.Proofs.Ytdgkhoflajdidaa.Print
set_option linter.unusedVariables false
set_option linter.unusedSimpArgs false
theorem eq131 (d : Nat) (a b c e f a' b' c' e' f' : Int) (W : World) : (Op.equalIn (d + 2) 131 (.agg #[.int .i64 a, .int .i64 b, .int .i64 c, .int .i64 e, .int .i64 f]) (.agg #[.int .i64 a', .int .i64 b', .int .i64 c', .int .i64 e', .int .i64 f'])).run Try.prog W = .ok (decide (a = a') && (decide (b = b') && (decide (c = c') && (decide (e = e') && decide (f = f'))))) W := by
 have hi : ∃ i, Try.prog.info? 3 = some i ∧ i.size = 1 := by
  have := info3
  cases h : Try.prog.info? 3 with
  | none => rw [h] at this; cases this
  | some i => rw [h] at this; simp at this; exact ⟨i, rfl, this.2.1⟩
 obtain ⟨i, hi, hs⟩ := hi
 have h := run_equalIn_array (P := Try.prog) (w := W) (d + 1) #[.int .i64 a, .int .i64 b, .int .i64 c, .int .i64 e, .int .i64 f] #[.int .i64 a', .int .i64 b', .int .i64 c', .int .i64 e', .int .i64 f'] Try.underlying131 hi
 refine Eq.trans h ?_
 have hc : Try.prog.cellsOf 3 = 1 := by kernel_rfl
 rw [hc]
 have hu3 := Try.underlying3
 simp only [show List.range 5 = [0, 1, 2, 3, 4] from rfl]
 simp only [Op.eqItems]
 clear h
 go_simp
 by_cases h1 : a = a' <;> by_cases h2 : b = b' <;> by_cases h3 : c = c' <;> by_cases h4 : e = e' <;> by_cases h5 : f = f' <;> simp [h1, h2, h3, h4, h5]
/-- Two scenes are told apart. -/
theorem neq_run {ty : TypeId} {s t : Sc} {W : World} {ρ : Operand → Value} {d : Option Tmp} {p : String} {af : Array Edge} {g : Option (Nat × Bool)} (x y : Operand) (h1 : ρ x = .agg #[.int .i64 s.h, .int .i64 s.l0, .int .i64 s.l1, .int .i64 s.l2, .int .i64 s.l3, .int .i64 s.l4]) (h2 : ρ y = .agg #[.int .i64 t.h, .int .i64 t.l0, .int .i64 t.l1, .int .i64 t.l2, .int .i64 t.l3, .int .i64 t.l4]) :
    (execOp ρ { dst := d, op := .binOp .neq 133 x y 133, type := ty, pos := p, after := af, guard := g }).run Try.prog W = .ok (.value (.bool (!decide (s = t)))) W := by
 have hu := Try.underlying133
 have he := eq131 9997 s.l0 s.l1 s.l2 s.l3 s.l4 t.l0 t.l1 t.l2 t.l3 t.l4
 have hst : decide (s = t) = (decide (s.h = t.h) && (decide (s.l0 = t.l0) && (decide (s.l1 = t.l1) && (decide (s.l2 = t.l2) && (decide (s.l3 = t.l3) && decide (s.l4 = t.l4)))))) := by
  cases s; cases t; simp [Sc.mk.injEq]
 rw [hst]
 clear hst
 generalize (decide (s.l0 = t.l0) && (decide (s.l1 = t.l1) && (decide (s.l2 = t.l2) && (decide (s.l3 = t.l3) && decide (s.l4 = t.l4))))) = b at *
 by_cases hh : s.h = t.h
 ·cases b
  ·simp only [hh, decide_true, Bool.and_false, Bool.not_false]
   rw [hh] at h1
   go_simp
  ·simp only [hh, decide_true, Bool.and_true, Bool.not_true]
   rw [hh] at h1
   go_simp
 ·simp only [hh, decide_false, Bool.false_and, Bool.not_false]
  go_simp
theorem cell_grown' {W W1 : World} {row : Option Nat} (hg : W.grownBy W1 row) {p : Addr} {v : Value} (h : W.cell? p = some v) (hne : some p.block ≠ row) : W1.cell? p = some v := by
 obtain ⟨o, ho, _⟩ := cells_of_cell h
 exact (World.cell?_of_block (hg.block _ (Array.getElem?_eq_some_iff.1 ho).1 hne)).trans h
/-- Scenes' cells in a row. -/
def scCells (l : List Sc) : List Value := l.flatMap fun s => s.arr.toList
theorem scCells_snoc (l : List Sc) (s : Sc) : scCells (l ++ [s]) = scCells l ++ s.arr.toList := by simp [scCells]
theorem scCells_reps (w : World) (l : List Sc) : Reps (k133.K w) 6 l (scCells l) := by
 have key : ∀ (l acc : List Sc), Reps (k133.K w) 6 acc (scCells acc) → Reps (k133.K w) 6 (acc ++ l) (scCells (acc ++ l)) := by
  intro l
  induction l with
  | nil => intro acc h; simpa using h
  | cons s r ih =>
   intro acc h
   rw [show acc ++ s :: r = (acc ++ [s]) ++ r by simp]
   refine ih _ ?_
   rw [scCells_snoc]
   exact Reps.snoc h (k133_mk w s) rfl
 have := key l [] (Reps.none _ _)
 simpa using this
theorem info133 : (Try.prog.info? 133).map (fun i => (i.zero, i.size, i.bytes)) = some (some (.agg #[.int .i64 0, .int .i64 0, .int .i64 0, .int .i64 0, .int .i64 0, .int .i64 0]), 6, 48) := by kernel_rfl
theorem sc_own_C {w : World} {base : Nat} {v : Value} {l : List Sc} (h : w.ownsRow base 133 6 v l.length (scCells l)) : ∃ A c, v = .slice A l.length c ∧ Kd.C k133 w A l.length l := own_reads_row h (scCells_reps w l) rfl
/-- An append of one scene that lies in a block, as an operation of a region. -/
theorem append6_op {ops : Array Oper} {o : Oper} {a : Act} {K : Act → World → Prop} {Q : Exit → Act → World → Prop} {w : World} (s x : Operand)
    (hw : Region.wanted o (yielded ops a.tmps) = true) (ho : o.op = .call { callee := .builtin .append, args := #[s, x], argTypes := #[149, 149] })
    (base : Nat) (v : Value) (l : List Sc) (y : Sc) (p c : Nat)
    (hs : a.eval s = v) (hx : a.eval x = .slice (some ⟨p, 0, none⟩) 1 c) (hown : w.ownsRow base 133 6 v l.length (scCells l)) (hb : Blk w p #[.int .i64 y.h, .int .i64 y.l0, .int .i64 y.l1, .int .i64 y.l2, .int .i64 y.l3, .int .i64 y.l4] 133) (hl : l.length < 1000000000000) (hbase : base ≤ w.heap.size)
    (h : ∀ v1 w1, w1.ownsRow base 133 6 v1 (l ++ [y]).length (scCells (l ++ [y])) → w.grownBy w1 v.ownBlock → (v1.ownBlock = v.ownBlock ∨ v1.ownBlock = some w.heap.size) → K (a.put o.dst v1) w1) :
    if Region.wanted o (yielded ops a.tmps) = true then Oper.wp Try.prog o a w K Q else K (a.put o.dst undef) w := by
 obtain ⟨i0, hi, hzz⟩ := Option.map_eq_some_iff.1 info133
 simp only [Prod.mk.injEq] at hzz
 obtain ⟨hz0, hz1, hz2⟩ := hzz
 obtain ⟨v', w', hr, h2, h3, h4, h5⟩ := run_append_own_at (P := Try.prog) (w := w) base 149 o.type 133 i0 _ 6 48 Try.underlying149 hi hz0 hz1 hz2 rfl (by decide) v l.length (scCells l) hown ⟨p, 0, none⟩ 1 c [.int .i64 y.h, .int .i64 y.l0, .int .i64 y.l1, .int .i64 y.l2, .int .i64 y.l3, .int .i64 y.l4] rfl
  (fun j u hj => by
   match j, hj with
   | 0, hj => simp at hj; subst hj; exact hb.cell 0 _ rfl
   | 1, hj => simp at hj; subst hj; exact hb.cell 1 _ rfl
   | 2, hj => simp at hj; subst hj; exact hb.cell 2 _ rfl
   | 3, hj => simp at hj; subst hj; exact hb.cell 3 _ rfl
   | 4, hj => simp at hj; subst hj; exact hb.cell 4 _ rfl
   | 5, hj => simp at hj; subst hj; exact hb.cell 5 _ rfl) (fun u hu => by
    simp only [List.mem_cons, List.mem_nil_iff, or_false] at hu
    rcases hu with rfl | rfl | rfl | rfl | rfl | rfl <;> rfl) (by simp only [maxLen]; omega) (by omega) hbase
 refine value_ (w1 := w') (v := v') hw rfl ?_ (h v' w' (by rw [scCells_snoc]; simpa [Sc.arr] using h2) h3 h5)
 unfold execOp
 simp only [ho, resolve, invoke, builtin, Sem.run_bind, Sem.run_pure, Result.andThen_ok, List.map_toArray, List.map_cons, List.map_nil, hs, hx, hr]
theorem length_flatMap_le {α β : Type} (f : α → List β) (n : Nat) : ∀ l : List α, (∀ a ∈ l, (f a).length ≤ n) → (l.flatMap f).length ≤ l.length * n
 | [], _ => by simp
 | a :: r, h => by
  rw [List.flatMap_cons, List.length_append, List.length_cons, Nat.add_mul, Nat.one_mul, Nat.add_comm]
  exact Nat.add_le_add (length_flatMap_le f n r fun b hb => h b (List.mem_cons_of_mem _ hb)) (h a (List.mem_cons_self ..))
theorem irange_len (lo hi : Int) (h : hi - lo ≤ 99) : (irange lo hi).length ≤ 100 := by simp [irange]; omega
theorem scFrom_len {x : S38} (hv : Valid x) : ∀ (d h : Nat) (s : Sc), (scFrom x d h s).length ≤ 100 ^ d
 | 0, _, _ => by simp [scFrom]
 | d + 1, h, s => by
  have h1 : (irange (x.f8.getD h z35).f0 (x.f8.getD h z35).f1).length ≤ 100 := by
   apply irange_len
   by_cases hlt : h < x.f8.length
   ·have := hv.lossV _ (List.getElem_mem hlt)
    rw [show x.f8.getD h z35 = x.f8[h] by simp [hlt]]
    omega
   ·rw [List.getD_eq_getElem?_getD, List.getElem?_eq_none (Nat.le_of_not_lt hlt)]
    show z35.f1 - z35.f0 ≤ 99
    decide
  refine Nat.le_trans (length_flatMap_le _ (100 ^ d) _ fun n _ => scFrom_len hv d (h + 1) _) ?_
  rw [Nat.pow_succ, Nat.mul_comm]
  exact Nat.mul_le_mul_left _ h1
theorem allSc_len {x : S38} (hv : Valid x) : (allSc x).length ≤ 1000000000000 := by
 have h1 : (irange x.f7.f0 x.f7.f1).length ≤ 100 := irange_len _ _ (by have := hv.heat0; have := hv.heat2; omega)
 have h5 : (x.f0 + 1).toNat ≤ 5 := by have := hv.last1; omega
 have h2 : 100 ^ (x.f0 + 1).toNat ≤ 100 ^ 5 := Nat.pow_le_pow_right (by decide) h5
 refine Nat.le_trans (length_flatMap_le _ (100 ^ 5) _ fun n _ => Nat.le_trans (scFrom_len hv _ _ _) h2) ?_
 exact Nat.le_trans (Nat.mul_le_mul_right _ h1) (by decide)
end Go.Proofs.Ytdgkhoflajdidaa
