/- Lemmas for the laws' proofs: Hd, Ia, Ib, Ic, Id, Ie, If, Ig. -/
import Derived.Test.YtdgkhoflajdidaaCore09
/- asked, where there is an error. -/
namespace Go.Proofs.Ytdgkhoflajdidaa
open Go.RowKit Go.Proofs.YtdgkhoflajdidaaW.PrintWords Go.Proofs.YtdgkhoflajdidaaW.PrintMore Go.Proofs.YtdgkhoflajdidaaW.PrintLast Go.Proofs.Ytdgkhoflajdidaa.Print
set_option linter.unusedVariables false
set_option linter.unusedSimpArgs false
attribute [local go_sem] wide_depth wide_fn Oper.semAt_some
/-- What asked leaves, whatever is asked. -/
def AskAll (x : S38) (cs : List Value) (fine : Bool) (w : World) (e : Ending) (w' : World) : Prop := Below w.heap.size w w' ∧
 (if askE x fine = 0 then ∃ g mb, e = .returned (.tuple #[.pointer (some ⟨g, 0, none⟩), .int .i64 0]) ∧ w.heap.size ≤ g ∧ w.heap.size ≤ mb ∧ WorkAt x cs g mb w' ∧ w'.heap[mb]? = some (.map #[] 0) else e = .returned (.tuple #[.pointer none, .int .i64 (askE x fine)]))
theorem askE_nonneg {x : S38} {b : Bool} : askE x b = 0 → faultC x = 0 ∧ b = true ∧ (truthL x).isEmpty = false := by
 unfold askE
 split
 ·split
  ·split
   ·intro h; omega
   ·rename_i h1 h2 h3; intro _; exact ⟨h1, h2, Bool.eq_false_iff.2 h3⟩
  ·intro h; omega
 ·intro h; exact absurd h (by assumption)
set_option maxRecDepth 100000 in
set_option maxHeartbeats 4000000 in
theorem askedAll_calls (x : S38) (cs : List Value) (b : Bool) (w : World) (hx : k38.K w x cs) :
    Calls Try.prog 77 #[.agg cs.toArray, .bool b] w (AskAll x cs b w) := by
 by_cases hv : faultC x = 0
 ·cases b with
  | true =>
   refine (asked_calls x cs w hx hv).mono fun e w' h => ?_
   unfold AskPost at h
   refine ⟨h.1, ?_⟩
   have h2 := h.2
   cases hE : (truthL x).isEmpty with
   | true =>
    rw [if_pos hE] at h2
    have : askE x true = 11 := by unfold askE; rw [if_pos hv, if_pos rfl, if_pos hE]
    rw [this, if_neg (by decide)]
    exact h2
   | false =>
    rw [if_neg (by rw [hE]; decide)] at h2
    have : askE x true = 0 := by unfold askE; rw [if_pos hv, if_pos rfl, if_neg (by rw [hE]; decide)]
    rw [if_pos this]
    exact h2
  | false =>
   have hb0 := fun o => below_alloc (Below.refl w.heap.size w) o
   have hchk := fun o => check_calls x cs (w.alloc o) (k38.K_below (hb0 o) hx)
   obtain ⟨A5, c5, A6, c6, A9, c9, A10, c10, hcs, _⟩ := k38_open hx
   have HE := Lib.hid (show askE x false = 2 by unfold askE; rw [if_pos hv]; rfl)
   rw [hv] at hchk
   subst hcs
   clear hx hv
   have hu := Try.underlying38
   refine (callsIn_wide (n := 0)).1 ?_
   refine callsIn_of_wp_marks Try.func77 rfl trivial ?_ rfl
   simp only [Try.ntmps77, List.size_toArray, List.length_cons, List.length_nil, Nat.reduceAdd, Nat.reduceSub, Array.replicate_succ, Array.replicate_zero, List.push_toArray, List.append_toArray, List.nil_append, List.cons_append]
   gi_wp2_with (gi_at_call 58; refine (callsIn_wide.2 (hchk _)).mono ?_; rintro e w1 ⟨rfl, hb1⟩; have HB := Aside0.mk (bel2 (hb0 _) hb1); clear hb1 hchk)
   refine ⟨_, results_tmp2 rfl _ _ _, HB.out, ?_⟩
   rw [HE.out, if_neg (by decide)]; rfl
 ·have hb0 := fun o => below_alloc (Below.refl w.heap.size w) o
  have hchk := fun o => check_calls x cs (w.alloc o) (k38.K_below (hb0 o) hx)
  obtain ⟨A5, c5, A6, c6, A9, c9, A10, c10, hcs, _⟩ := k38_open hx
  have HE := Lib.hid (show askE x b = faultC x by unfold askE; rw [if_neg hv])
  have HV := Lib.hid hv
  generalize hf : faultC x = ec at *
  have hv2 : (ec == 0) = false := by simpa using hv
  subst hcs
  clear hx
  have hu := Try.underlying38
  refine (callsIn_wide (n := 0)).1 ?_
  refine callsIn_of_wp_marks Try.func77 rfl trivial ?_ rfl
  simp only [Try.ntmps77, List.size_toArray, List.length_cons, List.length_nil, Nat.reduceAdd, Nat.reduceSub, Array.replicate_succ, Array.replicate_zero, List.push_toArray, List.append_toArray, List.nil_append, List.cons_append]
  gi_wp2_with (gi_at_call 58; refine (callsIn_wide.2 (hchk _)).mono ?_; rintro e w1 ⟨rfl, hb1⟩; have HB := Aside0.mk (bel2 (hb0 _) hb1); clear hb1 hchk)
  refine ⟨_, results_tmp2 rfl _ _ _, HB.out, ?_⟩
  rw [HE.out, if_neg HV.out]; rfl
end Go.Proofs.Ytdgkhoflajdidaa
/- What is asked of the past: its bounds in all truths. -/
namespace Go.Proofs.Ytdgkhoflajdidaa
open Go.RowKit Go.Proofs.YtdgkhoflajdidaaW.PrintWords Go.Proofs.YtdgkhoflajdidaaW.PrintMore Go.Proofs.YtdgkhoflajdidaaW.PrintLast Go.Proofs.Ytdgkhoflajdidaa.Print
set_option linter.unusedVariables false
set_option linter.unusedSimpArgs false
/-- The range with a number more. -/
def wid (r : S35) (n : Int) : S35 := ⟨mn2 r.f0 n, mx2 r.f1 n⟩
/-- The range with a number more; the first one makes it. -/
def bndStep (k : Nat) (r : S35) (n : Int) : S35 := wid (if k = 0 then ⟨n, n⟩ else r) n
/-- The bounds of numbers. -/
def bndTo (f : Nat → Int) : Nat → S35
 | 0 => ⟨0, 0⟩
 | k + 1 => bndStep k (bndTo f k) (f k)
theorem bnd_spec (f : Nat → Int) : ∀ k, 0 < k → (∀ j, j < k → (bndTo f k).f0 ≤ f j ∧ f j ≤ (bndTo f k).f1) ∧ (∃ j, j < k ∧ f j = (bndTo f k).f0) ∧ ∃ j, j < k ∧ f j = (bndTo f k).f1
 | 0, h => absurd h (Nat.lt_irrefl _)
 | 1, _ => by
  have e : bndTo f 1 = ⟨f 0, f 0⟩ := by simp [bndTo, bndStep, wid, mn2, mx2]
  rw [e]
  exact ⟨fun j hj => by obtain rfl : j = 0 := by omega
                        exact ⟨Int.le_refl _, Int.le_refl _⟩, ⟨0, by omega, rfl⟩, ⟨0, by omega, rfl⟩⟩
 | k + 2, _ => by
  obtain ⟨h1, ⟨j1, hj1, e1⟩, ⟨j2, hj2, e2⟩⟩ := bnd_spec f (k + 1) (by omega)
  have e : bndTo f (k + 2) = ⟨min (bndTo f (k + 1)).f0 (f (k + 1)), max (bndTo f (k + 1)).f1 (f (k + 1))⟩ := by
   show bndStep (k + 1) (bndTo f (k + 1)) (f (k + 1)) = _
   unfold bndStep wid
   rw [if_neg (by omega), mn2_eq, mx2_eq]
  rw [e]
  refine ⟨fun j hj => ?_, ?_, ?_⟩
  ·by_cases h : j = k + 1
   ·subst h; simp only; omega
   ·have := h1 j (by omega); simp only; omega
  ·by_cases h : (bndTo f (k + 1)).f0 ≤ f (k + 1)
   ·exact ⟨j1, by omega, by rw [e1]; simp only; omega⟩
   ·exact ⟨k + 1, by omega, by simp only; omega⟩
  ·by_cases h : f (k + 1) ≤ (bndTo f (k + 1)).f1
   ·exact ⟨j2, by omega, by rw [e2]; simp only; omega⟩
   ·exact ⟨k + 1, by omega, by simp only; omega⟩
def zSc : Sc := ⟨0, 0, 0, 0, 0, 0⟩
/-- The bounds of what is asked, in all truths. -/
def askB (x : S38) (wa : List Int) (val : S114 → Int) : S35 := bndTo (fun k => val (pastOf x ((truthL x).getD k zSc) x.f5 wa)) (truthL x).length
theorem WorkAt.below {x : S38} {cs : List Value} {g mb : Nat} {W V : World} (h : WorkAt x cs g mb W) (hb : Below W.heap.size W V) : WorkAt x cs g mb V := by
 obtain ⟨A, c, h1, h2⟩ := h
 exact ⟨A, c, h1.below hb, Kd.C_below h2 hb⟩
set_option maxRecDepth 100000 in
set_option maxHeartbeats 4000000 in
theorem bounds_calls (x : S38) (cs : List Value) (g mb : Nat) (f : FuncId) (fn : Func) (hfn : Try.prog.funcs[f]? = some fn) (hname : (fn.name == "runtime.NumGoroutine") = false) (hbd : fn.body.isSome = true) (val : S114 → Int) (hour : Int) (B : Option Addr) (d : Nat) (wa : List Int) (w : World)
    (hx : k38.K w x cs) (hV : Valid x) (hW : WorkAt x cs g mb w) (hwa : Kd.C (Kd.int .i64) w B wa.length wa) (hP : ∀ s, s ∈ truthL x → PlayOk x s x.f5 wa)
    (hf : ∀ s ps W, s ∈ truthL x → k114.K W (pastOf x s x.f5 wa) ps → Calls Try.prog f #[.agg ps.toArray, .int .i64 hour] W fun e w' => e = .returned (.int .i64 (val (pastOf x s x.f5 wa))) ∧ Below W.heap.size W w') :
    Calls Try.prog 79 #[.agg #[.func (.func f) #[] #[]], .pointer (some ⟨g, 0, none⟩), .slice B wa.length d, .int .i64 hour] w
     fun e w' => e = .returned (.agg #[.int .i64 (askB x wa val).f0, .int .i64 (askB x wa val).f1]) ∧ Below w.heap.size w w' := by
 obtain ⟨A5, c5, A6, c6, A9, c9, A10, c10, hcs, l5, g5, l6, g6, l9, g9, l10, g10⟩ := k38_open hx
 obtain ⟨At, ct, hwb, hwr⟩ := hW
 have HX := Aside0.mk hx
 subst hcs
 have HP := Aside0.mk hP
 have HFF := Aside0.mk hf
 have HWA := Aside0.mk hwa
 have G5 := Aside0.mk g5
 have HWR := Aside0.mk hwr
 have HWB : Aside0 (Blk w g #[.int .i64 x.f0, .int .i64 x.f1, .int .i64 x.f2, .int .i64 x.f3, .int .i64 x.f4, .slice A5 x.f5.length c5, .slice A6 x.f6.length c6, .int .i64 x.f7.f0, .int .i64 x.f7.f1, .slice A9 x.f8.length c9, .slice A10 x.f9.length c10, .slice At (truthL x).length ct, .map (some mb)] 151) := ⟨hwb⟩
 have htl := hwr.2.1
 have hgl : g < w.heap.size := hwb.lt
 clear hx hP hf hwa g5 g6 g9 g10 l5 l6 l9 l10 hwb hwr hV
 have hkt := (HWB.out.alloc (.cells #[.func (.func f) #[] #[]] 116)).alloc (.cells #[.int .i64 0, .int .i64 0] 35) |>.cell 11 _ rfl
 have hu := Try.underlying38
 have hu2 := Try.underlying133
 have hu3 := Try.underlying151
 have hu4 := Try.underlying116
 have hu5 := Try.underlying35
 have hu6 := Try.underlying107
 go_enter Try.func79, Try.ntmps79
 go_wp2
 have hb2 : Below w.heap.size w ((w.alloc (.cells #[.func (.func f) #[] #[]] 116)).alloc (.cells #[.int .i64 0, .int .i64 0] 35)) := below_alloc (below_alloc (Below.refl _ _) _) _
 have h1 : Blk ((w.alloc (.cells #[.func (.func f) #[] #[]] 116)).alloc (.cells #[.int .i64 0, .int .i64 0] 35)) w.heap.size #[.func (.func f) #[] #[]] 116 := (Blk.new _ _ _ _ rfl).alloc _
 have h2 : Blk ((w.alloc (.cells #[.func (.func f) #[] #[]] 116)).alloc (.cells #[.int .i64 0, .int .i64 0] 35)) (w.heap.size + 1) #[.int .i64 0, .int .i64 0] 35 := Blk.new _ _ _ _ (by simp)
 generalize (w.alloc (.cells #[.func (.func f) #[] #[]] 116)).alloc (.cells #[.int .i64 0, .int .i64 0] 35) = W0 at *
 clear hkt
 obtain ⟨vf, hvf⟩ : ∃ vf : Nat → Int, vf = fun k => val (pastOf x ((truthL x).getD k zSc) x.f5 wa) := ⟨_, rfl⟩
 have HVF := Lib.hid hvf
 have HAB := Lib.hid (show askB x wa val = bndTo vf (truthL x).length by rw [hvf]; rfl)
 clear hvf
 generalize truthL x = T at *
 go_loopw [17] (fun s17 wr => ∃ kk : Nat, kk ≤ T.length ∧ s17 = .int .i64 kk ∧ Aside0 (Below w.heap.size w wr ∧ Blk wr w.heap.size #[.func (.func f) #[] #[]] 116 ∧ Blk wr (w.heap.size + 1) #[.int .i64 (bndTo vf kk).f0, .int .i64 (bndTo vf kk).f1] 35)) (fun s17 _ => T.length - (intOf s17).toNat)
 case atStart => exact ⟨0, Nat.zero_le _, rfl, ⟨hb2, h1, h2⟩⟩
 case round =>
  obtain ⟨kk, hkk, rfl, HW⟩ := hrel
  by_cases hlt : kk < T.length
  ·have hltz : (kk : Int) < (T.length : Int) := by omega
   obtain ⟨ad, hA, hc0, hc1, hc2, hc3, hc4, hc5⟩ := row_at_sc (Kd.C_below HWR.out HW.out.1) kk hlt
   obtain rfl := hA
   have hmem : T[kk] ∈ T := List.getElem_mem hlt
   have hvk : vf kk = val (pastOf x T[kk] x.f5 wa) := by rw [HVF.out]; simp [hlt]
   generalize T[kk] = y at *
   have HPY := Aside0.mk (fun W (hW : Below w.heap.size w W) => play_calls x _ y A5 B c5 d x.f5 wa W (k38.K_below hW HX.out) (Kd.C_below G5.out hW) (Kd.C_below HWA.out hW) (HP.out y hmem))
   have HFY := Aside0.mk (fun ps W h => HFF.out y ps W hmem h)
   generalize val (pastOf x y x.f5 wa) = n at *
   have HVK := Lib.hid hvk
   clear hmem hvk
   go_wp2
   have hb9 := below_alloc (Below.refl wr.heap.size wr) (.cells #[.int .i64 y.h, .int .i64 y.l0, .int .i64 y.l1, .int .i64 y.l2, .int .i64 y.l3, .int .i64 y.l4] 133)
   have B9 := Blk.new wr #[.int .i64 y.h, .int .i64 y.l0, .int .i64 y.l1, .int .i64 y.l2, .int .i64 y.l3, .int .i64 y.l4] 133 _ rfl
   generalize wr.alloc (.cells #[.int .i64 y.h, .int .i64 y.l0, .int .i64 y.l1, .int .i64 y.l2, .int .i64 y.l3, .int .i64 y.l4] 133) = w9 at hb9 B9 ⊢
   have hb9w := bel2 HW.out.1 hb9
   have BG := (show Blk w g #[.int .i64 x.f0, .int .i64 x.f1, .int .i64 x.f2, .int .i64 x.f3, .int .i64 x.f4, .slice A5 x.f5.length c5, .slice A6 x.f6.length c6, .int .i64 x.f7.f0, .int .i64 x.f7.f1, .slice A9 x.f8.length c9, .slice A10 x.f9.length c10, .slice (some ad) T.length ct, .map (some mb)] 151 from HWB.out).below hb9w
   have BF := HW.out.2.1.below hb9
   have k0 := BG.cell 0 _ rfl
   have k1 := BG.cell 1 _ rfl
   have k2 := BG.cell 2 _ rfl
   have k3 := BG.cell 3 _ rfl
   have k4 := BG.cell 4 _ rfl
   have k5 := BG.cell 5 _ rfl
   have k6 := BG.cell 6 _ rfl
   have k7 := BG.cell 7 _ rfl
   have k8 := BG.cell 8 _ rfl
   have k9 := BG.cell 9 _ rfl
   have k10 := BG.cell 10 _ rfl
   have b0 := B9.cell 0 _ rfl
   have b1 := B9.cell 1 _ rfl
   have b2 := B9.cell 2 _ rfl
   have b3 := B9.cell 3 _ rfl
   have b4 := B9.cell 4 _ rfl
   have b5 := B9.cell 5 _ rfl
   have kf := BF.cell 0 _ rfl
   have HB9 := Aside0.mk (And.intro hb9w (And.intro (HW.out.2.2.below hb9) BF))
   clear hb9 hb9w B9 BG BF hc0 hc1 hc2 hc3 hc4 hc5
   refine start_ (n := 17) (S := fun w' => w'.cell? ⟨w.heap.size, 0, none⟩ = some (.func (.func f) #[] #[]) ∧ w'.cell? ⟨g, 0, none⟩ = some (.int .i64 x.f0) ∧ w'.cell? ⟨g, 1, none⟩ = some (.int .i64 x.f1) ∧ w'.cell? ⟨g, 2, none⟩ = some (.int .i64 x.f2) ∧ w'.cell? ⟨g, 3, none⟩ = some (.int .i64 x.f3) ∧ w'.cell? ⟨g, 4, none⟩ = some (.int .i64 x.f4) ∧ w'.cell? ⟨g, 5, none⟩ = some (.slice A5 x.f5.length c5) ∧ w'.cell? ⟨g, 6, none⟩ = some (.slice A6 x.f6.length c6) ∧ w'.cell? ⟨g, 7, none⟩ = some (.int .i64 x.f7.f0) ∧ w'.cell? ⟨g, 8, none⟩ = some (.int .i64 x.f7.f1) ∧ w'.cell? ⟨g, 9, none⟩ = some (.slice A9 x.f8.length c9) ∧ w'.cell? ⟨g, 10, none⟩ = some (.slice A10 x.f9.length c10) ∧ w'.cell? ⟨wr.heap.size, 0, none⟩ = some (.int .i64 y.h) ∧ w'.cell? ⟨wr.heap.size, 1, none⟩ = some (.int .i64 y.l0) ∧ w'.cell? ⟨wr.heap.size, 2, none⟩ = some (.int .i64 y.l1) ∧ w'.cell? ⟨wr.heap.size, 3, none⟩ = some (.int .i64 y.l2) ∧ w'.cell? ⟨wr.heap.size, 4, none⟩ = some (.int .i64 y.l3) ∧ w'.cell? ⟨wr.heap.size, 5, none⟩ = some (.int .i64 y.l4)) (ds := []) #[false, false, false, false, false, false, false, false, false, false, false, false, false, false, false, false, false] (by kernel_rfl) rfl rfl ⟨kf, k0, k1, k2, k3, k4, k5, k6, k7, k8, k9, k10, b0, b1, b2, b3, b4, b5⟩ (fun hHeld => ?_)
   refine pure_ (i := 0) (N := some 22) (v := ?_) (a' := ?_) (bs 17 1) rfl rfl (by kernel_rfl) (fun _ _ _ h => h) (Or.inl ⟨by rfl, ?_⟩) ?_ ?_
   rotate_left
   ·intro w'
    go_simp
    with_reducible rfl
   rotate_left
   ·simp only [Act.put, List.setIfInBounds_toArray, List.set_cons_zero, List.set_cons_succ, i64_w, i32_w]
    rfl
   refine pure_ (i := 2) (N := some 24) (v := ?_) (a' := ?_) (bs 17 5) rfl rfl (by kernel_rfl) (fun _ _ _ h => h) (Or.inl ⟨by rfl, ?_⟩) ?_ ?_
   rotate_left
   ·intro w'
    go_simp
    with_reducible rfl
   rotate_left
   ·simp only [Act.put, List.setIfInBounds_toArray, List.set_cons_zero, List.set_cons_succ, i64_w, i32_w]
    rfl
   refine pure_ (i := 3) (N := some 25) (v := ?_) (a' := ?_) (bs 17 13) rfl rfl (by kernel_rfl) (fun _ _ _ h => h) (Or.inl ⟨by rfl, ?_⟩) ?_ ?_
   rotate_left
   ·intro w'
    go_simp
    with_reducible rfl
   rotate_left
   ·simp only [Act.put, List.setIfInBounds_toArray, List.set_cons_zero, List.set_cons_succ, i64_w, i32_w]
    rfl
   refine pure_ (i := 4) (N := some 26) (v := ?_) (a' := ?_) (bs 17 29) rfl rfl (by kernel_rfl) (fun _ _ _ h => h) (Or.inl ⟨by rfl, ?_⟩) ?_ ?_
   rotate_left
   ·intro w'
    go_simp
    with_reducible rfl
   rotate_left
   ·simp only [Act.put, List.setIfInBounds_toArray, List.set_cons_zero, List.set_cons_succ, i64_w, i32_w]
    rfl
   refine pure_ (i := 7) (N := some 29) (v := ?_) (a' := ?_) (bs 17 157) rfl rfl (by kernel_rfl) (fun _ _ _ h => h) (Or.inl ⟨by rfl, ?_⟩) ?_ ?_
   rotate_left
   ·intro w'
    go_simp
    with_reducible rfl
   rotate_left
   ·simp only [Act.put, List.setIfInBounds_toArray, List.set_cons_zero, List.set_cons_succ, i64_w, i32_w]
    rfl
   refine pure_ (i := 8) (N := some 30) (v := ?_) (a' := ?_) (bs 17 413) rfl rfl (by kernel_rfl) (fun _ _ _ h => h) (Or.inl ⟨by rfl, ?_⟩) ?_ ?_
   rotate_left
   ·intro w'
    go_simp
    with_reducible rfl
   rotate_left
   ·simp only [Act.put, List.setIfInBounds_toArray, List.set_cons_zero, List.set_cons_succ, i64_w, i32_w]
    rfl
   refine pure_ (i := 9) (N := some 31) (v := ?_) (a' := ?_) (bs 17 925) rfl rfl (by kernel_rfl) (fun _ _ _ h => h) (Or.inl ⟨by rfl, ?_⟩) ?_ ?_
   rotate_left
   ·intro w'
    go_simp
    with_reducible rfl
   rotate_left
   ·simp only [Act.put, List.setIfInBounds_toArray, List.set_cons_zero, List.set_cons_succ, i64_w, i32_w]
    rfl
   refine pure_ (i := 10) (N := some 32) (v := ?_) (a' := ?_) (bs 17 1949) rfl rfl (by kernel_rfl) (fun _ _ _ h => h) (Or.inl ⟨by rfl, ?_⟩) ?_ ?_
   rotate_left
   ·intro w'
    go_simp
    with_reducible rfl
   rotate_left
   ·simp only [Act.put, List.setIfInBounds_toArray, List.set_cons_zero, List.set_cons_succ, i64_w, i32_w]
    rfl
   refine pure_ (i := 12) (N := some 34) (v := ?_) (a' := ?_) (bs 17 6045) rfl rfl (by kernel_rfl) (fun _ _ _ h => h) (Or.inl ⟨by rfl, ?_⟩) ?_ ?_
   rotate_left
   ·intro w'
    go_simp
    with_reducible rfl
   rotate_left
   ·simp only [Act.put, List.setIfInBounds_toArray, List.set_cons_zero, List.set_cons_succ, i64_w, i32_w]
    rfl
   refine pure_ (i := 14) (N := some 36) (v := ?_) (a' := ?_) (bs 17 22429) rfl rfl (by kernel_rfl) (fun _ _ _ h => h) (Or.inl ⟨by rfl, ?_⟩) ?_ ?_
   rotate_left
   ·intro w'
    go_simp
    with_reducible rfl
   rotate_left
   ·simp only [Act.put, List.setIfInBounds_toArray, List.set_cons_zero, List.set_cons_succ, i64_w, i32_w]
    rfl
   refine take_ (i := 1) (N := some 23) (v := ?_) (a' := ?_) (bs 17 22431) rfl rfl (by kernel_rfl) (fun _ _ _ h => h) (Or.inl ⟨by rfl, ?_⟩) hHeld ?_ ?_
   rotate_left
   ·rintro w' ⟨s0, s1, s2, s3, s4, s5, s6, s7, s8, s9, s10, s11, s12, s13, s14, s15, s16, s17⟩
    go_simp
    with_reducible rfl
   rotate_left
   ·simp only [Act.put, List.setIfInBounds_toArray, List.set_cons_zero, List.set_cons_succ, i64_w, i32_w]
    rfl
   refine take_ (i := 5) (N := some 27) (v := ?_) (a' := ?_) (bs 17 22463) rfl rfl (by kernel_rfl) (fun _ _ _ h => h) (Or.inl ⟨by rfl, ?_⟩) hHeld ?_ ?_
   rotate_left
   ·rintro w' ⟨s0, s1, s2, s3, s4, s5, s6, s7, s8, s9, s10, s11, s12, s13, s14, s15, s16, s17⟩
    go_simp
    with_reducible rfl
   rotate_left
   ·simp only [Act.put, List.setIfInBounds_toArray, List.set_cons_zero, List.set_cons_succ, i64_w, i32_w]
    rfl
   refine take_ (i := 6) (N := some 28) (v := ?_) (a' := ?_) (bs 17 22527) rfl rfl (by kernel_rfl) (fun _ _ _ h => h) (Or.inl ⟨by rfl, ?_⟩) hHeld ?_ ?_
   rotate_left
   ·rintro w' ⟨s0, s1, s2, s3, s4, s5, s6, s7, s8, s9, s10, s11, s12, s13, s14, s15, s16, s17⟩
    go_simp
    with_reducible rfl
   rotate_left
   ·simp only [Act.put, List.setIfInBounds_toArray, List.set_cons_zero, List.set_cons_succ, i64_w, i32_w]
    rfl
   refine take_ (i := 11) (N := some 33) (v := ?_) (a' := ?_) (bs 17 24575) rfl rfl (by kernel_rfl) (fun _ _ _ h => h) (Or.inl ⟨by rfl, ?_⟩) hHeld ?_ ?_
   rotate_left
   ·rintro w' ⟨s0, s1, s2, s3, s4, s5, s6, s7, s8, s9, s10, s11, s12, s13, s14, s15, s16, s17⟩
    go_simp
    with_reducible rfl
   rotate_left
   ·simp only [Act.put, List.setIfInBounds_toArray, List.set_cons_zero, List.set_cons_succ, i64_w, i32_w]
    rfl
   refine one_ (i := 13) (N := some 35) (bs 17 32767) rfl rfl (by kernel_rfl) (by decide) (fun K hK => ?_)
   refine goes_ Try.func97 (by kernel_rfl) rfl #[.agg #[.int .i64 x.f0, .int .i64 x.f1, .int .i64 x.f2, .int .i64 x.f3, .int .i64 x.f4, .slice A5 x.f5.length c5, .slice A6 x.f6.length c6, .int .i64 x.f7.f0, .int .i64 x.f7.f1, .slice A9 x.f8.length c9, .slice A10 x.f9.length c10], .agg #[.int .i64 y.h, .int .i64 y.l0, .int .i64 y.l1, .int .i64 y.l2, .int .i64 y.l3, .int .i64 y.l4], .slice A5 x.f5.length c5, .slice B wa.length d] (by rfl) rfl rfl (by simp only [List.map_toArray, List.map_cons, List.map_nil]; rfl) ?_
   with_reducible refine (HPY.out _ (below_drew HB9.out.1)).mono ?_
   rintro e w3 ⟨v0, v1, v2, rfl, hpast, hb3⟩
   refine ⟨_, rfl, ?_⟩
   refine hK.out _ _ ⟨pw_cell_below hb3 (hHeld.1), pw_cell_below hb3 (hHeld.2.1), pw_cell_below hb3 (hHeld.2.2.1), pw_cell_below hb3 (hHeld.2.2.2.1), pw_cell_below hb3 (hHeld.2.2.2.2.1), pw_cell_below hb3 (hHeld.2.2.2.2.2.1), pw_cell_below hb3 (hHeld.2.2.2.2.2.2.1), pw_cell_below hb3 (hHeld.2.2.2.2.2.2.2.1), pw_cell_below hb3 (hHeld.2.2.2.2.2.2.2.2.1), pw_cell_below hb3 (hHeld.2.2.2.2.2.2.2.2.2.1), pw_cell_below hb3 (hHeld.2.2.2.2.2.2.2.2.2.2.1), pw_cell_below hb3 (hHeld.2.2.2.2.2.2.2.2.2.2.2.1), pw_cell_below hb3 (hHeld.2.2.2.2.2.2.2.2.2.2.2.2.1), pw_cell_below hb3 (hHeld.2.2.2.2.2.2.2.2.2.2.2.2.2.1), pw_cell_below hb3 (hHeld.2.2.2.2.2.2.2.2.2.2.2.2.2.2.1), pw_cell_below hb3 (hHeld.2.2.2.2.2.2.2.2.2.2.2.2.2.2.2.1), pw_cell_below hb3 (hHeld.2.2.2.2.2.2.2.2.2.2.2.2.2.2.2.2.1), pw_cell_below hb3 (hHeld.2.2.2.2.2.2.2.2.2.2.2.2.2.2.2.2.2)⟩ (fun hHeld => ?_)
   clear hK K
   refine norm_ (a' := ?_) ?_ ?_
   rotate_left
   ·show Act.put _ (some 35) _ = _
    simp only [Act.put, List.setIfInBounds_toArray, List.set_cons_zero, List.set_cons_succ, i64_w, i32_w]
    rfl
   refine one_ (i := 15) (N := some 37) (bs 17 65535) rfl rfl (by kernel_rfl) (by decide) (fun K hK => ?_)
   refine goesV_ hfn hname hbd #[.agg #[v0, v1, v2], .int .i64 hour] (by rfl) rfl rfl rfl (by simp only [List.map_toArray, List.map_cons, List.map_nil]; rfl) ?_
   with_reducible refine (HFY.out _ _ hpast).mono ?_
   rintro e w4 ⟨rfl, hb4⟩
   refine ⟨_, rfl, ?_⟩
   refine hK.out _ _ ⟨pw_cell_below hb4 (hHeld.1), pw_cell_below hb4 (hHeld.2.1), pw_cell_below hb4 (hHeld.2.2.1), pw_cell_below hb4 (hHeld.2.2.2.1), pw_cell_below hb4 (hHeld.2.2.2.2.1), pw_cell_below hb4 (hHeld.2.2.2.2.2.1), pw_cell_below hb4 (hHeld.2.2.2.2.2.2.1), pw_cell_below hb4 (hHeld.2.2.2.2.2.2.2.1), pw_cell_below hb4 (hHeld.2.2.2.2.2.2.2.2.1), pw_cell_below hb4 (hHeld.2.2.2.2.2.2.2.2.2.1), pw_cell_below hb4 (hHeld.2.2.2.2.2.2.2.2.2.2.1), pw_cell_below hb4 (hHeld.2.2.2.2.2.2.2.2.2.2.2.1), pw_cell_below hb4 (hHeld.2.2.2.2.2.2.2.2.2.2.2.2.1), pw_cell_below hb4 (hHeld.2.2.2.2.2.2.2.2.2.2.2.2.2.1), pw_cell_below hb4 (hHeld.2.2.2.2.2.2.2.2.2.2.2.2.2.2.1), pw_cell_below hb4 (hHeld.2.2.2.2.2.2.2.2.2.2.2.2.2.2.2.1), pw_cell_below hb4 (hHeld.2.2.2.2.2.2.2.2.2.2.2.2.2.2.2.2.1), pw_cell_below hb4 (hHeld.2.2.2.2.2.2.2.2.2.2.2.2.2.2.2.2.2)⟩ (fun hHeld => ?_)
   clear hK K
   refine norm_ (a' := ?_) ?_ ?_
   rotate_left
   ·show Act.put _ (some 37) _ = _
    simp only [Act.put, List.setIfInBounds_toArray, List.set_cons_zero, List.set_cons_succ, i64_w, i32_w]
    rfl
   refine pure_ (i := 16) (N := some 11) (v := ?_) (a' := ?_) (bs 17 131071) rfl rfl (by kernel_rfl) (fun _ _ _ h => h) (Or.inl ⟨by rfl, ?_⟩) ?_ ?_
   rotate_left
   ·intro w'
    go_simp
    with_reducible rfl
   rotate_left
   ·simp only [Act.put, List.setIfInBounds_toArray, List.set_cons_zero, List.set_cons_succ, i64_w, i32_w]
    rfl
   refine done_ (by kernel_rfl) ?_
   clear hHeld
   have hb4w : Below w9.heap.size w9 w4 := bel2 (bel2 (below_drew (Below.refl _ _)) hb3) hb4
   have BR := HB9.out.2.1.below hb4w
   have hbw4 := bel2 HB9.out.1 hb4w
   have HH4 := Aside0.mk (And.intro hbw4 (HB9.out.2.2.below hb4w))
   have hrb : bndTo vf (kk + 1) = bndStep kk (bndTo vf kk) n := by rw [← HVK.out]; rfl
   have HRB := Lib.hid hrb
   clear hb3 hb4 hb4w hbw4 hrb hpast kf
   by_cases hk0 : kk = 0
   ·have hkz : (kk : Int) = 0 := by omega
    have HEQ := Lib.hid (show (⟨mn2 n n, mx2 n n⟩ : S35) = bndStep kk (bndTo vf kk) n by unfold bndStep wid; rw [if_pos hk0])
    have pc0 : w4.cell? ⟨w.heap.size + 1, 0, none⟩ = _ := BR.cell 0 _ rfl
    have pf0 := BR.frozen 0
    have pB1 := BR.set 0 (.int .i64 (n))
    have pc1 := pB1.cell 1 _ rfl
    have pf1 := pB1.frozen 1
    have pB2 := pB1.set 1 (.int .i64 (n))
    have pc2 := pB2.cell 0 _ rfl
    have pc3 := pB2.cell 1 _ rfl
    have BX : Aside0 (Blk ((w4.setCell ⟨w.heap.size + 1, 0, none⟩ (.int .i64 n)).setCell ⟨w.heap.size + 1, 1, none⟩ (.int .i64 n)) (w.heap.size + 1) #[.int .i64 n, .int .i64 n] 35) := ⟨pB2⟩
    have HH5 : Aside0 (Below w.heap.size w ((w4.setCell ⟨w.heap.size + 1, 0, none⟩ (.int .i64 n)).setCell ⟨w.heap.size + 1, 1, none⟩ (.int .i64 n)) ∧ Blk ((w4.setCell ⟨w.heap.size + 1, 0, none⟩ (.int .i64 n)).setCell ⟨w.heap.size + 1, 1, none⟩ (.int .i64 n)) w.heap.size #[.func (.func f) #[] #[]] 116) :=
     ⟨(HH4.out.1.setCell (p := ⟨w.heap.size + 1, 0, none⟩) (by show w.heap.size ≤ w.heap.size + 1; omega) _).setCell (p := ⟨w.heap.size + 1, 1, none⟩) (by show w.heap.size ≤ w.heap.size + 1; omega) _, Blk.set_other (Blk.set_other HH4.out.2 (by show w.heap.size ≠ w.heap.size + 1; omega) _) (by show w.heap.size ≠ w.heap.size + 1; omega) _⟩
    clear pB1 pB2 BR hk0
    have hwid := fun W => wider_calls ⟨n, n⟩ n W
    go_wp2_with (go_at_call 118; refine (hwid _).mono ?_; clear hwid; rintro e w6 ⟨rfl, hb6⟩; have BQ := (BX.out).below hb6; have qc0 : w6.cell? ⟨w.heap.size + 1, 0, none⟩ = _ := BQ.cell 0 _ rfl; have qf0 := BQ.frozen 0; have qB1 := BQ.set 0 (.int .i64 (mn2 (n) n)); have qc1 := qB1.cell 1 _ rfl; have qf1 := qB1.frozen 1; have H6 := Aside0.mk (And.intro hb6 (qB1.set 1 (.int .i64 (mx2 (n) n)))); clear hb6 BQ qB1)
    go_roundw
    case rel =>
     refine ⟨kk + 1, by omega, by go_num, ⟨?_, ?_, ?_⟩⟩
     ·exact ((HH5.out.1.trans (H6.out.1.mono HH5.out.1.size)).setCell (p := ⟨w.heap.size + 1, 0, none⟩) (by show w.heap.size ≤ w.heap.size + 1; omega) _).setCell (p := ⟨w.heap.size + 1, 1, none⟩) (by show w.heap.size ≤ w.heap.size + 1; omega) _
     ·exact Blk.set_other (Blk.set_other (HH5.out.2.below H6.out.1) (by show w.heap.size ≠ w.heap.size + 1; omega) _) (by show w.heap.size ≠ w.heap.size + 1; omega) _
     ·rw [HRB.out]; exact HEQ.out ▸ H6.out.2
    case measure => simp [intOf]; omega
   ·have hkz : ((kk : Int) == 0) = false := by simp; omega
    have HEQ := Lib.hid (show (⟨mn2 (bndTo vf kk).f0 n, mx2 (bndTo vf kk).f1 n⟩ : S35) = bndStep kk (bndTo vf kk) n by unfold bndStep wid; rw [if_neg hk0])
    have BX := Aside0.mk BR
    have HH5 := HH4
    have pc2 := BR.cell 0 _ rfl
    have pc3 := BR.cell 1 _ rfl
    generalize (bndTo vf kk) = r at *
    clear BR hk0
    have hwid := fun W => wider_calls ⟨r.f0, r.f1⟩ n W
    go_wp2_with (go_at_call 118; refine (hwid _).mono ?_; clear hwid; rintro e w6 ⟨rfl, hb6⟩; have BQ := (BX.out).below hb6; have qc0 : w6.cell? ⟨w.heap.size + 1, 0, none⟩ = _ := BQ.cell 0 _ rfl; have qf0 := BQ.frozen 0; have qB1 := BQ.set 0 (.int .i64 (mn2 (r.f0) n)); have qc1 := qB1.cell 1 _ rfl; have qf1 := qB1.frozen 1; have H6 := Aside0.mk (And.intro hb6 (qB1.set 1 (.int .i64 (mx2 (r.f1) n)))); clear hb6 BQ qB1)
    go_roundw
    case rel =>
     refine ⟨kk + 1, by omega, by go_num, ⟨?_, ?_, ?_⟩⟩
     ·exact ((HH5.out.1.trans (H6.out.1.mono HH5.out.1.size)).setCell (p := ⟨w.heap.size + 1, 0, none⟩) (by show w.heap.size ≤ w.heap.size + 1; omega) _).setCell (p := ⟨w.heap.size + 1, 1, none⟩) (by show w.heap.size ≤ w.heap.size + 1; omega) _
     ·exact Blk.set_other (Blk.set_other (HH5.out.2.below H6.out.1) (by show w.heap.size ≠ w.heap.size + 1; omega) _) (by show w.heap.size ≠ w.heap.size + 1; omega) _
     ·rw [HRB.out]; exact HEQ.out ▸ H6.out.2
    case measure => simp [intOf]; omega
  ·have hltz : ¬ (kk : Int) < (T.length : Int) := by omega
   obtain rfl : kk = T.length := by omega
   obtain ⟨hbw, _, BR⟩ := HW.out
   have rc0 := BR.cell 0 _ rfl
   have rc1 := BR.cell 1 _ rfl
   have rs0 : wr.setCell ⟨w.heap.size + 1, 0, none⟩ (.int .i64 (bndTo vf T.length).f0) = wr := BR.set_same 0 _ rfl
   have rs1 : wr.setCell ⟨w.heap.size + 1, 1, none⟩ (.int .i64 (bndTo vf T.length).f1) = wr := BR.set_same 1 _ rfl
   have rf0 := BR.frozen 0
   have rf1 := BR.frozen 1
   have HBW := Aside0.mk hbw
   clear hbw BR
   generalize bndTo vf T.length = r at *
   go_wp2
   refine bodyPost_ret (v := .agg #[.int .i64 r.f0, .int .i64 r.f1]) (by simp [results, Try.results79, go_sem, rc0, rc1]) rfl ⟨?_, HBW.out⟩
   rw [HAB.out]
end Go.Proofs.Ytdgkhoflajdidaa
/- Bounds. -/
namespace Go.Proofs.Ytdgkhoflajdidaa
open Go.RowKit Go.Proofs.YtdgkhoflajdidaaW.PrintWords Go.Proofs.YtdgkhoflajdidaaW.PrintMore Go.Proofs.YtdgkhoflajdidaaW.PrintLast Go.Proofs.Ytdgkhoflajdidaa.Print
set_option linter.unusedVariables false
set_option linter.unusedSimpArgs false
/-- An append of one element that lies in a block, in a plain region. -/
theorem append_list {P : Program} {ops : Array Oper} {Q : Exit → Act → World → Prop} {o : Oper} {rest : List Oper} {a : Act} {w : World} (hg : o.guard = none) (s x : Operand) (t e : TypeId) (z : Value) (size bytes : Nat)
    (ho : o.op = .call { callee := .builtin .append, args := #[s, x], argTypes := #[t, t] }) (ht : P.underlying t = some (.slice e)) (hinfo : (P.info? e).map (fun i => (i.zero, i.size, i.bytes)) = some (some z, size, bytes)) (hz : z.cells.size = size) (hsz : 0 < size) (hb0 : 0 < bytes)
    (base : Nat) (v : Value) (n : Nat) (xs news : List Value) (p c : Nat) (hs : a.eval s = v) (hx : a.eval x = .slice (some ⟨p, 0, none⟩) 1 c) (hown : w.ownsRow base e size v n xs) (hl : news.length = size) (hnews : ∀ j u, news[j]? = some u → w.cell? (Addr.add ⟨p, 0, none⟩ j) = some u) (h1 : ∀ u ∈ news, u.oneCell' = true)
    (hlen : (n + 1) * bytes ≤ 140737488355328) (hbase : base ≤ w.heap.size)
    (h : ∀ v1 w1, w1.ownsRow base e size v1 (n + 1) (xs ++ news) → w.grownBy w1 v.ownBlock → (v1.ownBlock = v.ownBlock ∨ v1.ownBlock = some w.heap.size) → wpList P ops Q rest (a.put o.dst v1) w1) : wpList P ops Q (o :: rest) a w := by
 obtain ⟨i0, hi, hzz⟩ := Option.map_eq_some_iff.1 hinfo
 simp only [Prod.mk.injEq] at hzz
 obtain ⟨hz0, hz1, hz2⟩ := hzz
 have hn : n + 1 ≤ 140737488355328 := Nat.le_trans (Nat.le_mul_of_pos_right _ hb0) hlen
 obtain ⟨v', w', hr, h2, h3, h4, h5⟩ := run_append_own_at (P := P) (w := w) base t o.type e i0 z size bytes ht hi hz0 hz1 hz2 hz hsz v n xs hown ⟨p, 0, none⟩ 1 c news (by rw [hl, Nat.one_mul]) hnews h1 (by simp only [maxLen]; omega) hlen hbase
 refine wpList_plain hg fun K hK => ?_
 have hrun : (execOp a.eval o).run P w = .ok (.value v') w' := by
  unfold execOp
  simp only [ho, resolve, invoke, builtin, Sem.run_bind, Sem.run_pure, Result.andThen_ok, List.map_toArray, List.map_cons, List.map_nil, hs, hx, hr]
 unfold Oper.wp
 rw [hrun]
 exact hK _ _ (h v' w' h2 h3 h5)
/-- Ranges' cells in a row. -/
def rgCells (l : List S35) : List Value := l.flatMap fun r => [.int .i64 r.f0, .int .i64 r.f1]
theorem rgCells_snoc (l : List S35) (r : S35) : rgCells (l ++ [r]) = rgCells l ++ [.int .i64 r.f0, .int .i64 r.f1] := by simp [rgCells]
theorem rgCells_reps (w : World) (l : List S35) : Reps (k35.K w) 2 l (rgCells l) := by
 have key : ∀ (l acc : List S35), Reps (k35.K w) 2 acc (rgCells acc) → Reps (k35.K w) 2 (acc ++ l) (rgCells (acc ++ l)) := by
  intro l
  induction l with
  | nil => intro acc h; simpa using h
  | cons s r ih =>
   intro acc h
   rw [show acc ++ s :: r = (acc ++ [s]) ++ r by simp]
   refine ih _ ?_
   rw [rgCells_snoc]
   exact Reps.snoc h (k35_mk w s) rfl
 have := key l [] (Reps.none _ _)
 simpa using this
theorem rg_own_C {w : World} {base n : Nat} {v : Value} {l : List S35} (h : w.ownsRow base 35 2 v n (rgCells l)) (hn : l.length = n) : ∃ A c, v = .slice A l.length c ∧ Kd.C k35 w A l.length l := by
 subst hn
 exact own_reads_row h (rgCells_reps w l) rfl
def valHot (k : Nat) (p : S114) : Int := p.f0.getD k 0
def valLeft (k : Nat) (p : S114) : Int := p.f1.getD k 0
def hotsB (x : S38) (n : Nat) : List S35 := (List.range n).map fun k => askB x x.f6 (valHot k)
def leftsB (x : S38) (n : Nat) : List S35 := (List.range n).map fun k => askB x x.f6 (valLeft k)
theorem hotsB_snoc (x : S38) (n : Nat) : hotsB x (n + 1) = hotsB x n ++ [askB x x.f6 (valHot n)] := by simp [hotsB, List.range_succ]
theorem leftsB_snoc (x : S38) (n : Nat) : leftsB x (n + 1) = leftsB x n ++ [askB x x.f6 (valLeft n)] := by simp [leftsB, List.range_succ]
/-- What Bounds returns. -/
def boundsF (x : S38) : List S35 × List S35 × Int := if askE x true = 0 then (hotsB x (x.f0 + 1).toNat, leftsB x (x.f0 + 1).toNat, 0) else ([], [], askE x true)
theorem truth_play {x : S38} (hv : Valid x) {s : Sc} (hs : s ∈ truthL x) : PlayOk x s x.f5 x.f6 := hv.play0 (((mem_allSc hv).1 (mem_truthL.1 hs).1).ok hv)
theorem hot_get {x : S38} {s : Sc} {wa : List Int} {k : Nat} (hk : (k : Int) ≤ x.f0) : valHot k (pastOf x s x.f5 wa) = hotAt x s x.f5 wa k := by
 unfold valHot pastOf hots
 simp [show k < (x.f0 + 1).toNat by omega]
theorem left_get {x : S38} {s : Sc} {wa : List Int} {k : Nat} (hk : (k : Int) ≤ x.f0) : valLeft k (pastOf x s x.f5 wa) = heatAt x s x.f5 wa (k + 1) := by
 unfold valLeft pastOf lefts
 simp [show k < (x.f0 + 1).toNat by omega]
theorem hotQ {x : S38} {cs : List Value} {g mb : Nat} {A6 : Option Addr} {c6 : Nat} {W : World} (hx : k38.K W x cs) (hV : Valid x) (hW : WorkAt x cs g mb W) (g6 : Kd.C (Kd.int .i64) W A6 x.f6.length x.f6) (k : Nat) (hk : (k : Int) ≤ x.f0) :
    Calls Try.prog 79 #[.agg #[.func (.func 78) #[] #[]], .pointer (some ⟨g, 0, none⟩), .slice A6 x.f6.length c6, .int .i64 k] W fun e w' => e = .returned (.agg #[.int .i64 (askB x x.f6 (valHot k)).f0, .int .i64 (askB x x.f6 (valHot k)).f1]) ∧ Below W.heap.size W w' :=
 bounds_calls x cs g mb 78 _ Try.func78 (by kernel_rfl) rfl (valHot k) k A6 c6 x.f6 W hx hV hW g6 (fun s hs => truth_play hV hs) (fun s ps V hs hp => by
  have hlt : k < (pastOf x s x.f5 x.f6).f0.length := by show k < (hots _ _ _ _ _).length; rw [hots_len]; omega
  refine (pastHot_calls _ ps k V hp hlt).mono ?_
  rintro e w' ⟨rfl, hb⟩
  exact ⟨by unfold valHot; simp [hlt], hb⟩)
theorem leftQ {x : S38} {cs : List Value} {g mb : Nat} {A6 : Option Addr} {c6 : Nat} {W : World} (hx : k38.K W x cs) (hV : Valid x) (hW : WorkAt x cs g mb W) (g6 : Kd.C (Kd.int .i64) W A6 x.f6.length x.f6) (k : Nat) (hk : (k : Int) ≤ x.f0) :
    Calls Try.prog 79 #[.agg #[.func (.func 80) #[] #[]], .pointer (some ⟨g, 0, none⟩), .slice A6 x.f6.length c6, .int .i64 k] W fun e w' => e = .returned (.agg #[.int .i64 (askB x x.f6 (valLeft k)).f0, .int .i64 (askB x x.f6 (valLeft k)).f1]) ∧ Below W.heap.size W w' :=
 bounds_calls x cs g mb 80 _ Try.func80 (by kernel_rfl) rfl (valLeft k) k A6 c6 x.f6 W hx hV hW g6 (fun s hs => truth_play hV hs) (fun s ps V hs hp => by
  have hlt : k < (pastOf x s x.f5 x.f6).f1.length := by show k < (lefts _ _ _ _ _).length; rw [lefts_len]; omega
  refine (pastLeft_calls _ ps k V hp hlt).mono ?_
  rintro e w' ⟨rfl, hb⟩
  exact ⟨by unfold valLeft; simp [hlt], hb⟩)
end Go.Proofs.Ytdgkhoflajdidaa
/- Bounds: the walk. -/
namespace Go.Proofs.Ytdgkhoflajdidaa
open Go.RowKit Go.Proofs.YtdgkhoflajdidaaW.PrintWords Go.Proofs.YtdgkhoflajdidaaW.PrintMore Go.Proofs.YtdgkhoflajdidaaW.PrintLast Go.Proofs.Ytdgkhoflajdidaa.Print
set_option linter.unusedVariables false
set_option linter.unusedSimpArgs false
theorem own_bel {W V : World} {base n size : Nat} {e : TypeId} {v : Value} {xs : List Value} (h : W.ownsRow base e size v n xs) (hb : Below W.heap.size W V) : V.ownsRow base e size v n xs := own_move h (fun k hk => hb.block k (own_lt h k hk))
/-- Two rows of the call's own while one is appended to: what holds then. -/
theorem two_rows {W w1 w3 : World} {e1 e2 : TypeId} {z1 z2 n1 n2 m1 : Nat} {v1 v2 v1' : Value} {xs1 xs2 ys1 : List Value} (hB : Below w1.heap.size w1 W) (h1 : W.ownsRow w1.heap.size e1 z1 v1 n1 xs1) (h2 : W.ownsRow w1.heap.size e2 z2 v2 n2 xs2) (hap : v2.ownBlock = none ∨ v2.ownBlock ≠ v1.ownBlock)
    (h1' : w3.ownsRow w1.heap.size e1 z1 v1' m1 ys1) (hg : W.grownBy w3 v1.ownBlock) (hat : v1'.ownBlock = v1.ownBlock ∨ v1'.ownBlock = some W.heap.size) :
    Below w1.heap.size w1 w3 ∧ w3.ownsRow w1.heap.size e2 z2 v2 n2 xs2 ∧ (v2.ownBlock = none ∨ v2.ownBlock ≠ v1'.ownBlock) := by
 refine ⟨hB.grown hg hB.size (own_base h1), own_other h2 hg hap, ?_⟩
 rcases hat with h | h
 ·rw [h]; exact hap
 ·rw [h]
  cases hk : v2.ownBlock with
  | none => exact .inl rfl
  | some k => exact .inr (fun e => by cases e; exact absurd (own_lt h2 _ hk) (Nat.lt_irrefl _))
theorem ap_symm {v1 v2 : Value} (h : v1.ownBlock = none ∨ v1.ownBlock ≠ v2.ownBlock) : v2.ownBlock = none ∨ v2.ownBlock ≠ v1.ownBlock := by
 rcases h with h | h
 ·cases hk : v2.ownBlock with
  | none => exact .inl rfl
  | some k => exact .inr (by rw [h]; exact fun e => by cases e)
 ·exact .inr (fun e => h e.symm)
theorem one2 (a b : Int) : ∀ u ∈ [Value.int .i64 a, Value.int .i64 b], u.oneCell' = true := fun u hu => by
 simp only [List.mem_cons, List.mem_nil_iff, or_false] at hu
 rcases hu with rfl | rfl <;> rfl
theorem rg_nil (w : World) : Kd.C k35 w none ([] : List S35).length [] := Kd.C_nil0 _ _ _
theorem cells2 {W : World} {p : Nat} {a b : Value} (h : Blk W p #[a, b] 35) : ∀ j u, [a, b][j]? = some u → W.cell? (Addr.add ⟨p, 0, none⟩ j) = some u := fun j u hj => by
 match j, hj with
 | 0, hj => simp at hj; subst hj; exact h.cell 0 _ rfl
 | 1, hj => simp at hj; subst hj; exact h.cell 1 _ rfl
/-- asked behind the coppers' box. -/
theorem ask_box (x : S38) (cs : List Value) (b : Bool) (w : World) (hx : k38.K w x cs) (hE : askE x b = 0) : Calls Try.prog 77 #[.agg cs.toArray, .bool b] (w.alloc (.cells cs.toArray 38)) fun e w' => ∃ g mb, e = .returned (.tuple #[.pointer (some ⟨g, 0, none⟩), .int .i64 0]) ∧
    Below w.heap.size w w' ∧ Blk w' w.heap.size cs.toArray 38 ∧ WorkAt x cs g mb w' ∧ w'.heap[mb]? = some (.map #[] 0) ∧ w.heap.size < g ∧ w.heap.size < mb := by
 have hb := below_alloc (Below.refl w.heap.size w) (.cells cs.toArray 38)
 refine (askedAll_calls x cs b _ (k38.K_below hb hx)).mono fun e w' h => ?_
 unfold AskAll at h
 rw [if_pos hE] at h
 obtain ⟨h0, g, mb, h1, h2, h3, h4, h5⟩ := h
 simp only [World.size_alloc] at h2 h3
 exact ⟨g, mb, h1, bel2 hb h0, (Blk.new w cs.toArray 38 _ rfl).below h0, h4, h5, by omega, by omega⟩
theorem ask_bad (x : S38) (cs : List Value) (b : Bool) (w : World) (hx : k38.K w x cs) (hE : ¬ askE x b = 0) : Calls Try.prog 77 #[.agg cs.toArray, .bool b] (w.alloc (.cells cs.toArray 38)) fun e w' => e = .returned (.tuple #[.pointer none, .int .i64 (askE x b)]) ∧ Below w.heap.size w w' := by
 have hb := below_alloc (Below.refl w.heap.size w) (.cells cs.toArray 38)
 refine (askedAll_calls x cs b _ (k38.K_below hb hx)).mono fun e w' h => ?_
 unfold AskAll at h
 rw [if_neg hE] at h
 exact ⟨h.2, bel2 hb h.1⟩
/-- What Bounds leaves. -/
def BndPost (x : S38) (w : World) (e : Ending) (w' : World) : Prop := ∃ A a B b, e = .returned (.tuple #[.slice A (boundsF x).1.length a, .slice B (boundsF x).2.1.length b, .int .i64 (boundsF x).2.2]) ∧
      Kd.C k35 w' A (boundsF x).1.length (boundsF x).1 ∧ Kd.C k35 w' B (boundsF x).2.1.length (boundsF x).2.1 ∧ Below w.heap.size w w'
set_option maxRecDepth 100000 in
set_option maxHeartbeats 4000000 in
theorem boundsF_calls (x : S38) (cs : List Value) (w : World) (hx : k38.K w x cs) : Calls Try.prog 21 #[.agg cs.toArray] w (BndPost x w) := by
 have hgood := ask_box x cs true w hx
 have hbad := ask_bad x cs true w hx
 have HX := Aside0.mk hx
 obtain ⟨A5, c5, A6, c6, A9, c9, A10, c10, hcs, l5, g5, l6, g6, l9, g9, l10, g10⟩ := k38_open hx
 have G6 := Aside0.mk g6
 subst hcs
 clear hx g5 g6 g9 g10 l5 l6 l9 l10
 have hu := Try.underlying38
 by_cases hE : askE x true = 0
 ·have HV := Aside0.mk ((valid_iff x).1 (askE_nonneg hE).1)
  have hf0 := HV.out.last0
  have hf1 := HV.out.last1
  have HBF := Lib.hid (show boundsF x = (hotsB x (x.f0 + 1).toNat, leftsB x (x.f0 + 1).toNat, 0) by unfold boundsF; rw [if_pos hE])
  have hask := hgood hE
  clear hgood hbad hE
  go_enter Try.func21, Try.ntmps21
  go_wp2_with (go_at_call 77; refine hask.mono ?_; clear hask; rintro e w1 ⟨g, mb, rfl, hb1, hbc, hwk, _, _, _⟩; have HW1 := Aside0.mk (And.intro hb1 (And.intro hbc hwk)); have hlz := hbc.lt; have k0 := hbc.cell 0 _ rfl; clear hb1 hbc hwk)
  go_loopw [2, 3, 18] (fun s2 s3 s18 wr => ∃ kk : Nat, kk ≤ (x.f0 + 1).toNat ∧ s18 = .int .i64 kk ∧ Aside0 (Below w1.heap.size w1 wr ∧ wr.ownsRow w1.heap.size 35 2 s2 kk (rgCells (hotsB x kk)) ∧ wr.ownsRow w1.heap.size 35 2 s3 kk (rgCells (leftsB x kk)) ∧ (s2.ownBlock = none ∨ s2.ownBlock ≠ s3.ownBlock))) (fun _ _ s18 _ => ((x.f0 + 1).toNat - (intOf s18).toNat))
  case atStart => exact ⟨0, Nat.zero_le _, rfl, ⟨Below.refl _ _, own_nil _ _ _ _, own_nil _ _ _ _, .inl rfl⟩⟩
  case round =>
   obtain ⟨kk, hkk, rfl, HW⟩ := hrel
   by_cases hlt : kk < (x.f0 + 1).toNat
   ·have hltz : (kk : Int) < x.f0 + 1 := by omega
    have hle : (kk : Int) ≤ x.f0 := by omega
    have k6 := (HW1.out.2.1.below HW.out.1).cell 6 _ rfl
    have hbw := bel2 HW1.out.1 HW.out.1
    have hq1 := hotQ (c6 := c6) (k38.K_below hbw HX.out) HV.out (HW1.out.2.2.below HW.out.1) (Kd.C_below G6.out hbw) kk hle
    have hq2 := fun W (hW : Below w1.heap.size w1 W) => leftQ (c6 := c6) (k38.K_below (bel2 HW1.out.1 hW) HX.out) HV.out (HW1.out.2.2.below hW) (Kd.C_below G6.out (bel2 HW1.out.1 hW)) kk hle
    have hs1 := hotsB_snoc x kk
    have hs2 := leftsB_snoc x kk
    generalize askB x x.f6 (valHot kk) = r1 at *
    generalize askB x x.f6 (valLeft kk) = r2 at *
    have HS := Aside0.mk (And.intro hs1 hs2)
    have HQ2 := Aside0.mk hq2
    clear hs1 hs2 hq2 hbw
    go_wp2_with (first
     | (go_at_call 79; refine hq1.mono ?_; clear hq1; rintro e w2 ⟨rfl, hb2⟩; have H2 := Aside0.mk hb2; clear hb2)
     | (go_at_call 79; refine (HQ2.out _ H4.out.1).mono ?_; rintro e w5 ⟨rfl, hb5⟩; have H5 := Aside0.mk hb5; clear hb5)
     | (at_builtin; refine append_list rfl (.tmp 21) (.tmp 28) 31 35 (.agg #[.int .i64 0, .int .i64 0]) 2 16 rfl Try.underlying31 info35 rfl (by decide) (by decide) w1.heap.size u2 kk (rgCells (hotsB x kk)) [.int .i64 r1.f0, .int .i64 r1.f1] w2.heap.size 1 rfl rfl ((own_bel HW.out.2.1 H2.out).alloc _) rfl (cells2 (Blk.new _ _ _ _ rfl)) (one2 _ _) (by omega) (by have h1 := HW.out.1.size; have h2 := H2.out.size; simp; omega) ?_; intro v4 w4 ho4 hg4 hat4; have hT := two_rows (bel2 (bel2 HW.out.1 H2.out) (below_alloc (Below.refl _ _) _)) ((own_bel HW.out.2.1 H2.out).alloc _) ((own_bel HW.out.2.2.1 H2.out).alloc _) (ap_symm HW.out.2.2.2) ho4 hg4 hat4; have k6' := (HW1.out.2.1.below hT.1).cell 6 _ rfl; have H4 := Aside0.mk (And.intro hT.1 (And.intro ho4 hT.2)); clear hT ho4 hg4 hat4 k6)
     | (at_builtin; refine append_list rfl (.tmp 30) (.tmp 37) 31 35 (.agg #[.int .i64 0, .int .i64 0]) 2 16 rfl Try.underlying31 info35 rfl (by decide) (by decide) w1.heap.size u3 kk (rgCells (leftsB x kk)) [.int .i64 r2.f0, .int .i64 r2.f1] w5.heap.size 1 rfl rfl ((own_bel H4.out.2.2.1 H5.out).alloc _) rfl (cells2 (Blk.new _ _ _ _ rfl)) (one2 _ _) (by omega) (by have h1 := H4.out.1.size; have h2 := H5.out.size; simp; omega) ?_; intro v6 w6 ho6 hg6 hat6; have hT := two_rows (bel2 (bel2 H4.out.1 H5.out) (below_alloc (Below.refl _ _) _)) ((own_bel H4.out.2.2.1 H5.out).alloc _) ((own_bel H4.out.2.1 H5.out).alloc _) (ap_symm H4.out.2.2.2) ho6 hg6 hat6; have H6 := Aside0.mk (And.intro hT.1 (And.intro ho6 hT.2)); clear hT ho6 hg6 hat6))
    go_roundw
    case rel =>
     refine ⟨kk + 1, by omega, by go_num, ⟨H6.out.1, ?_, ?_, H6.out.2.2.2⟩⟩
     ·rw [HS.out.1, rgCells_snoc]; exact H6.out.2.2.1
     ·rw [HS.out.2, rgCells_snoc]; exact H6.out.2.1
    case measure => simp [intOf]; omega
   ·have hltz : ¬ (kk : Int) < x.f0 + 1 := by omega
    obtain rfl : kk = (x.f0 + 1).toNat := by omega
    obtain ⟨Ah, ch, rfl, hrh⟩ := rg_own_C HW.out.2.1 (by simp [hotsB])
    obtain ⟨Al, cl, rfl, hrl⟩ := rg_own_C HW.out.2.2.1 (by simp [leftsB])
    have HR := Aside0.mk (And.intro hrh (And.intro hrl (bel2 HW1.out.1 HW.out.1)))
    clear hrh hrl HW
    generalize hotsB x (x.f0 + 1).toNat = hB at *
    generalize leftsB x (x.f0 + 1).toNat = lB at *
    go_wp2
    refine bodyPost_ret (results_tmp3 rfl _ _ _) rfl ⟨Ah, ch, Al, cl, ?_, ?_, ?_, HR.out.2.2⟩
    ·rw [HBF.out]; rfl
    ·rw [HBF.out]; exact HR.out.1
    ·rw [HBF.out]; exact HR.out.2.1
 ·have HBF := Lib.hid (show boundsF x = ([], [], askE x true) by unfold boundsF; rw [if_neg hE])
  have hE2 : (askE x true == 0) = false := by simpa using hE
  have hask := hbad hE
  clear hgood hbad
  generalize askE x true = ec at *
  go_enter Try.func21, Try.ntmps21
  go_wp2_with (go_at_call 77; refine hask.mono ?_; rintro e w1 ⟨rfl, hb1⟩; have HB := Aside0.mk hb1; clear hb1)
  refine bodyPost_ret (results_tmp3 rfl _ _ _) rfl ⟨none, 0, none, 0, ?_, ?_, ?_, HB.out⟩
  ·rw [HBF.out]; rfl
  ·rw [HBF.out]; exact rg_nil _
  ·rw [HBF.out]; exact rg_nil _
end Go.Proofs.Ytdgkhoflajdidaa
/- Keeps. -/
namespace Go.Proofs.Ytdgkhoflajdidaa
open Go.RowKit Go.Proofs.YtdgkhoflajdidaaW.PrintWords Go.Proofs.YtdgkhoflajdidaaW.PrintMore Go.Proofs.YtdgkhoflajdidaaW.PrintLast Go.Proofs.Ytdgkhoflajdidaa.Print
set_option linter.unusedVariables false
set_option linter.unusedSimpArgs false
def valKept (k : Nat) (p : S114) : Int := if p.f2.getD k false then 1 else 0
def keepsL (x : S38) (n : Nat) : List Int := (List.range n).map fun k => vdict (askB x x.f6 (valKept k))
theorem keepsL_snoc (x : S38) (n : Nat) : keepsL x (n + 1) = keepsL x n ++ [vdict (askB x x.f6 (valKept n))] := by simp [keepsL, List.range_succ]
/-- What Keeps returns. -/
def keepsF (x : S38) : List Int × Int := if askE x true = 0 then (keepsL x (x.f0 + 1).toNat, 0) else ([], askE x true)
theorem kept_get {x : S38} {s : Sc} {wa : List Int} {k : Nat} (hk : (k : Int) ≤ x.f0) : valKept k (pastOf x s x.f5 wa) = if keptAt x s x.f5 wa k = true then 1 else 0 := by
 unfold valKept pastOf kepts
 simp [show k < (x.f0 + 1).toNat by omega]
theorem keptQ {x : S38} {cs : List Value} {g mb : Nat} {A6 : Option Addr} {c6 : Nat} {W : World} (hx : k38.K W x cs) (hV : Valid x) (hW : WorkAt x cs g mb W) (g6 : Kd.C (Kd.int .i64) W A6 x.f6.length x.f6) (k : Nat) (hk : (k : Int) ≤ x.f0) :
    Calls Try.prog 79 #[.agg #[.func (.func 99) #[] #[]], .pointer (some ⟨g, 0, none⟩), .slice A6 x.f6.length c6, .int .i64 k] W fun e w' => e = .returned (.agg #[.int .i64 (askB x x.f6 (valKept k)).f0, .int .i64 (askB x x.f6 (valKept k)).f1]) ∧ Below W.heap.size W w' :=
 bounds_calls x cs g mb 99 _ Try.func99 (by kernel_rfl) rfl (valKept k) k A6 c6 x.f6 W hx hV hW g6 (fun s hs => truth_play hV hs) (fun s ps V hs hp => by
  have hlt : k < (pastOf x s x.f5 x.f6).f2.length := by show k < (kepts _ _ _ _ _).length; rw [kepts_len]; omega
  refine (pastKept_calls _ ps k V hp hlt).mono ?_
  rintro e w' ⟨rfl, hb⟩
  exact ⟨by unfold valKept; simp [hlt], hb⟩)
theorem cells1 {W : World} {p : Nat} {a : Value} (h : Blk W p #[a] 3) : ∀ j u, [a][j]? = some u → W.cell? (Addr.add ⟨p, 0, none⟩ j) = some u := fun j u hj => by
 match j, hj with
 | 0, hj => simp at hj; subst hj; exact h.cell 0 _ rfl
theorem one1 (a : Int) : ∀ u ∈ [Value.int .i64 a], u.oneCell' = true := fun u hu => by rw [List.mem_singleton.1 hu]; rfl
/-- What Keeps leaves. -/
def KeepPost (x : S38) (w : World) (e : Ending) (w' : World) : Prop := ∃ A a, e = .returned (.tuple #[.slice A (keepsF x).1.length a, .int .i64 (keepsF x).2]) ∧ Kd.C (Kd.int .i64) w' A (keepsF x).1.length (keepsF x).1 ∧ Below w.heap.size w w'
set_option maxRecDepth 100000 in
set_option maxHeartbeats 4000000 in
theorem keepsF_calls (x : S38) (cs : List Value) (w : World) (hx : k38.K w x cs) : Calls Try.prog 52 #[.agg cs.toArray] w (KeepPost x w) := by
 have hgood := ask_box x cs true w hx
 have hbad := ask_bad x cs true w hx
 have HX := Aside0.mk hx
 obtain ⟨A5, c5, A6, c6, A9, c9, A10, c10, hcs, l5, g5, l6, g6, l9, g9, l10, g10⟩ := k38_open hx
 have G6 := Aside0.mk g6
 subst hcs
 clear hx g5 g6 g9 g10 l5 l6 l9 l10
 have hu := Try.underlying38
 by_cases hE : askE x true = 0
 ·have HV := Aside0.mk ((valid_iff x).1 (askE_nonneg hE).1)
  have hf0 := HV.out.last0
  have hf1 := HV.out.last1
  have HBF := Lib.hid (show keepsF x = (keepsL x (x.f0 + 1).toNat, 0) by unfold keepsF; rw [if_pos hE])
  have hask := hgood hE
  clear hgood hbad hE
  go_enter Try.func52, Try.ntmps52
  go_wp2_with (go_at_call 77; refine hask.mono ?_; clear hask; rintro e w1 ⟨g, mb, rfl, hb1, hbc, hwk, _, _, _⟩; have HW1 := Aside0.mk (And.intro hb1 (And.intro hbc hwk)); have hlz := hbc.lt; have k0 := hbc.cell 0 _ rfl; clear hb1 hbc hwk)
  go_loopw [6, 19] (fun s6 s19 wr => ∃ kk : Nat, kk ≤ (x.f0 + 1).toNat ∧ s19 = .int .i64 kk ∧ Aside0 (Below w1.heap.size w1 wr ∧ wr.ownsRow w1.heap.size 3 1 s6 kk (nums .i64 (keepsL x kk)))) (fun _ s19 _ => ((x.f0 + 1).toNat - (intOf s19).toNat))
  case atStart => exact ⟨0, Nat.zero_le _, rfl, ⟨Below.refl _ _, own_nil _ _ _ _⟩⟩
  case round =>
   obtain ⟨kk, hkk, rfl, HW⟩ := hrel
   by_cases hlt : kk < (x.f0 + 1).toNat
   ·have hltz : (kk : Int) < x.f0 + 1 := by omega
    have hle : (kk : Int) ≤ x.f0 := by omega
    have k6 := (HW1.out.2.1.below HW.out.1).cell 6 _ rfl
    have hbw := bel2 HW1.out.1 HW.out.1
    have hq1 := keptQ (c6 := c6) (k38.K_below hbw HX.out) HV.out (HW1.out.2.2.below HW.out.1) (Kd.C_below G6.out hbw) kk hle
    have hs1 := keepsL_snoc x kk
    have hvd := fun W => verdict_calls (askB x x.f6 (valKept kk)) W
    generalize askB x x.f6 (valKept kk) = r1 at *
    generalize vdict r1 = v1 at *
    have HS := Aside0.mk hs1
    clear hs1 hbw
    go_wp2_with (first
     | (go_at_call 79; refine hq1.mono ?_; clear hq1; rintro e w2 ⟨rfl, hb2⟩; have H2 := Aside0.mk hb2; clear hb2)
     | (go_at_call 98; refine (hvd _).mono ?_; rintro e w3 ⟨rfl, hb3⟩; have H3 := Aside0.mk (bel2 H2.out hb3); clear hb3)
     | (at_builtin; refine append_list rfl (.tmp 22) (.tmp 30) 22 3 (.int .i64 0) 1 8 rfl Try.underlying22 info3 rfl (by decide) (by decide) w1.heap.size u6 kk (nums .i64 (keepsL x kk)) [.int .i64 v1] w3.heap.size 1 rfl rfl ((own_bel HW.out.2 H3.out).alloc _) rfl (cells1 (Blk.new _ _ _ _ rfl)) (one1 _) (by omega) (by have h1 := HW.out.1.size; have h2 := H3.out.size; simp; omega) ?_; intro v4 w4 ho4 hg4 hat4; have H4 := Aside0.mk (And.intro ((bel2 (bel2 HW.out.1 H3.out) (below_alloc (Below.refl _ _) _)).grown hg4 (by have h1 := HW.out.1.size; have h2 := H3.out.size; simp; omega) (own_base HW.out.2)) ho4); clear ho4 hg4 hat4))
    go_roundw
    case rel =>
     refine ⟨kk + 1, by omega, by go_num, ⟨H4.out.1, ?_⟩⟩
     rw [HS.out]; simpa [nums] using H4.out.2
    case measure => simp [intOf]; omega
   ·have hltz : ¬ (kk : Int) < x.f0 + 1 := by omega
    obtain rfl : kk = (x.f0 + 1).toNat := by omega
    obtain ⟨Ah, ch, rfl, _, hrh⟩ := own_C (Kd.int .i64) (.int .i64) rfl (fun _ _ => rfl) (xs := keepsL x (x.f0 + 1).toNat) rfl (by simp [nums, keepsL]) HW.out.2
    have HR := Aside0.mk (And.intro hrh (bel2 HW1.out.1 HW.out.1))
    clear hrh HW
    generalize keepsL x (x.f0 + 1).toNat = hB at *
    go_wp2
    refine bodyPost_ret (results_tmp2 rfl _ _ _) rfl ⟨Ah, ch, ?_, ?_, HR.out.2⟩
    ·rw [HBF.out]; rfl
    ·rw [HBF.out]; exact HR.out.1
 ·have HBF := Lib.hid (show keepsF x = ([], askE x true) by unfold keepsF; rw [if_neg hE])
  have hE2 : (askE x true == 0) = false := by simpa using hE
  have hask := hbad hE
  clear hgood hbad
  generalize askE x true = ec at *
  go_enter Try.func52, Try.ntmps52
  go_wp2_with (go_at_call 77; refine hask.mono ?_; rintro e w1 ⟨rfl, hb1⟩; have HB := Aside0.mk hb1; clear hb1)
  refine bodyPost_ret (results_tmp2 rfl _ _ _) rfl ⟨none, 0, ?_, ?_, HB.out⟩
  ·rw [HBF.out]; rfl
  ·rw [HBF.out]; exact nil_int _
end Go.Proofs.Ytdgkhoflajdidaa
/- Lacks. -/
namespace Go.Proofs.Ytdgkhoflajdidaa
open Go.RowKit Go.Proofs.YtdgkhoflajdidaaW.PrintWords Go.Proofs.YtdgkhoflajdidaaW.PrintMore Go.Proofs.YtdgkhoflajdidaaW.PrintLast Go.Proofs.Ytdgkhoflajdidaa.Print
set_option linter.unusedVariables false
set_option linter.unusedSimpArgs false
/-- Not always. -/
def notAlways (v : Int) : Bool := v != 1
set_option maxRecDepth 100000 in
theorem notAlways_calls (v : Int) (w : World) : Calls Try.prog 115 #[.int .i64 v] w fun e w' => e = .returned (.bool (notAlways v)) ∧ Below w.heap.size w w' := by
 go_enter Try.func115, Try.ntmps115
 go_wp2
 go_ret
 exact ⟨rfl, Below.refl _ _⟩
/-- What Lacks returns. -/
def lacksF (x : S38) : Int × Int := if (keepsF x).2 = 0 then (if fIdx notAlways (keepsF x).1 < 0 then (0, 7) else (fIdx notAlways (keepsF x).1, 0)) else (0, (keepsF x).2)
set_option maxRecDepth 100000 in
set_option maxHeartbeats 4000000 in
theorem lacksF_calls (x : S38) (cs : List Value) (w : World) (hx : k38.K w x cs) : Calls Try.prog 69 #[.agg cs.toArray] w fun e w' => e = .returned (.tuple #[.int .i64 (lacksF x).1, .int .i64 (lacksF x).2]) ∧ Below w.heap.size w w' := by
 have hb0 := fun o => below_alloc (Below.refl w.heap.size w) o
 have hk := fun o => keepsF_calls x cs (w.alloc o) (k38.K_below (hb0 o) hx)
 obtain ⟨A5, c5, A6, c6, A9, c9, A10, c10, hcs, _⟩ := k38_open hx
 have hpass : ∀ (xs : List Int) (W : World), PassAt 115 #[] #[] (Value.int .i64) notAlways (fun v => v ∈ xs) W := fun xs W V v _ _ => notAlways_calls v V
 have hidx := fun A c (xs : List Int) W (h : Kd.C (Kd.int .i64) W A xs.length xs) => indexFunc_int 115 #[] #[] notAlways A c xs W (enters_of Try.func115 (by kernel_rfl) rfl) (hpass xs W) h
 have HIDX := Aside0.mk hidx
 have hlf : lacksF x = if (keepsF x).2 = 0 then (if fIdx notAlways (keepsF x).1 < 0 then (0, 7) else (fIdx notAlways (keepsF x).1, 0)) else (0, (keepsF x).2) := rfl
 subst hcs
 unfold KeepPost at hk
 clear hx hpass hidx
 generalize (keepsF x).1 = l at *
 generalize (keepsF x).2 = er at *
 have hu := Try.underlying38
 have hI := fun A c W h => HIDX.out A c l W h
 clear HIDX
 by_cases hE : er = 0
 ·have hE2 : (er == 0) = true := by simpa using hE
  rw [if_pos hE] at hlf
  subst hE
  by_cases hi : fIdx notAlways l < 0
  ·rw [if_pos hi] at hlf
   have HLF := Lib.hid hlf
   clear hlf
   generalize fIdx notAlways l = i at *
   have HI := Aside0.mk hI
   clear hI
   go_enter Try.func69, Try.ntmps69
   go_wp2_with (first
    | (go_at_call 52; refine (hk _).mono ?_; clear hk; rintro e w1 ⟨A, a, rfl, hc, hb1⟩; have H1 := Aside0.mk (And.intro hc (bel2 (hb0 _) hb1)); clear hc hb1)
    | (go_at_call 114; refine (HI.out _ _ _ H1.out.1).mono ?_; rintro e w2 ⟨rfl, hb2⟩; have H2 := Aside0.mk hb2; clear hb2))
   refine bodyPost_ret (results_tmp2 rfl _ _ _) rfl ⟨?_, bel2 H1.out.2 H2.out⟩
   rw [HLF.out]; rfl
  ·rw [if_neg hi] at hlf
   have HLF := Lib.hid hlf
   have hi2 : 0 ≤ fIdx notAlways l := by omega
   clear hlf hi
   generalize fIdx notAlways l = i at *
   have HI := Aside0.mk hI
   clear hI
   go_enter Try.func69, Try.ntmps69
   go_wp2_with (first
    | (go_at_call 52; refine (hk _).mono ?_; clear hk; rintro e w1 ⟨A, a, rfl, hc, hb1⟩; have H1 := Aside0.mk (And.intro hc (bel2 (hb0 _) hb1)); clear hc hb1)
    | (go_at_call 114; refine (HI.out _ _ _ H1.out.1).mono ?_; rintro e w2 ⟨rfl, hb2⟩; have H2 := Aside0.mk hb2; clear hb2))
   refine bodyPost_ret (results_tmp2 rfl _ _ _) rfl ⟨?_, bel2 H1.out.2 H2.out⟩
   rw [HLF.out]; rfl
 ·have hE2 : (er == 0) = false := by simpa using hE
  rw [if_neg hE] at hlf
  have HLF := Lib.hid hlf
  clear hlf
  go_enter Try.func69, Try.ntmps69
  go_wp2_with (go_at_call 52; refine (hk _).mono ?_; clear hk; rintro e w1 ⟨A, a, rfl, hc, hb1⟩; have H1 := Aside0.mk (bel2 (hb0 _) hb1); clear hc hb1)
  refine bodyPost_ret (results_tmp2 rfl _ _ _) rfl ⟨?_, H1.out⟩
  rw [HLF.out]; rfl
end Go.Proofs.Ytdgkhoflajdidaa
/- with: are all promises kept with more promised. -/
namespace Go.Proofs.Ytdgkhoflajdidaa
open Go.RowKit Go.Proofs.YtdgkhoflajdidaaW.PrintWords Go.Proofs.YtdgkhoflajdidaaW.PrintMore Go.Proofs.YtdgkhoflajdidaaW.PrintLast Go.Proofs.Ytdgkhoflajdidaa.Print
set_option linter.unusedVariables false
set_option linter.unusedSimpArgs false
/-- The first k sums made. -/
def addTo (wa mo : List Int) (k : Nat) : List Int := (List.range wa.length).map fun j => wa.getD j 0 + if j < k then mo.getD j 0 else 0
theorem addTo_len (wa mo : List Int) (k : Nat) : (addTo wa mo k).length = wa.length := by simp [addTo]
theorem addTo_zero (wa mo : List Int) : addTo wa mo 0 = wa := by
 apply List.ext_getElem (by simp [addTo])
 intro i h1 h2
 simp [addTo, h2]
theorem addTo_succ (wa mo : List Int) (k : Nat) (hk : k < wa.length) (hm : k < mo.length) : (addTo wa mo k).set k (wa[k] + mo[k]) = addTo wa mo (k + 1) := by
 apply List.ext_getElem (by simp [addTo])
 intro i h1 h2
 rw [List.getElem_set]
 have hi : i < wa.length := by simpa [addTo] using h2
 by_cases e : k = i
 ·subst e
  simp [addTo, hk, hm]
 ·rw [if_neg e]
  simp only [addTo, List.getElem_map, List.getElem_range]
  have : (i < k + 1) ↔ (i < k) := by omega
  simp [this]
/-- Promises with more promised. -/
def sumL (wa mo : List Int) : List Int := addTo wa mo wa.length
def valWhole (p : S114) : Int := if p.f2.all id then 1 else 0
/-- What with returns. -/
def withF (x : S38) (mo : List Int) : Int := vdict (askB x (sumL x.f6 mo) valWhole)
theorem sumL_ok {x : S38} (hv : Valid x) {mo : List Int} (hm : ∀ n ∈ mo, 0 ≤ n ∧ n ≤ 20) {s : Sc} (hs : s ∈ truthL x) : PlayOk x s x.f5 (sumL x.f6 mo) := by
 have h0 := truth_play hv hs
 refine ⟨h0.last0, h0.last1, h0.start0, h0.start1, h0.most, h0.per0, h0.per1, h0.heat0, h0.heat1, h0.loss, h0.coalN, h0.coalV, ?_, fun n hn => ?_⟩
 ·unfold sumL; rw [addTo_len]; exact h0.wantN
 ·simp only [sumL, addTo, List.mem_map, List.mem_range] at hn
  obtain ⟨j, hj, rfl⟩ := hn
  rw [if_pos hj]
  have h1 : 0 ≤ x.f6.getD j 0 ∧ x.f6.getD j 0 ≤ 20 := by
   have := hv.wantV _ (List.getElem_mem hj)
   simpa [hj] using this
  have h2 : 0 ≤ mo.getD j 0 ∧ mo.getD j 0 ≤ 20 := by
   by_cases hk : j < mo.length
   ·have := hm _ (List.getElem_mem hk)
    simpa [hk] using this
   ·simp [List.getD_eq_getElem?_getD, List.getElem?_eq_none (Nat.le_of_not_lt hk)]
  omega
theorem wholeQ {x : S38} {cs : List Value} {g mb : Nat} {A : Option Addr} {c : Nat} {W : World} {mo : List Int} (hx : k38.K W x cs) (hV : Valid x) (hW : WorkAt x cs g mb W) (hm : ∀ n ∈ mo, 0 ≤ n ∧ n ≤ 20) (gw : Kd.C (Kd.int .i64) W A (sumL x.f6 mo).length (sumL x.f6 mo)) :
    Calls Try.prog 79 #[.agg #[.func (.func 121) #[] #[]], .pointer (some ⟨g, 0, none⟩), .slice A (sumL x.f6 mo).length c, .int .i64 0] W fun e w' => e = .returned (.agg #[.int .i64 (askB x (sumL x.f6 mo) valWhole).f0, .int .i64 (askB x (sumL x.f6 mo) valWhole).f1]) ∧ Below W.heap.size W w' :=
 bounds_calls x cs g mb 121 _ Try.func121 (by kernel_rfl) rfl valWhole 0 A c (sumL x.f6 mo) W hx hV hW gw (fun s hs => sumL_ok hV hm hs) (fun s ps V hs hp => pastWhole_calls _ ps 0 V hp)
set_option maxRecDepth 100000 in
set_option maxHeartbeats 4000000 in
theorem with_calls (x : S38) (cs : List Value) (g mb : Nat) (C : Option Addr) (c : Nat) (mo : List Int) (w : World) (hx : k38.K w x cs) (hV : Valid x) (hW : WorkAt x cs g mb w) (hmo : Kd.C (Kd.int .i64) w C mo.length mo) (hn : (mo.length : Int) = x.f0 + 1) (hm : ∀ n ∈ mo, 0 ≤ n ∧ n ≤ 20) :
    Calls Try.prog 84 #[.pointer (some ⟨g, 0, none⟩), .slice C mo.length c] w fun e w' => e = .returned (.int .i64 (withF x mo)) ∧ Below w.heap.size w w' := by
 obtain ⟨A5, c5, A6, c6, A9, c9, A10, c10, hcs, l5, g5, l6, g6, l9, g9, l10, g10⟩ := k38_open hx
 have HX := Aside0.mk hx
 have HW := Aside0.mk hW
 have HV := Aside0.mk hV
 have HMO := Aside0.mk hmo
 have G6 := Aside0.mk g6
 have HM := Aside0.mk hm
 have hwn := hV.wantN
 have hl6 := g6.2.1
 have hlm := hmo.2.1
 have hf1 := hV.last1
 have hf0 := hV.last0
 have hpos : 0 < x.f6.length := by omega
 have hcl := clone_calls A6 c6 x.f6 w g6 (by omega)
 have hk6 : w.cell? ⟨g, 6, none⟩ = some (.slice A6 x.f6.length c6) := by
  obtain ⟨A, c', hb, _⟩ := hW
  exact hb.cell 6 _ (by rw [hcs]; rfl)
 have hv6 := fun k (h : k < x.f6.length) => hV.wantV x.f6[k] (List.getElem_mem h)
 have HV6 := Aside0.mk hv6
 clear hx hV hW hmo g5 g6 g9 g10 l5 l6 l9 l10 hm hcs hv6
 have hu := Try.underlying38
 have hu2 := Try.underlying151
 have hu3 := Try.underlying107
 go_enter Try.func84, Try.ntmps84
 go_wp2_with (go_at_call 91; refine hcl.mono ?_; clear hcl; rintro e w1 ⟨v, rfl, ho, hb1⟩; obtain ⟨gb, cap, rfl, hgb, hgl⟩ := ho.form hpos; have H1 := Aside0.mk (And.intro ho hb1); clear ho hb1)
 go_loopw [16] (fun s16 wr => ∃ kk : Nat, kk ≤ mo.length ∧ s16 = .int .i64 kk ∧ Aside0 (Below w.heap.size w wr ∧ wr.ownsRow w.heap.size 3 1 (.slice (some ⟨gb, 0, none⟩) x.f6.length cap) x.f6.length (nums .i64 (addTo x.f6 mo kk)))) (fun s16 _ => mo.length - (intOf s16).toNat)
 case atStart => exact ⟨0, Nat.zero_le _, rfl, ⟨H1.out.2, by rw [addTo_zero]; exact H1.out.1⟩⟩
 case round =>
  obtain ⟨kk, hkk, rfl, HL⟩ := hrel
  by_cases hlt : kk < mo.length
  ·have hltz : (kk : Int) < (mo.length : Int) := by omega
   have hl6k : kk < x.f6.length := by omega
   have hl6z : (kk : Int) < (x.f6.length : Int) := by omega
   obtain ⟨ad, hA, hc0⟩ := row_at_int (Kd.C_below HMO.out HL.out.1) kk hlt
   obtain rfl := hA
   have hmk := HM.out _ (List.getElem_mem hlt)
   have hwk := HV6.out kk hl6k
   have hat := own_at HL.out.2 (kk : Int) (by omega) (by omega)
   have hst := own_store HL.out.2 (kk : Int) (x.f6[kk] + mo[kk])
   have hrd : rd (addTo x.f6 mo kk) (kk : Int) = x.f6[kk] := by simp [rd, addTo, hl6k]
   rw [hrd] at hat
   rw [Int.toNat_natCast] at hat hst
   rw [addTo_succ _ _ _ hl6k hlt] at hst
   have hBn : Below w.heap.size w (wr.setCell ⟨gb, kk, none⟩ (.int .i64 (x.f6[kk] + mo[kk]))) := HL.out.1.setCell (p := ⟨gb, kk, none⟩) (by show w.heap.size ≤ gb; exact hgb) _
   have HN := Aside0.mk (And.intro hBn hst.1)
   have hat0 := hat.1
   have hat1 := hat.2
   clear hst hrd hat hBn
   generalize x.f6[kk] = a at *
   generalize mo[kk] = b at *
   have ha0 := hwk.1
   have ha1 := hwk.2
   have hb0 := hmk.1
   have hb1 := hmk.2
   go_wp2
   go_roundw
   case rel => exact ⟨kk + 1, by omega, by go_num, HN⟩
   case measure => simp [intOf]; omega
  ·have hltz : ¬ (kk : Int) < (mo.length : Int) := by omega
   obtain rfl : kk = mo.length := by omega
   have hle : mo.length = x.f6.length := by omega
   have hown := HL.out.2
   have hsl : addTo x.f6 mo mo.length = sumL x.f6 mo := by unfold sumL; rw [hle]
   rw [hsl] at hown
   have hsn : (sumL x.f6 mo).length = x.f6.length := addTo_len _ _ _
   obtain ⟨A', c', hv', _, hC⟩ := own_C (Kd.int .i64) (.int .i64) rfl (fun _ _ => rfl) (xs := sumL x.f6 mo) rfl (by simp [nums, hsn]) hown
   rw [hsn] at hv'
   simp only [Value.slice.injEq, true_and] at hv'
   obtain ⟨rfl, rfl⟩ := hv'
   have hq := wholeQ (c := cap) (k38.K_below HL.out.1 HX.out) HV.out (HW.out.below HL.out.1) HM.out hC
   rw [hsn] at hq
   have hvd := fun W => verdict_calls (askB x (sumL x.f6 mo) valWhole) W
   have HWF := Lib.hid (show withF x mo = vdict (askB x (sumL x.f6 mo) valWhole) from rfl)
   generalize askB x (sumL x.f6 mo) valWhole = r at *
   generalize vdict r = vv at *
   clear hC hown hsl
   go_wp2_with (first
    | (go_at_call 79; refine hq.mono ?_; clear hq; rintro e w2 ⟨rfl, hb2⟩; have H2 := Aside0.mk (bel2 HL.out.1 hb2); clear hb2)
    | (go_at_call 98; refine (hvd _).mono ?_; clear hvd; rintro e w3 ⟨rfl, hb3⟩; have H3 := Aside0.mk (bel2 H2.out hb3); clear hb3))
   go_ret
   exact ⟨ret_int HWF.out.symm, H3.out⟩
end Go.Proofs.Ytdgkhoflajdidaa
/- More. -/
namespace Go.Proofs.Ytdgkhoflajdidaa
open Go.RowKit Go.Proofs.YtdgkhoflajdidaaW.PrintWords Go.Proofs.YtdgkhoflajdidaaW.PrintMore Go.Proofs.YtdgkhoflajdidaaW.PrintLast Go.Proofs.Ytdgkhoflajdidaa.Print
set_option linter.unusedVariables false
set_option linter.unusedSimpArgs false
theorem ask_ok (x : S38) (cs : List Value) (b : Bool) (w : World) (hx : k38.K w x cs) (hE : askE x b = 0) : Calls Try.prog 77 #[.agg cs.toArray, .bool b] w fun e w' => ∃ g mb, e = .returned (.tuple #[.pointer (some ⟨g, 0, none⟩), .int .i64 0]) ∧
    Below w.heap.size w w' ∧ WorkAt x cs g mb w' ∧ w'.heap[mb]? = some (.map #[] 0) ∧ w.heap.size ≤ g ∧ w.heap.size ≤ mb := by
 refine (askedAll_calls x cs b _ hx).mono fun e w' h => ?_
 unfold AskAll at h
 rw [if_pos hE] at h
 obtain ⟨h0, g, mb, h1, h2, h3, h4, h5⟩ := h
 exact ⟨g, mb, h1, h0, h4, h5, h2, h3⟩
theorem ask_no (x : S38) (cs : List Value) (b : Bool) (w : World) (hx : k38.K w x cs) (hE : ¬ askE x b = 0) : Calls Try.prog 77 #[.agg cs.toArray, .bool b] w fun e w' => e = .returned (.tuple #[.pointer none, .int .i64 (askE x b)]) ∧ Below w.heap.size w w' := by
 refine (askedAll_calls x cs b _ hx).mono fun e w' h => ?_
 unfold AskAll at h
 rw [if_neg hE] at h
 exact ⟨h.2, h.1⟩
/-- What More returns. -/
def moreF (x : S38) (mo : List Int) : Int × Int := if askE x (forHours x.f0 mo 20) = 0 then (withF x mo, 0) else (0, askE x (forHours x.f0 mo 20))
set_option maxRecDepth 100000 in
set_option maxHeartbeats 4000000 in
theorem moreF_calls (x : S38) (cs : List Value) (C : Option Addr) (c : Nat) (mo : List Int) (w : World) (hx : k38.K w x cs) (hmo : Kd.C (Kd.int .i64) w C mo.length mo) :
    Calls Try.prog 26 #[.agg cs.toArray, .slice C mo.length c] w fun e w' => e = .returned (.tuple #[.int .i64 (moreF x mo).1, .int .i64 (moreF x mo).2]) ∧ Below w.heap.size w w' := by
 have hb0 := fun o => below_alloc (Below.refl w.heap.size w) o
 have hpr := fun W (hW : Below w.heap.size w W) => promised_calls x cs C c mo W (k38.K_below hW hx) (Kd.C_below hmo hW)
 have hgood := fun W (hW : Below w.heap.size w W) => ask_ok x cs (forHours x.f0 mo 20) W (k38.K_below hW hx)
 have hbad := fun W (hW : Below w.heap.size w W) => ask_no x cs (forHours x.f0 mo 20) W (k38.K_below hW hx)
 have hfor : forHours x.f0 mo 20 = true → Valid x → (mo.length : Int) = x.f0 + 1 ∧ ∀ n ∈ mo, 0 ≤ n ∧ n ≤ 20 := fun h hv => (forHours_iff hv.last0 hv.last1).1 h
 have HX := Aside0.mk hx
 have HMO := Aside0.mk hmo
 have HPR := Aside0.mk hpr
 have hmf : moreF x mo = if askE x (forHours x.f0 mo 20) = 0 then (withF x mo, 0) else (0, askE x (forHours x.f0 mo 20)) := rfl
 obtain ⟨A5, c5, A6, c6, A9, c9, A10, c10, hcs, _⟩ := k38_open hx
 subst hcs
 clear hx hmo hpr
 have hu := Try.underlying38
 have BC := Blk.new w #[.int .i64 x.f0, .int .i64 x.f1, .int .i64 x.f2, .int .i64 x.f3, .int .i64 x.f4, .slice A5 x.f5.length c5, .slice A6 x.f6.length c6, .int .i64 x.f7.f0, .int .i64 x.f7.f1, .slice A9 x.f8.length c9, .slice A10 x.f9.length c10] 38 _ rfl
 have k0 := BC.cell 0 _ rfl
 have k1 := BC.cell 1 _ rfl
 have k2 := BC.cell 2 _ rfl
 have k3 := BC.cell 3 _ rfl
 have k4 := BC.cell 4 _ rfl
 have k5 := BC.cell 5 _ rfl
 have k6 := BC.cell 6 _ rfl
 have k7 := BC.cell 7 _ rfl
 have k8 := BC.cell 8 _ rfl
 have k9 := BC.cell 9 _ rfl
 have k10 := BC.cell 10 _ rfl
 clear BC
 by_cases hE : askE x (forHours x.f0 mo 20) = 0
 ·rw [if_pos hE] at hmf
  have hval := askE_nonneg hE
  have HV := Aside0.mk ((valid_iff x).1 hval.1)
  have HM := Aside0.mk (hfor hval.2.1 HV.out)
  have HG := Aside0.mk (fun W hW => hgood W hW hE)
  have HMF := Lib.hid hmf
  clear hmf hgood hbad hfor hval hE
  generalize forHours x.f0 mo 20 = bb at *
  go_enter Try.func26, Try.ntmps26
  go_wp2
  refine start_ (n := 10) (S := fun w' => w'.cell? ⟨w.heap.size, 0, none⟩ = some (.int .i64 x.f0) ∧ w'.cell? ⟨w.heap.size, 1, none⟩ = some (.int .i64 x.f1) ∧ w'.cell? ⟨w.heap.size, 2, none⟩ = some (.int .i64 x.f2) ∧ w'.cell? ⟨w.heap.size, 3, none⟩ = some (.int .i64 x.f3) ∧ w'.cell? ⟨w.heap.size, 4, none⟩ = some (.int .i64 x.f4) ∧ w'.cell? ⟨w.heap.size, 5, none⟩ = some (.slice A5 x.f5.length c5) ∧ w'.cell? ⟨w.heap.size, 6, none⟩ = some (.slice A6 x.f6.length c6) ∧ w'.cell? ⟨w.heap.size, 7, none⟩ = some (.int .i64 x.f7.f0) ∧ w'.cell? ⟨w.heap.size, 8, none⟩ = some (.int .i64 x.f7.f1) ∧ w'.cell? ⟨w.heap.size, 9, none⟩ = some (.slice A9 x.f8.length c9) ∧ w'.cell? ⟨w.heap.size, 10, none⟩ = some (.slice A10 x.f9.length c10)) (ds := []) #[false, false, false, false, false, false, false, false, false, false] (by kernel_rfl) rfl rfl ⟨k0, k1, k2, k3, k4, k5, k6, k7, k8, k9, k10⟩ (fun hHeld => ?_)
  refine pure_ (i := 2) (N := some 11) (v := ?_) (a' := ?_) (bs 10 4) rfl rfl (by kernel_rfl) (fun _ _ _ h => h) (Or.inl ⟨by rfl, ?_⟩) ?_ ?_
  rotate_left
  ·intro w'
   go_simp
   with_reducible rfl
  rotate_left
  ·simp only [Act.put, List.setIfInBounds_toArray, List.set_cons_zero, List.set_cons_succ, i64_w, i32_w]
   rfl
  refine take_ (i := 0) (N := some 9) (v := ?_) (a' := ?_) (bs 10 5) rfl rfl (by kernel_rfl) (fun _ _ _ h => h) (Or.inl ⟨by rfl, ?_⟩) hHeld ?_ ?_
  rotate_left
  ·rintro w' ⟨s0, s1, s2, s3, s4, s5, s6, s7, s8, s9, s10⟩
   go_simp
   with_reducible rfl
  rotate_left
  ·simp only [Act.put, List.setIfInBounds_toArray, List.set_cons_zero, List.set_cons_succ, i64_w, i32_w]
   rfl
  refine take_ (i := 1) (N := some 10) (v := ?_) (a' := ?_) (bs 10 7) rfl rfl (by kernel_rfl) (fun _ _ _ h => h) (Or.inl ⟨by rfl, ?_⟩) hHeld ?_ ?_
  rotate_left
  ·rintro w' ⟨s0, s1, s2, s3, s4, s5, s6, s7, s8, s9, s10⟩
   go_simp
   with_reducible rfl
  rotate_left
  ·simp only [Act.put, List.setIfInBounds_toArray, List.set_cons_zero, List.set_cons_succ, i64_w, i32_w]
   rfl
  refine one_ (i := 3) (N := some 12) (bs 10 15) rfl rfl (by kernel_rfl) (by decide) (fun K hK => ?_)
  refine goes_ Try.func83 (by kernel_rfl) rfl #[.agg #[.int .i64 x.f0, .int .i64 x.f1, .int .i64 x.f2, .int .i64 x.f3, .int .i64 x.f4, .slice A5 x.f5.length c5, .slice A6 x.f6.length c6, .int .i64 x.f7.f0, .int .i64 x.f7.f1, .slice A9 x.f8.length c9, .slice A10 x.f9.length c10], .slice C mo.length c] (by rfl) rfl rfl (by simp only [List.map_toArray, List.map_cons, List.map_nil]; rfl) ?_
  with_reducible refine (HPR.out _ (below_drew (hb0 _))).mono ?_
  rintro e w3 ⟨rfl, hb3⟩
  refine ⟨_, rfl, ?_⟩
  refine hK.out _ _ ⟨pw_cell_below hb3 (hHeld.1), pw_cell_below hb3 (hHeld.2.1), pw_cell_below hb3 (hHeld.2.2.1), pw_cell_below hb3 (hHeld.2.2.2.1), pw_cell_below hb3 (hHeld.2.2.2.2.1), pw_cell_below hb3 (hHeld.2.2.2.2.2.1), pw_cell_below hb3 (hHeld.2.2.2.2.2.2.1), pw_cell_below hb3 (hHeld.2.2.2.2.2.2.2.1), pw_cell_below hb3 (hHeld.2.2.2.2.2.2.2.2.1), pw_cell_below hb3 (hHeld.2.2.2.2.2.2.2.2.2.1), pw_cell_below hb3 (hHeld.2.2.2.2.2.2.2.2.2.2)⟩ (fun hHeld => ?_)
  clear hK K
  refine norm_ (a' := ?_) ?_ ?_
  rotate_left
  ·show Act.put _ (some 12) _ = _
   simp only [Act.put, List.setIfInBounds_toArray, List.set_cons_zero, List.set_cons_succ, i64_w, i32_w]
   rfl
  refine one_ (i := 4) (N := some 13) (bs 10 31) rfl rfl (by kernel_rfl) (by decide) (fun K hK => ?_)
  refine goes_ Try.func77 (by kernel_rfl) rfl #[.agg #[.int .i64 x.f0, .int .i64 x.f1, .int .i64 x.f2, .int .i64 x.f3, .int .i64 x.f4, .slice A5 x.f5.length c5, .slice A6 x.f6.length c6, .int .i64 x.f7.f0, .int .i64 x.f7.f1, .slice A9 x.f8.length c9, .slice A10 x.f9.length c10], .bool bb] (by rfl) rfl rfl (by simp only [List.map_toArray, List.map_cons, List.map_nil]; rfl) ?_
  with_reducible refine (HG.out w3 (bel2 (below_drew (hb0 _)) hb3)).mono ?_
  rintro e w4 ⟨g, mb, rfl, hb4, hwk, _, _, _⟩
  refine ⟨_, rfl, ?_⟩
  refine hK.out _ _ ⟨pw_cell_below hb4 (hHeld.1), pw_cell_below hb4 (hHeld.2.1), pw_cell_below hb4 (hHeld.2.2.1), pw_cell_below hb4 (hHeld.2.2.2.1), pw_cell_below hb4 (hHeld.2.2.2.2.1), pw_cell_below hb4 (hHeld.2.2.2.2.2.1), pw_cell_below hb4 (hHeld.2.2.2.2.2.2.1), pw_cell_below hb4 (hHeld.2.2.2.2.2.2.2.1), pw_cell_below hb4 (hHeld.2.2.2.2.2.2.2.2.1), pw_cell_below hb4 (hHeld.2.2.2.2.2.2.2.2.2.1), pw_cell_below hb4 (hHeld.2.2.2.2.2.2.2.2.2.2)⟩ (fun hHeld => ?_)
  clear hK K
  refine norm_ (a' := ?_) ?_ ?_
  rotate_left
  ·show Act.put _ (some 13) _ = _
   simp only [Act.put, List.setIfInBounds_toArray, List.set_cons_zero, List.set_cons_succ, i64_w, i32_w]
   rfl
  refine pure_ (i := 5) (N := some 8) (v := ?_) (a' := ?_) (bs 10 63) rfl rfl (by kernel_rfl) (fun _ _ _ h => h) (Or.inl ⟨by rfl, ?_⟩) ?_ ?_
  rotate_left
  ·intro w'
   go_simp
   with_reducible rfl
  rotate_left
  ·simp only [Act.put, List.setIfInBounds_toArray, List.set_cons_zero, List.set_cons_succ, i64_w, i32_w]
   rfl
  refine pure_ (i := 6) (N := some 14) (v := ?_) (a' := ?_) (bs 10 127) rfl rfl (by kernel_rfl) (fun _ _ _ h => h) (Or.inl ⟨by rfl, ?_⟩) ?_ ?_
  rotate_left
  ·intro w'
   go_simp
   with_reducible rfl
  rotate_left
  ·simp only [Act.put, List.setIfInBounds_toArray, List.set_cons_zero, List.set_cons_succ, i64_w, i32_w]
   rfl
  refine pure_ (i := 7) (N := some 15) (v := ?_) (a' := ?_) (bs 10 255) rfl rfl (by kernel_rfl) (fun _ _ _ h => h) (Or.inl ⟨by rfl, ?_⟩) ?_ ?_
  rotate_left
  ·intro w'
   go_simp
   with_reducible rfl
  rotate_left
  ·simp only [Act.put, List.setIfInBounds_toArray, List.set_cons_zero, List.set_cons_succ, i64_w, i32_w]
   rfl
  refine pure_ (i := 8) (N := some 6) (v := ?_) (a' := ?_) (bs 10 511) rfl rfl (by kernel_rfl) (fun _ _ _ h => h) (Or.inl ⟨by rfl, ?_⟩) ?_ ?_
  rotate_left
  ·intro w'
   go_simp
   with_reducible rfl
  rotate_left
  ·simp only [Act.put, List.setIfInBounds_toArray, List.set_cons_zero, List.set_cons_succ, i64_w, i32_w]
   rfl
  refine pure_ (i := 9) (N := some 7) (v := ?_) (a' := ?_) (bs 10 1023) rfl rfl (by kernel_rfl) (fun _ _ _ h => h) (Or.inl ⟨by rfl, ?_⟩) ?_ ?_
  rotate_left
  ·intro w'
   go_simp
   with_reducible rfl
  rotate_left
  ·simp only [Act.put, List.setIfInBounds_toArray, List.set_cons_zero, List.set_cons_succ, i64_w, i32_w]
   rfl
  refine done_ (by kernel_rfl) ?_
  clear hHeld
  have hB4 := bel2 (bel2 (below_drew (hb0 (.cells #[.int .i64 x.f0, .int .i64 x.f1, .int .i64 x.f2, .int .i64 x.f3, .int .i64 x.f4, .slice A5 x.f5.length c5, .slice A6 x.f6.length c6, .int .i64 x.f7.f0, .int .i64 x.f7.f1, .slice A9 x.f8.length c9, .slice A10 x.f9.length c10] 38))) hb3) hb4
  have hwith := with_calls x [.int .i64 x.f0, .int .i64 x.f1, .int .i64 x.f2, .int .i64 x.f3, .int .i64 x.f4, .slice A5 x.f5.length c5, .slice A6 x.f6.length c6, .int .i64 x.f7.f0, .int .i64 x.f7.f1, .slice A9 x.f8.length c9, .slice A10 x.f9.length c10] g mb C c mo w4 (k38.K_below hB4 HX.out) HV.out hwk (Kd.C_below HMO.out hB4) HM.out.1 HM.out.2
  have H4 := Aside0.mk hB4
  clear hB4 hb3 hb4 hwk
  go_wp2_with (go_at_call 84; refine hwith.mono ?_; clear hwith; rintro e w5 ⟨rfl, hb5⟩; have H5 := Aside0.mk hb5; clear hb5)
  refine bodyPost_ret (results_tmp2 rfl _ _ _) rfl ⟨?_, bel2 H4.out H5.out⟩
  rw [HMF.out]; rfl
 ·rw [if_neg hE] at hmf
  have HG := Aside0.mk (fun W hW => hbad W hW hE)
  have HMF := Lib.hid hmf
  have hE2 : (askE x (forHours x.f0 mo 20) == 0) = false := by simpa using hE
  clear hmf hgood hbad hfor
  generalize askE x (forHours x.f0 mo 20) = ec at *
  generalize forHours x.f0 mo 20 = bb at *
  go_enter Try.func26, Try.ntmps26
  go_wp2
  refine start_ (n := 10) (S := fun w' => w'.cell? ⟨w.heap.size, 0, none⟩ = some (.int .i64 x.f0) ∧ w'.cell? ⟨w.heap.size, 1, none⟩ = some (.int .i64 x.f1) ∧ w'.cell? ⟨w.heap.size, 2, none⟩ = some (.int .i64 x.f2) ∧ w'.cell? ⟨w.heap.size, 3, none⟩ = some (.int .i64 x.f3) ∧ w'.cell? ⟨w.heap.size, 4, none⟩ = some (.int .i64 x.f4) ∧ w'.cell? ⟨w.heap.size, 5, none⟩ = some (.slice A5 x.f5.length c5) ∧ w'.cell? ⟨w.heap.size, 6, none⟩ = some (.slice A6 x.f6.length c6) ∧ w'.cell? ⟨w.heap.size, 7, none⟩ = some (.int .i64 x.f7.f0) ∧ w'.cell? ⟨w.heap.size, 8, none⟩ = some (.int .i64 x.f7.f1) ∧ w'.cell? ⟨w.heap.size, 9, none⟩ = some (.slice A9 x.f8.length c9) ∧ w'.cell? ⟨w.heap.size, 10, none⟩ = some (.slice A10 x.f9.length c10)) (ds := []) #[false, false, false, false, false, false, false, false, false, false] (by kernel_rfl) rfl rfl ⟨k0, k1, k2, k3, k4, k5, k6, k7, k8, k9, k10⟩ (fun hHeld => ?_)
  refine pure_ (i := 2) (N := some 11) (v := ?_) (a' := ?_) (bs 10 4) rfl rfl (by kernel_rfl) (fun _ _ _ h => h) (Or.inl ⟨by rfl, ?_⟩) ?_ ?_
  rotate_left
  ·intro w'
   go_simp
   with_reducible rfl
  rotate_left
  ·simp only [Act.put, List.setIfInBounds_toArray, List.set_cons_zero, List.set_cons_succ, i64_w, i32_w]
   rfl
  refine take_ (i := 0) (N := some 9) (v := ?_) (a' := ?_) (bs 10 5) rfl rfl (by kernel_rfl) (fun _ _ _ h => h) (Or.inl ⟨by rfl, ?_⟩) hHeld ?_ ?_
  rotate_left
  ·rintro w' ⟨s0, s1, s2, s3, s4, s5, s6, s7, s8, s9, s10⟩
   go_simp
   with_reducible rfl
  rotate_left
  ·simp only [Act.put, List.setIfInBounds_toArray, List.set_cons_zero, List.set_cons_succ, i64_w, i32_w]
   rfl
  refine take_ (i := 1) (N := some 10) (v := ?_) (a' := ?_) (bs 10 7) rfl rfl (by kernel_rfl) (fun _ _ _ h => h) (Or.inl ⟨by rfl, ?_⟩) hHeld ?_ ?_
  rotate_left
  ·rintro w' ⟨s0, s1, s2, s3, s4, s5, s6, s7, s8, s9, s10⟩
   go_simp
   with_reducible rfl
  rotate_left
  ·simp only [Act.put, List.setIfInBounds_toArray, List.set_cons_zero, List.set_cons_succ, i64_w, i32_w]
   rfl
  refine one_ (i := 3) (N := some 12) (bs 10 15) rfl rfl (by kernel_rfl) (by decide) (fun K hK => ?_)
  refine goes_ Try.func83 (by kernel_rfl) rfl #[.agg #[.int .i64 x.f0, .int .i64 x.f1, .int .i64 x.f2, .int .i64 x.f3, .int .i64 x.f4, .slice A5 x.f5.length c5, .slice A6 x.f6.length c6, .int .i64 x.f7.f0, .int .i64 x.f7.f1, .slice A9 x.f8.length c9, .slice A10 x.f9.length c10], .slice C mo.length c] (by rfl) rfl rfl (by simp only [List.map_toArray, List.map_cons, List.map_nil]; rfl) ?_
  with_reducible refine (HPR.out _ (below_drew (hb0 _))).mono ?_
  rintro e w3 ⟨rfl, hb3⟩
  refine ⟨_, rfl, ?_⟩
  refine hK.out _ _ ⟨pw_cell_below hb3 (hHeld.1), pw_cell_below hb3 (hHeld.2.1), pw_cell_below hb3 (hHeld.2.2.1), pw_cell_below hb3 (hHeld.2.2.2.1), pw_cell_below hb3 (hHeld.2.2.2.2.1), pw_cell_below hb3 (hHeld.2.2.2.2.2.1), pw_cell_below hb3 (hHeld.2.2.2.2.2.2.1), pw_cell_below hb3 (hHeld.2.2.2.2.2.2.2.1), pw_cell_below hb3 (hHeld.2.2.2.2.2.2.2.2.1), pw_cell_below hb3 (hHeld.2.2.2.2.2.2.2.2.2.1), pw_cell_below hb3 (hHeld.2.2.2.2.2.2.2.2.2.2)⟩ (fun hHeld => ?_)
  clear hK K
  refine norm_ (a' := ?_) ?_ ?_
  rotate_left
  ·show Act.put _ (some 12) _ = _
   simp only [Act.put, List.setIfInBounds_toArray, List.set_cons_zero, List.set_cons_succ, i64_w, i32_w]
   rfl
  refine one_ (i := 4) (N := some 13) (bs 10 31) rfl rfl (by kernel_rfl) (by decide) (fun K hK => ?_)
  refine goes_ Try.func77 (by kernel_rfl) rfl #[.agg #[.int .i64 x.f0, .int .i64 x.f1, .int .i64 x.f2, .int .i64 x.f3, .int .i64 x.f4, .slice A5 x.f5.length c5, .slice A6 x.f6.length c6, .int .i64 x.f7.f0, .int .i64 x.f7.f1, .slice A9 x.f8.length c9, .slice A10 x.f9.length c10], .bool bb] (by rfl) rfl rfl (by simp only [List.map_toArray, List.map_cons, List.map_nil]; rfl) ?_
  with_reducible refine (HG.out w3 (bel2 (below_drew (hb0 _)) hb3)).mono ?_
  rintro e w4 ⟨rfl, hb4⟩
  refine ⟨_, rfl, ?_⟩
  refine hK.out _ _ ⟨pw_cell_below hb4 (hHeld.1), pw_cell_below hb4 (hHeld.2.1), pw_cell_below hb4 (hHeld.2.2.1), pw_cell_below hb4 (hHeld.2.2.2.1), pw_cell_below hb4 (hHeld.2.2.2.2.1), pw_cell_below hb4 (hHeld.2.2.2.2.2.1), pw_cell_below hb4 (hHeld.2.2.2.2.2.2.1), pw_cell_below hb4 (hHeld.2.2.2.2.2.2.2.1), pw_cell_below hb4 (hHeld.2.2.2.2.2.2.2.2.1), pw_cell_below hb4 (hHeld.2.2.2.2.2.2.2.2.2.1), pw_cell_below hb4 (hHeld.2.2.2.2.2.2.2.2.2.2)⟩ (fun hHeld => ?_)
  clear hK K
  refine norm_ (a' := ?_) ?_ ?_
  rotate_left
  ·show Act.put _ (some 13) _ = _
   simp only [Act.put, List.setIfInBounds_toArray, List.set_cons_zero, List.set_cons_succ, i64_w, i32_w]
   rfl
  refine pure_ (i := 5) (N := some 8) (v := ?_) (a' := ?_) (bs 10 63) rfl rfl (by kernel_rfl) (fun _ _ _ h => h) (Or.inl ⟨by rfl, ?_⟩) ?_ ?_
  rotate_left
  ·intro w'
   go_simp
   with_reducible rfl
  rotate_left
  ·simp only [Act.put, List.setIfInBounds_toArray, List.set_cons_zero, List.set_cons_succ, i64_w, i32_w]
   rfl
  refine pure_ (i := 6) (N := some 14) (v := ?_) (a' := ?_) (bs 10 127) rfl rfl (by kernel_rfl) (fun _ _ _ h => h) (Or.inl ⟨by rfl, ?_⟩) ?_ ?_
  rotate_left
  ·intro w'
   go_simp
   with_reducible rfl
  rotate_left
  ·simp only [Act.put, List.setIfInBounds_toArray, List.set_cons_zero, List.set_cons_succ, i64_w, i32_w]
   rfl
  refine pure_ (i := 7) (N := some 15) (v := ?_) (a' := ?_) (bs 10 255) rfl rfl (by kernel_rfl) (fun _ _ _ h => h) (Or.inl ⟨by rfl, ?_⟩) ?_ ?_
  rotate_left
  ·intro w'
   go_simp
   with_reducible rfl
  rotate_left
  ·simp only [Act.put, List.setIfInBounds_toArray, List.set_cons_zero, List.set_cons_succ, i64_w, i32_w]
   rfl
  refine pure_ (i := 8) (N := some 6) (v := ?_) (a' := ?_) (bs 10 511) rfl rfl (by kernel_rfl) (fun _ _ _ h => h) (Or.inl ⟨by rfl, ?_⟩) ?_ ?_
  rotate_left
  ·intro w'
   go_simp
   with_reducible rfl
  rotate_left
  ·simp only [Act.put, List.setIfInBounds_toArray, List.set_cons_zero, List.set_cons_succ, i64_w, i32_w]
   rfl
  refine pure_ (i := 9) (N := some 7) (v := ?_) (a' := ?_) (bs 10 1023) rfl rfl (by kernel_rfl) (fun _ _ _ h => h) (Or.inl ⟨by rfl, ?_⟩) ?_ ?_
  rotate_left
  ·intro w'
   go_simp
   with_reducible rfl
  rotate_left
  ·simp only [Act.put, List.setIfInBounds_toArray, List.set_cons_zero, List.set_cons_succ, i64_w, i32_w]
   rfl
  refine done_ (by kernel_rfl) ?_
  clear hHeld
  have H4 := Aside0.mk (bel2 (bel2 (below_drew (hb0 (.cells #[.int .i64 x.f0, .int .i64 x.f1, .int .i64 x.f2, .int .i64 x.f3, .int .i64 x.f4, .slice A5 x.f5.length c5, .slice A6 x.f6.length c6, .int .i64 x.f7.f0, .int .i64 x.f7.f1, .slice A9 x.f8.length c9, .slice A10 x.f9.length c10] 38))) hb3) hb4)
  clear hb3 hb4
  go_wp2
  refine bodyPost_ret (results_tmp2 rfl _ _ _) rfl ⟨?_, H4.out⟩
  rw [HMF.out]; rfl
end Go.Proofs.Ytdgkhoflajdidaa
