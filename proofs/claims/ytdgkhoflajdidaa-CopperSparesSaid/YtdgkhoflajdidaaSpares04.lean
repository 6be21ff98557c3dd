/- Lemmas for the law's proof: Qc. -/
import Derived.Test.YtdgkhoflajdidaaSpares03
import Derived.Test.YtdgkhoflajdidaaCore14
import Derived.Deep.Cut
/- CopperSpares: the walk. -/
namespace Go.Proofs.Ytdgkhoflajdidaa
open Go.RowKit Go.Proofs.YtdgkhoflajdidaaW.PrintWords Go.Proofs.YtdgkhoflajdidaaW.PrintMore Go.Proofs.YtdgkhoflajdidaaW.PrintLast Go.Proofs.Ytdgkhoflajdidaa.Print
set_option linter.unusedVariables false
set_option linter.unusedSimpArgs false
set_option maxRecDepth 100000
set_option maxHeartbeats 4000000
theorem spares_awake (x : S38) (cs : List Value) (mo : List Int) (M : Option Addr) (mc : Nat) (hour : Int) (w : World) (hx : k38.K w x cs) (h : thinB x = false ∨ 30 < mo.length) : Calls Try.prog 4 #[.agg cs.toArray, .slice M mo.length mc, .int .i64 hour] w fun e w' => e = .returned (.bool true) ∧ Below w.heap.size w w' := by
 have hthin := fun W (hW : Below w.heap.size w W) => thin_calls x cs W (k38.K_below hW hx)
 obtain ⟨A5, c5, A6, c6, A9, c9, A10, c10, rfl, _⟩ := k38_open hx
 clear hx
 have hu := Try.underlying28
 have ZB := Aside0.mk (below_alloc (Below.refl w.heap.size w) (.cells #[.int .i64 x.f0, .int .i64 x.f1, .int .i64 x.f2, .int .i64 x.f3, .int .i64 x.f4, .slice A5 x.f5.length c5, .slice A6 x.f6.length c6, .int .i64 x.f7.f0, .int .i64 x.f7.f1, .slice A9 x.f8.length c9, .slice A10 x.f9.length c10] 28))
 have hth := hthin _ ZB.out
 clear hthin
 cases hq : thinB x with
 | false =>
  rw [hq] at hth
  clear h hq
  go_enter Try.func4, Try.ntmps4
  go_wp2_with fail
  refine hth.mono ?_
  rintro e w1 ⟨rfl, hb⟩
  have HB := Aside0.mk (bel2 ZB.out hb)
  clear hb hth
  go_wp2_with fail
  refine (awake_calls _).mono ?_
  rintro e w2 ⟨rfl, hb⟩
  have HB2 := Aside0.mk (bel2 HB.out hb)
  clear hb
  go_wp2
  go_ret
  exact ⟨rfl, HB2.out⟩
 | true =>
  rw [hq] at hth
  have hlz : (30 : Int) < (mo.length : Int) := h.elim (fun h => by rw [hq] at h; cases h) (fun h => by omega)
  clear h hq
  go_enter Try.func4, Try.ntmps4
  go_wp2_with fail
  refine hth.mono ?_
  rintro e w1 ⟨rfl, hb⟩
  have HB := Aside0.mk (bel2 ZB.out hb)
  clear hb hth
  go_wp2_with fail
  refine (awake_calls _).mono ?_
  rintro e w2 ⟨rfl, hb⟩
  have HB2 := Aside0.mk (bel2 HB.out hb)
  clear hb
  go_wp2
  go_ret
  exact ⟨rfl, HB2.out⟩
/-- What sure leaves, in one form. -/
theorem ls_one {x : S38} {w w' : World} {e : Ending} (h : LsPost x w e w') : ∃ A c L, e = .returned (.tuple #[.slice A L.length c, .int .i64 (askE x true)]) ∧ Below w.heap.size w w' ∧ Kd.C k75 w' A L.length L ∧ (askE x true = 0 → L = truthsX x) := by
 unfold LsPost at h
 by_cases hE : askE x true = 0
 ·rw [if_pos hE] at h
  obtain ⟨A, c, e1, hb, hC⟩ := h
  exact ⟨A, c, truthsX x, by rw [hE]; exact e1, hb, hC, fun _ => rfl⟩
 ·rw [if_neg hE] at h
  exact ⟨none, 0, [], h.1, h.2, Kd.C_nil0 _ _ _, fun h => absurd h hE⟩
theorem ask_if (x : S38) (b : Bool) : askE x b = if faultC x = 0 ∧ b = false then 2 else askE x true := by
 unfold askE
 by_cases hF : faultC x = 0 <;> cases b <;> simp [hF]
theorem spareR_eq {x : S38} (hV : Valid x) (hne : truthL x ≠ []) (h : Int) : spareR x (truthsX x) h = spareP x h := by
 funext n
 unfold spareR spareP withF
 rw [whole_verd hV hne]
theorem spares_main (x : S38) (cs : List Value) (mo : List Int) (M : Option Addr) (mc : Nat) (hour : Int) (w : World) (hx : k38.K w x cs) (hmo : Kd.C (Kd.int .i64) w M mo.length mo) (h1 : thinB x = true) (h2 : mo.length ≤ 30) : Calls Try.prog 4 #[.agg cs.toArray, .slice M mo.length mc, .int .i64 hour] w fun e w' => e = .returned (.bool true) ∧ Below w.heap.size w w' := by
 have hthin := fun W (hW : Below w.heap.size w W) => thin_calls x cs W (k38.K_below hW hx)
 rw [h1] at hthin
 have HCP := Aside0.mk (fun W (hW : Below w.heap.size w W) => copper_calls x cs W (k38.K_below hW hx) h1)
 have HSU := Aside0.mk (fun W (hW : Below w.heap.size w W) => lsure_calls x cs W (k38.K_below hW hx))
 have HLI := Aside0.mk (fun W (hW : Below w.heap.size w W) => listS_calls M mc mo W (Kd.C_below hmo hW) (by omega))
 have hfa := fun W (hW : Below w.heap.size w W) => lfault_calls x cs W (k38.K_below hW hx)
 have hea := fun W (hW : Below w.heap.size w W) => each_calls x cs M mc mo 20 W (k38.K_below hW hx) (Kd.C_below hmo hW)
 have hmr := fun W ds B b (hd : k38.K W x ds) (hb : Kd.C (Kd.int .i64) W B mo.length mo) => moreF_calls x ds B b mo W hd hb
 have hsp := fun W ds (hd : k38.K W x ds) => spareF_calls x ds hour W hd
 have HX := Aside0.mk (And.intro hx hmo)
 obtain ⟨A5, c5, A6, c6, A9, c9, A10, c10, rfl, _⟩ := k38_open hx
 clear hx hmo h1
 have hu := Try.underlying28
 have hlz : (mo.length : Int) ≤ 30 := by omega
 have ZB := Aside0.mk (And.intro (below_alloc (Below.refl w.heap.size w) (.cells #[.int .i64 x.f0, .int .i64 x.f1, .int .i64 x.f2, .int .i64 x.f3, .int .i64 x.f4, .slice A5 x.f5.length c5, .slice A6 x.f6.length c6, .int .i64 x.f7.f0, .int .i64 x.f7.f1, .slice A9 x.f8.length c9, .slice A10 x.f9.length c10] 28)) (Blk.new w #[.int .i64 x.f0, .int .i64 x.f1, .int .i64 x.f2, .int .i64 x.f3, .int .i64 x.f4, .slice A5 x.f5.length c5, .slice A6 x.f6.length c6, .int .i64 x.f7.f0, .int .i64 x.f7.f1, .slice A9 x.f8.length c9, .slice A10 x.f9.length c10] 28 _ rfl))
 have hth := hthin _ ZB.out.1
 clear hthin
 obtain ⟨mv, hmv⟩ : ∃ l, (moreF x mo).1 = l := ⟨_, rfl⟩
 obtain ⟨me, hme⟩ : ∃ l, (moreF x mo).2 = l := ⟨_, rfl⟩
 obtain ⟨sv, hsv⟩ : ∃ l, (spareF x hour).1 = l := ⟨_, rfl⟩
 obtain ⟨se, hse⟩ : ∃ l, (spareF x hour).2 = l := ⟨_, rfl⟩
 obtain ⟨fo, hfo⟩ : ∃ b, forHours x.f0 mo 20 = b := ⟨_, rfl⟩
 obtain ⟨ho, hho⟩ : ∃ b, inR hour 0 x.f0 = b := ⟨_, rfl⟩
 obtain ⟨ec, hec⟩ : ∃ b, faultC x = b := ⟨_, rfl⟩
 obtain ⟨et, het⟩ : ∃ b, askE x true = b := ⟨_, rfl⟩
 have hme2 : moreF x mo = if askE x (forHours x.f0 mo 20) = 0 then (withF x mo, 0) else (0, askE x (forHours x.f0 mo 20)) := rfl
 have hse2 : spareF x hour = if askE x (inR hour 0 x.f0) = 0 then (match downF (spareP x hour) 21 with | some n => ((n : Int), 0) | none => (0, 10)) else (0, askE x (inR hour 0 x.f0)) := rfl
 rw [hmv, hme] at hmr
 rw [hsv, hse] at hsp
 rw [hec] at hfa
 rw [hfo] at hea hme2
 rw [hho] at hse2
 have hwe := ask_if x fo
 have hde := ask_if x ho
 rw [hec, het] at hwe hde
 obtain ⟨we, hwe0⟩ : ∃ b, askE x fo = b := ⟨_, rfl⟩
 obtain ⟨de, hde0⟩ : ∃ b, askE x ho = b := ⟨_, rfl⟩
 rw [hwe0] at hwe hme2
 rw [hde0] at hde hse2
 have HMR := Aside0.mk hmr
 have HSP := Aside0.mk hsp
 have HFA := Aside0.mk hfa
 have HEA := Aside0.mk hea
 have HIN := Aside0.mk (fun W => rIn_calls hour 0 x.f0 W)
 rw [hho] at HIN
 have HEQ := Lib.hid (And.intro hmv (And.intro hme (And.intro hsv (And.intro hse (And.intro hfo (And.intro hho (And.intro hec het)))))))
 have HWE := Lib.hid (And.intro hwe (And.intro hwe0 (And.intro hde hde0)))
 have HME := Lib.hid (And.intro hme2 hse2)
 clear hmr hsp hfa hea hmv hme hsv hse hfo hho hec het hwe hde hwe0 hde0 hme2 hse2
 have HP := Aside0.mk (fun W V (h : True) (hb : Below W.heap.size W V) => True.intro)
 go_enter Try.func4, Try.ntmps4
 go_wp2_with fail
 refine hth.mono ?_
 rintro e w1 ⟨rfl, hb⟩
 have H1 := Aside0.mk (LwSt.mk (w := w) (B := #[.int .i64 x.f0, .int .i64 x.f1, .int .i64 x.f2, .int .i64 x.f3, .int .i64 x.f4, .slice A5 x.f5.length c5, .slice A6 x.f6.length c6, .int .i64 x.f7.f0, .int .i64 x.f7.f1, .slice A9 x.f8.length c9, .slice A10 x.f9.length c10]) (P := fun _ => True) (bel2 ZB.out.1 hb) (ZB.out.2.below hb) trivial)
 clear hb hth ZB
 have k0 := H1.out.box.cell 0 _ rfl
 have k1 := H1.out.box.cell 1 _ rfl
 have k2 := H1.out.box.cell 2 _ rfl
 have k3 := H1.out.box.cell 3 _ rfl
 have k4 := H1.out.box.cell 4 _ rfl
 have k5 := H1.out.box.cell 5 _ rfl
 have k6 := H1.out.box.cell 6 _ rfl
 have k7 := H1.out.box.cell 7 _ rfl
 have k8 := H1.out.box.cell 8 _ rfl
 have k9 := H1.out.box.cell 9 _ rfl
 have k10 := H1.out.box.cell 10 _ rfl
 go_wp2_with fail
 refine (HCP.out _ H1.out.bel).mono ?_
 rintro e w2 ⟨ds, rfl, hb, hkd⟩
 have H2 := Aside0.mk (H1.out.step HP.out hb)
 clear hb H1 k0 k1 k2 k3 k4 k5 k6 k7 k8 k9 k10
 go_wp2_with fail
 refine (HLI.out _ H2.out.bel).mono ?_
 rintro e w3 ⟨Bm, bm, rfl, hro, hb⟩
 obtain ⟨B', b', e5, _, gm⟩ := own_C (Kd.int .i64) (.int .i64) rfl (fun _ _ => rfl) (xs := mo) rfl (by simp [nums]) hro
 simp only [Value.slice.injEq, true_and] at e5
 obtain ⟨rfl, rfl⟩ := e5
 have hmr := HMR.out w3 ds Bm bm (k38.K_below hb hkd) gm
 have H3 := Aside0.mk (H2.out.step HP.out hb)
 clear hb H2 hkd hro gm HMR
 go_wp2_with fail
 refine hmr.mono ?_
 rintro e w4 ⟨rfl, hb⟩
 have H4 := Aside0.mk (H3.out.step HP.out hb)
 clear hb H3 hmr
 have k0 := H4.out.box.cell 0 _ rfl
 have k1 := H4.out.box.cell 1 _ rfl
 have k2 := H4.out.box.cell 2 _ rfl
 have k3 := H4.out.box.cell 3 _ rfl
 have k4 := H4.out.box.cell 4 _ rfl
 have k5 := H4.out.box.cell 5 _ rfl
 have k6 := H4.out.box.cell 6 _ rfl
 have k7 := H4.out.box.cell 7 _ rfl
 have k8 := H4.out.box.cell 8 _ rfl
 have k9 := H4.out.box.cell 9 _ rfl
 have k10 := H4.out.box.cell 10 _ rfl
 go_wp2_with fail
 refine (HCP.out _ H4.out.bel).mono ?_
 rintro e w5 ⟨es, rfl, hb, hkd⟩
 have H5 := Aside0.mk (H4.out.step HP.out hb)
 clear hb H4 k0 k1 k2 k3 k4 k5 k6 k7 k8 k9 k10
 go_wp2_with fail
 refine (HSP.out _ es hkd).mono ?_
 rintro e w6 ⟨rfl, hb⟩
 have H6 := Aside0.mk (H5.out.step HP.out hb)
 clear hb H5 hkd HSP HCP
 have k0 := H6.out.box.cell 0 _ rfl
 have k1 := H6.out.box.cell 1 _ rfl
 have k2 := H6.out.box.cell 2 _ rfl
 have k3 := H6.out.box.cell 3 _ rfl
 have k4 := H6.out.box.cell 4 _ rfl
 have k5 := H6.out.box.cell 5 _ rfl
 have k6 := H6.out.box.cell 6 _ rfl
 have k7 := H6.out.box.cell 7 _ rfl
 have k8 := H6.out.box.cell 8 _ rfl
 have k9 := H6.out.box.cell 9 _ rfl
 have k10 := H6.out.box.cell 10 _ rfl
 go_wp2_with fail
 refine (HSU.out _ H6.out.bel).mono ?_
 rintro e w7 hls
 obtain ⟨At, ct, TL, rfl, hb, hC, hTL⟩ := ls_one hls
 rw [HEQ.out.2.2.2.2.2.2.2] at hTL ⊢
 have H7 := Aside0.mk (And.intro (H6.out.step HP.out hb) hC)
 have HTL := Lib.hid hTL
 clear hb H6 HSU hls hC hTL k0 k1 k2 k3 k4 k5 k6 k7 k8 k9 k10
 have k0 := H7.out.1.box.cell 0 _ rfl
 have k1 := H7.out.1.box.cell 1 _ rfl
 have k2 := H7.out.1.box.cell 2 _ rfl
 have k3 := H7.out.1.box.cell 3 _ rfl
 have k4 := H7.out.1.box.cell 4 _ rfl
 have k5 := H7.out.1.box.cell 5 _ rfl
 have k6 := H7.out.1.box.cell 6 _ rfl
 have k7 := H7.out.1.box.cell 7 _ rfl
 have k8 := H7.out.1.box.cell 8 _ rfl
 have k9 := H7.out.1.box.cell 9 _ rfl
 have k10 := H7.out.1.box.cell 10 _ rfl
 go_upto_region 7 with fail
 go_cut [53] from 15 (fun s53 wc => s53 = .bool (decide (ec = 0) && !fo) ∧ Aside0 (LwSt w #[.int .i64 x.f0, .int .i64 x.f1, .int .i64 x.f2, .int .i64 x.f3, .int .i64 x.f4, .slice A5 x.f5.length c5, .slice A6 x.f6.length c6, .int .i64 x.f7.f0, .int .i64 x.f7.f1, .slice A9 x.f8.length c9, .slice A10 x.f9.length c10] (fun _ => True) wc ∧ Below w7.heap.size w7 wc))
 case first =>
  by_cases hF : ec = 0
  ·subst hF
   go_wp2_with fail
   refine (HFA.out _ H7.out.1.bel).mono ?_
   rintro e w8 ⟨rfl, hb⟩
   have H8 := Aside0.mk (And.intro (H7.out.1.step HP.out hb) hb)
   clear hb k0 k1 k2 k3 k4 k5 k6 k7 k8 k9 k10
   have k0 := H8.out.1.box.cell 0 _ rfl
   have k1 := H8.out.1.box.cell 1 _ rfl
   have k2 := H8.out.1.box.cell 2 _ rfl
   have k3 := H8.out.1.box.cell 3 _ rfl
   have k4 := H8.out.1.box.cell 4 _ rfl
   have k5 := H8.out.1.box.cell 5 _ rfl
   have k6 := H8.out.1.box.cell 6 _ rfl
   have k7 := H8.out.1.box.cell 7 _ rfl
   have k8 := H8.out.1.box.cell 8 _ rfl
   have k9 := H8.out.1.box.cell 9 _ rfl
   have k10 := H8.out.1.box.cell 10 _ rfl
   go_wp2_with fail
   refine (HEA.out _ H8.out.1.bel).mono ?_
   rintro e w9 ⟨rfl, hb⟩
   have H9 := Aside0.mk (And.intro (H8.out.1.step HP.out hb) (bel2 H8.out.2 hb))
   clear hb k0 k1 k2 k3 k4 k5 k6 k7 k8 k9 k10
   go_wp2_with fail
   go_meet
   case rel => exact ⟨by cases fo <;> rfl, H9⟩
  ·have hF2 : (ec == 0) = false := by simpa using hF
   have hF3 : decide (ec = 0) = false := decide_eq_false hF
   go_wp2_with fail
   refine (HFA.out _ H7.out.1.bel).mono ?_
   rintro e w8 ⟨rfl, hb⟩
   have H8 := Aside0.mk (And.intro (H7.out.1.step HP.out hb) hb)
   clear hb k0 k1 k2 k3 k4 k5 k6 k7 k8 k9 k10
   go_wp2_with fail
   go_meet
   case rel => exact ⟨by rw [hF3]; rfl, H8⟩
 case rest =>
 obtain ⟨rfl, H8⟩ := hcut
 clear k0 k1 k2 k3 k4 k5 k6 k7 k8 k9 k10
 have hbt : (decide (ec = 0) && !fo) = true → we = 2 := fun h => by
  simp only [Bool.and_eq_true, decide_eq_true_eq, Bool.not_eq_true'] at h
  rw [HWE.out.1, if_pos h]
 have hbf : (decide (ec = 0) && !fo) = false → we = et := fun h => by
  rw [HWE.out.1, if_neg]
  rintro ⟨a, b⟩
  rw [a, b] at h
  cases h
 generalize (decide (ec = 0) && !fo) = bb at *
 have HBT := Aside0.mk (And.intro hbt hbf)
 clear hbt hbf
 go_upto_if 53 with fail
 go_cut [12] from 15 (fun s12 wx => s12 = .int .i64 we ∧ wx = wc)
 case first =>
  cases bb with
  | true =>
   go_wp2_with fail
   go_meet
   case rel => exact ⟨by rw [HBT.out.1 (by trivial)], rfl⟩
  | false =>
   go_wp2_with fail
   go_meet
   case rel => exact ⟨by rw [HBT.out.2 (by trivial)], rfl⟩
 case rest =>
 obtain ⟨rfl, rfl⟩ := hcut
 clear HBT
 have k0 := H8.out.1.box.cell 0 _ rfl
 have k1 := H8.out.1.box.cell 1 _ rfl
 have k2 := H8.out.1.box.cell 2 _ rfl
 have k3 := H8.out.1.box.cell 3 _ rfl
 have k4 := H8.out.1.box.cell 4 _ rfl
 have k5 := H8.out.1.box.cell 5 _ rfl
 have k6 := H8.out.1.box.cell 6 _ rfl
 have k7 := H8.out.1.box.cell 7 _ rfl
 have k8 := H8.out.1.box.cell 8 _ rfl
 have k9 := H8.out.1.box.cell 9 _ rfl
 have k10 := H8.out.1.box.cell 10 _ rfl
 go_upto_region 9 with fail
 go_cut [63] from 15 (fun s63 wx => s63 = .bool (decide (ec = 0) && !ho) ∧ Aside0 (LwSt w #[.int .i64 x.f0, .int .i64 x.f1, .int .i64 x.f2, .int .i64 x.f3, .int .i64 x.f4, .slice A5 x.f5.length c5, .slice A6 x.f6.length c6, .int .i64 x.f7.f0, .int .i64 x.f7.f1, .slice A9 x.f8.length c9, .slice A10 x.f9.length c10] (fun _ => True) wx ∧ Below w7.heap.size w7 wx))
 case first =>
  by_cases hF : ec = 0
  ·subst hF
   go_wp2_with fail
   refine (HFA.out _ H8.out.1.bel).mono ?_
   rintro e w9 ⟨rfl, hb⟩
   have H9 := Aside0.mk (And.intro (H8.out.1.step HP.out hb) (bel2 H8.out.2 hb))
   clear hb k0 k1 k2 k3 k4 k5 k6 k7 k8 k9 k10
   have k0 := H9.out.1.box.cell 0 _ rfl
   go_wp2_with fail
   refine (HIN.out _).mono ?_
   rintro e w10 ⟨rfl, rfl⟩
   go_wp2_with fail
   go_meet
   case rel => exact ⟨by cases ho <;> rfl, H9⟩
  ·have hF2 : (ec == 0) = false := by simpa using hF
   have hF3 : decide (ec = 0) = false := decide_eq_false hF
   go_wp2_with fail
   refine (HFA.out _ H8.out.1.bel).mono ?_
   rintro e w9 ⟨rfl, hb⟩
   have H9 := Aside0.mk (And.intro (H8.out.1.step HP.out hb) (bel2 H8.out.2 hb))
   clear hb k0 k1 k2 k3 k4 k5 k6 k7 k8 k9 k10
   go_wp2_with fail
   go_meet
   case rel => exact ⟨by rw [hF3]; rfl, H9⟩
 case rest =>
 obtain ⟨rfl, H9⟩ := hcut
 clear k0 k1 k2 k3 k4 k5 k6 k7 k8 k9 k10 H8
 have hbt : (decide (ec = 0) && !ho) = true → de = 2 := fun h => by
  simp only [Bool.and_eq_true, decide_eq_true_eq, Bool.not_eq_true'] at h
  rw [HWE.out.2.2.1, if_pos h]
 have hbf : (decide (ec = 0) && !ho) = false → de = et := fun h => by
  rw [HWE.out.2.2.1, if_neg]
  rintro ⟨a, b⟩
  rw [a, b] at h
  cases h
 generalize (decide (ec = 0) && !ho) = bb2 at *
 have HBT := Aside0.mk (And.intro hbt hbf)
 clear hbt hbf
 go_upto_if 63 with fail
 go_cut [13] from 15 (fun s13 wx => s13 = .int .i64 de ∧ Aside0 (LwSt w #[.int .i64 x.f0, .int .i64 x.f1, .int .i64 x.f2, .int .i64 x.f3, .int .i64 x.f4, .slice A5 x.f5.length c5, .slice A6 x.f6.length c6, .int .i64 x.f7.f0, .int .i64 x.f7.f1, .slice A9 x.f8.length c9, .slice A10 x.f9.length c10] (fun _ => True) wx ∧ Below w7.heap.size w7 wx))
 case first =>
  cases bb2 with
  | true =>
   go_wp2_with fail
   go_meet
   case rel => exact ⟨by rw [HBT.out.1 (by trivial)], H9⟩
  | false =>
   go_wp2_with fail
   go_meet
   case rel => exact ⟨by rw [HBT.out.2 (by trivial)], H9⟩
 case rest =>
 obtain ⟨rfl, H10⟩ := hcut
 clear HBT H9
 -- what holds where there is a truth
 have HVV := Aside0.mk (fun (h : et = 0) => And.intro ((valid_iff x).1 (askE_nonneg (HEQ.out.2.2.2.2.2.2.2.trans h)).1) (show truthL x ≠ [] from fun q => by
  have := (askE_nonneg (HEQ.out.2.2.2.2.2.2.2.trans h)).2.2
  rw [q] at this
  cases this))
 have HTA := Aside0.mk (fun (h : et = 0) V (hb : Below w.heap.size w V) (h7 : Below w7.heap.size w7 V) => (⟨k38.K_below hb HX.out.1, Kd.C_below H7.out.2 h7, (k38_rows (k38.K_below hb HX.out.1)).1, (k38_rows (k38.K_below hb HX.out.1)).2, fun t ht => by
     rw [HTL.out h] at ht
     exact ⟨(HVV.out h).1.play0 ((trs_in (HVV.out h).1 ht).1.ok (HVV.out h).1), by have := (trs_in (HVV.out h).1 ht).2; have := (HVV.out h).1.lossN; omega⟩, by
     rw [HTL.out h]
     have := trs_len (x := x) (manyX x).toNat
     have := manyX_ok (HVV.out h).1
     unfold truthsX
     omega, (HVV.out h).1.last0, (HVV.out h).1.last1⟩ : TrArgs x _ At A5 A6 TL x.f5 x.f6 V))
 have k0 := H10.out.1.box.cell 0 _ rfl
 have k1 := H10.out.1.box.cell 1 _ rfl
 have k2 := H10.out.1.box.cell 2 _ rfl
 have k3 := H10.out.1.box.cell 3 _ rfl
 have k4 := H10.out.1.box.cell 4 _ rfl
 have k5 := H10.out.1.box.cell 5 _ rfl
 have k6 := H10.out.1.box.cell 6 _ rfl
 have k7 := H10.out.1.box.cell 7 _ rfl
 have k8 := H10.out.1.box.cell 8 _ rfl
 have k9 := H10.out.1.box.cell 9 _ rfl
 have k10 := H10.out.1.box.cell 10 _ rfl
 go_upto_region 11 with fail
 go_cut [91] from 15 (fun s91 wx => s91 = .bool false ∧ Aside0 (LwSt w #[.int .i64 x.f0, .int .i64 x.f1, .int .i64 x.f2, .int .i64 x.f3, .int .i64 x.f4, .slice A5 x.f5.length c5, .slice A6 x.f6.length c6, .int .i64 x.f7.f0, .int .i64 x.f7.f1, .slice A9 x.f8.length c9, .slice A10 x.f9.length c10] (fun _ => True) wx ∧ Below w7.heap.size w7 wx))
 case first =>
  by_cases hw0 : we = 0
  ·have hw00 := HWE.out.2.1
   rw [hw0] at hw00
   have hfo2 := askE_nonneg hw00
   have het0 : et = 0 := by
    have := HWE.out.1
    rw [hw0] at this
    by_cases hc : ec = 0 ∧ fo = false
    ·rw [if_pos hc] at this; cases this
    ·rw [if_neg hc] at this; exact this.symm
   have hV := (HVV.out het0).1
   have hfi := HEQ.out.2.2.2.2.1
   rw [hfo2.2.1, forHours_iff hV.last0 hV.last1] at hfi
   have hmv2 := HME.out.1
   rw [hw0, if_pos rfl] at hmv2
   obtain rfl : me = 0 := by rw [← HEQ.out.2.1, hmv2]
   have hmv3 : verd (cnt (fun t => wholeR x (toSc t) x.f5 (sumL x.f6 mo)) TL : Nat) TL.length = mv := by
    rw [HTL.out het0, whole_verd hV (HVV.out het0).2, ← HEQ.out.1, hmv2]
    rfl
   have hsu := fun V (hb : Below w.heap.size w V) => rSum_calls A6 M c6 mc x.f6 mo V (k38_rows (k38.K_below hb HX.out.1)).2 (Kd.C_below HX.out.2 hb) (by have := hV.wantN; have := hfi.1; omega) (by have := hV.wantN; have := hV.last1; omega) (fun n hn => by have := hV.wantV n hn; omega) (fun n hn => by have := hfi.2 n hn; omega)
   have hwh := fun V (hb : Below w.heap.size w V) (h7 : Below w7.heap.size w7 V) Au au (hc : Kd.C (Kd.int .i64) V Au (sumL x.f6 mo).length (sumL x.f6 mo)) => rWholes_calls (x := x) (c := ct) (d := c5) (d' := au) (L := TL) (co := x.f5) (wa := sumL x.f6 mo) ⟨(HTA.out het0 V hb h7).kx, (HTA.out het0 V hb h7).kl, (HTA.out het0 V hb h7).kc, hc, fun t ht => ⟨sumL_ok hV hfi.2 ((mem_truthsX hV).2 ⟨t, by rw [← HTL.out het0]; exact ht, rfl⟩), ((HTA.out het0 V hb h7).ok t ht).2⟩, (HTA.out het0 V hb h7).len, hV.last0, hV.last1⟩
   rw [hmv3] at hwh
   have HSUM := Aside0.mk hsu
   have HWHO := Aside0.mk hwh
   subst hw0
   clear hsu hwh hmv3 hmv2 hfi hV het0 hfo2 hw00
   have HB0 := Aside0.mk (And.intro (bel2 H10.out.1.bel (below_drew (Below.refl _ _))) (bel2 H10.out.2 (below_drew (Below.refl _ _))))
   refine start_ (n := 28) (S := fun w' => w'.cell? ⟨w.heap.size, 0, none⟩ = some (.int .i64 x.f0) ∧ w'.cell? ⟨w.heap.size, 1, none⟩ = some (.int .i64 x.f1) ∧ w'.cell? ⟨w.heap.size, 2, none⟩ = some (.int .i64 x.f2) ∧ w'.cell? ⟨w.heap.size, 3, none⟩ = some (.int .i64 x.f3) ∧ w'.cell? ⟨w.heap.size, 4, none⟩ = some (.int .i64 x.f4) ∧ w'.cell? ⟨w.heap.size, 5, none⟩ = some (.slice A5 x.f5.length c5) ∧ w'.cell? ⟨w.heap.size, 6, none⟩ = some (.slice A6 x.f6.length c6) ∧ w'.cell? ⟨w.heap.size, 7, none⟩ = some (.int .i64 x.f7.f0) ∧ w'.cell? ⟨w.heap.size, 8, none⟩ = some (.int .i64 x.f7.f1) ∧ w'.cell? ⟨w.heap.size, 9, none⟩ = some (.slice A9 x.f8.length c9) ∧ w'.cell? ⟨w.heap.size, 10, none⟩ = some (.slice A10 x.f9.length c10)) (ds := []) #[false, false, false, false, false, false, false, false, false, false, false, false, false, false, false, false, false, false, false, false, false, false, false, false, false, false, false, false] (by kernel_rfl) rfl rfl ⟨k0, k1, k2, k3, k4, k5, k6, k7, k8, k9, k10⟩ (fun hHeld => ?_)
   refine pure_ (i := 0) (N := some 64) (v := ?_) (a' := ?_) (bs 28 1) rfl rfl (by kernel_rfl) (fun _ _ _ h => h) (Or.inl ⟨by rfl, ?_⟩) ?_ ?_
   rotate_left
   ·intro w'
    go_simp
    with_reducible rfl
   rotate_left
   ·simp only [Act.put, List.setIfInBounds_toArray, List.set_cons_zero, List.set_cons_succ, i64_w, i32_w]
    rfl
   refine pure_ (i := 1) (N := some 65) (v := ?_) (a' := ?_) (bs 28 3) rfl rfl (by kernel_rfl) (fun _ _ _ h => h) (Or.inl ⟨by rfl, ?_⟩) ?_ ?_
   rotate_left
   ·intro w'
    go_simp
    with_reducible rfl
   rotate_left
   ·simp only [Act.put, List.setIfInBounds_toArray, List.set_cons_zero, List.set_cons_succ, i64_w, i32_w]
    rfl
   refine pure_ (i := 2) (N := some 66) (v := ?_) (a' := ?_) (bs 28 7) rfl rfl (by kernel_rfl) (fun _ _ _ h => h) (Or.inl ⟨by rfl, ?_⟩) ?_ ?_
   rotate_left
   ·intro w'
    go_simp
    with_reducible rfl
   rotate_left
   ·simp only [Act.put, List.setIfInBounds_toArray, List.set_cons_zero, List.set_cons_succ, i64_w, i32_w]
    rfl
   refine pure_ (i := 3) (N := some 67) (v := ?_) (a' := ?_) (bs 28 15) rfl rfl (by kernel_rfl) (fun _ _ _ h => h) (Or.inl ⟨by rfl, ?_⟩) ?_ ?_
   rotate_left
   ·intro w'
    go_simp
    with_reducible rfl
   rotate_left
   ·simp only [Act.put, List.setIfInBounds_toArray, List.set_cons_zero, List.set_cons_succ, i64_w, i32_w]
    rfl
   refine pure_ (i := 4) (N := some 68) (v := ?_) (a' := ?_) (bs 28 31) rfl rfl (by kernel_rfl) (fun _ _ _ h => h) (Or.inl ⟨by rfl, ?_⟩) ?_ ?_
   rotate_left
   ·intro w'
    go_simp
    with_reducible rfl
   rotate_left
   ·simp only [Act.put, List.setIfInBounds_toArray, List.set_cons_zero, List.set_cons_succ, i64_w, i32_w]
    rfl
   refine pure_ (i := 5) (N := some 69) (v := ?_) (a' := ?_) (bs 28 63) rfl rfl (by kernel_rfl) (fun _ _ _ h => h) (Or.inl ⟨by rfl, ?_⟩) ?_ ?_
   rotate_left
   ·intro w'
    go_simp
    with_reducible rfl
   rotate_left
   ·simp only [Act.put, List.setIfInBounds_toArray, List.set_cons_zero, List.set_cons_succ, i64_w, i32_w]
    rfl
   refine pure_ (i := 6) (N := some 70) (v := ?_) (a' := ?_) (bs 28 127) rfl rfl (by kernel_rfl) (fun _ _ _ h => h) (Or.inl ⟨by rfl, ?_⟩) ?_ ?_
   rotate_left
   ·intro w'
    go_simp
    with_reducible rfl
   rotate_left
   ·simp only [Act.put, List.setIfInBounds_toArray, List.set_cons_zero, List.set_cons_succ, i64_w, i32_w]
    rfl
   refine pure_ (i := 7) (N := some 71) (v := undef) (a' := ?_) (bs 28 255) rfl rfl (by kernel_rfl) (fun _ _ _ h => h) (Or.inr ⟨by rfl, rfl⟩) ?_ ?_
   rotate_left
   ·simp only [Act.put, List.setIfInBounds_toArray, List.set_cons_zero, List.set_cons_succ, i64_w, i32_w]
    rfl
   refine pure_ (i := 8) (N := some 72) (v := undef) (a' := ?_) (bs 28 511) rfl rfl (by kernel_rfl) (fun _ _ _ h => h) (Or.inr ⟨by rfl, rfl⟩) ?_ ?_
   rotate_left
   ·simp only [Act.put, List.setIfInBounds_toArray, List.set_cons_zero, List.set_cons_succ, i64_w, i32_w]
    rfl
   refine pure_ (i := 9) (N := some 73) (v := ?_) (a' := ?_) (bs 28 1023) rfl rfl (by kernel_rfl) (fun _ _ _ h => h) (Or.inl ⟨by rfl, ?_⟩) ?_ ?_
   rotate_left
   ·intro w'
    go_simp
    with_reducible rfl
   rotate_left
   ·simp only [Act.put, List.setIfInBounds_toArray, List.set_cons_zero, List.set_cons_succ, i64_w, i32_w]
    rfl
   refine pure_ (i := 10) (N := some 74) (v := ?_) (a' := ?_) (bs 28 2047) rfl rfl (by kernel_rfl) (fun _ _ _ h => h) (Or.inl ⟨by rfl, ?_⟩) ?_ ?_
   rotate_left
   ·intro w'
    go_simp
    with_reducible rfl
   rotate_left
   ·simp only [Act.put, List.setIfInBounds_toArray, List.set_cons_zero, List.set_cons_succ, i64_w, i32_w]
    rfl
   refine pure_ (i := 11) (N := some 75) (v := ?_) (a' := ?_) (bs 28 4095) rfl rfl (by kernel_rfl) (fun _ _ _ h => h) (Or.inl ⟨by rfl, ?_⟩) ?_ ?_
   rotate_left
   ·intro w'
    go_simp
    with_reducible rfl
   rotate_left
   ·simp only [Act.put, List.setIfInBounds_toArray, List.set_cons_zero, List.set_cons_succ, i64_w, i32_w]
    rfl
   refine pure_ (i := 12) (N := some 76) (v := ?_) (a' := ?_) (bs 28 8191) rfl rfl (by kernel_rfl) (fun _ _ _ h => h) (Or.inl ⟨by rfl, ?_⟩) ?_ ?_
   rotate_left
   ·intro w'
    go_simp
    with_reducible rfl
   rotate_left
   ·simp only [Act.put, List.setIfInBounds_toArray, List.set_cons_zero, List.set_cons_succ, i64_w, i32_w]
    rfl
   refine pure_ (i := 13) (N := some 77) (v := ?_) (a' := ?_) (bs 28 16383) rfl rfl (by kernel_rfl) (fun _ _ _ h => h) (Or.inl ⟨by rfl, ?_⟩) ?_ ?_
   rotate_left
   ·intro w'
    go_simp
    with_reducible rfl
   rotate_left
   ·simp only [Act.put, List.setIfInBounds_toArray, List.set_cons_zero, List.set_cons_succ, i64_w, i32_w]
    rfl
   refine pure_ (i := 14) (N := some 78) (v := ?_) (a' := ?_) (bs 28 32767) rfl rfl (by kernel_rfl) (fun _ _ _ h => h) (Or.inl ⟨by rfl, ?_⟩) ?_ ?_
   rotate_left
   ·intro w'
    go_simp
    with_reducible rfl
   rotate_left
   ·simp only [Act.put, List.setIfInBounds_toArray, List.set_cons_zero, List.set_cons_succ, i64_w, i32_w]
    rfl
   refine pure_ (i := 15) (N := some 79) (v := ?_) (a' := ?_) (bs 28 65535) rfl rfl (by kernel_rfl) (fun _ _ _ h => h) (Or.inl ⟨by rfl, ?_⟩) ?_ ?_
   rotate_left
   ·intro w'
    go_simp
    with_reducible rfl
   rotate_left
   ·simp only [Act.put, List.setIfInBounds_toArray, List.set_cons_zero, List.set_cons_succ, i64_w, i32_w]
    rfl
   refine pure_ (i := 17) (N := some 81) (v := ?_) (a' := ?_) (bs 28 196607) rfl rfl (by kernel_rfl) (fun _ _ _ h => h) (Or.inl ⟨by rfl, ?_⟩) ?_ ?_
   rotate_left
   ·intro w'
    go_simp
    with_reducible rfl
   rotate_left
   ·simp only [Act.put, List.setIfInBounds_toArray, List.set_cons_zero, List.set_cons_succ, i64_w, i32_w]
    rfl
   refine pure_ (i := 18) (N := some 82) (v := ?_) (a' := ?_) (bs 28 458751) rfl rfl (by kernel_rfl) (fun _ _ _ h => h) (Or.inl ⟨by rfl, ?_⟩) ?_ ?_
   rotate_left
   ·intro w'
    go_simp
    with_reducible rfl
   rotate_left
   ·simp only [Act.put, List.setIfInBounds_toArray, List.set_cons_zero, List.set_cons_succ, i64_w, i32_w]
    rfl
   refine pure_ (i := 20) (N := some 84) (v := ?_) (a' := ?_) (bs 28 1507327) rfl rfl (by kernel_rfl) (fun _ _ _ h => h) (Or.inl ⟨by rfl, ?_⟩) ?_ ?_
   rotate_left
   ·intro w'
    go_simp
    with_reducible rfl
   rotate_left
   ·simp only [Act.put, List.setIfInBounds_toArray, List.set_cons_zero, List.set_cons_succ, i64_w, i32_w]
    rfl
   refine pure_ (i := 22) (N := some 86) (v := ?_) (a' := ?_) (bs 28 5701631) rfl rfl (by kernel_rfl) (fun _ _ _ h => h) (Or.inl ⟨by rfl, ?_⟩) ?_ ?_
   rotate_left
   ·intro w'
    go_simp
    with_reducible rfl
   rotate_left
   ·simp only [Act.put, List.setIfInBounds_toArray, List.set_cons_zero, List.set_cons_succ, i64_w, i32_w]
    rfl
   refine take_ (i := 16) (N := some 80) (v := ?_) (a' := ?_) (bs 28 5767167) rfl rfl (by kernel_rfl) (fun _ _ _ h => h) (Or.inl ⟨by rfl, ?_⟩) hHeld ?_ ?_
   rotate_left
   ·rintro w' ⟨s0, s1, s2, s3, s4, s5, s6, s7, s8, s9, s10⟩
    go_simp
    with_reducible rfl
   rotate_left
   ·simp only [Act.put, List.setIfInBounds_toArray, List.set_cons_zero, List.set_cons_succ, i64_w, i32_w]
    rfl
   refine take_ (i := 19) (N := some 83) (v := ?_) (a' := ?_) (bs 28 6291455) rfl rfl (by kernel_rfl) (fun _ _ _ h => h) (Or.inl ⟨by rfl, ?_⟩) hHeld ?_ ?_
   rotate_left
   ·rintro w' ⟨s0, s1, s2, s3, s4, s5, s6, s7, s8, s9, s10⟩
    go_simp
    with_reducible rfl
   rotate_left
   ·simp only [Act.put, List.setIfInBounds_toArray, List.set_cons_zero, List.set_cons_succ, i64_w, i32_w]
    rfl
   refine take_ (i := 21) (N := some 85) (v := ?_) (a' := ?_) (bs 28 8388607) rfl rfl (by kernel_rfl) (fun _ _ _ h => h) (Or.inl ⟨by rfl, ?_⟩) hHeld ?_ ?_
   rotate_left
   ·rintro w' ⟨s0, s1, s2, s3, s4, s5, s6, s7, s8, s9, s10⟩
    go_simp
    with_reducible rfl
   rotate_left
   ·simp only [Act.put, List.setIfInBounds_toArray, List.set_cons_zero, List.set_cons_succ, i64_w, i32_w]
    rfl
   refine one_ (i := 23) (N := some 87) (bs 28 16777215) rfl rfl (by kernel_rfl) (by decide) (fun K hK => ?_)
   refine goes_ Try.func33 (by kernel_rfl) rfl #[.slice A6 x.f6.length c6, .slice M mo.length mc] (by rfl) rfl rfl (by simp only [List.map_toArray, List.map_cons, List.map_nil]; rfl) ?_
   with_reducible refine (HSUM.out _ HB0.out.1).mono ?_
   rintro e w3 ⟨Au, au, rfl, hc3, hb3⟩
   refine ⟨_, rfl, ?_⟩
   refine hK.out _ _ ⟨pw_cell_below hb3 (hHeld.1), pw_cell_below hb3 (hHeld.2.1), pw_cell_below hb3 (hHeld.2.2.1), pw_cell_below hb3 (hHeld.2.2.2.1), pw_cell_below hb3 (hHeld.2.2.2.2.1), pw_cell_below hb3 (hHeld.2.2.2.2.2.1), pw_cell_below hb3 (hHeld.2.2.2.2.2.2.1), pw_cell_below hb3 (hHeld.2.2.2.2.2.2.2.1), pw_cell_below hb3 (hHeld.2.2.2.2.2.2.2.2.1), pw_cell_below hb3 (hHeld.2.2.2.2.2.2.2.2.2.1), pw_cell_below hb3 (hHeld.2.2.2.2.2.2.2.2.2.2)⟩ (fun hHeld => ?_)
   clear hK K
   refine norm_ (a' := ?_) ?_ ?_
   rotate_left
   ·show Act.put _ (some 87) _ = _
    simp only [Act.put, List.setIfInBounds_toArray, List.set_cons_zero, List.set_cons_succ, i64_w, i32_w]
    rfl
   refine one_ (i := 24) (N := some 88) (bs 28 33554431) rfl rfl (by kernel_rfl) (by decide) (fun K hK => ?_)
   refine goes_ Try.func32 (by kernel_rfl) rfl #[.agg #[.int .i64 x.f0, .int .i64 x.f1, .int .i64 x.f2, .int .i64 x.f3, .int .i64 x.f4, .slice A5 x.f5.length c5, .slice A6 x.f6.length c6, .int .i64 x.f7.f0, .int .i64 x.f7.f1, .slice A9 x.f8.length c9, .slice A10 x.f9.length c10], .slice At TL.length ct, .slice A5 x.f5.length c5, .slice Au (sumL x.f6 mo).length au] (by rfl) rfl rfl (by simp only [List.map_toArray, List.map_cons, List.map_nil]; rfl) ?_
   with_reducible refine (HWHO.out _ (bel2 HB0.out.1 hb3) (bel2 HB0.out.2 hb3) Au au hc3).mono ?_
   rintro e w4 ⟨rfl, hb4⟩
   refine ⟨_, rfl, ?_⟩
   refine hK.out _ _ ⟨pw_cell_below hb4 (hHeld.1), pw_cell_below hb4 (hHeld.2.1), pw_cell_below hb4 (hHeld.2.2.1), pw_cell_below hb4 (hHeld.2.2.2.1), pw_cell_below hb4 (hHeld.2.2.2.2.1), pw_cell_below hb4 (hHeld.2.2.2.2.2.1), pw_cell_below hb4 (hHeld.2.2.2.2.2.2.1), pw_cell_below hb4 (hHeld.2.2.2.2.2.2.2.1), pw_cell_below hb4 (hHeld.2.2.2.2.2.2.2.2.1), pw_cell_below hb4 (hHeld.2.2.2.2.2.2.2.2.2.1), pw_cell_below hb4 (hHeld.2.2.2.2.2.2.2.2.2.2)⟩ (fun hHeld => ?_)
   clear hK K
   refine norm_ (a' := ?_) ?_ ?_
   rotate_left
   ·show Act.put _ (some 88) _ = _
    simp only [Act.put, List.setIfInBounds_toArray, List.set_cons_zero, List.set_cons_succ, i64_w, i32_w]
    rfl
   refine pure_ (i := 25) (N := some 89) (v := ?_) (a' := ?_) (bs 28 67108863) rfl rfl (by kernel_rfl) (fun _ _ _ h => h) (Or.inl ⟨by rfl, ?_⟩) ?_ ?_
   rotate_left
   ·intro w'
    go_simp
    with_reducible rfl
   rotate_left
   ·simp only [Act.put, List.setIfInBounds_toArray, List.set_cons_zero, List.set_cons_succ, i64_w, i32_w]
    rfl
   refine pure_ (i := 26) (N := some 90) (v := ?_) (a' := ?_) (bs 28 134217727) rfl rfl (by kernel_rfl) (fun _ _ _ h => h) (Or.inl ⟨by rfl, ?_⟩) ?_ ?_
   rotate_left
   ·intro w'
    go_simp
    with_reducible rfl
   rotate_left
   ·simp only [Act.put, List.setIfInBounds_toArray, List.set_cons_zero, List.set_cons_succ, i64_w, i32_w]
    rfl
   refine pure_ (i := 27) (N := some 91) (v := ?_) (a' := ?_) (bs 28 268435455) rfl rfl (by kernel_rfl) (fun _ _ _ h => h) (Or.inl ⟨by rfl, ?_⟩) ?_ ?_
   rotate_left
   ·intro w'
    go_simp
    with_reducible rfl
   rotate_left
   ·simp only [Act.put, List.setIfInBounds_toArray, List.set_cons_zero, List.set_cons_succ, i64_w, i32_w]
    rfl
   refine done_ (by kernel_rfl) ?_
   have H11 := Aside0.mk (And.intro (H10.out.1.step HP.out (bel2 (bel2 (below_drew (Below.refl _ _)) hb3) hb4)) (bel2 H10.out.2 (bel2 (bel2 (below_drew (Below.refl _ _)) hb3) hb4)))
   clear hHeld hb3 hb4 hc3 k0 k1 k2 k3 k4 k5 k6 k7 k8 k9 k10
   go_wp2_with fail
   go_meet
   case rel => exact ⟨rfl, H11⟩
  ·have hmv2 := HME.out.1
   rw [if_neg hw0] at hmv2
   obtain rfl : mv = 0 := by rw [← HEQ.out.1, hmv2]
   obtain rfl : me = we := by rw [← HEQ.out.2.1, hmv2]
   have hw2 : (me == 0) = false := by simpa using hw0
   clear hmv2
   refine start_ (n := 28) (S := fun w' => w'.cell? ⟨w.heap.size, 0, none⟩ = some (.int .i64 x.f0) ∧ w'.cell? ⟨w.heap.size, 1, none⟩ = some (.int .i64 x.f1) ∧ w'.cell? ⟨w.heap.size, 2, none⟩ = some (.int .i64 x.f2) ∧ w'.cell? ⟨w.heap.size, 3, none⟩ = some (.int .i64 x.f3) ∧ w'.cell? ⟨w.heap.size, 4, none⟩ = some (.int .i64 x.f4) ∧ w'.cell? ⟨w.heap.size, 5, none⟩ = some (.slice A5 x.f5.length c5) ∧ w'.cell? ⟨w.heap.size, 6, none⟩ = some (.slice A6 x.f6.length c6) ∧ w'.cell? ⟨w.heap.size, 7, none⟩ = some (.int .i64 x.f7.f0) ∧ w'.cell? ⟨w.heap.size, 8, none⟩ = some (.int .i64 x.f7.f1) ∧ w'.cell? ⟨w.heap.size, 9, none⟩ = some (.slice A9 x.f8.length c9) ∧ w'.cell? ⟨w.heap.size, 10, none⟩ = some (.slice A10 x.f9.length c10)) (ds := []) #[false, false, false, false, false, false, false, false, false, false, false, false, false, false, false, false, false, false, false, false, false, false, false, false, false, false, false, false] (by kernel_rfl) rfl rfl ⟨k0, k1, k2, k3, k4, k5, k6, k7, k8, k9, k10⟩ (fun hHeld => ?_)
   refine pure_ (i := 0) (N := some 64) (v := ?_) (a' := ?_) (bs 28 1) rfl rfl (by kernel_rfl) (fun _ _ _ h => h) (Or.inl ⟨by rfl, ?_⟩) ?_ ?_
   rotate_left
   ·intro w'
    go_simp
    with_reducible rfl
   rotate_left
   ·simp only [Act.put, List.setIfInBounds_toArray, List.set_cons_zero, List.set_cons_succ, i64_w, i32_w]
    rfl
   refine pure_ (i := 1) (N := some 65) (v := ?_) (a' := ?_) (bs 28 3) rfl rfl (by kernel_rfl) (fun _ _ _ h => h) (Or.inl ⟨by rfl, ?_⟩) ?_ ?_
   rotate_left
   ·intro w'
    go_simp
    with_reducible rfl
   rotate_left
   ·simp only [Act.put, List.setIfInBounds_toArray, List.set_cons_zero, List.set_cons_succ, i64_w, i32_w]
    rfl
   refine pure_ (i := 2) (N := some 66) (v := ?_) (a' := ?_) (bs 28 7) rfl rfl (by kernel_rfl) (fun _ _ _ h => h) (Or.inl ⟨by rfl, ?_⟩) ?_ ?_
   rotate_left
   ·intro w'
    go_simp
    with_reducible rfl
   rotate_left
   ·simp only [Act.put, List.setIfInBounds_toArray, List.set_cons_zero, List.set_cons_succ, i64_w, i32_w]
    rfl
   refine pure_ (i := 3) (N := some 67) (v := ?_) (a' := ?_) (bs 28 15) rfl rfl (by kernel_rfl) (fun _ _ _ h => h) (Or.inl ⟨by rfl, ?_⟩) ?_ ?_
   rotate_left
   ·intro w'
    go_simp
    with_reducible rfl
   rotate_left
   ·simp only [Act.put, List.setIfInBounds_toArray, List.set_cons_zero, List.set_cons_succ, i64_w, i32_w]
    rfl
   refine pure_ (i := 4) (N := some 68) (v := ?_) (a' := ?_) (bs 28 31) rfl rfl (by kernel_rfl) (fun _ _ _ h => h) (Or.inl ⟨by rfl, ?_⟩) ?_ ?_
   rotate_left
   ·intro w'
    go_simp
    with_reducible rfl
   rotate_left
   ·simp only [Act.put, List.setIfInBounds_toArray, List.set_cons_zero, List.set_cons_succ, i64_w, i32_w]
    rfl
   refine pure_ (i := 5) (N := some 69) (v := ?_) (a' := ?_) (bs 28 63) rfl rfl (by kernel_rfl) (fun _ _ _ h => h) (Or.inl ⟨by rfl, ?_⟩) ?_ ?_
   rotate_left
   ·intro w'
    go_simp
    simp only [hw2, bne, Bool.not_false]
    with_reducible rfl
   rotate_left
   ·simp only [Act.put, List.setIfInBounds_toArray, List.set_cons_zero, List.set_cons_succ, i64_w, i32_w]
    rfl
   refine pure_ (i := 6) (N := some 70) (v := ?_) (a' := ?_) (bs 28 127) rfl rfl (by kernel_rfl) (fun _ _ _ h => h) (Or.inl ⟨by rfl, ?_⟩) ?_ ?_
   rotate_left
   ·intro w'
    go_simp
    with_reducible rfl
   rotate_left
   ·simp only [Act.put, List.setIfInBounds_toArray, List.set_cons_zero, List.set_cons_succ, i64_w, i32_w]
    rfl
   refine pure_ (i := 7) (N := some 71) (v := ?_) (a' := ?_) (bs 28 255) rfl rfl (by kernel_rfl) (fun _ _ _ h => h) (Or.inl ⟨by rfl, ?_⟩) ?_ ?_
   rotate_left
   ·intro w'
    go_simp
    with_reducible rfl
   rotate_left
   ·simp only [Act.put, List.setIfInBounds_toArray, List.set_cons_zero, List.set_cons_succ, i64_w, i32_w]
    rfl
   refine pure_ (i := 8) (N := some 72) (v := ?_) (a' := ?_) (bs 28 511) rfl rfl (by kernel_rfl) (fun _ _ _ h => h) (Or.inl ⟨by rfl, ?_⟩) ?_ ?_
   rotate_left
   ·intro w'
    go_simp
    with_reducible rfl
   rotate_left
   ·simp only [Act.put, List.setIfInBounds_toArray, List.set_cons_zero, List.set_cons_succ, i64_w, i32_w]
    rfl
   refine pure_ (i := 9) (N := some 73) (v := ?_) (a' := ?_) (bs 28 1023) rfl rfl (by kernel_rfl) (fun _ _ _ h => h) (Or.inl ⟨by rfl, ?_⟩) ?_ ?_
   rotate_left
   ·intro w'
    go_simp
    with_reducible rfl
   rotate_left
   ·simp only [Act.put, List.setIfInBounds_toArray, List.set_cons_zero, List.set_cons_succ, i64_w, i32_w]
    rfl
   refine pure_ (i := 10) (N := some 74) (v := ?_) (a' := ?_) (bs 28 2047) rfl rfl (by kernel_rfl) (fun _ _ _ h => h) (Or.inl ⟨by rfl, ?_⟩) ?_ ?_
   rotate_left
   ·intro w'
    go_simp
    with_reducible rfl
   rotate_left
   ·simp only [Act.put, List.setIfInBounds_toArray, List.set_cons_zero, List.set_cons_succ, i64_w, i32_w]
    rfl
   refine pure_ (i := 11) (N := some 75) (v := ?_) (a' := ?_) (bs 28 4095) rfl rfl (by kernel_rfl) (fun _ _ _ h => h) (Or.inl ⟨by rfl, ?_⟩) ?_ ?_
   rotate_left
   ·intro w'
    go_simp
    with_reducible rfl
   rotate_left
   ·simp only [Act.put, List.setIfInBounds_toArray, List.set_cons_zero, List.set_cons_succ, i64_w, i32_w]
    rfl
   refine pure_ (i := 12) (N := some 76) (v := ?_) (a' := ?_) (bs 28 8191) rfl rfl (by kernel_rfl) (fun _ _ _ h => h) (Or.inl ⟨by rfl, ?_⟩) ?_ ?_
   rotate_left
   ·intro w'
    go_simp
    with_reducible rfl
   rotate_left
   ·simp only [Act.put, List.setIfInBounds_toArray, List.set_cons_zero, List.set_cons_succ, i64_w, i32_w]
    rfl
   refine pure_ (i := 13) (N := some 77) (v := ?_) (a' := ?_) (bs 28 16383) rfl rfl (by kernel_rfl) (fun _ _ _ h => h) (Or.inl ⟨by rfl, ?_⟩) ?_ ?_
   rotate_left
   ·intro w'
    go_simp
    with_reducible rfl
   rotate_left
   ·simp only [Act.put, List.setIfInBounds_toArray, List.set_cons_zero, List.set_cons_succ, i64_w, i32_w]
    rfl
   refine pure_ (i := 14) (N := some 78) (v := ?_) (a' := ?_) (bs 28 32767) rfl rfl (by kernel_rfl) (fun _ _ _ h => h) (Or.inl ⟨by rfl, ?_⟩) ?_ ?_
   rotate_left
   ·intro w'
    go_simp
    with_reducible rfl
   rotate_left
   ·simp only [Act.put, List.setIfInBounds_toArray, List.set_cons_zero, List.set_cons_succ, i64_w, i32_w]
    rfl
   refine pure_ (i := 15) (N := some 79) (v := undef) (a' := ?_) (bs 28 65535) rfl rfl (by kernel_rfl) (fun _ _ _ h => h) (Or.inr ⟨by rfl, rfl⟩) ?_ ?_
   rotate_left
   ·simp only [Act.put, List.setIfInBounds_toArray, List.set_cons_zero, List.set_cons_succ, i64_w, i32_w]
    rfl
   refine pure_ (i := 16) (N := some 80) (v := undef) (a' := ?_) (bs 28 131071) rfl rfl (by kernel_rfl) (fun _ _ _ h => h) (Or.inr ⟨by rfl, rfl⟩) ?_ ?_
   rotate_left
   ·simp only [Act.put, List.setIfInBounds_toArray, List.set_cons_zero, List.set_cons_succ, i64_w, i32_w]
    rfl
   refine pure_ (i := 17) (N := some 81) (v := undef) (a' := ?_) (bs 28 262143) rfl rfl (by kernel_rfl) (fun _ _ _ h => h) (Or.inr ⟨by rfl, rfl⟩) ?_ ?_
   rotate_left
   ·simp only [Act.put, List.setIfInBounds_toArray, List.set_cons_zero, List.set_cons_succ, i64_w, i32_w]
    rfl
   refine pure_ (i := 18) (N := some 82) (v := undef) (a' := ?_) (bs 28 524287) rfl rfl (by kernel_rfl) (fun _ _ _ h => h) (Or.inr ⟨by rfl, rfl⟩) ?_ ?_
   rotate_left
   ·simp only [Act.put, List.setIfInBounds_toArray, List.set_cons_zero, List.set_cons_succ, i64_w, i32_w]
    rfl
   refine pure_ (i := 19) (N := some 83) (v := undef) (a' := ?_) (bs 28 1048575) rfl rfl (by kernel_rfl) (fun _ _ _ h => h) (Or.inr ⟨by rfl, rfl⟩) ?_ ?_
   rotate_left
   ·simp only [Act.put, List.setIfInBounds_toArray, List.set_cons_zero, List.set_cons_succ, i64_w, i32_w]
    rfl
   refine pure_ (i := 20) (N := some 84) (v := undef) (a' := ?_) (bs 28 2097151) rfl rfl (by kernel_rfl) (fun _ _ _ h => h) (Or.inr ⟨by rfl, rfl⟩) ?_ ?_
   rotate_left
   ·simp only [Act.put, List.setIfInBounds_toArray, List.set_cons_zero, List.set_cons_succ, i64_w, i32_w]
    rfl
   refine pure_ (i := 21) (N := some 85) (v := undef) (a' := ?_) (bs 28 4194303) rfl rfl (by kernel_rfl) (fun _ _ _ h => h) (Or.inr ⟨by rfl, rfl⟩) ?_ ?_
   rotate_left
   ·simp only [Act.put, List.setIfInBounds_toArray, List.set_cons_zero, List.set_cons_succ, i64_w, i32_w]
    rfl
   refine pure_ (i := 22) (N := some 86) (v := undef) (a' := ?_) (bs 28 8388607) rfl rfl (by kernel_rfl) (fun _ _ _ h => h) (Or.inr ⟨by rfl, rfl⟩) ?_ ?_
   rotate_left
   ·simp only [Act.put, List.setIfInBounds_toArray, List.set_cons_zero, List.set_cons_succ, i64_w, i32_w]
    rfl
   refine pure_ (i := 23) (N := some 87) (v := undef) (a' := ?_) (bs 28 16777215) rfl rfl (by kernel_rfl) (fun _ _ _ h => h) (Or.inr ⟨by rfl, rfl⟩) ?_ ?_
   rotate_left
   ·simp only [Act.put, List.setIfInBounds_toArray, List.set_cons_zero, List.set_cons_succ, i64_w, i32_w]
    rfl
   refine pure_ (i := 24) (N := some 88) (v := undef) (a' := ?_) (bs 28 33554431) rfl rfl (by kernel_rfl) (fun _ _ _ h => h) (Or.inr ⟨by rfl, rfl⟩) ?_ ?_
   rotate_left
   ·simp only [Act.put, List.setIfInBounds_toArray, List.set_cons_zero, List.set_cons_succ, i64_w, i32_w]
    rfl
   refine pure_ (i := 25) (N := some 89) (v := undef) (a' := ?_) (bs 28 67108863) rfl rfl (by kernel_rfl) (fun _ _ _ h => h) (Or.inr ⟨by rfl, rfl⟩) ?_ ?_
   rotate_left
   ·simp only [Act.put, List.setIfInBounds_toArray, List.set_cons_zero, List.set_cons_succ, i64_w, i32_w]
    rfl
   refine pure_ (i := 26) (N := some 90) (v := ?_) (a' := ?_) (bs 28 134217727) rfl rfl (by kernel_rfl) (fun _ _ _ h => h) (Or.inl ⟨by rfl, ?_⟩) ?_ ?_
   rotate_left
   ·intro w'
    go_simp
    with_reducible rfl
   rotate_left
   ·simp only [Act.put, List.setIfInBounds_toArray, List.set_cons_zero, List.set_cons_succ, i64_w, i32_w]
    rfl
   refine pure_ (i := 27) (N := some 91) (v := ?_) (a' := ?_) (bs 28 268435455) rfl rfl (by kernel_rfl) (fun _ _ _ h => h) (Or.inl ⟨by rfl, ?_⟩) ?_ ?_
   rotate_left
   ·intro w'
    go_simp
    with_reducible rfl
   rotate_left
   ·simp only [Act.put, List.setIfInBounds_toArray, List.set_cons_zero, List.set_cons_succ, i64_w, i32_w]
    rfl
   refine done_ (by kernel_rfl) ?_
   have H11 := Aside0.mk (And.intro (H10.out.1.step HP.out (below_drew (Below.refl _ _))) (bel2 H10.out.2 (below_drew (Below.refl _ _))))
   clear hHeld k0 k1 k2 k3 k4 k5 k6 k7 k8 k9 k10
   go_wp2_with fail
   go_meet
   case rel => exact ⟨rfl, H11⟩
 case rest =>
 obtain ⟨rfl, H11⟩ := hcut
 clear k0 k1 k2 k3 k4 k5 k6 k7 k8 k9 k10 H10
 have hsd := HME.out.2
 have k0 := H11.out.1.box.cell 0 _ rfl
 have k1 := H11.out.1.box.cell 1 _ rfl
 have k2 := H11.out.1.box.cell 2 _ rfl
 have k3 := H11.out.1.box.cell 3 _ rfl
 have k4 := H11.out.1.box.cell 4 _ rfl
 have k5 := H11.out.1.box.cell 5 _ rfl
 have k6 := H11.out.1.box.cell 6 _ rfl
 have k7 := H11.out.1.box.cell 7 _ rfl
 have k8 := H11.out.1.box.cell 8 _ rfl
 have k9 := H11.out.1.box.cell 9 _ rfl
 have k10 := H11.out.1.box.cell 10 _ rfl
 by_cases hd0 : de = 0
 ·have hd00 := HWE.out.2.2.2
  rw [hd0] at hd00
  have hho2 := askE_nonneg hd00
  have het0 : et = 0 := by
   have := HWE.out.2.2.1
   rw [hd0] at this
   by_cases hc : ec = 0 ∧ ho = false
   ·rw [if_pos hc] at this; cases this
   ·rw [if_neg hc] at this; exact this.symm
  have hV := (HVV.out het0).1
  have hhi := HEQ.out.2.2.2.2.2.1
  rw [hho2.2.1, inR_iff] at hhi
  rw [hd0, if_pos rfl] at hsd
  have hrs := fun V hb h7 => rSpare_calls x _ At A5 A6 ct TL hour V (HTA.out het0 V hb h7) (fun _ _ _ _ _ _ _ _ he => by
   simp only [List.cons.injEq, Value.slice.injEq, true_and, and_true] at he
   obtain ⟨⟨rfl, rfl⟩, ⟨rfl, rfl⟩, _⟩ := he
   exact ⟨rfl, rfl⟩) hhi.1 hhi.2 hV.wantV hV.wantN (fun n hn t ht => sumL_ok hV (singleL_bd x hour n (by omega) (by omega)) ((mem_truthsX hV).2 ⟨t, by rw [← HTL.out het0]; exact ht, rfl⟩))
  have hsq : spareR x TL hour = spareP x hour := by rw [HTL.out het0]; exact spareR_eq hV (HVV.out het0).2 hour
  rw [hsq] at hrs
  have hrs1 := hrs _ H11.out.1.bel H11.out.2
  subst hd0
  clear hrs hsq hhi hV het0 hho2 hd00
  cases hdn : downF (spareP x hour) 21 with
  | none =>
   rw [hdn] at hrs1 hsd
   obtain rfl : sv = 0 := by rw [← HEQ.out.2.2.1, hsd]
   obtain rfl : se = 10 := by rw [← HEQ.out.2.2.2.1, hsd]
   change Calls Try.prog 34 _ _ fun e w' => e = .returned (.int .i64 (-1)) ∧ _ at hrs1
   clear hsd hdn
   go_wp2_with fail
   refine hrs1.mono ?_
   rintro e w12 ⟨rfl, hb⟩
   have H12 := Aside0.mk (bel2 H11.out.1.bel hb)
   clear hb k0 k1 k2 k3 k4 k5 k6 k7 k8 k9 k10
   go_wp2_with fail
   refine (awake_calls _).mono ?_
   rintro e w13 ⟨rfl, hb⟩
   have H13 := Aside0.mk (bel2 H12.out hb)
   clear hb
   go_wp2
   go_ret
   exact ⟨rfl, H13.out⟩
  | some n =>
   rw [hdn] at hrs1 hsd
   obtain rfl : sv = (n : Int) := by rw [← HEQ.out.2.2.1, hsd]
   obtain rfl : se = 0 := by rw [← HEQ.out.2.2.2.1, hsd]
   change Calls Try.prog 34 _ _ fun e w' => e = .returned (.int .i64 (n : Int)) ∧ _ at hrs1
   have hn0 : ¬ ((n : Int) < 0) := by omega
   clear hsd hdn
   go_wp2_with fail
   refine hrs1.mono ?_
   rintro e w12 ⟨rfl, hb⟩
   have H12 := Aside0.mk (bel2 H11.out.1.bel hb)
   clear hb k0 k1 k2 k3 k4 k5 k6 k7 k8 k9 k10
   go_wp2_with fail
   refine (awake_calls _).mono ?_
   rintro e w13 ⟨rfl, hb⟩
   have H13 := Aside0.mk (bel2 H12.out hb)
   clear hb
   go_wp2
   go_ret
   exact ⟨rfl, H13.out⟩
 ·rw [if_neg hd0] at hsd
  obtain rfl : sv = 0 := by rw [← HEQ.out.2.2.1, hsd]
  obtain rfl : se = de := by rw [← HEQ.out.2.2.2.1, hsd]
  have hd2 : (se == 0) = false := by simpa using hd0
  clear hsd
  go_wp2_with fail
  refine (awake_calls _).mono ?_
  rintro e w13 ⟨rfl, hb⟩
  have H13 := Aside0.mk (bel2 H11.out.1.bel hb)
  clear hb
  go_wp2
  go_ret
  exact ⟨rfl, H13.out⟩
theorem spares_law (x : S38) (cs : List Value) (mo : List Int) (M : Option Addr) (mc : Nat) (hour : Int) (w : World) (hx : k38.K w x cs) (hmo : Kd.C (Kd.int .i64) w M mo.length mo) : Calls Try.prog 4 #[.agg cs.toArray, .slice M mo.length mc, .int .i64 hour] w fun e w' => e = .returned (.bool true) ∧ Below w.heap.size w w' := by
 by_cases h : thinB x = false ∨ 30 < mo.length
 ·exact spares_awake x cs mo M mc hour w hx h
 ·have h1 : thinB x = true := by
    cases q : thinB x with
    | false => exact absurd (.inl q) h
    | true => rfl
  exact spares_main x cs mo M mc hour w hx hmo h1 (by omega)
end Go.Proofs.Ytdgkhoflajdidaa
