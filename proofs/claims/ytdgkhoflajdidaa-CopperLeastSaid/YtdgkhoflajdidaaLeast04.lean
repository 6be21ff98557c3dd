/- Lemmas for the law's proof: Qf. -/
import Derived.Test.YtdgkhoflajdidaaLeast03
import Derived.Test.YtdgkhoflajdidaaCore15
import Derived.Test.YtdgkhoflajdidaaLeast02
import Derived.Test.YtdgkhoflajdidaaCore14
/- CopperLeast: the walk. -/
namespace Go.Proofs.Ytdgkhoflajdidaa
open Go.RowKit Go.Proofs.YtdgkhoflajdidaaW.PrintWords Go.Proofs.YtdgkhoflajdidaaW.PrintMore Go.Proofs.YtdgkhoflajdidaaW.PrintLast Go.Proofs.Ytdgkhoflajdidaa.Print
set_option linter.unusedVariables false
set_option linter.unusedSimpArgs false
set_option maxRecDepth 100000
set_option maxHeartbeats 4000000
theorem lst_awake (x : S38) (cs : List Value) (co : List Int) (M : Option Addr) (mc : Nat) (many : Int) (w : World) (hx : k38.K w x cs) (h : thinB x = false ∨ 30 < co.length) : Calls Try.prog 13 #[.agg cs.toArray, .slice M co.length mc, .int .i64 many] w fun e w' => e = .returned (.bool true) ∧ Below w.heap.size w w' := by
 have hthin := fun W (hW : Below w.heap.size w W) => thin_calls x cs W (k38.K_below hW hx)
 obtain ⟨A5, c5, A6, c6, A9, c9, A10, c10, rfl, _⟩ := k38_open hx
 clear hx
 have hu := Try.underlying28
 have ZB := Aside0.mk (below_alloc (Below.refl w.heap.size w) (.cells #[.int .i64 x.f0, .int .i64 x.f1, .int .i64 x.f2, .int .i64 x.f3, .int .i64 x.f4, .slice A5 x.f5.length c5, .slice A6 x.f6.length c6, .int .i64 x.f7.f0, .int .i64 x.f7.f1, .slice A9 x.f8.length c9, .slice A10 x.f9.length c10] 28))
 have hth := hthin _ ZB.out
 clear hthin
 cases hq : thinB x with
 | false =>
  rw [hq] at hth
  clear h hq
  go_enter Try.func13, Try.ntmps13
  go_wp2_with fail
  refine hth.mono ?_
  rintro e w1 ⟨rfl, hb⟩
  have HB := Aside0.mk (bel2 ZB.out hb)
  clear hb hth
  go_wp2_with fail
  refine (awake_calls _).mono ?_
  rintro e w2 ⟨rfl, hb⟩
  have HB2 := Aside0.mk (bel2 HB.out hb)
  clear hb
  go_wp2
  go_ret
  exact ⟨rfl, HB2.out⟩
 | true =>
  rw [hq] at hth
  have hlz : (30 : Int) < (co.length : Int) := h.elim (fun h => by rw [hq] at h; cases h) (fun h => by omega)
  clear h hq
  go_enter Try.func13, Try.ntmps13
  go_wp2_with fail
  refine hth.mono ?_
  rintro e w1 ⟨rfl, hb⟩
  have HB := Aside0.mk (bel2 ZB.out hb)
  clear hb hth
  go_wp2_with fail
  refine (awake_calls _).mono ?_
  rintro e w2 ⟨rfl, hb⟩
  have HB2 := Aside0.mk (bel2 HB.out hb)
  clear hb
  go_wp2
  go_ret
  exact ⟨rfl, HB2.out⟩
theorem lst_main (x : S38) (cs : List Value) (co : List Int) (M : Option Addr) (mc : Nat) (many : Int) (w : World) (hx : k38.K w x cs) (hco : Kd.C (Kd.int .i64) w M co.length co) (h1 : thinB x = true) (h2 : co.length ≤ 30) : Calls Try.prog 13 #[.agg cs.toArray, .slice M co.length mc, .int .i64 many] w fun e w' => e = .returned (.bool true) ∧ Below w.heap.size w w' := by
 have hthin := fun W (hW : Below w.heap.size w W) => thin_calls x cs W (k38.K_below hW hx)
 rw [h1] at hthin
 have HCP := Aside0.mk (fun W (hW : Below w.heap.size w W) => copper_calls x cs W (k38.K_below hW hx) h1)
 have HSU := Aside0.mk (fun W (hW : Below w.heap.size w W) => lsure_calls x cs W (k38.K_below hW hx))
 have HLI := Aside0.mk (fun W (hW : Below w.heap.size w W) => listS_calls M mc co W (Kd.C_below hco hW) (by omega))
 have hea := fun W (hW : Below w.heap.size w W) => each_calls x cs M mc co x.f4 W (k38.K_below hW hx) (Kd.C_below hco hW)
 have hls := fun W ds (hd : k38.K W x ds) => leastF_calls x ds W hd
 have hpc := fun W ds B b (hd : k38.K W x ds) (hb : Kd.C (Kd.int .i64) W B co.length co) => proveC_calls x ds B b co many W hd hb
 have HX := Aside0.mk (And.intro hx hco)
 have HRL := Aside0.mk (fun hV V (hb : Below w.heap.size w V) A c (hL : Kd.C k75 V A (truthsX x).length (truthsX x)) => rLeast_calls x cs A c (truthsX x) V (k38.K_below hb hx) hV hL (fun t ht => trs_in hV ht) (by
  have := trs_len (x := x) (manyX x).toNat
  have := manyX_ok hV
  unfold truthsX
  omega))
 obtain ⟨A5, c5, A6, c6, A9, c9, A10, c10, rfl, _⟩ := k38_open hx
 have HWH := Aside0.mk (fun hV (hcn : (co.length : Int) = x.f0 + 1) (hcv : ∀ v ∈ co, 0 ≤ v ∧ v ≤ 3) V (hb : Below w.heap.size w V) A c (hL : Kd.C k75 V A (truthsX x).length (truthsX x)) => rWholes_calls (x := x) (c := c) (d := mc) (d' := c6) (L := truthsX x) (co := co) (wa := x.f6) ⟨k38.K_below hb hx, hL, Kd.C_below hco hb, (k38_rows (k38.K_below hb hx)).2, fun t ht => ⟨coal_play hV ((trs_in hV ht).1.ok hV) hcn hcv, by have := (trs_in hV ht).2; have := hV.lossN; omega⟩, by
  have := trs_len (x := x) (manyX x).toNat
  have := manyX_ok hV
  unfold truthsX
  omega, hV.last0, hV.last1⟩)
 clear hx hco h1
 have hu := Try.underlying28
 have hlz : (co.length : Int) ≤ 30 := by omega
 have ZB := Aside0.mk (And.intro (below_alloc (Below.refl w.heap.size w) (.cells #[.int .i64 x.f0, .int .i64 x.f1, .int .i64 x.f2, .int .i64 x.f3, .int .i64 x.f4, .slice A5 x.f5.length c5, .slice A6 x.f6.length c6, .int .i64 x.f7.f0, .int .i64 x.f7.f1, .slice A9 x.f8.length c9, .slice A10 x.f9.length c10] 28)) (Blk.new w #[.int .i64 x.f0, .int .i64 x.f1, .int .i64 x.f2, .int .i64 x.f3, .int .i64 x.f4, .slice A5 x.f5.length c5, .slice A6 x.f6.length c6, .int .i64 x.f7.f0, .int .i64 x.f7.f1, .slice A9 x.f8.length c9, .slice A10 x.f9.length c10] 28 _ rfl))
 have hth := hthin _ ZB.out.1
 clear hthin
 obtain ⟨lv, hlv⟩ : ∃ l, (leastF x).1 = l := ⟨_, rfl⟩
 obtain ⟨le, hle⟩ : ∃ l, (leastF x).2 = l := ⟨_, rfl⟩
 obtain ⟨pc, hpcv⟩ : ∃ l, proveCF x co many = l := ⟨_, rfl⟩
 obtain ⟨fo, hfo⟩ : ∃ b, forHours x.f0 co x.f4 = b := ⟨_, rfl⟩
 obtain ⟨et, het⟩ : ∃ b, askE x true = b := ⟨_, rfl⟩
 unfold LeastPost at hls
 rw [hlv, hle] at hls
 rw [hpcv] at hpc
 rw [hfo] at hea
 have HLS := Aside0.mk hls
 have HPC := Aside0.mk hpc
 have HEA := Aside0.mk hea
 have HEQ := Lib.hid (And.intro hlv (And.intro hle (And.intro hpcv (And.intro hfo het))))
 clear hls hpc hea hlv hle hpcv hfo het
 have HP := Aside0.mk (fun W V (h : True) (hb : Below W.heap.size W V) => True.intro)
 go_enter Try.func13, Try.ntmps13
 go_wp2_with fail
 refine hth.mono ?_
 rintro e w1 ⟨rfl, hb⟩
 have H1 := Aside0.mk (And.intro (bel2 ZB.out.1 hb) (ZB.out.2.below hb))
 clear hb hth ZB
 have k0 := H1.out.2.cell 0 _ rfl
 have k1 := H1.out.2.cell 1 _ rfl
 have k2 := H1.out.2.cell 2 _ rfl
 have k3 := H1.out.2.cell 3 _ rfl
 have k4 := H1.out.2.cell 4 _ rfl
 have k5 := H1.out.2.cell 5 _ rfl
 have k6 := H1.out.2.cell 6 _ rfl
 have k7 := H1.out.2.cell 7 _ rfl
 have k8 := H1.out.2.cell 8 _ rfl
 have k9 := H1.out.2.cell 9 _ rfl
 have k10 := H1.out.2.cell 10 _ rfl
 go_wp2_with fail
 refine (HCP.out _ H1.out.1).mono ?_
 rintro e w2 ⟨ds, rfl, hb, hkd⟩
 have H2 := Aside0.mk (And.intro (bel2 H1.out.1 hb) (H1.out.2.below hb))
 clear hb H1 k0 k1 k2 k3 k4 k5 k6 k7 k8 k9 k10
 go_wp2_with fail
 refine (HLS.out _ ds hkd).mono ?_
 rintro e w3 ⟨Al, cl, rfl, hcl, hb⟩
 have HP := Aside0.mk (fun W V (h : Kd.C (Kd.int .i64) W Al lv.length lv) (hb : Below W.heap.size W V) => Kd.C_below h hb)
 have H3 := Aside0.mk (LwSt.mk (w := w) (B := #[.int .i64 x.f0, .int .i64 x.f1, .int .i64 x.f2, .int .i64 x.f3, .int .i64 x.f4, .slice A5 x.f5.length c5, .slice A6 x.f6.length c6, .int .i64 x.f7.f0, .int .i64 x.f7.f1, .slice A9 x.f8.length c9, .slice A10 x.f9.length c10]) (P := fun W => Kd.C (Kd.int .i64) W Al lv.length lv) (bel2 H2.out.1 hb) (H2.out.2.below hb) hcl)
 clear hb H2 hkd HLS hcl
 have k0 := H3.out.box.cell 0 _ rfl
 have k1 := H3.out.box.cell 1 _ rfl
 have k2 := H3.out.box.cell 2 _ rfl
 have k3 := H3.out.box.cell 3 _ rfl
 have k4 := H3.out.box.cell 4 _ rfl
 have k5 := H3.out.box.cell 5 _ rfl
 have k6 := H3.out.box.cell 6 _ rfl
 have k7 := H3.out.box.cell 7 _ rfl
 have k8 := H3.out.box.cell 8 _ rfl
 have k9 := H3.out.box.cell 9 _ rfl
 have k10 := H3.out.box.cell 10 _ rfl
 go_wp2_with fail
 refine (HCP.out _ H3.out.bel).mono ?_
 rintro e w4 ⟨es, rfl, hb, hkd⟩
 have H4 := Aside0.mk (H3.out.step HP.out hb)
 clear hb H3 k0 k1 k2 k3 k4 k5 k6 k7 k8 k9 k10
 go_wp2_with fail
 refine (HLI.out _ H4.out.bel).mono ?_
 rintro e w5 ⟨Bm, bm, rfl, hro, hb⟩
 obtain ⟨B', b', e5, _, gm⟩ := own_C (Kd.int .i64) (.int .i64) rfl (fun _ _ => rfl) (xs := co) rfl (by simp [nums]) hro
 simp only [Value.slice.injEq, true_and] at e5
 obtain ⟨rfl, rfl⟩ := e5
 have hpr := HPC.out w5 es Bm bm (k38.K_below hb hkd) gm
 have H5 := Aside0.mk (H4.out.step HP.out hb)
 clear hb H4 hkd hro gm HPC HLI
 go_wp2_with fail
 refine hpr.mono ?_
 rintro e w6 ⟨rfl, hb⟩
 have H6 := Aside0.mk (H5.out.step HP.out hb)
 clear hb H5 hpr
 have k0 := H6.out.box.cell 0 _ rfl
 have k1 := H6.out.box.cell 1 _ rfl
 have k2 := H6.out.box.cell 2 _ rfl
 have k3 := H6.out.box.cell 3 _ rfl
 have k4 := H6.out.box.cell 4 _ rfl
 have k5 := H6.out.box.cell 5 _ rfl
 have k6 := H6.out.box.cell 6 _ rfl
 have k7 := H6.out.box.cell 7 _ rfl
 have k8 := H6.out.box.cell 8 _ rfl
 have k9 := H6.out.box.cell 9 _ rfl
 have k10 := H6.out.box.cell 10 _ rfl
 go_wp2_with fail
 refine (HSU.out _ H6.out.bel).mono ?_
 rintro e w7 hls
 unfold LsPost at hls
 rw [HEQ.out.2.2.2.2] at hls
 clear k0 k1 k2 k3 k4 k5 k6 k7 k8 k9 k10
 by_cases hE : et = 0
 ·rw [if_pos hE] at hls
  obtain ⟨At, ct, rfl, hb, hC⟩ := hls
  have hE0 := HEQ.out.2.2.2.2.trans hE
  have hVf := (askE_nonneg hE0).1
  have hV := (valid_iff x).1 hVf
  have hne : truthL x ≠ [] := fun h => by
   have := (askE_nonneg hE0).2.2
   rw [h] at this
   cases this
  have hlF : leastF x = match leastL x with
   | some t => (t, 0)
   | none => ([], 10) := by unfold leastF; rw [if_pos hE0]; cases leastL x <;> rfl
  rw [leastL_ref hV] at hlF
  have hps : pLeast x (truthsX x) = sureB x := funext fun co => sure_verd hV hne co
  have hsv := sure_verd hV hne co
  have hpf : proveCF x co many = (fo && (decide (co.sum ≤ many) && sureB x co)) := by
   unfold proveCF
   rw [HEQ.out.2.2.2.1, sumTo_sum]
   have : decide (askE x fo = 0) = fo := by
    unfold askE at hE0 ⊢
    rw [if_pos hVf] at hE0 ⊢
    cases fo with
    | false => rfl
    | true => rw [hE0]; rfl
   rw [this]
  rw [HEQ.out.2.2.1] at hpf
  have HV := Aside0.mk hV
  have hrl := HRL.out hV
  rw [hps] at hrl
  have HRL2 := Aside0.mk hrl
  have H7 := Aside0.mk (And.intro (H6.out.step HP.out hb) hC)
  have hwh := HWH.out hV
  have HFO := Aside0.mk (fun (h : fo = true) => (forHours_iff hV.last0 hV.last1).1 (HEQ.out.2.2.2.1.trans h))
  have HS3 := Lib.hid hV.sh1
  have HF1 := Lib.hid hV.last1
  subst hE
  generalize leastTo (sureB x) (x.f4.toNat + 1) (x.f0 + 1).toNat ((x.f4.toNat + 1) ^ (x.f0 + 1).toNat) = best at *
  generalize truthsX x = TL at *
  generalize verd (cnt (fun t => wholeR x (toSc t) co x.f6) TL : Nat) TL.length = vd at *
  generalize sureB x co = sb at *
  have HWW := Aside0.mk hwh
  have HLF := Lib.hid hlF
  have HPF := Lib.hid hpf
  have HSV := Lib.hid hsv
  clear hpf hsv hVf hV hne hE0 hb hC hwh hps hrl hlF H6 HWH HRL
  have k0 := H7.out.1.box.cell 0 _ rfl
  have k1 := H7.out.1.box.cell 1 _ rfl
  have k2 := H7.out.1.box.cell 2 _ rfl
  have k3 := H7.out.1.box.cell 3 _ rfl
  have k4 := H7.out.1.box.cell 4 _ rfl
  have k5 := H7.out.1.box.cell 5 _ rfl
  have k6 := H7.out.1.box.cell 6 _ rfl
  have k7 := H7.out.1.box.cell 7 _ rfl
  have k8 := H7.out.1.box.cell 8 _ rfl
  have k9 := H7.out.1.box.cell 9 _ rfl
  have k10 := H7.out.1.box.cell 10 _ rfl
  go_upto_region 8 with fail
  go_cut [78] from 14 (fun s78 wc => s78 = .bool false ∧ Aside0 (LwSt w #[.int .i64 x.f0, .int .i64 x.f1, .int .i64 x.f2, .int .i64 x.f3, .int .i64 x.f4, .slice A5 x.f5.length c5, .slice A6 x.f6.length c6, .int .i64 x.f7.f0, .int .i64 x.f7.f1, .slice A9 x.f8.length c9, .slice A10 x.f9.length c10] (fun W => Kd.C (Kd.int .i64) W Al lv.length lv) wc ∧ Kd.C k75 wc At TL.length TL))
  case first =>
   cases fo with
   | false =>
    obtain rfl : pc = false := by rw [HPF.out, Bool.false_and]
    go_wp2_with fail
    refine (HEA.out _ H7.out.1.bel).mono ?_
    rintro e w8 ⟨rfl, hb⟩
    have H8 := Aside0.mk (And.intro (H7.out.1.step HP.out hb) (Kd.C_below H7.out.2 hb))
    clear hb k0 k1 k2 k3 k4 k5 k6 k7 k8 k9 k10
    go_wp2_with fail
    go_meet
    case rel => exact ⟨rfl, H8⟩
   | true =>
    have hpf := HPF.out
    have hsv := HSV.out
    have hfo := HFO.out rfl
    have hcv : ∀ v ∈ co, 0 ≤ v ∧ v ≤ 3 := fun v hv => ⟨(hfo.2 v hv).1, by have := (hfo.2 v hv).2; have := HS3.out; omega⟩
    have hww := HWW.out hfo.1 hcv
    have HSV := Aside0.mk (fun V (hb : Below w.heap.size w V) => rShovels_calls M mc co V (Kd.C_below HX.out.2 hb) hcv (by have := hfo.1; have := HF1.out; omega))
    rw [Bool.true_and] at hpf
    have HW2 := Aside0.mk hww
    clear hfo hcv hww
    generalize co.sum = sm at *
    by_cases hm : sm ≤ many
    ·rw [decide_eq_true hm, Bool.true_and, ← hsv] at hpf
     clear hsv
     cases hvd : (vd == 1) with
     | true =>
      obtain rfl : pc = true := by rw [hpf, hvd]
      clear hpf
      go_wp2_with fail
      refine (HEA.out _ H7.out.1.bel).mono ?_
      rintro e w8 ⟨rfl, hb⟩
      have H8 := Aside0.mk (And.intro (H7.out.1.step HP.out hb) (Kd.C_below H7.out.2 hb))
      clear hb k0 k1 k2 k3 k4 k5 k6 k7 k8 k9 k10
      have k0 := H8.out.1.box.cell 0 _ rfl
      have k1 := H8.out.1.box.cell 1 _ rfl
      have k2 := H8.out.1.box.cell 2 _ rfl
      have k3 := H8.out.1.box.cell 3 _ rfl
      have k4 := H8.out.1.box.cell 4 _ rfl
      have k5 := H8.out.1.box.cell 5 _ rfl
      have k6 := H8.out.1.box.cell 6 _ rfl
      have k7 := H8.out.1.box.cell 7 _ rfl
      have k8 := H8.out.1.box.cell 8 _ rfl
      have k9 := H8.out.1.box.cell 9 _ rfl
      have k10 := H8.out.1.box.cell 10 _ rfl
      go_wp2_with fail
      refine (HSV.out _ H8.out.1.bel).mono ?_
      rintro e w9 ⟨rfl, rfl⟩
      go_wp2_with fail
      refine (HW2.out _ H8.out.1.bel At ct H8.out.2).mono ?_
      rintro e w9 ⟨rfl, hb⟩
      have H9 := Aside0.mk (And.intro (H8.out.1.step HP.out hb) (Kd.C_below H8.out.2 hb))
      clear hb k0 k1 k2 k3 k4 k5 k6 k7 k8 k9 k10
      go_wp2_with fail
      go_meet
      case rel => exact ⟨rfl, H9⟩
     | false =>
      obtain rfl : pc = false := by rw [hpf, hvd]
      clear hpf
      go_wp2_with fail
      refine (HEA.out _ H7.out.1.bel).mono ?_
      rintro e w8 ⟨rfl, hb⟩
      have H8 := Aside0.mk (And.intro (H7.out.1.step HP.out hb) (Kd.C_below H7.out.2 hb))
      clear hb k0 k1 k2 k3 k4 k5 k6 k7 k8 k9 k10
      have k0 := H8.out.1.box.cell 0 _ rfl
      have k1 := H8.out.1.box.cell 1 _ rfl
      have k2 := H8.out.1.box.cell 2 _ rfl
      have k3 := H8.out.1.box.cell 3 _ rfl
      have k4 := H8.out.1.box.cell 4 _ rfl
      have k5 := H8.out.1.box.cell 5 _ rfl
      have k6 := H8.out.1.box.cell 6 _ rfl
      have k7 := H8.out.1.box.cell 7 _ rfl
      have k8 := H8.out.1.box.cell 8 _ rfl
      have k9 := H8.out.1.box.cell 9 _ rfl
      have k10 := H8.out.1.box.cell 10 _ rfl
      go_wp2_with fail
      refine (HSV.out _ H8.out.1.bel).mono ?_
      rintro e w9 ⟨rfl, rfl⟩
      go_wp2_with fail
      refine (HW2.out _ H8.out.1.bel At ct H8.out.2).mono ?_
      rintro e w9 ⟨rfl, hb⟩
      have H9 := Aside0.mk (And.intro (H8.out.1.step HP.out hb) (Kd.C_below H8.out.2 hb))
      clear hb k0 k1 k2 k3 k4 k5 k6 k7 k8 k9 k10
      go_wp2_with fail
      go_meet
      case rel => exact ⟨rfl, H9⟩
    ·rw [decide_eq_false hm, Bool.false_and] at hpf
     obtain rfl : pc = false := hpf
     clear hsv
     go_wp2_with fail
     refine (HEA.out _ H7.out.1.bel).mono ?_
     rintro e w8 ⟨rfl, hb⟩
     have H8 := Aside0.mk (And.intro (H7.out.1.step HP.out hb) (Kd.C_below H7.out.2 hb))
     clear hb k0 k1 k2 k3 k4 k5 k6 k7 k8 k9 k10
     go_wp2_with fail
     refine (HSV.out _ H8.out.1.bel).mono ?_
     rintro e w9 ⟨rfl, rfl⟩
     go_wp2_with fail
     go_meet
     case rel => exact ⟨rfl, H8⟩
  case rest =>
  obtain ⟨rfl, H8⟩ := hcut
  clear k0 k1 k2 k3 k4 k5 k6 k7 k8 k9 k10 H7
  have k0 := H8.out.1.box.cell 0 _ rfl
  have k1 := H8.out.1.box.cell 1 _ rfl
  have k2 := H8.out.1.box.cell 2 _ rfl
  have k3 := H8.out.1.box.cell 3 _ rfl
  have k4 := H8.out.1.box.cell 4 _ rfl
  have k5 := H8.out.1.box.cell 5 _ rfl
  have k6 := H8.out.1.box.cell 6 _ rfl
  have k7 := H8.out.1.box.cell 7 _ rfl
  have k8 := H8.out.1.box.cell 8 _ rfl
  have k9 := H8.out.1.box.cell 9 _ rfl
  have k10 := H8.out.1.box.cell 10 _ rfl
  go_wp2_with fail
  refine (HRL2.out _ H8.out.1.bel At ct H8.out.2).mono ?_
  rintro e w9 ⟨Ab, cb, rfl, hcb, hb⟩
  have H9 := Aside0.mk (H8.out.1.step HP.out hb)
  clear hb k0 k1 k2 k3 k4 k5 k6 k7 k8 k9 k10 H8
  cases best with
  | none =>
   have hl := HLF.out
   obtain rfl : lv = [] := by rw [← HEQ.out.1, hl]
   obtain rfl : le = 10 := by rw [← HEQ.out.2.1, hl]
   have hl0 : (([] : List Int).length : Int) = 0 := rfl
   change Kd.C (Kd.int .i64) w9 Ab ([] : List Int).length [] at hcb
   clear hl
   go_wp2_with fail
   refine (awake_calls _).mono ?_
   rintro e w10 ⟨rfl, hb⟩
   have H10 := Aside0.mk (bel2 H9.out.bel hb)
   clear hb
   go_wp2
   go_ret
   exact ⟨rfl, H10.out⟩
  | some t =>
   have hl := HLF.out
   obtain rfl : lv = t := by rw [← HEQ.out.1, hl]
   obtain rfl : le = 0 := by rw [← HEQ.out.2.1, hl]
   change Kd.C (Kd.int .i64) w9 Ab lv.length lv at hcb
   have HSA := Aside0.mk (same_calls Al Ab cl cb lv lv w9 H9.out.rows hcb)
   clear hl hcb
   go_wp2_with fail
   refine HSA.out.mono ?_
   rintro e w10 ⟨rfl, hb⟩
   have H10 := Aside0.mk (bel2 H9.out.bel hb)
   clear hb
   go_wp2_with fail
   refine (awake_calls _).mono ?_
   rintro e w11 ⟨rfl, hb⟩
   have H11 := Aside0.mk (bel2 H10.out hb)
   clear hb
   go_wp2
   go_ret
   exact ⟨rfl, H11.out⟩
 ·rw [if_neg hE] at hls
  obtain ⟨rfl, hb⟩ := hls
  have hE0 : ¬ askE x true = 0 := by rw [HEQ.out.2.2.2.2]; exact hE
  have hlf := leastF_bad hE0
  obtain rfl : lv = [] := by rw [← HEQ.out.1, hlf]
  obtain rfl : le = et := by rw [← HEQ.out.2.1, hlf]; exact HEQ.out.2.2.2.2
  obtain rfl : pc = false := by
   rw [← HEQ.out.2.2.1]
   unfold proveCF
   rw [decide_eq_false, Bool.false_and]
   intro h
   refine hE0 ?_
   have h2 := askE_nonneg h
   rw [h2.2.1] at h
   exact h
  have hE2 : (le == 0) = false := by simpa using hE
  have H7 := Aside0.mk (bel2 H6.out.bel hb)
  have hl0 : (([] : List Int).length : Int) = 0 := rfl
  clear hb hlf hE0 H6
  go_wp2_with fail
  refine (awake_calls _).mono ?_
  rintro e w14 ⟨rfl, hb⟩
  have H9 := Aside0.mk (bel2 H7.out hb)
  clear hb
  go_wp2
  go_ret
  exact ⟨rfl, H9.out⟩
theorem least_law (x : S38) (cs : List Value) (co : List Int) (M : Option Addr) (mc : Nat) (many : Int) (w : World) (hx : k38.K w x cs) (hco : Kd.C (Kd.int .i64) w M co.length co) : Calls Try.prog 13 #[.agg cs.toArray, .slice M co.length mc, .int .i64 many] w fun e w' => e = .returned (.bool true) ∧ Below w.heap.size w w' := by
 by_cases h : thinB x = false ∨ 30 < co.length
 ·exact lst_awake x cs co M mc many w hx h
 ·have h1 : thinB x = true := by
    cases q : thinB x with
    | false => exact absurd (.inl q) h
    | true => rfl
  exact lst_main x cs co M mc many w hx hco h1 (by omega)
end Go.Proofs.Ytdgkhoflajdidaa
