/- Lemmas for the law's proof: Mf, Mg, Oa. -/
import Derived.Test.YtdgkhoflajdidaaCore16
import Derived.BigQuiet
import Derived.Test.YtdgkhoflajdidaaCore14
/- Heat, Left, Hot, Kept: what is in an hour, as the reference reckons it. -/
namespace Go.Proofs.Ytdgkhoflajdidaa
open Go.RowKit Go.Proofs.YtdgkhoflajdidaaW.PrintWords Go.Proofs.YtdgkhoflajdidaaW.PrintMore Go.Proofs.YtdgkhoflajdidaaW.PrintLast Go.Proofs.Ytdgkhoflajdidaa.Print
set_option linter.unusedVariables false
set_option linter.unusedSimpArgs false
set_option maxRecDepth 100000
set_option maxHeartbeats 4000000
/-- What Heat, Left, Hot and Kept are handed. -/
structure HArgs (x : S38) (cs : List Value) (t : S75) (ts : List Value) (C D : Option Addr) (c d : Nat) (co wa : List Int) (w : World) : Prop where
 kx : k38.K w x cs
 kt : k75.K w t ts
 kc : Kd.C (Kd.int .i64) w C co.length co
 kw : Kd.C (Kd.int .i64) w D wa.length wa
 ok : PlayOk x (toSc t) co wa
 tn : (t.f1.length : Int) = x.f0 + 1
variable {x : S38} {cs : List Value} {t : S75} {ts : List Value} {C D : Option Addr} {c d : Nat} {co wa : List Int} {w V : World}
theorem HArgs.below (h : HArgs x cs t ts C D c d co wa w) (hb : Below w.heap.size w V) : HArgs x cs t ts C D c d co wa V :=
 ⟨k38.K_below hb h.kx, k75.K_below hb h.kt, Kd.C_below h.kc hb, Kd.C_below h.kw hb, h.ok, h.tn⟩
def HeatC (x : S38) (cs : List Value) (t : S75) (ts : List Value) (C D : Option Addr) (c d : Nat) (co wa : List Int) (f : FuncId) (k : Nat) (r : Int) (w : World) : Prop :=
 Calls Try.prog f #[.agg cs.toArray, .agg ts.toArray, .slice C co.length c, .slice D wa.length d, .int .i64 k] w fun e w' => e = .returned (.int .i64 r) ∧ Below w.heap.size w w'
theorem toSc_loss (t : S75) {k : Nat} (hk : k < t.f1.length) (h5 : k < 5) : (toSc t).loss k = t.f1[k] := by
 unfold toSc
 rw [mkSc_loss _ _ k h5]
 simp [hk]
theorem heat_step (k : Nat) (hk : (k : Int) ≤ x.f0) (h : HArgs x cs t ts C D c d co wa w) (hl : ∀ j, k = j + 1 → ∀ V, Below w.heap.size w V → HeatC x cs t ts C D c d co wa 44 j (heatAt x (toSc t) co wa k) V) : HeatC x cs t ts C D c d co wa 94 k (preAt x (toSc t) co wa k) w := by
 unfold HeatC at *
 have ok := h.ok
 have hkc : k < co.length := by have := ok.coalN; omega
 have hkt : k < t.f1.length := by have := h.tn; have := ok.last1; omega
 have hk5 : k < 5 := by have := ok.last1; omega
 have hpre : preAt x (toSc t) co wa k = mx2 0 (mn2 x.f2 (heatAt x (toSc t) co wa k + co[k] * t.f0) - t.f1[k]) := by
  unfold preAt preH
  rw [toSc_loss t hkt hk5, show co.getD k 0 = co[k] by simp [hkc]]
  rfl
 have hbd := heatAt_bd ok k
 have hcv := ok.coalV _ (List.getElem_mem hkc)
 have hlv := ok.loss k
 rw [toSc_loss t hkt hk5] at hlv
 have ht0 : 0 ≤ t.f0 := ok.heat0
 have ht1 : t.f0 ≤ 99 := ok.heat1
 have hp0 : 0 ≤ co[k] * t.f0 := Int.mul_nonneg hcv.1 ht0
 have hp1 : co[k] * t.f0 ≤ 3 * 99 := Int.mul_le_mul hcv.2 ht1 ht0 (by omega)
 have hm := ok.most
 have hst := ok.start0
 have hst1 := ok.start1
 have hk0 : k = 0 → heatAt x (toSc t) co wa k = x.f1 := fun e => by subst e; rfl
 have HA := Aside0.mk h
 obtain ⟨A5, c5, A6, c6, A9, c9, A10, c10, rfl, _⟩ := k38_open h.kx
 obtain ⟨T1, d1, rfl, lt1, gt1⟩ := k75_open h.kt
 have HL := Aside0.mk hl
 have GT := Aside0.mk gt1
 have BX := (Blk.new w #[.int .i64 x.f0, .int .i64 x.f1, .int .i64 x.f2, .int .i64 x.f3, .int .i64 x.f4, .slice A5 x.f5.length c5, .slice A6 x.f6.length c6, .int .i64 x.f7.f0, .int .i64 x.f7.f1, .slice A9 x.f8.length c9, .slice A10 x.f9.length c10] 28 _ rfl).alloc (.cells #[.int .i64 t.f0, .slice T1 t.f1.length d1] 66)
 have BT := Blk.new (w.alloc (.cells #[.int .i64 x.f0, .int .i64 x.f1, .int .i64 x.f2, .int .i64 x.f3, .int .i64 x.f4, .slice A5 x.f5.length c5, .slice A6 x.f6.length c6, .int .i64 x.f7.f0, .int .i64 x.f7.f1, .slice A9 x.f8.length c9, .slice A10 x.f9.length c10] 28)) #[.int .i64 t.f0, .slice T1 t.f1.length d1] 66 (w.heap.size + 1) (by simp)
 have hbb : Below w.heap.size w ((w.alloc (.cells #[.int .i64 x.f0, .int .i64 x.f1, .int .i64 x.f2, .int .i64 x.f3, .int .i64 x.f4, .slice A5 x.f5.length c5, .slice A6 x.f6.length c6, .int .i64 x.f7.f0, .int .i64 x.f7.f1, .slice A9 x.f8.length c9, .slice A10 x.f9.length c10] 28)).alloc (.cells #[.int .i64 t.f0, .slice T1 t.f1.length d1] 66)) := below_alloc (below_alloc (Below.refl _ _) _) _
 clear h hl ok lt1 gt1
 have HPRE := Lib.hid hpre
 clear hpre
 have hcz0 := hcv.1
 have hcz1 := hcv.2
 have hlz0 := hlv.1
 have hlz1 := hlv.2
 have hh0 := hbd.1
 have hh1 := hbd.2
 clear hcv hlv hbd
 have hu := Try.underlying28
 have hu2 := Try.underlying66
 have hkz : (k : Int) < (co.length : Int) := by omega
 have hkz2 : (k : Int) < (t.f1.length : Int) := by omega
 have hk4 : (k : Int) ≤ 4 := by omega
 obtain ⟨ca, hca, qc⟩ := row_at_int HA.out.kc k hkc
 obtain ⟨ta, hta, qt⟩ := row_at_int GT.out k hkt
 subst hca
 subst hta
 generalize hpr : co[k] * t.f0 = pr at *
 generalize hl : t.f1[k] = lo at *
 generalize hc : co[k] = cc at *
 have HPR := Lib.hid hpr
 have ZB := Aside0.mk (And.intro BX (And.intro BT hbb))
 by_cases hz : k = 0
 ·have e0 := hk0 hz
  have hz1 : (k : Int) ≤ 0 := by omega
  rw [e0] at HPRE
  have HP2 := Lib.hid HPRE.out
  clear hk0 e0 HPRE hz
  have k1 := BX.cell 1 _ rfl
  have k2 := BX.cell 2 _ rfl
  have t0 := BT.cell 0 _ rfl
  have t1 := BT.cell 1 _ rfl
  have qc := pw_cell_below hbb qc
  have qt := pw_cell_below hbb qt
  have HBB := Aside0.mk hbb
  clear BX BT hbb
  go_enter Try.func94, Try.ntmps94
  go_wp2
  generalize ((w.alloc (.cells #[.int .i64 x.f0, .int .i64 x.f1, .int .i64 x.f2, .int .i64 x.f3, .int .i64 x.f4, .slice A5 x.f5.length c5, .slice A6 x.f6.length c6, .int .i64 x.f7.f0, .int .i64 x.f7.f1, .slice A9 x.f8.length c9, .slice A10 x.f9.length c10] 28)).alloc (.cells #[.int .i64 t.f0, .slice (some ta) t.f1.length d1] 66)) = w0 at *
  go_quiet (fail)
  all_goals go_wp2
  all_goals
   go_ret
   exact ⟨ret_int (by rw [HP2.out, mx2_eq, mn2_eq]; omega), pw_below_drewN HBB.out _⟩
 ·obtain ⟨j, hj⟩ : ∃ j, k = j + 1 := ⟨k - 1, by omega⟩
  have hk1 : (0 : Int) < (k : Int) := by omega
  have hcall := fun V (hV : Below w.heap.size w V) => HL.out j hj V hV
  rw [show ((j : Nat) : Int) = (k : Int) - 1 by omega] at hcall
  have HP2 := Lib.hid HPRE.out
  clear hk0 HPRE hz hj
  generalize heatAt x (toSc t) co wa k = ht at *
  have HC := Aside0.mk hcall
  have k0 := BX.cell 0 _ rfl
  have k1 := BX.cell 1 _ rfl
  have k2 := BX.cell 2 _ rfl
  have k3 := BX.cell 3 _ rfl
  have k4 := BX.cell 4 _ rfl
  have k5 := BX.cell 5 _ rfl
  have k6 := BX.cell 6 _ rfl
  have k7 := BX.cell 7 _ rfl
  have k8 := BX.cell 8 _ rfl
  have k9 := BX.cell 9 _ rfl
  have k10 := BX.cell 10 _ rfl
  have t0 := BT.cell 0 _ rfl
  have t1 := BT.cell 1 _ rfl
  clear BX BT hbb hcall
  go_enter Try.func94, Try.ntmps94
  go_wp2_with (go_at_call 44; refine (HC.out _ ZB.out.2.2).mono ?_; rintro e w1 ⟨rfl, hb⟩; have HB1 := Aside0.mk (And.intro (bel2 ZB.out.2.2 hb) (And.intro (ZB.out.1.below hb) (ZB.out.2.1.below hb))); clear hb)
  have k2 := HB1.out.2.1.cell 2 _ rfl
  have t0 := HB1.out.2.2.cell 0 _ rfl
  have t1 := HB1.out.2.2.cell 1 _ rfl
  have qc := pw_cell_below HB1.out.1 qc
  have qt := pw_cell_below HB1.out.1 qt
  go_quiet (fail)
  all_goals go_wp2
  all_goals
   go_ret
   exact ⟨ret_int (by rw [HP2.out, mx2_eq, mn2_eq]; omega), pw_below_drewN HB1.out.1 _⟩
theorem left_step (k : Nat) (hk : (k : Int) ≤ x.f0) (h : HArgs x cs t ts C D c d co wa w) (hl : ∀ V, Below w.heap.size w V → HeatC x cs t ts C D c d co wa 94 k (preAt x (toSc t) co wa k) V) : HeatC x cs t ts C D c d co wa 44 k (heatAt x (toSc t) co wa (k + 1)) w := by
 unfold HeatC at *
 have ok := h.ok
 have hkw : k < wa.length := by have := ok.wantN; omega
 have hpb := preH_bd ok (heatAt x (toSc t) co wa k) k
 have hwv := ok.wantV _ (List.getElem_mem hkw)
 have hp0 := ok.per0
 have hp1 := ok.per1
 have hm := ok.most
 have hpre : heatAt x (toSc t) co wa (k + 1) = if wa[k] ≤ preAt x (toSc t) co wa k / x.f3 then preAt x (toSc t) co wa k - wa[k] * x.f3 else 0 := by
  show leftH x wa (preAt x (toSc t) co wa k) k = _
  unfold leftH keptH
  rw [show wa.getD k 0 = wa[k] by simp [hkw]]
  by_cases hq : wa[k] ≤ preAt x (toSc t) co wa k / x.f3
  ·rw [if_pos (by simpa using hq), if_pos hq]
  ·rw [if_neg (by simpa using hq), if_neg hq]
 change 0 ≤ preAt x (toSc t) co wa k ∧ preAt x (toSc t) co wa k ≤ x.f2 at hpb
 generalize preAt x (toSc t) co wa k = pa at *
 have hpa0 := hpb.1
 have hpa1 := hpb.2
 have hwa0 := hwv.1
 have hwa1 := hwv.2
 have HA := Aside0.mk h
 obtain ⟨A5, c5, A6, c6, A9, c9, A10, c10, rfl, _⟩ := k38_open h.kx
 obtain ⟨T1, d1, rfl, _, _⟩ := k75_open h.kt
 have HL := Aside0.mk hl
 have ZB := Aside0.mk (And.intro ((Blk.new w #[.int .i64 x.f0, .int .i64 x.f1, .int .i64 x.f2, .int .i64 x.f3, .int .i64 x.f4, .slice A5 x.f5.length c5, .slice A6 x.f6.length c6, .int .i64 x.f7.f0, .int .i64 x.f7.f1, .slice A9 x.f8.length c9, .slice A10 x.f9.length c10] 28 _ rfl).alloc (.cells #[.int .i64 t.f0, .slice T1 t.f1.length d1] 66)) (below_alloc (below_alloc (Below.refl w.heap.size w) (.cells #[.int .i64 x.f0, .int .i64 x.f1, .int .i64 x.f2, .int .i64 x.f3, .int .i64 x.f4, .slice A5 x.f5.length c5, .slice A6 x.f6.length c6, .int .i64 x.f7.f0, .int .i64 x.f7.f1, .slice A9 x.f8.length c9, .slice A10 x.f9.length c10] 28)) (.cells #[.int .i64 t.f0, .slice T1 t.f1.length d1] 66)))
 have hmul0 : 0 ≤ wa[k] * x.f3 := Int.mul_nonneg hwa0 (by omega)
 have hmul1 : wa[k] * x.f3 ≤ 40 * 20 := Int.mul_le_mul hwa1 hp1 (by omega) (by omega)
 have hmul2 : x.f3 * wa[k] = wa[k] * x.f3 := Int.mul_comm _ _
 obtain ⟨wd, hwd, qw⟩ := row_at_int HA.out.kw k hkw
 subst hwd
 have HPRE := Lib.hid hpre
 clear h hl ok hpb hwv hpre
 generalize wa[k] = wv at *
 have hu := Try.underlying28
 have hu2 := Try.underlying66
 have hkz : (k : Int) < (wa.length : Int) := by omega
 have hf3 : (x.f3 == 0) = false := by simp; omega
 have hquo : pa.tdiv x.f3 = pa / x.f3 := Int.tdiv_eq_ediv_of_nonneg hpa0
 have hdiv0 : 0 ≤ pa / x.f3 := Int.ediv_nonneg hpa0 (by omega)
 have hdiv1 : pa / x.f3 ≤ 999 := Int.le_trans (Int.ediv_le_self _ hpa0) (by omega)
 have hle := (Int.le_ediv_iff_mul_le (show 0 < x.f3 by omega) (a := wv) (b := pa))
 have k0 := ZB.out.1.cell 0 _ rfl
 have k1 := ZB.out.1.cell 1 _ rfl
 have k2 := ZB.out.1.cell 2 _ rfl
 have k3 := ZB.out.1.cell 3 _ rfl
 have k4 := ZB.out.1.cell 4 _ rfl
 have k5 := ZB.out.1.cell 5 _ rfl
 have k6 := ZB.out.1.cell 6 _ rfl
 have k7 := ZB.out.1.cell 7 _ rfl
 have k8 := ZB.out.1.cell 8 _ rfl
 have k9 := ZB.out.1.cell 9 _ rfl
 have k10 := ZB.out.1.cell 10 _ rfl
 have qw0 := pw_cell_below ZB.out.2 qw
 have hpd : x.f3 = 0 → False := by omega
 have HLE := Lib.hid hle
 have HM2 := Lib.hid hmul2
 clear hle hmul2
 generalize hqd : pa / x.f3 = qd at *
 have HQD := Lib.hid hqd
 clear hqd
 go_enter Try.func44, Try.ntmps44
 go_wp2_with (go_at_call 94; refine (HL.out _ ZB.out.2).mono ?_; rintro e w1 ⟨rfl, hb⟩; have HB1 := Aside0.mk (And.intro (bel2 ZB.out.2 hb) (ZB.out.1.below hb)); clear hb)
 have k3 := HB1.out.2.cell 3 _ rfl
 have qw1 := pw_cell_below HB1.out.1 qw
 have hm3 : 0 ≤ x.f3 * wv := by rw [HM2.out]; exact hmul0
 have hm4 : x.f3 * wv ≤ 800 := by rw [HM2.out]; exact hmul1
 by_cases hq : wv ≤ qd
 ·have hq2 := HLE.out.1 hq
  have HP3 := Lib.hid (HPRE.out.trans (if_pos hq))
  clear hmul0 hmul1
  go_quiet (fail)
  go_wp2
  go_quiet (fail)
  go_wp2
  go_ret
  exact ⟨ret_int (by rw [HP3.out, ← HM2.out]), pw_below_drewN (pw_below_drewN HB1.out.1 _) _⟩
 ·have HP3 := Lib.hid (HPRE.out.trans (if_neg hq))
  clear hmul0 hmul1
  go_quiet (fail)
  go_wp2
  go_ret
  exact ⟨ret_int HP3.out.symm, pw_below_drewN HB1.out.1 _⟩
theorem heat_left : ∀ (k : Nat), (k : Int) ≤ x.f0 → ∀ W, HArgs x cs t ts C D c d co wa W → HeatC x cs t ts C D c d co wa 94 k (preAt x (toSc t) co wa k) W ∧ HeatC x cs t ts C D c d co wa 44 k (heatAt x (toSc t) co wa (k + 1)) W := by
 intro k
 induction k with
 | zero =>
  intro hk W h
  have h1 := fun V (hV : Below W.heap.size W V) => heat_step 0 hk (h.below hV) (fun j hj => by omega)
  exact ⟨h1 W (Below.refl _ _), left_step 0 hk h h1⟩
 | succ k ih =>
  intro hk W h
  have h1 := fun V (hV : Below W.heap.size W V) => heat_step (k + 1) hk (h.below hV) (fun j hj U hU => by
   obtain rfl : k = j := by omega
   exact (ih (by omega) U ((h.below hV).below hU)).2)
  exact ⟨h1 W (Below.refl _ _), left_step (k + 1) hk h h1⟩
theorem hot_calls (k : Nat) (hk : (k : Int) ≤ x.f0) (h : HArgs x cs t ts C D c d co wa w) : HeatC x cs t ts C D c d co wa 43 k (hotAt x (toSc t) co wa k) w := by
 have hheat := fun V (hV : Below w.heap.size w V) => (heat_left k hk V (h.below hV)).1
 unfold HeatC at *
 have ok := h.ok
 have hpb := preH_bd ok (heatAt x (toSc t) co wa k) k
 have hp0 := ok.per0
 have HH := Lib.hid (show hotAt x (toSc t) co wa k = preAt x (toSc t) co wa k / x.f3 from rfl)
 change 0 ≤ preAt x (toSc t) co wa k ∧ preAt x (toSc t) co wa k ≤ x.f2 at hpb
 generalize preAt x (toSc t) co wa k = pa at *
 have hpa0 := hpb.1
 have hquo : pa.tdiv x.f3 = pa / x.f3 := Int.tdiv_eq_ediv_of_nonneg hpa0
 have hpa1 := hpb.2
 have hm := ok.most
 have hdiv0 : 0 ≤ pa / x.f3 := Int.ediv_nonneg hpa0 (by omega)
 have hdiv1 : pa / x.f3 ≤ 999 := Int.le_trans (Int.ediv_le_self _ hpa0) (by omega)
 obtain ⟨A5, c5, A6, c6, A9, c9, A10, c10, rfl, _⟩ := k38_open h.kx
 obtain ⟨T1, d1, rfl, _, _⟩ := k75_open h.kt
 have HC := Aside0.mk hheat
 have ZB := Aside0.mk (And.intro ((Blk.new w #[.int .i64 x.f0, .int .i64 x.f1, .int .i64 x.f2, .int .i64 x.f3, .int .i64 x.f4, .slice A5 x.f5.length c5, .slice A6 x.f6.length c6, .int .i64 x.f7.f0, .int .i64 x.f7.f1, .slice A9 x.f8.length c9, .slice A10 x.f9.length c10] 28 _ rfl).alloc (.cells #[.int .i64 t.f0, .slice T1 t.f1.length d1] 66)) (And.intro (Blk.new (w.alloc (.cells #[.int .i64 x.f0, .int .i64 x.f1, .int .i64 x.f2, .int .i64 x.f3, .int .i64 x.f4, .slice A5 x.f5.length c5, .slice A6 x.f6.length c6, .int .i64 x.f7.f0, .int .i64 x.f7.f1, .slice A9 x.f8.length c9, .slice A10 x.f9.length c10] 28)) #[.int .i64 t.f0, .slice T1 t.f1.length d1] 66 (w.heap.size + 1) (by simp)) (below_alloc (below_alloc (Below.refl w.heap.size w) (.cells #[.int .i64 x.f0, .int .i64 x.f1, .int .i64 x.f2, .int .i64 x.f3, .int .i64 x.f4, .slice A5 x.f5.length c5, .slice A6 x.f6.length c6, .int .i64 x.f7.f0, .int .i64 x.f7.f1, .slice A9 x.f8.length c9, .slice A10 x.f9.length c10] 28)) (.cells #[.int .i64 t.f0, .slice T1 t.f1.length d1] 66))))
 clear h hheat ok hpb
 have hu := Try.underlying28
 have hu2 := Try.underlying66
 have hf3 : ¬ x.f3 = 0 := by omega
 have hwr : IntKind.i64.wrap (pa / x.f3) = pa / x.f3 := by rw [i64_w]; exact IntWalk.wrap64_in _ (by omega)
 have k0 := ZB.out.1.cell 0 _ rfl
 have k1 := ZB.out.1.cell 1 _ rfl
 have k2 := ZB.out.1.cell 2 _ rfl
 have k3 := ZB.out.1.cell 3 _ rfl
 have k4 := ZB.out.1.cell 4 _ rfl
 have k5 := ZB.out.1.cell 5 _ rfl
 have k6 := ZB.out.1.cell 6 _ rfl
 have k7 := ZB.out.1.cell 7 _ rfl
 have k8 := ZB.out.1.cell 8 _ rfl
 have k9 := ZB.out.1.cell 9 _ rfl
 have k10 := ZB.out.1.cell 10 _ rfl
 have t0 := ZB.out.2.1.cell 0 _ rfl
 have t1 := ZB.out.2.1.cell 1 _ rfl
 go_enter Try.func43, Try.ntmps43
 go_wp2
 refine start_ (n := 10) (S := fun w' => w'.cell? ⟨w.heap.size, 0, none⟩ = some (.int .i64 x.f0) ∧ w'.cell? ⟨w.heap.size, 1, none⟩ = some (.int .i64 x.f1) ∧ w'.cell? ⟨w.heap.size, 2, none⟩ = some (.int .i64 x.f2) ∧ w'.cell? ⟨w.heap.size, 3, none⟩ = some (.int .i64 x.f3) ∧ w'.cell? ⟨w.heap.size, 4, none⟩ = some (.int .i64 x.f4) ∧ w'.cell? ⟨w.heap.size, 5, none⟩ = some (.slice A5 x.f5.length c5) ∧ w'.cell? ⟨w.heap.size, 6, none⟩ = some (.slice A6 x.f6.length c6) ∧ w'.cell? ⟨w.heap.size, 7, none⟩ = some (.int .i64 x.f7.f0) ∧ w'.cell? ⟨w.heap.size, 8, none⟩ = some (.int .i64 x.f7.f1) ∧ w'.cell? ⟨w.heap.size, 9, none⟩ = some (.slice A9 x.f8.length c9) ∧ w'.cell? ⟨w.heap.size, 10, none⟩ = some (.slice A10 x.f9.length c10) ∧ w'.cell? ⟨w.heap.size + 1, 0, none⟩ = some (.int .i64 t.f0) ∧ w'.cell? ⟨w.heap.size + 1, 1, none⟩ = some (.slice T1 t.f1.length d1)) (ds := []) #[false, false, false, false, false, false, false, false, false, false] (by kernel_rfl) rfl rfl ⟨k0, k1, k2, k3, k4, k5, k6, k7, k8, k9, k10, t0, t1⟩ (fun hHeld => ?_)
 refine pure_ (i := 2) (N := some 13) (v := ?_) (a' := ?_) (bs 10 4) rfl rfl (by kernel_rfl) (fun _ _ _ h => h) (Or.inl ⟨by rfl, ?_⟩) ?_ ?_
 rotate_left
 ·intro w'
  go_simp
  with_reducible rfl
 rotate_left
 ·simp only [Act.put, List.setIfInBounds_toArray, List.set_cons_zero, List.set_cons_succ, i64_w, i32_w]
  rfl
 refine pure_ (i := 3) (N := some 14) (v := ?_) (a' := ?_) (bs 10 12) rfl rfl (by kernel_rfl) (fun _ _ _ h => h) (Or.inl ⟨by rfl, ?_⟩) ?_ ?_
 rotate_left
 ·intro w'
  go_simp
  with_reducible rfl
 rotate_left
 ·simp only [Act.put, List.setIfInBounds_toArray, List.set_cons_zero, List.set_cons_succ, i64_w, i32_w]
  rfl
 refine pure_ (i := 4) (N := some 15) (v := ?_) (a' := ?_) (bs 10 28) rfl rfl (by kernel_rfl) (fun _ _ _ h => h) (Or.inl ⟨by rfl, ?_⟩) ?_ ?_
 rotate_left
 ·intro w'
  go_simp
  with_reducible rfl
 rotate_left
 ·simp only [Act.put, List.setIfInBounds_toArray, List.set_cons_zero, List.set_cons_succ, i64_w, i32_w]
  rfl
 refine pure_ (i := 6) (N := some 17) (v := ?_) (a' := ?_) (bs 10 92) rfl rfl (by kernel_rfl) (fun _ _ _ h => h) (Or.inl ⟨by rfl, ?_⟩) ?_ ?_
 rotate_left
 ·intro w'
  go_simp
  with_reducible rfl
 rotate_left
 ·simp only [Act.put, List.setIfInBounds_toArray, List.set_cons_zero, List.set_cons_succ, i64_w, i32_w]
  rfl
 refine take_ (i := 0) (N := some 11) (v := ?_) (a' := ?_) (bs 10 93) rfl rfl (by kernel_rfl) (fun _ _ _ h => h) (Or.inl ⟨by rfl, ?_⟩) hHeld ?_ ?_
 rotate_left
 ·rintro w' ⟨s0, s1, s2, s3, s4, s5, s6, s7, s8, s9, s10, s11, s12⟩
  go_simp
  with_reducible rfl
 rotate_left
 ·simp only [Act.put, List.setIfInBounds_toArray, List.set_cons_zero, List.set_cons_succ, i64_w, i32_w]
  rfl
 refine take_ (i := 1) (N := some 12) (v := ?_) (a' := ?_) (bs 10 95) rfl rfl (by kernel_rfl) (fun _ _ _ h => h) (Or.inl ⟨by rfl, ?_⟩) hHeld ?_ ?_
 rotate_left
 ·rintro w' ⟨s0, s1, s2, s3, s4, s5, s6, s7, s8, s9, s10, s11, s12⟩
  go_simp
  with_reducible rfl
 rotate_left
 ·simp only [Act.put, List.setIfInBounds_toArray, List.set_cons_zero, List.set_cons_succ, i64_w, i32_w]
  rfl
 refine take_ (i := 7) (N := some 18) (v := ?_) (a' := ?_) (bs 10 223) rfl rfl (by kernel_rfl) (fun _ _ _ h => h) (Or.inl ⟨by rfl, ?_⟩) hHeld ?_ ?_
 rotate_left
 ·rintro w' ⟨s0, s1, s2, s3, s4, s5, s6, s7, s8, s9, s10, s11, s12⟩
  go_simp
  with_reducible rfl
 rotate_left
 ·simp only [Act.put, List.setIfInBounds_toArray, List.set_cons_zero, List.set_cons_succ, i64_w, i32_w]
  rfl
 refine one_ (i := 5) (N := some 16) (bs 10 255) rfl rfl (by kernel_rfl) (by decide) (fun K hK => ?_)
 refine goes_ Try.func94 (by kernel_rfl) rfl #[.agg #[.int .i64 x.f0, .int .i64 x.f1, .int .i64 x.f2, .int .i64 x.f3, .int .i64 x.f4, .slice A5 x.f5.length c5, .slice A6 x.f6.length c6, .int .i64 x.f7.f0, .int .i64 x.f7.f1, .slice A9 x.f8.length c9, .slice A10 x.f9.length c10], .agg #[.int .i64 t.f0, .slice T1 t.f1.length d1], .slice C co.length c, .slice D wa.length d, .int .i64 k] (by rfl) rfl rfl (by simp only [List.map_toArray, List.map_cons, List.map_nil]; rfl) ?_
 with_reducible refine (HC.out _ (below_drew ZB.out.2.2)).mono ?_
 rintro e w3 ⟨rfl, hb3⟩
 refine ⟨_, rfl, ?_⟩
 refine hK.out _ _ ⟨pw_cell_below hb3 (hHeld.1), pw_cell_below hb3 (hHeld.2.1), pw_cell_below hb3 (hHeld.2.2.1), pw_cell_below hb3 (hHeld.2.2.2.1), pw_cell_below hb3 (hHeld.2.2.2.2.1), pw_cell_below hb3 (hHeld.2.2.2.2.2.1), pw_cell_below hb3 (hHeld.2.2.2.2.2.2.1), pw_cell_below hb3 (hHeld.2.2.2.2.2.2.2.1), pw_cell_below hb3 (hHeld.2.2.2.2.2.2.2.2.1), pw_cell_below hb3 (hHeld.2.2.2.2.2.2.2.2.2.1), pw_cell_below hb3 (hHeld.2.2.2.2.2.2.2.2.2.2.1), pw_cell_below hb3 (hHeld.2.2.2.2.2.2.2.2.2.2.2.1), pw_cell_below hb3 (hHeld.2.2.2.2.2.2.2.2.2.2.2.2)⟩ (fun hHeld => ?_)
 clear hK K
 refine norm_ (a' := ?_) ?_ ?_
 rotate_left
 ·show Act.put _ (some 16) _ = _
  simp only [Act.put, List.setIfInBounds_toArray, List.set_cons_zero, List.set_cons_succ, i64_w, i32_w]
  rfl
 refine pure_ (i := 8) (N := some 19) (v := ?_) (a' := ?_) (bs 10 511) rfl rfl (by kernel_rfl) (fun _ _ _ h => h) (Or.inl ⟨by rfl, ?_⟩) ?_ ?_
 rotate_left
 ·intro w'
  go_simp
  with_reducible rfl
 rotate_left
 ·simp only [Act.put, List.setIfInBounds_toArray, List.set_cons_zero, List.set_cons_succ, i64_w, i32_w]
  rfl
 refine pure_ (i := 9) (N := some 10) (v := ?_) (a' := ?_) (bs 10 1023) rfl rfl (by kernel_rfl) (fun _ _ _ h => h) (Or.inl ⟨by rfl, ?_⟩) ?_ ?_
 rotate_left
 ·intro w'
  go_simp
  with_reducible rfl
 rotate_left
 ·simp only [Act.put, List.setIfInBounds_toArray, List.set_cons_zero, List.set_cons_succ, i64_w, i32_w]
  rfl
 refine done_ (by kernel_rfl) ?_
 have HV := Aside0.mk (bel2 (below_drew ZB.out.2.2) hb3)
 clear hHeld hb3
 go_wp2
 go_ret
 exact ⟨ret_int HH.out.symm, HV.out⟩
end Go.Proofs.Ytdgkhoflajdidaa
/- Right, Full: which readings are right, by bits. -/
namespace Go.Proofs.Ytdgkhoflajdidaa
open Go.RowKit Go.Proofs.YtdgkhoflajdidaaW.PrintWords Go.Proofs.YtdgkhoflajdidaaW.PrintMore Go.Proofs.YtdgkhoflajdidaaW.PrintLast Go.Proofs.Ytdgkhoflajdidaa.Print
set_option linter.unusedVariables false
set_option linter.unusedSimpArgs false
set_option maxRecDepth 100000
set_option maxHeartbeats 4000000
theorem rFull_calls (x : S38) (cs : List Value) (w : World) (hx : k38.K w x cs) (h5 : x.f9.length ≤ 5) : Calls Try.prog 54 #[.agg cs.toArray] w fun e w' => e = .returned (.int .i64 (2 ^ x.f9.length - 1)) ∧ Below w.heap.size w w' := by
 obtain ⟨A5, c5, A6, c6, A9, c9, A10, c10, rfl, _⟩ := k38_open hx
 clear hx
 have hu := Try.underlying28
 generalize x.f9.length = n at *
 have hn : n = 0 ∨ n = 1 ∨ n = 2 ∨ n = 3 ∨ n = 4 ∨ n = 5 := by omega
 rcases hn with rfl | rfl | rfl | rfl | rfl | rfl
 all_goals
  go_enter Try.func54, Try.ntmps54
  go_wp2
 all_goals
  go_ret
  exact ⟨rfl, below_alloc (Below.refl _ _) _⟩
/-- Bits, as the reference lays them. -/
def rbits (f : Nat → Bool) : Nat → Int
 | 0 => 0
 | k + 1 => if f k = true then Go.bits .or .i64 (rbits f k) (2 ^ k) else rbits f k
theorem rRight_calls {x : S38} {cs : List Value} {t : S75} {ts : List Value} {w : World} (hx : k38.K w x cs) (htt : k75.K w t ts) (hV : Valid x) (hS : ScOk (toSc t)) (htn : (t.f1.length : Int) = x.f0 + 1) :
    Calls Try.prog 92 #[.agg cs.toArray, .agg ts.toArray] w fun e w' => e = .returned (.int .i64 (rbits (okAt x (toSc t) []) x.f9.length)) ∧ Below w.heap.size w w' := by
 have HX := Aside0.mk (And.intro hx htt)
 obtain ⟨A5, c5, A6, c6, A9, c9, A10, c10, rfl, l5, g5, l6, g6, l9, g9, l10, g10⟩ := k38_open hx
 obtain ⟨T1, d1, rfl, _, _⟩ := k75_open htt
 have HH := Aside0.mk (fun W (hW : Below w.heap.size w W) => (HArgs.mk (k38.K_below hW hx) (k75.K_below hW htt) (Kd.C_below g5 hW) (Kd.C_below g6 hW) (hV.play0 hS) htn : HArgs x _ t _ A5 A6 c5 c6 x.f5 x.f6 W))
 have G10 := Aside0.mk g10
 have hrn := hV.rdN
 have HV := Aside0.mk hV
 clear hx htt hV hS htn g5 g6 g9 g10 l5 l6 l9 l10
 have hu := Try.underlying28
 have hu2 := Try.underlying66
 have hu3 := Try.underlying96
 have hu4 := Try.underlying24
 have ZB := Aside0.mk (And.intro (below_alloc (below_alloc (Below.refl w.heap.size w) (.cells #[.int .i64 x.f0, .int .i64 x.f1, .int .i64 x.f2, .int .i64 x.f3, .int .i64 x.f4, .slice A5 x.f5.length c5, .slice A6 x.f6.length c6, .int .i64 x.f7.f0, .int .i64 x.f7.f1, .slice A9 x.f8.length c9, .slice A10 x.f9.length c10] 28)) (.cells #[.int .i64 t.f0, .slice T1 t.f1.length d1] 66)) (And.intro ((Blk.new w #[.int .i64 x.f0, .int .i64 x.f1, .int .i64 x.f2, .int .i64 x.f3, .int .i64 x.f4, .slice A5 x.f5.length c5, .slice A6 x.f6.length c6, .int .i64 x.f7.f0, .int .i64 x.f7.f1, .slice A9 x.f8.length c9, .slice A10 x.f9.length c10] 28 _ rfl).alloc (.cells #[.int .i64 t.f0, .slice T1 t.f1.length d1] 66)) (Blk.new (w.alloc (.cells #[.int .i64 x.f0, .int .i64 x.f1, .int .i64 x.f2, .int .i64 x.f3, .int .i64 x.f4, .slice A5 x.f5.length c5, .slice A6 x.f6.length c6, .int .i64 x.f7.f0, .int .i64 x.f7.f1, .slice A9 x.f8.length c9, .slice A10 x.f9.length c10] 28)) #[.int .i64 t.f0, .slice T1 t.f1.length d1] 66 (w.heap.size + 1) (by simp))))
 go_enter Try.func92, Try.ntmps92
 go_wp2
 go_loopw [5, 6] (fun s5 s6 wr => ∃ k : Nat, k ≤ x.f9.length ∧ s5 = .int .i64 (rbits (okAt x (toSc t) []) k) ∧ s6 = .int .i64 k ∧ Aside0 (Below w.heap.size w wr ∧ Blk wr w.heap.size #[.int .i64 x.f0, .int .i64 x.f1, .int .i64 x.f2, .int .i64 x.f3, .int .i64 x.f4, .slice A5 x.f5.length c5, .slice A6 x.f6.length c6, .int .i64 x.f7.f0, .int .i64 x.f7.f1, .slice A9 x.f8.length c9, .slice A10 x.f9.length c10] 28 ∧ Blk wr (w.heap.size + 1) #[.int .i64 t.f0, .slice T1 t.f1.length d1] 66)) (fun _ s6 _ => x.f9.length - (intOf s6).toNat)
 case atStart => exact ⟨0, Nat.zero_le _, rfl, rfl, ZB⟩
 case round =>
  obtain ⟨k, hk, rfl, rfl, HW⟩ := hrel
  have q10 := HW.out.2.1.cell 10 _ rfl
  by_cases hlt : k < x.f9.length
  ·have hltz : (k : Int) < (x.f9.length : Int) := by omega
   obtain ⟨aA, rfl, q0, q1, q2⟩ := row_at_rd (Kd.C_below G10.out HW.out.1) k hlt
   have hrv := HV.out.rdV _ (List.getElem_mem hlt)
   have hok : okAt x (toSc t) [] k = inR (hotAt x (toSc t) x.f5 x.f6 x.f9[k].f0.toNat) x.f9[k].f1.f0 x.f9[k].f1.f1 := by
    unfold okAt
    rw [show x.f9.getD k z119 = x.f9[k] by simp [hlt]]
    rfl
   generalize x.f9[k] = r at *
   obtain ⟨hh, hhr⟩ : ∃ hh : Nat, r.f0 = (hh : Int) := ⟨r.f0.toNat, by omega⟩
   have hhot := fun W (hW : Below w.heap.size w W) => hot_calls hh (by omega) (HH.out W hW)
   unfold HeatC at hhot
   rw [← hhr] at hhot
   rw [show r.f0.toNat = hh by omega] at hok
   have HHOT := Aside0.mk hhot
   have HOK := Lib.hid hok
   have HRB := Lib.hid (show rbits (okAt x (toSc t) []) (k + 1) = if okAt x (toSc t) [] k = true then Go.bits .or .i64 (rbits (okAt x (toSc t) []) k) (2 ^ k) else rbits (okAt x (toSc t) []) k from rfl)
   generalize rbits (okAt x (toSc t) []) k = bb at *
   clear hhot hok hrv hhr
   generalize hotAt x (toSc t) x.f5 x.f6 hh = ho at *
   have his := fun W => rIs_calls ho r.f1 W
   have BN : Blk (wr.alloc (.cells #[.int .i64 r.f0, .int .i64 r.f1.f0, .int .i64 r.f1.f1] 96)) wr.heap.size #[.int .i64 r.f0, .int .i64 r.f1.f0, .int .i64 r.f1.f1] 96 := Blk.new _ _ _ _ rfl
   have HN := Aside0.mk (And.intro (below_alloc HW.out.1 (.cells #[.int .i64 r.f0, .int .i64 r.f1.f0, .int .i64 r.f1.f1] 96)) (And.intro (HW.out.2.1.alloc (.cells #[.int .i64 r.f0, .int .i64 r.f1.f0, .int .i64 r.f1.f1] 96)) (HW.out.2.2.alloc (.cells #[.int .i64 r.f0, .int .i64 r.f1.f0, .int .i64 r.f1.f1] 96))))
   have n0 := BN.cell 0 _ rfl
   have n1 := BN.cell 1 _ rfl
   have n2 := BN.cell 2 _ rfl
   clear BN
   have k0 := HN.out.2.1.cell 0 _ rfl
   have k1 := HN.out.2.1.cell 1 _ rfl
   have k2 := HN.out.2.1.cell 2 _ rfl
   have k3 := HN.out.2.1.cell 3 _ rfl
   have k4 := HN.out.2.1.cell 4 _ rfl
   have k5 := HN.out.2.1.cell 5 _ rfl
   have k6 := HN.out.2.1.cell 6 _ rfl
   have k7 := HN.out.2.1.cell 7 _ rfl
   have k8 := HN.out.2.1.cell 8 _ rfl
   have k9 := HN.out.2.1.cell 9 _ rfl
   have k10 := HN.out.2.1.cell 10 _ rfl
   have t0 := HN.out.2.2.cell 0 _ rfl
   have t1 := HN.out.2.2.cell 1 _ rfl
   cases hq : inR ho r.f1.f0 r.f1.f1 with
   | false =>
    rw [hq] at his
    have HR := Lib.hid (show rbits (okAt x (toSc t) []) (k + 1) = bb by rw [HRB.out, HOK.out, hq]; rfl)
    clear hq
    go_wp2
    refine start_ (n := 12) (S := fun w' => w'.cell? ⟨w.heap.size, 0, none⟩ = some (.int .i64 x.f0) ∧ w'.cell? ⟨w.heap.size, 1, none⟩ = some (.int .i64 x.f1) ∧ w'.cell? ⟨w.heap.size, 2, none⟩ = some (.int .i64 x.f2) ∧ w'.cell? ⟨w.heap.size, 3, none⟩ = some (.int .i64 x.f3) ∧ w'.cell? ⟨w.heap.size, 4, none⟩ = some (.int .i64 x.f4) ∧ w'.cell? ⟨w.heap.size, 5, none⟩ = some (.slice A5 x.f5.length c5) ∧ w'.cell? ⟨w.heap.size, 6, none⟩ = some (.slice A6 x.f6.length c6) ∧ w'.cell? ⟨w.heap.size, 7, none⟩ = some (.int .i64 x.f7.f0) ∧ w'.cell? ⟨w.heap.size, 8, none⟩ = some (.int .i64 x.f7.f1) ∧ w'.cell? ⟨w.heap.size, 9, none⟩ = some (.slice A9 x.f8.length c9) ∧ w'.cell? ⟨w.heap.size, 10, none⟩ = some (.slice (some aA) x.f9.length c10) ∧ w'.cell? ⟨w.heap.size + 1, 0, none⟩ = some (.int .i64 t.f0) ∧ w'.cell? ⟨w.heap.size + 1, 1, none⟩ = some (.slice T1 t.f1.length d1) ∧ w'.cell? ⟨wr.heap.size, 0, none⟩ = some (.int .i64 r.f0) ∧ w'.cell? ⟨wr.heap.size, 1, none⟩ = some (.int .i64 r.f1.f0) ∧ w'.cell? ⟨wr.heap.size, 2, none⟩ = some (.int .i64 r.f1.f1)) (ds := []) #[false, false, false, false, false, false, false, false, false, false, false, false] (by kernel_rfl) rfl rfl ⟨k0, k1, k2, k3, k4, k5, k6, k7, k8, k9, k10, t0, t1, n0, n1, n2⟩ (fun hHeld => ?_)
    refine pure_ (i := 2) (N := some 22) (v := ?_) (a' := ?_) (bs 12 4) rfl rfl (by kernel_rfl) (fun _ _ _ h => h) (Or.inl ⟨by rfl, ?_⟩) ?_ ?_
    rotate_left
    ·intro w'
     go_simp
     with_reducible rfl
    rotate_left
    ·simp only [Act.put, List.setIfInBounds_toArray, List.set_cons_zero, List.set_cons_succ, i64_w, i32_w]
     rfl
    refine pure_ (i := 4) (N := some 24) (v := ?_) (a' := ?_) (bs 12 20) rfl rfl (by kernel_rfl) (fun _ _ _ h => h) (Or.inl ⟨by rfl, ?_⟩) ?_ ?_
    rotate_left
    ·intro w'
     go_simp
     with_reducible rfl
    rotate_left
    ·simp only [Act.put, List.setIfInBounds_toArray, List.set_cons_zero, List.set_cons_succ, i64_w, i32_w]
     rfl
    refine pure_ (i := 6) (N := some 26) (v := ?_) (a' := ?_) (bs 12 84) rfl rfl (by kernel_rfl) (fun _ _ _ h => h) (Or.inl ⟨by rfl, ?_⟩) ?_ ?_
    rotate_left
    ·intro w'
     go_simp
     with_reducible rfl
    rotate_left
    ·simp only [Act.put, List.setIfInBounds_toArray, List.set_cons_zero, List.set_cons_succ, i64_w, i32_w]
     rfl
    refine pure_ (i := 9) (N := some 29) (v := ?_) (a' := ?_) (bs 12 596) rfl rfl (by kernel_rfl) (fun _ _ _ h => h) (Or.inl ⟨by rfl, ?_⟩) ?_ ?_
    rotate_left
    ·intro w'
     go_simp
     with_reducible rfl
    rotate_left
    ·simp only [Act.put, List.setIfInBounds_toArray, List.set_cons_zero, List.set_cons_succ, i64_w, i32_w]
     rfl
    refine take_ (i := 0) (N := some 20) (v := ?_) (a' := ?_) (bs 12 597) rfl rfl (by kernel_rfl) (fun _ _ _ h => h) (Or.inl ⟨by rfl, ?_⟩) hHeld ?_ ?_
    rotate_left
    ·rintro w' ⟨s0, s1, s2, s3, s4, s5, s6, s7, s8, s9, s10, s11, s12, s13, s14, s15⟩
     go_simp
     with_reducible rfl
    rotate_left
    ·simp only [Act.put, List.setIfInBounds_toArray, List.set_cons_zero, List.set_cons_succ, i64_w, i32_w]
     rfl
    refine take_ (i := 1) (N := some 21) (v := ?_) (a' := ?_) (bs 12 599) rfl rfl (by kernel_rfl) (fun _ _ _ h => h) (Or.inl ⟨by rfl, ?_⟩) hHeld ?_ ?_
    rotate_left
    ·rintro w' ⟨s0, s1, s2, s3, s4, s5, s6, s7, s8, s9, s10, s11, s12, s13, s14, s15⟩
     go_simp
     with_reducible rfl
    rotate_left
    ·simp only [Act.put, List.setIfInBounds_toArray, List.set_cons_zero, List.set_cons_succ, i64_w, i32_w]
     rfl
    refine take_ (i := 3) (N := some 23) (v := ?_) (a' := ?_) (bs 12 607) rfl rfl (by kernel_rfl) (fun _ _ _ h => h) (Or.inl ⟨by rfl, ?_⟩) hHeld ?_ ?_
    rotate_left
    ·rintro w' ⟨s0, s1, s2, s3, s4, s5, s6, s7, s8, s9, s10, s11, s12, s13, s14, s15⟩
     go_simp
     with_reducible rfl
    rotate_left
    ·simp only [Act.put, List.setIfInBounds_toArray, List.set_cons_zero, List.set_cons_succ, i64_w, i32_w]
     rfl
    refine take_ (i := 5) (N := some 25) (v := ?_) (a' := ?_) (bs 12 639) rfl rfl (by kernel_rfl) (fun _ _ _ h => h) (Or.inl ⟨by rfl, ?_⟩) hHeld ?_ ?_
    rotate_left
    ·rintro w' ⟨s0, s1, s2, s3, s4, s5, s6, s7, s8, s9, s10, s11, s12, s13, s14, s15⟩
     go_simp
     with_reducible rfl
    rotate_left
    ·simp only [Act.put, List.setIfInBounds_toArray, List.set_cons_zero, List.set_cons_succ, i64_w, i32_w]
     rfl
    refine take_ (i := 7) (N := some 27) (v := ?_) (a' := ?_) (bs 12 767) rfl rfl (by kernel_rfl) (fun _ _ _ h => h) (Or.inl ⟨by rfl, ?_⟩) hHeld ?_ ?_
    rotate_left
    ·rintro w' ⟨s0, s1, s2, s3, s4, s5, s6, s7, s8, s9, s10, s11, s12, s13, s14, s15⟩
     go_simp
     with_reducible rfl
    rotate_left
    ·simp only [Act.put, List.setIfInBounds_toArray, List.set_cons_zero, List.set_cons_succ, i64_w, i32_w]
     rfl
    refine take_ (i := 10) (N := some 30) (v := ?_) (a' := ?_) (bs 12 1791) rfl rfl (by kernel_rfl) (fun _ _ _ h => h) (Or.inl ⟨by rfl, ?_⟩) hHeld ?_ ?_
    rotate_left
    ·rintro w' ⟨s0, s1, s2, s3, s4, s5, s6, s7, s8, s9, s10, s11, s12, s13, s14, s15⟩
     go_simp
     with_reducible rfl
    rotate_left
    ·simp only [Act.put, List.setIfInBounds_toArray, List.set_cons_zero, List.set_cons_succ, i64_w, i32_w]
     rfl
    refine one_ (i := 8) (N := some 28) (bs 12 2047) rfl rfl (by kernel_rfl) (by decide) (fun K hK => ?_)
    refine goes_ Try.func43 (by kernel_rfl) rfl #[.agg #[.int .i64 x.f0, .int .i64 x.f1, .int .i64 x.f2, .int .i64 x.f3, .int .i64 x.f4, .slice A5 x.f5.length c5, .slice A6 x.f6.length c6, .int .i64 x.f7.f0, .int .i64 x.f7.f1, .slice A9 x.f8.length c9, .slice (some aA) x.f9.length c10], .agg #[.int .i64 t.f0, .slice T1 t.f1.length d1], .slice A5 x.f5.length c5, .slice A6 x.f6.length c6, .int .i64 r.f0] (by rfl) rfl rfl (by simp only [List.map_toArray, List.map_cons, List.map_nil]; rfl) ?_
    with_reducible refine (HHOT.out _ (below_drew HN.out.1)).mono ?_
    rintro e w3 ⟨rfl, hb3⟩
    refine ⟨_, rfl, ?_⟩
    refine hK.out _ _ ⟨pw_cell_below hb3 (hHeld.1), pw_cell_below hb3 (hHeld.2.1), pw_cell_below hb3 (hHeld.2.2.1), pw_cell_below hb3 (hHeld.2.2.2.1), pw_cell_below hb3 (hHeld.2.2.2.2.1), pw_cell_below hb3 (hHeld.2.2.2.2.2.1), pw_cell_below hb3 (hHeld.2.2.2.2.2.2.1), pw_cell_below hb3 (hHeld.2.2.2.2.2.2.2.1), pw_cell_below hb3 (hHeld.2.2.2.2.2.2.2.2.1), pw_cell_below hb3 (hHeld.2.2.2.2.2.2.2.2.2.1), pw_cell_below hb3 (hHeld.2.2.2.2.2.2.2.2.2.2.1), pw_cell_below hb3 (hHeld.2.2.2.2.2.2.2.2.2.2.2.1), pw_cell_below hb3 (hHeld.2.2.2.2.2.2.2.2.2.2.2.2.1), pw_cell_below hb3 (hHeld.2.2.2.2.2.2.2.2.2.2.2.2.2.1), pw_cell_below hb3 (hHeld.2.2.2.2.2.2.2.2.2.2.2.2.2.2.1), pw_cell_below hb3 (hHeld.2.2.2.2.2.2.2.2.2.2.2.2.2.2.2)⟩ (fun hHeld => ?_)
    clear hK K
    refine norm_ (a' := ?_) ?_ ?_
    rotate_left
    ·show Act.put _ (some 28) _ = _
     simp only [Act.put, List.setIfInBounds_toArray, List.set_cons_zero, List.set_cons_succ, i64_w, i32_w]
     rfl
    refine one_ (i := 11) (N := some 31) (bs 12 4095) rfl rfl (by kernel_rfl) (by decide) (fun K hK => ?_)
    refine goes_ Try.func110 (by kernel_rfl) rfl #[.int .i64 ho, .agg #[.int .i64 r.f1.f0, .int .i64 r.f1.f1]] (by rfl) rfl rfl (by simp only [List.map_toArray, List.map_cons, List.map_nil]; rfl) ?_
    with_reducible refine (his _).mono ?_
    rintro e w4 ⟨rfl, hb4⟩
    refine ⟨_, rfl, ?_⟩
    refine hK.out _ _ ⟨pw_cell_below hb4 (hHeld.1), pw_cell_below hb4 (hHeld.2.1), pw_cell_below hb4 (hHeld.2.2.1), pw_cell_below hb4 (hHeld.2.2.2.1), pw_cell_below hb4 (hHeld.2.2.2.2.1), pw_cell_below hb4 (hHeld.2.2.2.2.2.1), pw_cell_below hb4 (hHeld.2.2.2.2.2.2.1), pw_cell_below hb4 (hHeld.2.2.2.2.2.2.2.1), pw_cell_below hb4 (hHeld.2.2.2.2.2.2.2.2.1), pw_cell_below hb4 (hHeld.2.2.2.2.2.2.2.2.2.1), pw_cell_below hb4 (hHeld.2.2.2.2.2.2.2.2.2.2.1), pw_cell_below hb4 (hHeld.2.2.2.2.2.2.2.2.2.2.2.1), pw_cell_below hb4 (hHeld.2.2.2.2.2.2.2.2.2.2.2.2.1), pw_cell_below hb4 (hHeld.2.2.2.2.2.2.2.2.2.2.2.2.2.1), pw_cell_below hb4 (hHeld.2.2.2.2.2.2.2.2.2.2.2.2.2.2.1), pw_cell_below hb4 (hHeld.2.2.2.2.2.2.2.2.2.2.2.2.2.2.2)⟩ (fun hHeld => ?_)
    clear hK K
    refine norm_ (a' := ?_) ?_ ?_
    rotate_left
    ·show Act.put _ (some 31) _ = _
     simp only [Act.put, List.setIfInBounds_toArray, List.set_cons_zero, List.set_cons_succ, i64_w, i32_w]
     rfl
    refine done_ (by kernel_rfl) ?_
    have HVV := Aside0.mk (bel2 (bel2 (below_drew (Below.refl _ _)) hb3) hb4)
    clear hHeld hb3 hb4
    go_wp2
    go_roundw
    case rel => exact ⟨k + 1, hlt, by rw [HR.out], by go_num, ⟨bel2 HN.out.1 HVV.out, HN.out.2.1.below HVV.out, HN.out.2.2.below HVV.out⟩⟩
    case measure => simp [intOf]; omega
   | true =>
    rw [hq] at his
    have HR := Lib.hid (show rbits (okAt x (toSc t) []) (k + 1) = Go.bits .or .i64 bb (2 ^ k) by rw [HRB.out, HOK.out, hq]; rfl)
    clear hq
    go_wp2
    refine start_ (n := 12) (S := fun w' => w'.cell? ⟨w.heap.size, 0, none⟩ = some (.int .i64 x.f0) ∧ w'.cell? ⟨w.heap.size, 1, none⟩ = some (.int .i64 x.f1) ∧ w'.cell? ⟨w.heap.size, 2, none⟩ = some (.int .i64 x.f2) ∧ w'.cell? ⟨w.heap.size, 3, none⟩ = some (.int .i64 x.f3) ∧ w'.cell? ⟨w.heap.size, 4, none⟩ = some (.int .i64 x.f4) ∧ w'.cell? ⟨w.heap.size, 5, none⟩ = some (.slice A5 x.f5.length c5) ∧ w'.cell? ⟨w.heap.size, 6, none⟩ = some (.slice A6 x.f6.length c6) ∧ w'.cell? ⟨w.heap.size, 7, none⟩ = some (.int .i64 x.f7.f0) ∧ w'.cell? ⟨w.heap.size, 8, none⟩ = some (.int .i64 x.f7.f1) ∧ w'.cell? ⟨w.heap.size, 9, none⟩ = some (.slice A9 x.f8.length c9) ∧ w'.cell? ⟨w.heap.size, 10, none⟩ = some (.slice (some aA) x.f9.length c10) ∧ w'.cell? ⟨w.heap.size + 1, 0, none⟩ = some (.int .i64 t.f0) ∧ w'.cell? ⟨w.heap.size + 1, 1, none⟩ = some (.slice T1 t.f1.length d1) ∧ w'.cell? ⟨wr.heap.size, 0, none⟩ = some (.int .i64 r.f0) ∧ w'.cell? ⟨wr.heap.size, 1, none⟩ = some (.int .i64 r.f1.f0) ∧ w'.cell? ⟨wr.heap.size, 2, none⟩ = some (.int .i64 r.f1.f1)) (ds := []) #[false, false, false, false, false, false, false, false, false, false, false, false] (by kernel_rfl) rfl rfl ⟨k0, k1, k2, k3, k4, k5, k6, k7, k8, k9, k10, t0, t1, n0, n1, n2⟩ (fun hHeld => ?_)
    refine pure_ (i := 2) (N := some 22) (v := ?_) (a' := ?_) (bs 12 4) rfl rfl (by kernel_rfl) (fun _ _ _ h => h) (Or.inl ⟨by rfl, ?_⟩) ?_ ?_
    rotate_left
    ·intro w'
     go_simp
     with_reducible rfl
    rotate_left
    ·simp only [Act.put, List.setIfInBounds_toArray, List.set_cons_zero, List.set_cons_succ, i64_w, i32_w]
     rfl
    refine pure_ (i := 4) (N := some 24) (v := ?_) (a' := ?_) (bs 12 20) rfl rfl (by kernel_rfl) (fun _ _ _ h => h) (Or.inl ⟨by rfl, ?_⟩) ?_ ?_
    rotate_left
    ·intro w'
     go_simp
     with_reducible rfl
    rotate_left
    ·simp only [Act.put, List.setIfInBounds_toArray, List.set_cons_zero, List.set_cons_succ, i64_w, i32_w]
     rfl
    refine pure_ (i := 6) (N := some 26) (v := ?_) (a' := ?_) (bs 12 84) rfl rfl (by kernel_rfl) (fun _ _ _ h => h) (Or.inl ⟨by rfl, ?_⟩) ?_ ?_
    rotate_left
    ·intro w'
     go_simp
     with_reducible rfl
    rotate_left
    ·simp only [Act.put, List.setIfInBounds_toArray, List.set_cons_zero, List.set_cons_succ, i64_w, i32_w]
     rfl
    refine pure_ (i := 9) (N := some 29) (v := ?_) (a' := ?_) (bs 12 596) rfl rfl (by kernel_rfl) (fun _ _ _ h => h) (Or.inl ⟨by rfl, ?_⟩) ?_ ?_
    rotate_left
    ·intro w'
     go_simp
     with_reducible rfl
    rotate_left
    ·simp only [Act.put, List.setIfInBounds_toArray, List.set_cons_zero, List.set_cons_succ, i64_w, i32_w]
     rfl
    refine take_ (i := 0) (N := some 20) (v := ?_) (a' := ?_) (bs 12 597) rfl rfl (by kernel_rfl) (fun _ _ _ h => h) (Or.inl ⟨by rfl, ?_⟩) hHeld ?_ ?_
    rotate_left
    ·rintro w' ⟨s0, s1, s2, s3, s4, s5, s6, s7, s8, s9, s10, s11, s12, s13, s14, s15⟩
     go_simp
     with_reducible rfl
    rotate_left
    ·simp only [Act.put, List.setIfInBounds_toArray, List.set_cons_zero, List.set_cons_succ, i64_w, i32_w]
     rfl
    refine take_ (i := 1) (N := some 21) (v := ?_) (a' := ?_) (bs 12 599) rfl rfl (by kernel_rfl) (fun _ _ _ h => h) (Or.inl ⟨by rfl, ?_⟩) hHeld ?_ ?_
    rotate_left
    ·rintro w' ⟨s0, s1, s2, s3, s4, s5, s6, s7, s8, s9, s10, s11, s12, s13, s14, s15⟩
     go_simp
     with_reducible rfl
    rotate_left
    ·simp only [Act.put, List.setIfInBounds_toArray, List.set_cons_zero, List.set_cons_succ, i64_w, i32_w]
     rfl
    refine take_ (i := 3) (N := some 23) (v := ?_) (a' := ?_) (bs 12 607) rfl rfl (by kernel_rfl) (fun _ _ _ h => h) (Or.inl ⟨by rfl, ?_⟩) hHeld ?_ ?_
    rotate_left
    ·rintro w' ⟨s0, s1, s2, s3, s4, s5, s6, s7, s8, s9, s10, s11, s12, s13, s14, s15⟩
     go_simp
     with_reducible rfl
    rotate_left
    ·simp only [Act.put, List.setIfInBounds_toArray, List.set_cons_zero, List.set_cons_succ, i64_w, i32_w]
     rfl
    refine take_ (i := 5) (N := some 25) (v := ?_) (a' := ?_) (bs 12 639) rfl rfl (by kernel_rfl) (fun _ _ _ h => h) (Or.inl ⟨by rfl, ?_⟩) hHeld ?_ ?_
    rotate_left
    ·rintro w' ⟨s0, s1, s2, s3, s4, s5, s6, s7, s8, s9, s10, s11, s12, s13, s14, s15⟩
     go_simp
     with_reducible rfl
    rotate_left
    ·simp only [Act.put, List.setIfInBounds_toArray, List.set_cons_zero, List.set_cons_succ, i64_w, i32_w]
     rfl
    refine take_ (i := 7) (N := some 27) (v := ?_) (a' := ?_) (bs 12 767) rfl rfl (by kernel_rfl) (fun _ _ _ h => h) (Or.inl ⟨by rfl, ?_⟩) hHeld ?_ ?_
    rotate_left
    ·rintro w' ⟨s0, s1, s2, s3, s4, s5, s6, s7, s8, s9, s10, s11, s12, s13, s14, s15⟩
     go_simp
     with_reducible rfl
    rotate_left
    ·simp only [Act.put, List.setIfInBounds_toArray, List.set_cons_zero, List.set_cons_succ, i64_w, i32_w]
     rfl
    refine take_ (i := 10) (N := some 30) (v := ?_) (a' := ?_) (bs 12 1791) rfl rfl (by kernel_rfl) (fun _ _ _ h => h) (Or.inl ⟨by rfl, ?_⟩) hHeld ?_ ?_
    rotate_left
    ·rintro w' ⟨s0, s1, s2, s3, s4, s5, s6, s7, s8, s9, s10, s11, s12, s13, s14, s15⟩
     go_simp
     with_reducible rfl
    rotate_left
    ·simp only [Act.put, List.setIfInBounds_toArray, List.set_cons_zero, List.set_cons_succ, i64_w, i32_w]
     rfl
    refine one_ (i := 8) (N := some 28) (bs 12 2047) rfl rfl (by kernel_rfl) (by decide) (fun K hK => ?_)
    refine goes_ Try.func43 (by kernel_rfl) rfl #[.agg #[.int .i64 x.f0, .int .i64 x.f1, .int .i64 x.f2, .int .i64 x.f3, .int .i64 x.f4, .slice A5 x.f5.length c5, .slice A6 x.f6.length c6, .int .i64 x.f7.f0, .int .i64 x.f7.f1, .slice A9 x.f8.length c9, .slice (some aA) x.f9.length c10], .agg #[.int .i64 t.f0, .slice T1 t.f1.length d1], .slice A5 x.f5.length c5, .slice A6 x.f6.length c6, .int .i64 r.f0] (by rfl) rfl rfl (by simp only [List.map_toArray, List.map_cons, List.map_nil]; rfl) ?_
    with_reducible refine (HHOT.out _ (below_drew HN.out.1)).mono ?_
    rintro e w3 ⟨rfl, hb3⟩
    refine ⟨_, rfl, ?_⟩
    refine hK.out _ _ ⟨pw_cell_below hb3 (hHeld.1), pw_cell_below hb3 (hHeld.2.1), pw_cell_below hb3 (hHeld.2.2.1), pw_cell_below hb3 (hHeld.2.2.2.1), pw_cell_below hb3 (hHeld.2.2.2.2.1), pw_cell_below hb3 (hHeld.2.2.2.2.2.1), pw_cell_below hb3 (hHeld.2.2.2.2.2.2.1), pw_cell_below hb3 (hHeld.2.2.2.2.2.2.2.1), pw_cell_below hb3 (hHeld.2.2.2.2.2.2.2.2.1), pw_cell_below hb3 (hHeld.2.2.2.2.2.2.2.2.2.1), pw_cell_below hb3 (hHeld.2.2.2.2.2.2.2.2.2.2.1), pw_cell_below hb3 (hHeld.2.2.2.2.2.2.2.2.2.2.2.1), pw_cell_below hb3 (hHeld.2.2.2.2.2.2.2.2.2.2.2.2.1), pw_cell_below hb3 (hHeld.2.2.2.2.2.2.2.2.2.2.2.2.2.1), pw_cell_below hb3 (hHeld.2.2.2.2.2.2.2.2.2.2.2.2.2.2.1), pw_cell_below hb3 (hHeld.2.2.2.2.2.2.2.2.2.2.2.2.2.2.2)⟩ (fun hHeld => ?_)
    clear hK K
    refine norm_ (a' := ?_) ?_ ?_
    rotate_left
    ·show Act.put _ (some 28) _ = _
     simp only [Act.put, List.setIfInBounds_toArray, List.set_cons_zero, List.set_cons_succ, i64_w, i32_w]
     rfl
    refine one_ (i := 11) (N := some 31) (bs 12 4095) rfl rfl (by kernel_rfl) (by decide) (fun K hK => ?_)
    refine goes_ Try.func110 (by kernel_rfl) rfl #[.int .i64 ho, .agg #[.int .i64 r.f1.f0, .int .i64 r.f1.f1]] (by rfl) rfl rfl (by simp only [List.map_toArray, List.map_cons, List.map_nil]; rfl) ?_
    with_reducible refine (his _).mono ?_
    rintro e w4 ⟨rfl, hb4⟩
    refine ⟨_, rfl, ?_⟩
    refine hK.out _ _ ⟨pw_cell_below hb4 (hHeld.1), pw_cell_below hb4 (hHeld.2.1), pw_cell_below hb4 (hHeld.2.2.1), pw_cell_below hb4 (hHeld.2.2.2.1), pw_cell_below hb4 (hHeld.2.2.2.2.1), pw_cell_below hb4 (hHeld.2.2.2.2.2.1), pw_cell_below hb4 (hHeld.2.2.2.2.2.2.1), pw_cell_below hb4 (hHeld.2.2.2.2.2.2.2.1), pw_cell_below hb4 (hHeld.2.2.2.2.2.2.2.2.1), pw_cell_below hb4 (hHeld.2.2.2.2.2.2.2.2.2.1), pw_cell_below hb4 (hHeld.2.2.2.2.2.2.2.2.2.2.1), pw_cell_below hb4 (hHeld.2.2.2.2.2.2.2.2.2.2.2.1), pw_cell_below hb4 (hHeld.2.2.2.2.2.2.2.2.2.2.2.2.1), pw_cell_below hb4 (hHeld.2.2.2.2.2.2.2.2.2.2.2.2.2.1), pw_cell_below hb4 (hHeld.2.2.2.2.2.2.2.2.2.2.2.2.2.2.1), pw_cell_below hb4 (hHeld.2.2.2.2.2.2.2.2.2.2.2.2.2.2.2)⟩ (fun hHeld => ?_)
    clear hK K
    refine norm_ (a' := ?_) ?_ ?_
    rotate_left
    ·show Act.put _ (some 31) _ = _
     simp only [Act.put, List.setIfInBounds_toArray, List.set_cons_zero, List.set_cons_succ, i64_w, i32_w]
     rfl
    refine done_ (by kernel_rfl) ?_
    have HVV := Aside0.mk (bel2 (bel2 (below_drew (Below.refl _ _)) hb3) hb4)
    clear hHeld hb3 hb4
    have hk5 : k = 0 ∨ k = 1 ∨ k = 2 ∨ k = 3 ∨ k = 4 := by omega
    rcases hk5 with rfl | rfl | rfl | rfl | rfl
    all_goals
     go_wp2
     go_roundw
     case rel => exact ⟨_, hlt, by rw [HR.out]; rfl, rfl, ⟨bel2 HN.out.1 HVV.out, HN.out.2.1.below HVV.out, HN.out.2.2.below HVV.out⟩⟩
     case measure => simp [intOf]; omega
  ·obtain rfl : k = x.f9.length := by omega
   go_wp2
   go_ret
   exact ⟨rfl, HW.out.1⟩
theorem rbits_full (f : Nat → Bool) (n : Nat) (hn : n ≤ 5) : (rbits f n == 2 ^ n - 1) = (List.range n).all f := by
 have key : ∀ b0 b1 b2 b3 b4 : Bool, ∀ n, n < 6 → (rbits (fun i => [b0, b1, b2, b3, b4].getD i false) n == 2 ^ n - 1) = (List.range n).all (fun i => [b0, b1, b2, b3, b4].getD i false) := by decide +kernel
 have hc : ∀ k, k ≤ 5 → rbits f k = rbits (fun i => [f 0, f 1, f 2, f 3, f 4].getD i false) k := by
  intro k hk
  induction k with
  | zero => rfl
  | succ k ih =>
   have e : f k = [f 0, f 1, f 2, f 3, f 4].getD k false := by
    have : k = 0 ∨ k = 1 ∨ k = 2 ∨ k = 3 ∨ k = 4 := by omega
    rcases this with rfl | rfl | rfl | rfl | rfl <;> rfl
   show (if f k = true then Go.bits .or .i64 (rbits f k) (2 ^ k) else rbits f k) = (if [f 0, f 1, f 2, f 3, f 4].getD k false = true then _ else _)
   rw [ih (by omega), ← e]
 have ha : (List.range n).all f = (List.range n).all (fun i => [f 0, f 1, f 2, f 3, f 4].getD i false) := by
  rw [Bool.eq_iff_iff, List.all_eq_true, List.all_eq_true]
  refine forall_congr' fun k => forall_congr' fun hk => ?_
  have hk2 := List.mem_range.1 hk
  have : k = 0 ∨ k = 1 ∨ k = 2 ∨ k = 3 ∨ k = 4 := by omega
  rcases this with rfl | rfl | rfl | rfl | rfl <;> exact Iff.rfl
 rw [hc n hn, ha]
 exact key _ _ _ _ _ n (by omega)
end Go.Proofs.Ytdgkhoflajdidaa
/- Nth: the truth with a number. -/
namespace Go.Proofs.Ytdgkhoflajdidaa
open Go.RowKit Go.Proofs.YtdgkhoflajdidaaW.PrintWords Go.Proofs.YtdgkhoflajdidaaW.PrintMore Go.Proofs.YtdgkhoflajdidaaW.PrintLast Go.Proofs.Ytdgkhoflajdidaa.Print
set_option linter.unusedVariables false
set_option linter.unusedSimpArgs false
set_option maxRecDepth 100000
set_option maxHeartbeats 4000000
def rsz (r : S35) : Nat := (r.f1 - r.f0 + 1).toNat
/-- What is left of a number after k ranges. -/
def nq (l : List S35) (n : Nat) : Nat → Nat
 | 0 => n
 | k + 1 => nq l n k / rsz (l.getD k z35)
def nl (l : List S35) (n k : Nat) : Int := (l.getD k z35).f0 + ((nq l n k % rsz (l.getD k z35) : Nat) : Int)
def nls (l : List S35) (n m : Nat) : List Int := (List.range m).map (nl l n)
theorem nls_snoc (l : List S35) (n m : Nat) : nls l n (m + 1) = nls l n m ++ [nl l n m] := by simp [nls, List.range_succ]
def nthX (x : S38) (n : Nat) : S75 := ⟨x.f7.f0 + ((n % rsz x.f7 : Nat) : Int), nls x.f8 (n / rsz x.f7) x.f8.length⟩
theorem nq_le (l : List S35) (n : Nat) : ∀ k, nq l n k ≤ n
 | 0 => Nat.le_refl _
 | k + 1 => Nat.le_trans (Nat.div_le_self _ _) (nq_le l n k)
theorem tmod_nat (n s : Nat) : ((n : Int).tmod (s : Int)) = ((n % s : Nat) : Int) := by
 rw [Int.tmod_eq_emod_of_nonneg (by omega)]
 exact (Int.natCast_emod n s).symm
theorem tdiv_nat (n s : Nat) : ((n : Int).tdiv (s : Int)) = ((n / s : Nat) : Int) := by
 rw [Int.tdiv_eq_ediv_of_nonneg (by omega)]
 exact (Int.natCast_ediv n s).symm
/-- The state of Nth's loop. -/
structure NtSt (x : S38) (w : World) (B : Array Value) (p : Nat) (h : Int) (l : List Int) (v : Value) (W : World) : Prop where
 bel : Below w.heap.size w W
 box : Blk W w.heap.size B 28
 res : Blk W (w.heap.size + 1) #[.int .i64 0, .slice none 0 0] 66
 blk : Blk W p #[.int .i64 h, v] 66
 r : W.ownsRow w.heap.size 3 1 v l.length (nums .i64 l)
 hp : w.heap.size + 1 < p
variable {x : S38} {w W V : World} {B : Array Value} {p : Nat} {h : Int} {l : List Int} {v v' : Value}
theorem NtSt.below (s : NtSt x w B p h l v W) (hb : Below W.heap.size W V) : NtSt x w B p h l v V := ⟨bel2 s.bel hb, s.box.below hb, s.res.below hb, s.blk.below hb, own_bel s.r hb, s.hp⟩
theorem NtSt.app (s : NtSt x w B p h l v W) (a : Int) (ho : V.ownsRow w.heap.size 3 1 v' (nums .i64 l ++ [Value.int .i64 a]).length (nums .i64 l ++ [Value.int .i64 a])) (hg : W.grownBy V v.ownBlock) : NtSt x w B p h (l ++ [a]) v' (V.setCell ⟨p, 1, none⟩ v') := by
 have hp := s.hp
 have hblk := s.blk.grown hg (blk_row s.blk s.r (by decide))
 exact ⟨(s.bel.grown hg s.bel.size (own_base s.r)).setCell (p := ⟨p, 1, none⟩) (by show w.heap.size ≤ p; omega) _, (s.box.grown hg (blk_row s.box s.r (by decide))).set_other (p := ⟨p, 1, none⟩) (by show w.heap.size ≠ p; omega) _,
  (s.res.grown hg (blk_row s.res s.r (by decide))).set_other (p := ⟨p, 1, none⟩) (by show w.heap.size + 1 ≠ p; omega) _, hblk.set 1 v', own_setCell (by simpa [nums] using ho) (p := ⟨p, 1, none⟩) (blk_row hblk ho (by decide)) _, hp⟩
/-- What Nth leaves: a truth of its own. -/
def NthPost (t : S75) (w : World) (e : Ending) (w' : World) : Prop := ∃ A c, e = .returned (.agg #[.int .i64 t.f0, .slice A t.f1.length c]) ∧ Below w.heap.size w w' ∧ w'.ownsRow w.heap.size 3 1 (.slice A t.f1.length c) t.f1.length (nums .i64 t.f1)
theorem rNth_calls (x : S38) (cs : List Value) (n : Nat) (w : World) (hx : k38.K w x cs) (h7 : inside x.f7 99 = true) (h8 : x.f8.all (fun r => inside r 99) = true) (hn : n ≤ 3000) (hl30 : x.f8.length ≤ 30) :
    Calls Try.prog 45 #[.agg cs.toArray, .int .i64 n] w (NthPost (nthX x n) w) := by
 have HX := Aside0.mk hx
 obtain ⟨A5, c5, A6, c6, A9, c9, A10, c10, rfl, l5, g5, l6, g6, l9, g9, l10, g10⟩ := k38_open hx
 have G9 := Aside0.mk g9
 clear hx g5 g6 g9 g10 l5 l6 l9 l10
 have hu := Try.underlying28
 have hu2 := Try.underlying66
 have hu3 := Try.underlying24
 have hi7 := inside_iff.1 h7
 have H8 := Aside0.mk (fun r hr => inside_iff.1 (List.all_eq_true.1 h8 r hr))
 obtain ⟨s, hs⟩ : ∃ s : Nat, x.f7.f1 - x.f7.f0 + 1 = (s : Int) := ⟨(x.f7.f1 - x.f7.f0 + 1).toNat, by omega⟩
 have hrs : rsz x.f7 = s := by unfold rsz; omega
 have hs0 : (1 : Int) ≤ (s : Int) := by omega
 have hs1 : (s : Int) ≤ 100 := by omega
 have hsz := fun W => rSize_calls x.f7 W hi7.1 hi7.2.1 hi7.2.2
 rw [hs] at hsz
 have hf70 := hi7.1
 have hf71 : x.f7.f0 ≤ 99 := by omega
 have hmod := tmod_nat n s
 have hdiv := tdiv_nat n s
 have hml : n % s < s := Nat.mod_lt _ (by omega)
 have hql : n / s ≤ n := Nat.div_le_self _ _
 have HH := Lib.hid (show nthX x n = ⟨x.f7.f0 + ((n % s : Nat) : Int), nls x.f8 (n / s) x.f8.length⟩ by unfold nthX; rw [hrs])
 generalize n % s = m at *
 generalize n / s = q at *
 have hm99 : (m : Int) ≤ 99 := by omega
 have hq3 : (q : Int) ≤ 3000 := by omega
 have hn3 : (n : Int) ≤ 3000 := by omega
 have hsn : ¬ s = 0 := by omega
 obtain ⟨h0, hh0⟩ : ∃ h0, wrap64 (x.f7.f0 + (m : Int)) = h0 := ⟨_, rfl⟩
 have HH0 := Lib.hid (show x.f7.f0 + (m : Int) = h0 by rw [← hh0]; exact (IntWalk.wrap64_in _ (by omega)).symm)
 have hsn2 : ((s : Int) == 0) = false := by simp; omega
 clear h7 h8 hi7 hrs hs
 have ZB := Aside0.mk (And.intro (below_alloc (below_alloc (Below.refl w.heap.size w) (.cells #[.int .i64 x.f0, .int .i64 x.f1, .int .i64 x.f2, .int .i64 x.f3, .int .i64 x.f4, .slice A5 x.f5.length c5, .slice A6 x.f6.length c6, .int .i64 x.f7.f0, .int .i64 x.f7.f1, .slice A9 x.f8.length c9, .slice A10 x.f9.length c10] 28)) (.cells #[.int .i64 0, .slice none 0 0] 66)) (And.intro ((Blk.new w #[.int .i64 x.f0, .int .i64 x.f1, .int .i64 x.f2, .int .i64 x.f3, .int .i64 x.f4, .slice A5 x.f5.length c5, .slice A6 x.f6.length c6, .int .i64 x.f7.f0, .int .i64 x.f7.f1, .slice A9 x.f8.length c9, .slice A10 x.f9.length c10] 28 _ rfl).alloc (.cells #[.int .i64 0, .slice none 0 0] 66)) (Blk.new (w.alloc (.cells #[.int .i64 x.f0, .int .i64 x.f1, .int .i64 x.f2, .int .i64 x.f3, .int .i64 x.f4, .slice A5 x.f5.length c5, .slice A6 x.f6.length c6, .int .i64 x.f7.f0, .int .i64 x.f7.f1, .slice A9 x.f8.length c9, .slice A10 x.f9.length c10] 28)) #[.int .i64 0, .slice none 0 0] 66 (w.heap.size + 1) (by simp))))
 go_enter Try.func45, Try.ntmps45
 go_wp2
 have hsz0 : w.heap.size + 1 < ((w.alloc (.cells #[.int .i64 x.f0, .int .i64 x.f1, .int .i64 x.f2, .int .i64 x.f3, .int .i64 x.f4, .slice A5 x.f5.length c5, .slice A6 x.f6.length c6, .int .i64 x.f7.f0, .int .i64 x.f7.f1, .slice A9 x.f8.length c9, .slice A10 x.f9.length c10] 28)).alloc (.cells #[.int .i64 0, .slice none 0 0] 66)).heap.size := by simp
 generalize ((w.alloc (.cells #[.int .i64 x.f0, .int .i64 x.f1, .int .i64 x.f2, .int .i64 x.f3, .int .i64 x.f4, .slice A5 x.f5.length c5, .slice A6 x.f6.length c6, .int .i64 x.f7.f0, .int .i64 x.f7.f1, .slice A9 x.f8.length c9, .slice A10 x.f9.length c10] 28)).alloc (.cells #[.int .i64 0, .slice none 0 0] 66)) = W at *
 have k7 := ZB.out.2.1.cell 7 _ rfl
 have k8 := ZB.out.2.1.cell 8 _ rfl
 refine start_ (n := 12) (S := fun w' => w'.cell? ⟨w.heap.size, 7, none⟩ = some (.int .i64 x.f7.f0) ∧ w'.cell? ⟨w.heap.size, 8, none⟩ = some (.int .i64 x.f7.f1)) (ds := [11]) #[false, false, false, false, false, false, false, false, false, false, false, false] (by kernel_rfl) rfl rfl ⟨k7, k8⟩ (fun hHeld => ?_)
 refine pure_ (i := 0) (N := some 8) (v := ?_) (a' := ?_) (bs 12 1) rfl rfl (by kernel_rfl) (fun _ _ _ h => h) (Or.inl ⟨by rfl, ?_⟩) ?_ ?_
 rotate_left
 ·intro w'
  go_simp
  with_reducible rfl
 rotate_left
 ·simp only [Act.put, List.setIfInBounds_toArray, List.set_cons_zero, List.set_cons_succ, i64_w, i32_w]
  rfl
 refine pure_ (i := 1) (N := some 9) (v := ?_) (a' := ?_) (bs 12 3) rfl rfl (by kernel_rfl) (fun _ _ _ h => h) (Or.inl ⟨by rfl, ?_⟩) ?_ ?_
 rotate_left
 ·intro w'
  go_simp
  with_reducible rfl
 rotate_left
 ·simp only [Act.put, List.setIfInBounds_toArray, List.set_cons_zero, List.set_cons_succ, i64_w, i32_w]
  rfl
 refine pure_ (i := 3) (N := some 11) (v := ?_) (a' := ?_) (bs 12 11) rfl rfl (by kernel_rfl) (fun _ _ _ h => h) (Or.inl ⟨by rfl, ?_⟩) ?_ ?_
 rotate_left
 ·intro w'
  go_simp
  with_reducible rfl
 rotate_left
 ·simp only [Act.put, List.setIfInBounds_toArray, List.set_cons_zero, List.set_cons_succ, i64_w, i32_w]
  rfl
 refine pure_ (i := 4) (N := some 12) (v := ?_) (a' := ?_) (bs 12 27) rfl rfl (by kernel_rfl) (fun _ _ _ h => h) (Or.inl ⟨by rfl, ?_⟩) ?_ ?_
 rotate_left
 ·intro w'
  go_simp
  with_reducible rfl
 rotate_left
 ·simp only [Act.put, List.setIfInBounds_toArray, List.set_cons_zero, List.set_cons_succ, i64_w, i32_w]
  rfl
 refine take_ (i := 2) (N := some 10) (v := ?_) (a' := ?_) (bs 12 31) rfl rfl (by kernel_rfl) (fun _ _ _ h => h) (Or.inl ⟨by rfl, ?_⟩) hHeld ?_ ?_
 rotate_left
 ·rintro w' ⟨s0, s1⟩
  go_simp
  with_reducible rfl
 rotate_left
 ·simp only [Act.put, List.setIfInBounds_toArray, List.set_cons_zero, List.set_cons_succ, i64_w, i32_w]
  rfl
 refine take_ (i := 5) (N := some 13) (v := ?_) (a' := ?_) (bs 12 63) rfl rfl (by kernel_rfl) (fun _ _ _ h => h) (Or.inl ⟨by rfl, ?_⟩) hHeld ?_ ?_
 rotate_left
 ·rintro w' ⟨s0, s1⟩
  go_simp
  with_reducible rfl
 rotate_left
 ·simp only [Act.put, List.setIfInBounds_toArray, List.set_cons_zero, List.set_cons_succ, i64_w, i32_w]
  rfl
 refine join_ (σ := Nat) 1 (bs 12 2047) (fun a => [(14, .int .i64 s), (15, .int .i64 m), (16, .int .i64 (wrap64 (x.f7.f0 + m))), (17, .agg #[.int .i64 h0, .slice none 0 0]), (5, .pointer (some ⟨a, 0, none⟩))]) (fun a w' => (w'.cell? ⟨w.heap.size, 7, none⟩ = some (.int .i64 x.f7.f0) ∧ w'.cell? ⟨w.heap.size, 8, none⟩ = some (.int .i64 x.f7.f1)) ∧ Below W.heap.size W w' ∧ Blk w' a #[.int .i64 0, .slice none 0 0] 66 ∧ W.heap.size ≤ a) ?_ ?_
 rotate_left
 ·intro hJ6_10
  refine join_ (σ := Nat) 2 (bs 12 1023) (fun a => [(14, .int .i64 s), (15, .int .i64 m), (16, .int .i64 (wrap64 (x.f7.f0 + m))), (17, .agg #[.int .i64 h0, .slice none 0 0])]) (fun a w' => (w'.cell? ⟨w.heap.size, 7, none⟩ = some (.int .i64 x.f7.f0) ∧ w'.cell? ⟨w.heap.size, 8, none⟩ = some (.int .i64 x.f7.f1)) ∧ Below W.heap.size W w') ?_ ?_
  rotate_left
  ·intro hJ6
   refine join_ (σ := Nat) 5 (bs 12 1087) (fun a => [(5, .pointer (some ⟨a, 0, none⟩))]) (fun a w' => (w'.cell? ⟨w.heap.size, 7, none⟩ = some (.int .i64 x.f7.f0) ∧ w'.cell? ⟨w.heap.size, 8, none⟩ = some (.int .i64 x.f7.f1)) ∧ Below W.heap.size W w' ∧ Blk w' a #[.int .i64 0, .slice none 0 0] 66 ∧ W.heap.size ≤ a) ?_ ?_
   rotate_left
   ·intro hJ10
    refine two_ (i := 6) (j := 10) (Ni := some 14) (Nj := some 5) (bs 12 127) (bs 12 1087) rfl rfl rfl rfl (by kernel_rfl) (by decide) (by decide) (fun K hK => ?_) (fun K hK => ?_)
    ·skip
     refine goes_ Try.func95 (by kernel_rfl) rfl #[.agg #[.int .i64 x.f7.f0, .int .i64 x.f7.f1]] (by rfl) rfl rfl (by simp only [List.map_toArray, List.map_cons, List.map_nil]; rfl) ?_
     with_reducible refine (hsz _).mono ?_
     rintro e w5 ⟨rfl, hb5⟩
     refine ⟨_, rfl, ?_⟩
     refine hK.out _ _ ⟨pw_cell_below hb5 (hHeld.1), pw_cell_below hb5 (hHeld.2)⟩ (fun hHeld => ?_)
     clear hK K
     refine norm_ (a' := ?_) ?_ ?_
     rotate_left
     ·show Act.put _ (some 14) _ = _
      simp only [Act.put, List.setIfInBounds_toArray, List.set_cons_zero, List.set_cons_succ, i64_w, i32_w]
      rfl
     refine pure_ (i := 7) (N := some 15) (v := ?_) (a' := ?_) (bs 12 255) rfl rfl (by kernel_rfl) (fun _ _ _ h => h) (Or.inl ⟨by rfl, ?_⟩) ?_ ?_
     rotate_left
     ·intro w'
      go_simp
      with_reducible rfl
     rotate_left
     ·simp only [Act.put, List.setIfInBounds_toArray, List.set_cons_zero, List.set_cons_succ, i64_w, i32_w]
      rfl
     refine pure_ (i := 8) (N := some 16) (v := ?_) (a' := ?_) (bs 12 511) rfl rfl (by kernel_rfl) (fun _ _ _ h => h) (Or.inl ⟨by rfl, ?_⟩) ?_ ?_
     rotate_left
     ·intro w'
      go_simp
      with_reducible rfl
     rotate_left
     ·simp only [Act.put, List.setIfInBounds_toArray, List.set_cons_zero, List.set_cons_succ, i64_w, i32_w]
      rfl
     refine pure_ (i := 9) (N := some 17) (v := ?_) (a' := ?_) (bs 12 1023) rfl rfl (by kernel_rfl) (fun _ _ _ h => h) (Or.inl ⟨by rfl, ?_⟩) ?_ ?_
     rotate_left
     ·intro w'
      go_simp
      with_reducible rfl
     rotate_left
     ·simp only [Act.put, List.setIfInBounds_toArray, List.set_cons_zero, List.set_cons_succ, i64_w, i32_w]
      rfl
     exact norm_ (by first | (simp only [putAll, Act.put, List.setIfInBounds_toArray, List.set_cons_zero, List.set_cons_succ]; done) | (simp only [putAll, Act.put, List.setIfInBounds_toArray, List.set_cons_zero, List.set_cons_succ]; rfl)) (hJ6 0 _ ⟨hHeld, bel2 (below_drew (Below.refl W.heap.size W)) hb5⟩)
    ·skip
     refine value_ (w1 := ?_) (v := ?_) (by rfl) rfl ?_ ?_
     rotate_left 2
     ·go_simp
      constructor
      ·rfl
      ·rfl
     refine hK.out _ _ ⟨cell_al _ (hHeld.1), cell_al _ (hHeld.2)⟩ (fun hHeld => ?_)
     clear hK K
     refine norm_ (a' := ?_) ?_ ?_
     rotate_left
     ·show Act.put _ (some 5) _ = _
      simp only [Act.put, List.setIfInBounds_toArray, List.set_cons_zero, List.set_cons_succ, i64_w, i32_w]
      rfl
     exact norm_ (by first | (simp only [putAll, Act.put, List.setIfInBounds_toArray, List.set_cons_zero, List.set_cons_succ]; done) | (simp only [putAll, Act.put, List.setIfInBounds_toArray, List.set_cons_zero, List.set_cons_succ]; rfl)) (hJ10 W.drew.heap.size _ ⟨hHeld, below_alloc (below_drew (Below.refl W.heap.size W)) _, Blk.new _ _ _ _ rfl, ((below_drew (Below.refl W.heap.size W))).size⟩)
   ·skip
    rintro p w4 ⟨hHeld, hB, b10, l10⟩
    refine norm_ (a' := ?_) ?_ ?_
    rotate_left
    ·simp only [putAll, Act.put, List.setIfInBounds_toArray, List.set_cons_zero, List.set_cons_succ]
     rfl
    refine one_ (i := 6) (N := some 14) (bs 12 1151) rfl rfl (by kernel_rfl) (by decide) (fun K hK => ?_)
    refine goes_ Try.func95 (by kernel_rfl) rfl #[.agg #[.int .i64 x.f7.f0, .int .i64 x.f7.f1]] (by rfl) rfl rfl (by simp only [List.map_toArray, List.map_cons, List.map_nil]; rfl) ?_
    with_reducible refine (hsz _).mono ?_
    rintro e w5 ⟨rfl, hb5⟩
    refine ⟨_, rfl, ?_⟩
    refine hK.out _ _ ⟨pw_cell_below hb5 (hHeld.1), pw_cell_below hb5 (hHeld.2)⟩ (fun hHeld => ?_)
    clear hK K
    refine norm_ (a' := ?_) ?_ ?_
    rotate_left
    ·show Act.put _ (some 14) _ = _
     simp only [Act.put, List.setIfInBounds_toArray, List.set_cons_zero, List.set_cons_succ, i64_w, i32_w]
     rfl
    refine pure_ (i := 7) (N := some 15) (v := ?_) (a' := ?_) (bs 12 1279) rfl rfl (by kernel_rfl) (fun _ _ _ h => h) (Or.inl ⟨by rfl, ?_⟩) ?_ ?_
    rotate_left
    ·intro w'
     go_simp
     with_reducible rfl
    rotate_left
    ·simp only [Act.put, List.setIfInBounds_toArray, List.set_cons_zero, List.set_cons_succ, i64_w, i32_w]
     rfl
    refine pure_ (i := 8) (N := some 16) (v := ?_) (a' := ?_) (bs 12 1535) rfl rfl (by kernel_rfl) (fun _ _ _ h => h) (Or.inl ⟨by rfl, ?_⟩) ?_ ?_
    rotate_left
    ·intro w'
     go_simp
     with_reducible rfl
    rotate_left
    ·simp only [Act.put, List.setIfInBounds_toArray, List.set_cons_zero, List.set_cons_succ, i64_w, i32_w]
     rfl
    refine pure_ (i := 9) (N := some 17) (v := ?_) (a' := ?_) (bs 12 2047) rfl rfl (by kernel_rfl) (fun _ _ _ h => h) (Or.inl ⟨by rfl, ?_⟩) ?_ ?_
    rotate_left
    ·intro w'
     go_simp
     with_reducible rfl
    rotate_left
    ·simp only [Act.put, List.setIfInBounds_toArray, List.set_cons_zero, List.set_cons_succ, i64_w, i32_w]
     rfl
    exact norm_ (by first | (simp only [putAll, Act.put, List.setIfInBounds_toArray, List.set_cons_zero, List.set_cons_succ]; done) | (simp only [putAll, Act.put, List.setIfInBounds_toArray, List.set_cons_zero, List.set_cons_succ]; rfl)) (hJ6_10 p _ ⟨hHeld, bel2 hB hb5, b10.below hb5, l10⟩)
  ·skip
   rintro p w4 ⟨hHeld, hB⟩
   refine norm_ (a' := ?_) ?_ ?_
   rotate_left
   ·simp only [putAll, Act.put, List.setIfInBounds_toArray, List.set_cons_zero, List.set_cons_succ]
    rfl
   refine one_ (i := 10) (N := some 5) (bs 12 2047) rfl rfl (by kernel_rfl) (by decide) (fun K hK => ?_)
   refine value_ (w1 := ?_) (v := ?_) (by rfl) rfl ?_ ?_
   rotate_left 2
   ·go_simp
    constructor
    ·rfl
    ·rfl
   refine hK.out _ _ ⟨cell_al _ (hHeld.1), cell_al _ (hHeld.2)⟩ (fun hHeld => ?_)
   clear hK K
   refine norm_ (a' := ?_) ?_ ?_
   rotate_left
   ·show Act.put _ (some 5) _ = _
    simp only [Act.put, List.setIfInBounds_toArray, List.set_cons_zero, List.set_cons_succ, i64_w, i32_w]
    rfl
   exact norm_ (by first | (simp only [putAll, Act.put, List.setIfInBounds_toArray, List.set_cons_zero, List.set_cons_succ]; done) | (simp only [putAll, Act.put, List.setIfInBounds_toArray, List.set_cons_zero, List.set_cons_succ]; rfl)) (hJ6_10 w4.heap.size _ ⟨hHeld, below_alloc hB _, Blk.new _ _ _ _ rfl, (hB).size⟩)
 rintro p w4 ⟨hHeld, hB, b10, l10⟩
 refine norm_ (a' := ?_) ?_ ?_
 rotate_left
 ·simp only [putAll, Act.put, List.setIfInBounds_toArray, List.set_cons_zero, List.set_cons_succ]
  rfl
 refine last_ (i := 11) (N := none) (bs 12 4095) rfl rfl (by kernel_rfl) (by decide) (fun K hK => ?_)
 have z0 := b10.cell 0 _ rfl
 have z1 := b10.cell 1 _ rfl
 have y0 := b10.frozen 0
 have y1 := b10.frozen 1
 refine skip_ (w1 := ?_) (by rfl) rfl ?_ ?_
 rotate_left
 ·go_simp
  rfl
 refine hK.out _ _ ?_
 clear hK K
 refine done_ (by kernel_rfl) ?_
 have hp1 : w.heap.size + 1 < p := by omega
 have hSt : NtSt x w #[.int .i64 x.f0, .int .i64 x.f1, .int .i64 x.f2, .int .i64 x.f3, .int .i64 x.f4, .slice A5 x.f5.length c5, .slice A6 x.f6.length c6, .int .i64 x.f7.f0, .int .i64 x.f7.f1, .slice A9 x.f8.length c9, .slice A10 x.f9.length c10] p h0 [] (.slice none 0 0) ((w4.setCell ⟨p, 0, none⟩ (.int .i64 h0)).setCell ⟨p, 1, none⟩ (.slice none 0 0)) :=
  ⟨((bel2 ZB.out.1 hB).setCell (p := ⟨p, 0, none⟩) (by show w.heap.size ≤ p; omega) _).setCell (p := ⟨p, 1, none⟩) (by show w.heap.size ≤ p; omega) _, ((ZB.out.2.1.below hB).set_other (p := ⟨p, 0, none⟩) (by show w.heap.size ≠ p; omega) _).set_other (p := ⟨p, 1, none⟩) (by show w.heap.size ≠ p; omega) _,
   ((ZB.out.2.2.below hB).set_other (p := ⟨p, 0, none⟩) (by show w.heap.size + 1 ≠ p; omega) _).set_other (p := ⟨p, 1, none⟩) (by show w.heap.size + 1 ≠ p; omega) _, (b10.set 0 _).set 1 _, own_nil _ _ _ _, hp1⟩
 have HS := Aside0.mk hSt
 clear hSt hHeld hB b10 l10 k7 k8 z0 z1 y0 y1
 generalize ((w4.setCell ⟨p, 0, none⟩ (.int .i64 h0)).setCell ⟨p, 1, none⟩ (.slice none 0 0)) = W2 at *
 have k7 := HS.out.box.cell 7 _ rfl
 have k8 := HS.out.box.cell 8 _ rfl
 go_wp2_with fail
 refine (hsz _).mono ?_
 rintro e w6 ⟨rfl, hb⟩
 have HS2 := Aside0.mk (HS.out.below hb)
 clear hb k7 k8
 have k9 := HS2.out.box.cell 9 _ rfl
 go_wp2
 clear hmod hdiv hml hql hm99 hs0 hs1 hsn hsn2 hh0 hn3 hf70 hf71
 go_loopw [1, 6] (fun s1 s6 wr => ∃ k : Nat, k ≤ x.f8.length ∧ s1 = .int .i64 (nq x.f8 q k : Nat) ∧ s6 = .int .i64 k ∧ Aside0 (∃ v, NtSt x w #[.int .i64 x.f0, .int .i64 x.f1, .int .i64 x.f2, .int .i64 x.f3, .int .i64 x.f4, .slice A5 x.f5.length c5, .slice A6 x.f6.length c6, .int .i64 x.f7.f0, .int .i64 x.f7.f1, .slice A9 x.f8.length c9, .slice A10 x.f9.length c10] p h0 (nls x.f8 q k) v wr)) (fun _ s6 _ => x.f8.length - (intOf s6).toNat)
 case atStart => exact ⟨0, Nat.zero_le _, rfl, rfl, ⟨_, HS2.out⟩⟩
 case round =>
  obtain ⟨k, hk, rfl, rfl, HW⟩ := hrel
  obtain ⟨v, hst⟩ := HW.out
  have HT := Aside0.mk hst
  clear HW hst k9
  have k9 := HT.out.box.cell 9 _ rfl
  by_cases hlt : k < x.f8.length
  ·have hltz : (k : Int) < (x.f8.length : Int) := by omega
   have hl30z : (x.f8.length : Int) ≤ 30 := by omega
   obtain ⟨aA, rfl, q0, q1⟩ := row_at_rg (Kd.C_below G9.out HT.out.bel) k hlt
   have hin := H8.out _ (List.getElem_mem hlt)
   have hge : x.f8.getD k z35 = x.f8[k] := by simp [hlt]
   have hnq : nq x.f8 q (k + 1) = nq x.f8 q k / rsz x.f8[k] := by show nq x.f8 q k / rsz (x.f8.getD k z35) = _; rw [hge]
   have hnl : nls x.f8 q (k + 1) = nls x.f8 q k ++ [x.f8[k].f0 + ((nq x.f8 q k % rsz x.f8[k] : Nat) : Int)] := by rw [nls_snoc]; unfold nl; rw [hge]
   have hle := nq_le x.f8 q k
   have hll : (nls x.f8 q k).length = k := by simp [nls]
   generalize x.f8[k] = r at *
   obtain ⟨s2, hs2⟩ : ∃ s2 : Nat, r.f1 - r.f0 + 1 = (s2 : Int) := ⟨(r.f1 - r.f0 + 1).toNat, by omega⟩
   have hrs : rsz r = s2 := by unfold rsz; omega
   rw [hrs] at hnq hnl
   have hsr := fun W => rSize_calls r W hin.1 hin.2.1 hin.2.2
   rw [hs2] at hsr
   generalize nq x.f8 q k = nn at *
   have hmod := tmod_nat nn s2
   have hdiv := tdiv_nat nn s2
   have hml : nn % s2 < s2 := Nat.mod_lt _ (by omega)
   have hql : nn / s2 ≤ nn := Nat.div_le_self _ _
   generalize hmm : nn % s2 = mm at *
   generalize hqq : nn / s2 = qq at *
   have hr0 := hin.1
   have hr1 : r.f0 ≤ 99 := by omega
   have hmz : (mm : Int) ≤ 99 := by omega
   have hnz : (nn : Int) ≤ 3000 := by omega
   have hqz : (qq : Int) ≤ 3000 := by omega
   have hs0 : (1 : Int) ≤ (s2 : Int) := by omega
   have hs1 : (s2 : Int) ≤ 100 := by omega
   have hsn : ¬ s2 = 0 := by omega
   obtain ⟨rr, hrr⟩ : ∃ rr, wrap64 (r.f0 + (mm : Int)) = rr := ⟨_, rfl⟩
   have HRR := Lib.hid (show r.f0 + (mm : Int) = rr by rw [← hrr]; exact (IntWalk.wrap64_in _ (by omega)).symm)
   have HNQ := Lib.hid hnq
   have HNL := Lib.hid hnl
   have BN : Blk (wr.alloc (.cells #[.int .i64 r.f0, .int .i64 r.f1] 24)) wr.heap.size #[.int .i64 r.f0, .int .i64 r.f1] 24 := Blk.new _ _ _ _ rfl
   have HA := Aside0.mk (HT.out.below (below_alloc (Below.refl _ _) (.cells #[.int .i64 r.f0, .int .i64 r.f1] 24)))
   have hlw := HT.out.blk.lt
   clear hin hge hnq hnl hle hrs hs2 hmm hqq
   generalize hLL : nls x.f8 q k = ll at *
   clear hLL
   have kp1 := HA.out.blk.cell 1 _ rfl
   have n0 := BN.cell 0 _ rfl
   have n1 := BN.cell 1 _ rfl
   have HBN := Aside0.mk BN
   clear BN
   go_wp2
   refine start_ (n := 13) (S := fun w' => w'.cell? ⟨p, 1, none⟩ = some v ∧ w'.cell? ⟨wr.heap.size, 0, none⟩ = some (.int .i64 r.f0) ∧ w'.cell? ⟨wr.heap.size, 1, none⟩ = some (.int .i64 r.f1)) (ds := [10, 12]) #[false, false, false, false, false, false, false, false, false, false, false, false, false] (by kernel_rfl) rfl rfl ⟨kp1, n0, n1⟩ (fun hHeld => ?_)
   refine pure_ (i := 0) (N := some 35) (v := ?_) (a' := ?_) (bs 13 1) rfl rfl (by kernel_rfl) (fun _ _ _ h => h) (Or.inl ⟨by rfl, ?_⟩) ?_ ?_
   rotate_left
   ·intro w'
    go_simp
    with_reducible rfl
   rotate_left
   ·simp only [Act.put, List.setIfInBounds_toArray, List.set_cons_zero, List.set_cons_succ, i64_w, i32_w]
    rfl
   refine pure_ (i := 2) (N := some 37) (v := ?_) (a' := ?_) (bs 13 5) rfl rfl (by kernel_rfl) (fun _ _ _ h => h) (Or.inl ⟨by rfl, ?_⟩) ?_ ?_
   rotate_left
   ·intro w'
    go_simp
    with_reducible rfl
   rotate_left
   ·simp only [Act.put, List.setIfInBounds_toArray, List.set_cons_zero, List.set_cons_succ, i64_w, i32_w]
    rfl
   refine pure_ (i := 4) (N := some 39) (v := ?_) (a' := ?_) (bs 13 21) rfl rfl (by kernel_rfl) (fun _ _ _ h => h) (Or.inl ⟨by rfl, ?_⟩) ?_ ?_
   rotate_left
   ·intro w'
    go_simp
    with_reducible rfl
   rotate_left
   ·simp only [Act.put, List.setIfInBounds_toArray, List.set_cons_zero, List.set_cons_succ, i64_w, i32_w]
    rfl
   refine take_ (i := 1) (N := some 36) (v := ?_) (a' := ?_) (bs 13 23) rfl rfl (by kernel_rfl) (fun _ _ _ h => h) (Or.inl ⟨by rfl, ?_⟩) hHeld ?_ ?_
   rotate_left
   ·rintro w' ⟨s0, s1, s2⟩
    go_simp
    with_reducible rfl
   rotate_left
   ·simp only [Act.put, List.setIfInBounds_toArray, List.set_cons_zero, List.set_cons_succ, i64_w, i32_w]
    rfl
   refine take_ (i := 3) (N := some 38) (v := ?_) (a' := ?_) (bs 13 31) rfl rfl (by kernel_rfl) (fun _ _ _ h => h) (Or.inl ⟨by rfl, ?_⟩) hHeld ?_ ?_
   rotate_left
   ·rintro w' ⟨s0, s1, s2⟩
    go_simp
    with_reducible rfl
   rotate_left
   ·simp only [Act.put, List.setIfInBounds_toArray, List.set_cons_zero, List.set_cons_succ, i64_w, i32_w]
    rfl
   refine take_ (i := 5) (N := some 40) (v := ?_) (a' := ?_) (bs 13 63) rfl rfl (by kernel_rfl) (fun _ _ _ h => h) (Or.inl ⟨by rfl, ?_⟩) hHeld ?_ ?_
   rotate_left
   ·rintro w' ⟨s0, s1, s2⟩
    go_simp
    with_reducible rfl
   rotate_left
   ·simp only [Act.put, List.setIfInBounds_toArray, List.set_cons_zero, List.set_cons_succ, i64_w, i32_w]
    rfl
   refine one_ (i := 6) (N := some 41) (bs 13 127) rfl rfl (by kernel_rfl) (by decide) (fun K hK => ?_)
   refine goes_ Try.func95 (by kernel_rfl) rfl #[.agg #[.int .i64 r.f0, .int .i64 r.f1]] (by rfl) rfl rfl (by simp only [List.map_toArray, List.map_cons, List.map_nil]; rfl) ?_
   with_reducible refine (hsr _).mono ?_
   rintro e w3 ⟨rfl, hb3⟩
   refine ⟨_, rfl, ?_⟩
   refine hK.out _ _ ⟨pw_cell_below hb3 (hHeld.1), pw_cell_below hb3 (hHeld.2.1), pw_cell_below hb3 (hHeld.2.2)⟩ (fun hHeld => ?_)
   clear hK K
   refine norm_ (a' := ?_) ?_ ?_
   rotate_left
   ·show Act.put _ (some 41) _ = _
    simp only [Act.put, List.setIfInBounds_toArray, List.set_cons_zero, List.set_cons_succ, i64_w, i32_w]
    rfl
   refine pure_ (i := 7) (N := some 42) (v := ?_) (a' := ?_) (bs 13 255) rfl rfl (by kernel_rfl) (fun _ _ _ h => h) (Or.inl ⟨by rfl, ?_⟩) ?_ ?_
   rotate_left
   ·intro w'
    go_simp
    with_reducible rfl
   rotate_left
   ·simp only [Act.put, List.setIfInBounds_toArray, List.set_cons_zero, List.set_cons_succ, i64_w, i32_w]
    rfl
   refine pure_ (i := 8) (N := some 43) (v := ?_) (a' := ?_) (bs 13 511) rfl rfl (by kernel_rfl) (fun _ _ _ h => h) (Or.inl ⟨by rfl, ?_⟩) ?_ ?_
   rotate_left
   ·intro w'
    go_simp
    with_reducible rfl
   rotate_left
   ·simp only [Act.put, List.setIfInBounds_toArray, List.set_cons_zero, List.set_cons_succ, i64_w, i32_w]
    rfl
   refine one_ (i := 9) (N := some 44) (bs 13 1023) rfl rfl (by kernel_rfl) (by decide) (fun K hK => ?_)
   refine value_ (w1 := ?_) (v := ?_) (by rfl) rfl ?_ ?_
   rotate_left 2
   ·go_simp
    constructor
    ·rfl
    ·rfl
   refine hK.out _ _ ⟨cell_al _ (hHeld.1), cell_al _ (hHeld.2.1), cell_al _ (hHeld.2.2)⟩ (fun hHeld => ?_)
   clear hK K
   refine norm_ (a' := ?_) ?_ ?_
   rotate_left
   ·show Act.put _ (some 44) _ = _
    simp only [Act.put, List.setIfInBounds_toArray, List.set_cons_zero, List.set_cons_succ, i64_w, i32_w]
    rfl
   refine last_ (i := 10) (N := some 45) (bs 13 2047) rfl rfl (by kernel_rfl) (by decide) (fun K hK => ?_)
   have h4 := HA.out.below (below_alloc (bel2 (below_drew (Below.refl _ _)) hb3) (.cells #[.int .i64 rr] 3))
   refine append_op (w := w3.alloc (.cells #[.int .i64 rr] 3)) (.tmp 36) (.tmp 44) 22 3 (.int .i64 0) 8 (by rfl) rfl Try.underlying22 info3 rfl (by decide) w.heap.size v (nums .i64 ll) (.int .i64 rr) w3.heap.size 1 rfl rfl (by simpa [nums] using h4.r) ((Blk.new _ _ _ _ rfl).cell 0 _ rfl) rfl (by simp [nums]; omega) h4.bel.size ?_
   intro v5n w5 ho5 hg5 hat5
   obtain ⟨lz, hlz⟩ : ∃ z, (nums .i64 ll ++ [Value.int .i64 rr]).length = z := ⟨_, rfl⟩
   have HLZ := Lib.hid hlz
   rw [hlz] at ho5
   clear hlz
   obtain ⟨an, dn, rfl⟩ := own_form ho5
   refine hK.out _ _ ?_
   clear hK K
   refine norm_ (a' := ?_) ?_ ?_
   rotate_left
   ·show Act.put _ (some 45) _ = _
    simp only [Act.put, List.setIfInBounds_toArray, List.set_cons_zero, List.set_cons_succ, i64_w, i32_w]
    rfl
   refine pure_ (i := 11) (N := some 46) (v := ?_) (a' := ?_) (bs 13 4095) rfl rfl (by kernel_rfl) (fun _ _ _ h => h) (Or.inl ⟨by rfl, ?_⟩) ?_ ?_
   rotate_left
   ·intro w'
    go_simp
    with_reducible rfl
   rotate_left
   ·simp only [Act.put, List.setIfInBounds_toArray, List.set_cons_zero, List.set_cons_succ, i64_w, i32_w]
    rfl
   refine last_ (i := 12) (N := none) (bs 13 8191) rfl rfl (by kernel_rfl) (by decide) (fun K hK => ?_)
   have hblk5 := h4.blk.grown hg5 (blk_row h4.blk h4.r (by decide))
   have z1 := hblk5.cell 1 _ rfl
   have y1 := hblk5.frozen 1
   refine skip_ (w1 := ?_) (by rfl) rfl ?_ ?_
   rotate_left
   ·go_simp
    rfl
   refine hK.out _ _ ?_
   clear hK K
   refine done_ (by kernel_rfl) ?_
   have HN := Aside0.mk (h4.app rr (by rw [HLZ.out]; exact ho5) hg5)
   have BN5 : Blk w5 wr.heap.size #[.int .i64 r.f0, .int .i64 r.f1] 24 := (((HBN.out.drew.below hb3).alloc (.cells #[.int .i64 rr] 3)).grown hg5 (blk_row ((HBN.out.drew.below hb3).alloc (.cells #[.int .i64 rr] 3)) h4.r (by decide)))
   have hpne : wr.heap.size ≠ p := by omega
   have BN6 := BN5.set_other (p := ⟨p, 1, none⟩) hpne (.slice an lz dn)
   have m0 := BN6.cell 0 _ rfl
   have m1 := BN6.cell 1 _ rfl
   clear hHeld h4 ho5 hg5 hat5 q0 q1 kp1 n0 n1 z1 y1 hblk5 BN5 BN6
   generalize (w5.setCell ⟨p, 1, none⟩ (.slice an lz dn)) = w6' at *
   go_wp2_with fail
   refine (hsr _).mono ?_
   rintro e w7 ⟨rfl, hb⟩
   have HN2 := Aside0.mk (HN.out.below hb)
   clear hb
   go_wp2
   go_roundw
   case rel => exact ⟨k + 1, hlt, by rw [HNQ.out], by go_num, ⟨_, by rw [HNL.out, HRR.out]; exact HN2.out⟩⟩
   case measure => simp [intOf]; omega
  ·obtain rfl : k = x.f8.length := by omega
   have hltz : ¬ (x.f8.length : Int) < (x.f8.length : Int) := by omega
   obtain ⟨an, dn, rfl⟩ := own_form HT.out.r
   have t0 := HT.out.blk.cell 0 _ rfl
   have t1 := HT.out.blk.cell 1 _ rfl
   have z0 := HT.out.res.cell 0 _ rfl
   have z1 := HT.out.res.cell 1 _ rfl
   have y0 := HT.out.res.frozen 0
   have y1 := HT.out.res.frozen 1
   have b2 := (HT.out.res.set 0 (.int .i64 h0)).set 1 (.slice an (nls x.f8 q x.f8.length).length dn)
   have hne : some (w.heap.size + 1) ≠ Value.ownBlock (.slice an (nls x.f8 q x.f8.length).length dn) := blk_row HT.out.res HT.out.r (by decide)
   have h4 := own_setCell (own_setCell HT.out.r (p := ⟨w.heap.size + 1, 0, none⟩) hne (.int .i64 h0)) (p := ⟨w.heap.size + 1, 1, none⟩) hne (.slice an (nls x.f8 q x.f8.length).length dn)
   have hB := (HT.out.bel.setCell (p := ⟨w.heap.size + 1, 0, none⟩) (Nat.le_succ _) (.int .i64 h0)).setCell (p := ⟨w.heap.size + 1, 1, none⟩) (Nat.le_succ _) (.slice an (nls x.f8 q x.f8.length).length dn)
   have HEND := Aside0.mk (And.intro b2 (And.intro h4 hB))
   clear b2 hne h4 hB
   go_wp2
   have q0 := HEND.out.1.cell 0 _ rfl
   have q1 := HEND.out.1.cell 1 _ rfl
   refine bodyPost_ret (v := .agg #[.int .i64 h0, .slice an (nls x.f8 q x.f8.length).length dn]) (by simp [results, Try.results45, go_sem, hu2, q0, q1]) rfl ?_
   rw [HH.out, HH0.out]
   exact ⟨an, dn, rfl, HEND.out.2.2, HEND.out.2.1⟩
end Go.Proofs.Ytdgkhoflajdidaa
