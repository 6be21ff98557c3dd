/- Lemmas for the law's proof: Qi. -/
import Derived.Test.YtdgkhoflajdidaaNoLess01
import Derived.Test.YtdgkhoflajdidaaCore14
/- CopperNoLess: the walk. -/
namespace Go.Proofs.Ytdgkhoflajdidaa
open Go.RowKit Go.Proofs.YtdgkhoflajdidaaW.PrintWords Go.Proofs.YtdgkhoflajdidaaW.PrintMore Go.Proofs.YtdgkhoflajdidaaW.PrintLast Go.Proofs.Ytdgkhoflajdidaa.Print
set_option linter.unusedVariables false
set_option linter.unusedSimpArgs false
set_option maxRecDepth 100000
set_option maxHeartbeats 4000000
theorem nol_awake (x : S38) (cs : List Value) (wh : Int) (w : World) (hx : k38.K w x cs) (h : readyB x = false) : Calls Try.prog 18 #[.agg cs.toArray, .int .u16 wh] w fun e w' => e = .returned (.bool true) ∧ Below w.heap.size w w' := by
 have hthin := fun W (hW : Below w.heap.size w W) => ready_calls x cs W (k38.K_below hW hx)
 obtain ⟨A5, c5, A6, c6, A9, c9, A10, c10, rfl, _⟩ := k38_open hx
 clear hx
 have hu := Try.underlying28
 have ZB := Aside0.mk (below_alloc (Below.refl w.heap.size w) (.cells #[.int .i64 x.f0, .int .i64 x.f1, .int .i64 x.f2, .int .i64 x.f3, .int .i64 x.f4, .slice A5 x.f5.length c5, .slice A6 x.f6.length c6, .int .i64 x.f7.f0, .int .i64 x.f7.f1, .slice A9 x.f8.length c9, .slice A10 x.f9.length c10] 28))
 have hth := hthin _ ZB.out
 rw [h] at hth
 clear hthin h
 go_enter Try.func18, Try.ntmps18
 go_wp2_with fail
 refine hth.mono ?_
 rintro e w1 ⟨rfl, hb⟩
 have HB := Aside0.mk (bel2 ZB.out hb)
 clear hb hth
 go_wp2_with fail
 refine (awake_calls _).mono ?_
 rintro e w2 ⟨rfl, hb⟩
 have HB2 := Aside0.mk (bel2 HB.out hb)
 clear hb
 go_wp2
 go_ret
 exact ⟨rfl, HB2.out⟩
theorem own_list {w : World} {base : Nat} {A : Option Addr} {c : Nat} {l : List Int} (h : w.ownsRow base 3 1 (.slice A l.length c) l.length (nums .i64 l)) : Kd.C (Kd.int .i64) w A l.length l := by
 obtain ⟨A', c', e5, _, g5⟩ := own_C (Kd.int .i64) (.int .i64) rfl (fun _ _ => rfl) (xs := l) rfl (by simp [nums]) h
 simp only [Value.slice.injEq, true_and] at e5
 rw [e5.1]
 exact g5
theorem nol_main (x : S38) (cs : List Value) (wh : Nat) (hwh : wh < 65536) (w : World) (hx : k38.K w x cs) (h1 : readyB x = true) : Calls Try.prog 18 #[.agg cs.toArray, .int .u16 wh] w fun e w' => e = .returned (.bool true) ∧ Below w.heap.size w w' := by
 have hthin := fun W (hW : Below w.heap.size w W) => ready_calls x cs W (k38.K_below hW hx)
 rw [h1] at hthin
 obtain ⟨hT, hV⟩ := (readyB_iff x).1 h1
 have HCP := Aside0.mk (fun W (hW : Below w.heap.size w W) => copper_calls x cs W (k38.K_below hW hx) hT)
 have HCO := Aside0.mk (fun n (hn : n ≤ 100000) V (hb : Below w.heap.size w V) => rCoal_calls x cs n V (k38.K_below hb hx) hV.last0 hV.last1 hV.sh0 hV.sh1 hn)
 have HCS := Aside0.mk (fun V (hb : Below w.heap.size w V) => rCoals_calls x cs V (k38.K_below hb hx) hV.last0 hV.last1 hV.sh0 hV.sh1)
 have hls := fun W ds (hd : k38.K W x ds) => leastF_calls x ds W hd
 have hlk := fun W ds (hd : k38.K W x ds) => lacksF_calls x ds W hd
 have HPC := Aside0.mk (fun co many W ds B b (hd : k38.K W x ds) (hb : Kd.C (Kd.int .i64) W B co.length co) => proveC_calls x ds B b co many W hd hb)
 have HEA := Aside0.mk (fun A c l W (hb : Below w.heap.size w W) (hl : Kd.C (Kd.int .i64) W A l.length l) => each_calls x cs A c l x.f4 W (k38.K_below hb hx) hl)
 have hpw : (x.f4.toNat + 1) ^ (x.f0 + 1).toNat ≤ 1024 := Nat.le_trans (Nat.pow_le_pow_left (show x.f4.toNat + 1 ≤ 4 by have := hV.sh1; omega) _) (Nat.le_trans (Nat.pow_le_pow_right (by decide) (show (x.f0 + 1).toNat ≤ 5 by have := hV.last1; omega)) (by decide))
 have hp0 : 0 < (x.f4.toNat + 1) ^ (x.f0 + 1).toNat := Nat.pow_pos (Nat.succ_pos _)
 have hnl := noless hV (Nat.mod_lt wh hp0)
 have htl := coalX_ok hV (wh % (x.f4.toNat + 1) ^ (x.f0 + 1).toNat)
 have hfl := coalX_ok hV ((x.f4.toNat + 1) ^ (x.f0 + 1).toNat - 1)
 obtain ⟨A5, c5, A6, c6, A9, c9, A10, c10, rfl, _, g5, _⟩ := k38_open hx
 have HL5 := Aside0.mk (fun W (hW : Below w.heap.size w W) => listS_calls A5 c5 x.f5 W (Kd.C_below g5 hW) (by have := hV.coalN; have := hV.last1; omega))
 have HP5 := Aside0.mk (fun co many W ds B b (hd : k38.K W x ds) (hb : Kd.C (Kd.int .i64) W B co.length co) (p : Bool) (hp : proveCF x co many = p) => (hp ▸ proveC_calls x ds B b co many W hd hb : Calls Try.prog 64 #[.agg ds.toArray, .slice B co.length b, .int .i64 many] W fun e w' => e = .returned (.bool p) ∧ Below W.heap.size W w'))
 have hf4 := hV.sh1
 have hf0 := hV.last1
 have HFO := Aside0.mk (fun (l : List Int) (h : (l.length : Int) = x.f0 + 1 ∧ ∀ v ∈ l, 0 ≤ v ∧ v ≤ x.f4) => (forHours_iff hV.last0 hV.last1).2 h)
 clear hx h1 hT hV g5 HPC
 have hu := Try.underlying28
 have ZB := Aside0.mk (And.intro (below_alloc (Below.refl w.heap.size w) (.cells #[.int .i64 x.f0, .int .i64 x.f1, .int .i64 x.f2, .int .i64 x.f3, .int .i64 x.f4, .slice A5 x.f5.length c5, .slice A6 x.f6.length c6, .int .i64 x.f7.f0, .int .i64 x.f7.f1, .slice A9 x.f8.length c9, .slice A10 x.f9.length c10] 28)) (Blk.new w #[.int .i64 x.f0, .int .i64 x.f1, .int .i64 x.f2, .int .i64 x.f3, .int .i64 x.f4, .slice A5 x.f5.length c5, .slice A6 x.f6.length c6, .int .i64 x.f7.f0, .int .i64 x.f7.f1, .slice A9 x.f8.length c9, .slice A10 x.f9.length c10] 28 _ rfl))
 have hth := hthin _ ZB.out.1
 clear hthin
 have h3 : ∀ {l : List Int}, ((l.length : Int) = x.f0 + 1 ∧ ∀ v ∈ l, 0 ≤ v ∧ v ≤ x.f4) → l.length ≤ 5 ∧ ∀ v ∈ l, 0 ≤ v ∧ v ≤ 3 := fun h => ⟨by have := h.1; omega, fun v hv => ⟨(h.2 v hv).1, by have := (h.2 v hv).2; omega⟩⟩
 have HT3 := Aside0.mk (And.intro (h3 htl) (h3 hfl))
 have HL3 := Aside0.mk (@h3)
 obtain ⟨b, hb⟩ : ∃ b, x.f4.toNat + 1 = b := ⟨_, rfl⟩
 obtain ⟨d, hd⟩ : ∃ d, (x.f0 + 1).toNat = d := ⟨_, rfl⟩
 rw [hb, hd] at HCO HCS hnl hpw hp0 HT3
 clear htl hfl hb hd h3 hf4 hf0
 obtain ⟨M, hM⟩ : ∃ M, b ^ d = M := ⟨_, rfl⟩
 rw [hM] at HCS hnl hpw hp0 HT3
 have hml := Nat.mod_lt wh hp0
 have hmod := tmod_nat wh M
 obtain ⟨N1, hN1⟩ : ∃ N1, wh % M = N1 := ⟨_, rfl⟩
 rw [hN1] at hnl HT3 hml hmod
 obtain ⟨F, hF⟩ : ∃ F, M - 1 = F := ⟨_, rfl⟩
 rw [hF] at hnl HT3
 have hwf : wrap64 ((M : Int) - 1) = (F : Int) := by rw [show (M : Int) - 1 = (F : Int) by omega]; exact IntWalk.wrap64_in _ (by omega)
 have hwf2 : IntKind.i64.wrap ((M : Int) - 1) = (F : Int) := (i64_w _).trans hwf
 have hF2 : F ≤ 100000 := by omega
 have hMz : (M : Int) ≤ 1024 := by omega
 have hM0 : ¬ M = 0 := by omega
 have hMb : ((M : Int) == 0) = false := by simp; omega
 have hN2 : N1 ≤ 100000 := by omega
 have hww : wrap64 (wh : Int) = (wh : Int) := IntWalk.wrap64_in _ (by omega)
 have hww2 : IntKind.i64.wrap (wh : Int) = (wh : Int) := (i64_w _).trans hww
 have HC1 := Aside0.mk (fun V hb => HCO.out N1 hN2 V hb)
 have HC2 := Aside0.mk (fun V hb => HCO.out F hF2 V hb)
 clear hM hp0 hpw hN1 hF hF2 hN2 hml HCO
 generalize coalX b d N1 = tr at *
 generalize coalX b d F = fu at *
 obtain ⟨lv, hlv⟩ : ∃ l, (leastF x).1 = l := ⟨_, rfl⟩
 obtain ⟨le, hle⟩ : ∃ l, (leastF x).2 = l := ⟨_, rfl⟩
 obtain ⟨kn, hkn⟩ : ∃ l, (lacksF x).1 = l := ⟨_, rfl⟩
 obtain ⟨ke, hke⟩ : ∃ l, (lacksF x).2 = l := ⟨_, rfl⟩
 obtain ⟨is, his⟩ : ∃ l, proveCF x tr 99 = l := ⟨_, rfl⟩
 obtain ⟨own, hown⟩ : ∃ l, proveCF x x.f5 99 = l := ⟨_, rfl⟩
 have q1 := hnl.own
 have q2 := hnl.lack
 have q3 := hnl.bad
 have q4 := hnl.good
 unfold LeastPost at hls
 rw [hlv, hle] at hls
 rw [hkn, hke] at hlk
 rw [hke] at q1 q2
 rw [hown] at q1
 rw [hle, his, hown] at q3
 rw [hlv, hle, his] at q4
 have HLS := Aside0.mk hls
 have HLK := Aside0.mk hlk
 have HIS := Lib.hid (And.intro his hown)
 have HQ := Aside0.mk (And.intro q1 (And.intro q2 (And.intro q3 q4)))
 clear hls hlk hnl hlv hle hkn hke his hown q1 q2 q3 q4
 go_enter Try.func18, Try.ntmps18
 go_wp2_with fail
 refine hth.mono ?_
 rintro e w1 ⟨rfl, hb⟩
 have H1 := Aside0.mk (And.intro (bel2 ZB.out.1 hb) (ZB.out.2.below hb))
 clear hb hth ZB
 have k0 := H1.out.2.cell 0 _ rfl
 have k1 := H1.out.2.cell 1 _ rfl
 have k2 := H1.out.2.cell 2 _ rfl
 have k3 := H1.out.2.cell 3 _ rfl
 have k4 := H1.out.2.cell 4 _ rfl
 have k5 := H1.out.2.cell 5 _ rfl
 have k6 := H1.out.2.cell 6 _ rfl
 have k7 := H1.out.2.cell 7 _ rfl
 have k8 := H1.out.2.cell 8 _ rfl
 have k9 := H1.out.2.cell 9 _ rfl
 have k10 := H1.out.2.cell 10 _ rfl
 have HB0 := Aside0.mk (bel2 H1.out.1 (below_drew (Below.refl w1.heap.size w1)))
 go_wp2
 refine start_ (n := 14) (S := fun w' => w'.cell? ⟨w.heap.size, 0, none⟩ = some (.int .i64 x.f0) ∧ w'.cell? ⟨w.heap.size, 1, none⟩ = some (.int .i64 x.f1) ∧ w'.cell? ⟨w.heap.size, 2, none⟩ = some (.int .i64 x.f2) ∧ w'.cell? ⟨w.heap.size, 3, none⟩ = some (.int .i64 x.f3) ∧ w'.cell? ⟨w.heap.size, 4, none⟩ = some (.int .i64 x.f4) ∧ w'.cell? ⟨w.heap.size, 5, none⟩ = some (.slice A5 x.f5.length c5) ∧ w'.cell? ⟨w.heap.size, 6, none⟩ = some (.slice A6 x.f6.length c6) ∧ w'.cell? ⟨w.heap.size, 7, none⟩ = some (.int .i64 x.f7.f0) ∧ w'.cell? ⟨w.heap.size, 8, none⟩ = some (.int .i64 x.f7.f1) ∧ w'.cell? ⟨w.heap.size, 9, none⟩ = some (.slice A9 x.f8.length c9) ∧ w'.cell? ⟨w.heap.size, 10, none⟩ = some (.slice A10 x.f9.length c10)) (ds := []) #[false, false, false, false, false, false, false, false, false, false, false, false, false, false] (by kernel_rfl) rfl rfl ⟨k0, k1, k2, k3, k4, k5, k6, k7, k8, k9, k10⟩ (fun hHeld => ?_)
 refine pure_ (i := 1) (N := some 20) (v := ?_) (a' := ?_) (bs 14 2) rfl rfl (by kernel_rfl) (fun _ _ _ h => h) (Or.inl ⟨by rfl, ?_⟩) ?_ ?_
 rotate_left
 ·intro w'
  go_simp
  with_reducible rfl
 rotate_left
 ·simp only [Act.put, List.setIfInBounds_toArray, List.set_cons_zero, List.set_cons_succ, i64_w, i32_w]
  rfl
 refine pure_ (i := 2) (N := some 21) (v := ?_) (a' := ?_) (bs 14 6) rfl rfl (by kernel_rfl) (fun _ _ _ h => h) (Or.inl ⟨by rfl, ?_⟩) ?_ ?_
 rotate_left
 ·intro w'
  go_simp
  with_reducible rfl
 rotate_left
 ·simp only [Act.put, List.setIfInBounds_toArray, List.set_cons_zero, List.set_cons_succ, i64_w, i32_w]
  rfl
 refine take_ (i := 0) (N := some 19) (v := ?_) (a' := ?_) (bs 14 7) rfl rfl (by kernel_rfl) (fun _ _ _ h => h) (Or.inl ⟨by rfl, ?_⟩) hHeld ?_ ?_
 rotate_left
 ·rintro w' ⟨s0, s1, s2, s3, s4, s5, s6, s7, s8, s9, s10⟩
  go_simp
  with_reducible rfl
 rotate_left
 ·simp only [Act.put, List.setIfInBounds_toArray, List.set_cons_zero, List.set_cons_succ, i64_w, i32_w]
  rfl
 refine take_ (i := 3) (N := some 22) (v := ?_) (a' := ?_) (bs 14 15) rfl rfl (by kernel_rfl) (fun _ _ _ h => h) (Or.inl ⟨by rfl, ?_⟩) hHeld ?_ ?_
 rotate_left
 ·rintro w' ⟨s0, s1, s2, s3, s4, s5, s6, s7, s8, s9, s10⟩
  go_simp
  with_reducible rfl
 rotate_left
 ·simp only [Act.put, List.setIfInBounds_toArray, List.set_cons_zero, List.set_cons_succ, i64_w, i32_w]
  rfl
 refine take_ (i := 7) (N := some 26) (v := ?_) (a' := ?_) (bs 14 143) rfl rfl (by kernel_rfl) (fun _ _ _ h => h) (Or.inl ⟨by rfl, ?_⟩) hHeld ?_ ?_
 rotate_left
 ·rintro w' ⟨s0, s1, s2, s3, s4, s5, s6, s7, s8, s9, s10⟩
  go_simp
  with_reducible rfl
 rotate_left
 ·simp only [Act.put, List.setIfInBounds_toArray, List.set_cons_zero, List.set_cons_succ, i64_w, i32_w]
  rfl
 refine take_ (i := 8) (N := some 27) (v := ?_) (a' := ?_) (bs 14 399) rfl rfl (by kernel_rfl) (fun _ _ _ h => h) (Or.inl ⟨by rfl, ?_⟩) hHeld ?_ ?_
 rotate_left
 ·rintro w' ⟨s0, s1, s2, s3, s4, s5, s6, s7, s8, s9, s10⟩
  go_simp
  with_reducible rfl
 rotate_left
 ·simp only [Act.put, List.setIfInBounds_toArray, List.set_cons_zero, List.set_cons_succ, i64_w, i32_w]
  rfl
 refine one_ (i := 4) (N := some 23) (bs 14 415) rfl rfl (by kernel_rfl) (by decide) (fun K hK => ?_)
 refine goes_ Try.func50 (by kernel_rfl) rfl #[.agg #[.int .i64 x.f0, .int .i64 x.f1, .int .i64 x.f2, .int .i64 x.f3, .int .i64 x.f4, .slice A5 x.f5.length c5, .slice A6 x.f6.length c6, .int .i64 x.f7.f0, .int .i64 x.f7.f1, .slice A9 x.f8.length c9, .slice A10 x.f9.length c10]] (by rfl) rfl rfl (by simp only [List.map_toArray, List.map_cons, List.map_nil]; rfl) ?_
 with_reducible refine (HCS.out _ HB0.out).mono ?_
 rintro e w2 ⟨rfl, hb2⟩
 refine ⟨_, rfl, ?_⟩
 refine hK.out _ _ ⟨pw_cell_below hb2 (hHeld.1), pw_cell_below hb2 (hHeld.2.1), pw_cell_below hb2 (hHeld.2.2.1), pw_cell_below hb2 (hHeld.2.2.2.1), pw_cell_below hb2 (hHeld.2.2.2.2.1), pw_cell_below hb2 (hHeld.2.2.2.2.2.1), pw_cell_below hb2 (hHeld.2.2.2.2.2.2.1), pw_cell_below hb2 (hHeld.2.2.2.2.2.2.2.1), pw_cell_below hb2 (hHeld.2.2.2.2.2.2.2.2.1), pw_cell_below hb2 (hHeld.2.2.2.2.2.2.2.2.2.1), pw_cell_below hb2 (hHeld.2.2.2.2.2.2.2.2.2.2)⟩ (fun hHeld => ?_)
 clear hK K
 refine norm_ (a' := ?_) ?_ ?_
 rotate_left
 ·show Act.put _ (some 23) _ = _
  simp only [Act.put, List.setIfInBounds_toArray, List.set_cons_zero, List.set_cons_succ, i64_w, i32_w]
  rfl
 refine pure_ (i := 5) (N := some 24) (v := ?_) (a' := ?_) (bs 14 447) rfl rfl (by kernel_rfl) (fun _ _ _ h => h) (Or.inl ⟨by rfl, ?_⟩) ?_ ?_
 rotate_left
 ·intro w'
  go_simp
  with_reducible rfl
 rotate_left
 ·simp only [Act.put, List.setIfInBounds_toArray, List.set_cons_zero, List.set_cons_succ, i64_w, i32_w]
  rfl
 refine one_ (i := 6) (N := some 25) (bs 14 511) rfl rfl (by kernel_rfl) (by decide) (fun K hK => ?_)
 refine goes_ Try.func49 (by kernel_rfl) rfl #[.agg #[.int .i64 x.f0, .int .i64 x.f1, .int .i64 x.f2, .int .i64 x.f3, .int .i64 x.f4, .slice A5 x.f5.length c5, .slice A6 x.f6.length c6, .int .i64 x.f7.f0, .int .i64 x.f7.f1, .slice A9 x.f8.length c9, .slice A10 x.f9.length c10], .int .i64 N1] (by rfl) rfl rfl (by simp only [List.map_toArray, List.map_cons, List.map_nil]; rfl) ?_
 with_reducible refine (HC1.out _ (bel2 HB0.out hb2)).mono ?_
 rintro e w3 ⟨At, at_, rfl, hb3, ho3⟩
 refine ⟨_, rfl, ?_⟩
 refine hK.out _ _ ⟨pw_cell_below hb3 (hHeld.1), pw_cell_below hb3 (hHeld.2.1), pw_cell_below hb3 (hHeld.2.2.1), pw_cell_below hb3 (hHeld.2.2.2.1), pw_cell_below hb3 (hHeld.2.2.2.2.1), pw_cell_below hb3 (hHeld.2.2.2.2.2.1), pw_cell_below hb3 (hHeld.2.2.2.2.2.2.1), pw_cell_below hb3 (hHeld.2.2.2.2.2.2.2.1), pw_cell_below hb3 (hHeld.2.2.2.2.2.2.2.2.1), pw_cell_below hb3 (hHeld.2.2.2.2.2.2.2.2.2.1), pw_cell_below hb3 (hHeld.2.2.2.2.2.2.2.2.2.2)⟩ (fun hHeld => ?_)
 clear hK K
 refine norm_ (a' := ?_) ?_ ?_
 rotate_left
 ·show Act.put _ (some 25) _ = _
  simp only [Act.put, List.setIfInBounds_toArray, List.set_cons_zero, List.set_cons_succ, i64_w, i32_w]
  rfl
 refine one_ (i := 9) (N := some 28) (bs 14 1023) rfl rfl (by kernel_rfl) (by decide) (fun K hK => ?_)
 refine goes_ Try.func50 (by kernel_rfl) rfl #[.agg #[.int .i64 x.f0, .int .i64 x.f1, .int .i64 x.f2, .int .i64 x.f3, .int .i64 x.f4, .slice A5 x.f5.length c5, .slice A6 x.f6.length c6, .int .i64 x.f7.f0, .int .i64 x.f7.f1, .slice A9 x.f8.length c9, .slice A10 x.f9.length c10]] (by rfl) rfl rfl (by simp only [List.map_toArray, List.map_cons, List.map_nil]; rfl) ?_
 with_reducible refine (HCS.out _ (bel2 (bel2 HB0.out hb2) hb3)).mono ?_
 rintro e w4 ⟨rfl, hb4⟩
 refine ⟨_, rfl, ?_⟩
 refine hK.out _ _ ⟨pw_cell_below hb4 (hHeld.1), pw_cell_below hb4 (hHeld.2.1), pw_cell_below hb4 (hHeld.2.2.1), pw_cell_below hb4 (hHeld.2.2.2.1), pw_cell_below hb4 (hHeld.2.2.2.2.1), pw_cell_below hb4 (hHeld.2.2.2.2.2.1), pw_cell_below hb4 (hHeld.2.2.2.2.2.2.1), pw_cell_below hb4 (hHeld.2.2.2.2.2.2.2.1), pw_cell_below hb4 (hHeld.2.2.2.2.2.2.2.2.1), pw_cell_below hb4 (hHeld.2.2.2.2.2.2.2.2.2.1), pw_cell_below hb4 (hHeld.2.2.2.2.2.2.2.2.2.2)⟩ (fun hHeld => ?_)
 clear hK K
 refine norm_ (a' := ?_) ?_ ?_
 rotate_left
 ·show Act.put _ (some 28) _ = _
  simp only [Act.put, List.setIfInBounds_toArray, List.set_cons_zero, List.set_cons_succ, i64_w, i32_w]
  rfl
 refine pure_ (i := 10) (N := some 29) (v := ?_) (a' := ?_) (bs 14 2047) rfl rfl (by kernel_rfl) (fun _ _ _ h => h) (Or.inl ⟨by rfl, ?_⟩) ?_ ?_
 rotate_left
 ·intro w'
  go_simp
  with_reducible rfl
 rotate_left
 ·simp only [Act.put, List.setIfInBounds_toArray, List.set_cons_zero, List.set_cons_succ, i64_w, i32_w]
  rfl
 refine one_ (i := 11) (N := some 30) (bs 14 4095) rfl rfl (by kernel_rfl) (by decide) (fun K hK => ?_)
 refine goes_ Try.func49 (by kernel_rfl) rfl #[.agg #[.int .i64 x.f0, .int .i64 x.f1, .int .i64 x.f2, .int .i64 x.f3, .int .i64 x.f4, .slice A5 x.f5.length c5, .slice A6 x.f6.length c6, .int .i64 x.f7.f0, .int .i64 x.f7.f1, .slice A9 x.f8.length c9, .slice A10 x.f9.length c10], .int .i64 F] (by rfl) rfl rfl (by simp only [List.map_toArray, List.map_cons, List.map_nil]; rfl) ?_
 with_reducible refine (HC2.out _ (bel2 (bel2 (bel2 HB0.out hb2) hb3) hb4)).mono ?_
 rintro e w5 ⟨Af, af_, rfl, hb5, ho5⟩
 refine ⟨_, rfl, ?_⟩
 refine hK.out _ _ ⟨pw_cell_below hb5 (hHeld.1), pw_cell_below hb5 (hHeld.2.1), pw_cell_below hb5 (hHeld.2.2.1), pw_cell_below hb5 (hHeld.2.2.2.1), pw_cell_below hb5 (hHeld.2.2.2.2.1), pw_cell_below hb5 (hHeld.2.2.2.2.2.1), pw_cell_below hb5 (hHeld.2.2.2.2.2.2.1), pw_cell_below hb5 (hHeld.2.2.2.2.2.2.2.1), pw_cell_below hb5 (hHeld.2.2.2.2.2.2.2.2.1), pw_cell_below hb5 (hHeld.2.2.2.2.2.2.2.2.2.1), pw_cell_below hb5 (hHeld.2.2.2.2.2.2.2.2.2.2)⟩ (fun hHeld => ?_)
 clear hK K
 refine norm_ (a' := ?_) ?_ ?_
 rotate_left
 ·show Act.put _ (some 30) _ = _
  simp only [Act.put, List.setIfInBounds_toArray, List.set_cons_zero, List.set_cons_succ, i64_w, i32_w]
  rfl
 refine pure_ (i := 12) (N := some 5) (v := ?_) (a' := ?_) (bs 14 8191) rfl rfl (by kernel_rfl) (fun _ _ _ h => h) (Or.inl ⟨by rfl, ?_⟩) ?_ ?_
 rotate_left
 ·intro w'
  go_simp
  with_reducible rfl
 rotate_left
 ·simp only [Act.put, List.setIfInBounds_toArray, List.set_cons_zero, List.set_cons_succ, i64_w, i32_w]
  rfl
 refine pure_ (i := 13) (N := some 6) (v := ?_) (a' := ?_) (bs 14 16383) rfl rfl (by kernel_rfl) (fun _ _ _ h => h) (Or.inl ⟨by rfl, ?_⟩) ?_ ?_
 rotate_left
 ·intro w'
  go_simp
  with_reducible rfl
 rotate_left
 ·simp only [Act.put, List.setIfInBounds_toArray, List.set_cons_zero, List.set_cons_succ, i64_w, i32_w]
  rfl
 refine done_ (by kernel_rfl) ?_
 have hB := bel2 (bel2 (bel2 (bel2 (below_drew (Below.refl w1.heap.size w1)) hb2) hb3) hb4) hb5
 have HP := Aside0.mk (fun W V (h : Kd.C (Kd.int .i64) W At tr.length tr ∧ Kd.C (Kd.int .i64) W Af fu.length fu) (hb : Below W.heap.size W V) => And.intro (Kd.C_below h.1 hb) (Kd.C_below h.2 hb))
 have H2 := Aside0.mk (LwSt.mk (w := w) (B := #[.int .i64 x.f0, .int .i64 x.f1, .int .i64 x.f2, .int .i64 x.f3, .int .i64 x.f4, .slice A5 x.f5.length c5, .slice A6 x.f6.length c6, .int .i64 x.f7.f0, .int .i64 x.f7.f1, .slice A9 x.f8.length c9, .slice A10 x.f9.length c10]) (P := fun W => Kd.C (Kd.int .i64) W At tr.length tr ∧ Kd.C (Kd.int .i64) W Af fu.length fu) (bel2 H1.out.1 hB) (H1.out.2.below hB) ⟨Kd.C_below (own_list ho3) (bel2 hb4 hb5), own_list ho5⟩)
 clear hHeld hB hb2 hb3 hb4 hb5 ho3 ho5 k0 k1 k2 k3 k4 k5 k6 k7 k8 k9 k10 H1 HB0 hmod hwf hwf2 hww hww2
 have k0 := H2.out.box.cell 0 _ rfl
 have k1 := H2.out.box.cell 1 _ rfl
 have k2 := H2.out.box.cell 2 _ rfl
 have k3 := H2.out.box.cell 3 _ rfl
 have k4 := H2.out.box.cell 4 _ rfl
 have k5 := H2.out.box.cell 5 _ rfl
 have k6 := H2.out.box.cell 6 _ rfl
 have k7 := H2.out.box.cell 7 _ rfl
 have k8 := H2.out.box.cell 8 _ rfl
 have k9 := H2.out.box.cell 9 _ rfl
 have k10 := H2.out.box.cell 10 _ rfl
 go_wp2_with fail
 refine (HCP.out _ H2.out.bel).mono ?_
 rintro e w6 ⟨ds, rfl, hb, hkd⟩
 have H3 := Aside0.mk (H2.out.step HP.out hb)
 clear hb H2 k0 k1 k2 k3 k4 k5 k6 k7 k8 k9 k10
 go_wp2_with fail
 refine (HLS.out _ ds hkd).mono ?_
 rintro e w7 ⟨Al, cl, rfl, hcl, hb⟩
 have HP2 := Aside0.mk (fun W V (h : (Kd.C (Kd.int .i64) W At tr.length tr ∧ Kd.C (Kd.int .i64) W Af fu.length fu) ∧ Kd.C (Kd.int .i64) W Al lv.length lv) (hb : Below W.heap.size W V) => And.intro (HP.out W V h.1 hb) (Kd.C_below h.2 hb))
 have H4 := Aside0.mk (LwSt.mk (w := w) (B := #[.int .i64 x.f0, .int .i64 x.f1, .int .i64 x.f2, .int .i64 x.f3, .int .i64 x.f4, .slice A5 x.f5.length c5, .slice A6 x.f6.length c6, .int .i64 x.f7.f0, .int .i64 x.f7.f1, .slice A9 x.f8.length c9, .slice A10 x.f9.length c10]) (P := fun W => (Kd.C (Kd.int .i64) W At tr.length tr ∧ Kd.C (Kd.int .i64) W Af fu.length fu) ∧ Kd.C (Kd.int .i64) W Al lv.length lv) (bel2 H3.out.bel hb) (H3.out.box.below hb) ⟨HP.out _ _ H3.out.rows hb, hcl⟩)
 clear hb hcl hkd H3 HLS
 have k0 := H4.out.box.cell 0 _ rfl
 have k1 := H4.out.box.cell 1 _ rfl
 have k2 := H4.out.box.cell 2 _ rfl
 have k3 := H4.out.box.cell 3 _ rfl
 have k4 := H4.out.box.cell 4 _ rfl
 have k5 := H4.out.box.cell 5 _ rfl
 have k6 := H4.out.box.cell 6 _ rfl
 have k7 := H4.out.box.cell 7 _ rfl
 have k8 := H4.out.box.cell 8 _ rfl
 have k9 := H4.out.box.cell 9 _ rfl
 have k10 := H4.out.box.cell 10 _ rfl
 go_wp2_with fail
 refine (HCP.out _ H4.out.bel).mono ?_
 rintro e w8 ⟨es, rfl, hb, hkd⟩
 have H5 := Aside0.mk (H4.out.step HP2.out hb)
 clear hb H4 k0 k1 k2 k3 k4 k5 k6 k7 k8 k9 k10
 go_wp2_with fail
 refine (HLK.out _ es hkd).mono ?_
 rintro e w9 ⟨rfl, hb⟩
 have H6 := Aside0.mk (H5.out.step HP2.out hb)
 clear hb hkd H5 HLK
 have k0 := H6.out.box.cell 0 _ rfl
 have k1 := H6.out.box.cell 1 _ rfl
 have k2 := H6.out.box.cell 2 _ rfl
 have k3 := H6.out.box.cell 3 _ rfl
 have k4 := H6.out.box.cell 4 _ rfl
 have k5 := H6.out.box.cell 5 _ rfl
 have k6 := H6.out.box.cell 6 _ rfl
 have k7 := H6.out.box.cell 7 _ rfl
 have k8 := H6.out.box.cell 8 _ rfl
 have k9 := H6.out.box.cell 9 _ rfl
 have k10 := H6.out.box.cell 10 _ rfl
 go_wp2_with fail
 refine (HCP.out _ H6.out.bel).mono ?_
 rintro e w10 ⟨fs, rfl, hb, hkd⟩
 have H7 := Aside0.mk (H6.out.step HP2.out hb)
 clear hb H6 k0 k1 k2 k3 k4 k5 k6 k7 k8 k9 k10
 go_wp2_with fail
 refine (listS_calls At _ tr _ H7.out.rows.1.1 (by have := HT3.out.1.1; omega)).mono ?_
 rintro e w11 ⟨Bm, bm, rfl, hro, hb⟩
 have hpr := HP5.out tr 99 w11 fs Bm bm (k38.K_below hb hkd) (own_list hro) is HIS.out.1
 have H8 := Aside0.mk (H7.out.step HP2.out hb)
 clear hb H7 hkd hro
 go_wp2_with fail
 refine hpr.mono ?_
 rintro e w12 ⟨rfl, hb⟩
 have H9 := Aside0.mk (H8.out.step HP2.out hb)
 clear hb H8 hpr
 have k0 := H9.out.box.cell 0 _ rfl
 have k1 := H9.out.box.cell 1 _ rfl
 have k2 := H9.out.box.cell 2 _ rfl
 have k3 := H9.out.box.cell 3 _ rfl
 have k4 := H9.out.box.cell 4 _ rfl
 have k5 := H9.out.box.cell 5 _ rfl
 have k6 := H9.out.box.cell 6 _ rfl
 have k7 := H9.out.box.cell 7 _ rfl
 have k8 := H9.out.box.cell 8 _ rfl
 have k9 := H9.out.box.cell 9 _ rfl
 have k10 := H9.out.box.cell 10 _ rfl
 have HB1 := Aside0.mk (bel2 H9.out.bel (below_drew (Below.refl w12.heap.size w12)))
 go_wp2
 refine start_ (n := 7) (S := fun w' => w'.cell? ⟨w.heap.size, 0, none⟩ = some (.int .i64 x.f0) ∧ w'.cell? ⟨w.heap.size, 1, none⟩ = some (.int .i64 x.f1) ∧ w'.cell? ⟨w.heap.size, 2, none⟩ = some (.int .i64 x.f2) ∧ w'.cell? ⟨w.heap.size, 3, none⟩ = some (.int .i64 x.f3) ∧ w'.cell? ⟨w.heap.size, 4, none⟩ = some (.int .i64 x.f4) ∧ w'.cell? ⟨w.heap.size, 5, none⟩ = some (.slice A5 x.f5.length c5) ∧ w'.cell? ⟨w.heap.size, 6, none⟩ = some (.slice A6 x.f6.length c6) ∧ w'.cell? ⟨w.heap.size, 7, none⟩ = some (.int .i64 x.f7.f0) ∧ w'.cell? ⟨w.heap.size, 8, none⟩ = some (.int .i64 x.f7.f1) ∧ w'.cell? ⟨w.heap.size, 9, none⟩ = some (.slice A9 x.f8.length c9) ∧ w'.cell? ⟨w.heap.size, 10, none⟩ = some (.slice A10 x.f9.length c10)) (ds := []) #[false, false, false, false, false, false, false] (by kernel_rfl) rfl rfl ⟨k0, k1, k2, k3, k4, k5, k6, k7, k8, k9, k10⟩ (fun hHeld => ?_)
 refine pure_ (i := 2) (N := some 50) (v := ?_) (a' := ?_) (bs 7 4) rfl rfl (by kernel_rfl) (fun _ _ _ h => h) (Or.inl ⟨by rfl, ?_⟩) ?_ ?_
 rotate_left
 ·intro w'
  go_simp
  with_reducible rfl
 rotate_left
 ·simp only [Act.put, List.setIfInBounds_toArray, List.set_cons_zero, List.set_cons_succ, i64_w, i32_w]
  rfl
 refine take_ (i := 0) (N := some 48) (v := ?_) (a' := ?_) (bs 7 5) rfl rfl (by kernel_rfl) (fun _ _ _ h => h) (Or.inl ⟨by rfl, ?_⟩) hHeld ?_ ?_
 rotate_left
 ·rintro w' ⟨s0, s1, s2, s3, s4, s5, s6, s7, s8, s9, s10⟩
  go_simp
  with_reducible rfl
 rotate_left
 ·simp only [Act.put, List.setIfInBounds_toArray, List.set_cons_zero, List.set_cons_succ, i64_w, i32_w]
  rfl
 refine take_ (i := 3) (N := some 51) (v := ?_) (a' := ?_) (bs 7 13) rfl rfl (by kernel_rfl) (fun _ _ _ h => h) (Or.inl ⟨by rfl, ?_⟩) hHeld ?_ ?_
 rotate_left
 ·rintro w' ⟨s0, s1, s2, s3, s4, s5, s6, s7, s8, s9, s10⟩
  go_simp
  with_reducible rfl
 rotate_left
 ·simp only [Act.put, List.setIfInBounds_toArray, List.set_cons_zero, List.set_cons_succ, i64_w, i32_w]
  rfl
 refine one_ (i := 1) (N := some 49) (bs 7 15) rfl rfl (by kernel_rfl) (by decide) (fun K hK => ?_)
 refine goes_ Try.func22 (by kernel_rfl) rfl #[.agg #[.int .i64 x.f0, .int .i64 x.f1, .int .i64 x.f2, .int .i64 x.f3, .int .i64 x.f4, .slice A5 x.f5.length c5, .slice A6 x.f6.length c6, .int .i64 x.f7.f0, .int .i64 x.f7.f1, .slice A9 x.f8.length c9, .slice A10 x.f9.length c10]] (by rfl) rfl rfl (by simp only [List.map_toArray, List.map_cons, List.map_nil]; rfl) ?_
 with_reducible refine (HCP.out _ HB1.out).mono ?_
 rintro e w13 ⟨d13, rfl, hb13, hkd13⟩
 refine ⟨_, rfl, ?_⟩
 refine hK.out _ _ ⟨pw_cell_below hb13 (hHeld.1), pw_cell_below hb13 (hHeld.2.1), pw_cell_below hb13 (hHeld.2.2.1), pw_cell_below hb13 (hHeld.2.2.2.1), pw_cell_below hb13 (hHeld.2.2.2.2.1), pw_cell_below hb13 (hHeld.2.2.2.2.2.1), pw_cell_below hb13 (hHeld.2.2.2.2.2.2.1), pw_cell_below hb13 (hHeld.2.2.2.2.2.2.2.1), pw_cell_below hb13 (hHeld.2.2.2.2.2.2.2.2.1), pw_cell_below hb13 (hHeld.2.2.2.2.2.2.2.2.2.1), pw_cell_below hb13 (hHeld.2.2.2.2.2.2.2.2.2.2)⟩ (fun hHeld => ?_)
 clear hK K
 refine norm_ (a' := ?_) ?_ ?_
 rotate_left
 ·show Act.put _ (some 49) _ = _
  simp only [Act.put, List.setIfInBounds_toArray, List.set_cons_zero, List.set_cons_succ, i64_w, i32_w]
  rfl
 refine one_ (i := 4) (N := some 52) (bs 7 31) rfl rfl (by kernel_rfl) (by decide) (fun K hK => ?_)
 refine goes_ Try.func27 (by kernel_rfl) rfl #[.slice A5 x.f5.length c5] (by rfl) rfl rfl (by simp only [List.map_toArray, List.map_cons, List.map_nil]; rfl) ?_
 with_reducible refine (HL5.out _ (bel2 HB1.out hb13)).mono ?_
 rintro e w14 ⟨B14, b14, rfl, ho14, hb14⟩
 refine ⟨_, rfl, ?_⟩
 refine hK.out _ _ ⟨pw_cell_below hb14 (hHeld.1), pw_cell_below hb14 (hHeld.2.1), pw_cell_below hb14 (hHeld.2.2.1), pw_cell_below hb14 (hHeld.2.2.2.1), pw_cell_below hb14 (hHeld.2.2.2.2.1), pw_cell_below hb14 (hHeld.2.2.2.2.2.1), pw_cell_below hb14 (hHeld.2.2.2.2.2.2.1), pw_cell_below hb14 (hHeld.2.2.2.2.2.2.2.1), pw_cell_below hb14 (hHeld.2.2.2.2.2.2.2.2.1), pw_cell_below hb14 (hHeld.2.2.2.2.2.2.2.2.2.1), pw_cell_below hb14 (hHeld.2.2.2.2.2.2.2.2.2.2)⟩ (fun hHeld => ?_)
 clear hK K
 refine norm_ (a' := ?_) ?_ ?_
 rotate_left
 ·show Act.put _ (some 52) _ = _
  simp only [Act.put, List.setIfInBounds_toArray, List.set_cons_zero, List.set_cons_succ, i64_w, i32_w]
  rfl
 refine one_ (i := 5) (N := some 53) (bs 7 63) rfl rfl (by kernel_rfl) (by decide) (fun K hK => ?_)
 refine goes_ Try.func64 (by kernel_rfl) rfl #[.agg d13.toArray, .slice B14 x.f5.length b14, .int .i64 99] (by rfl) rfl rfl (by simp only [List.map_toArray, List.map_cons, List.map_nil]; rfl) ?_
 with_reducible refine (HP5.out x.f5 99 w14 d13 B14 b14 (k38.K_below hb14 hkd13) (own_list ho14) own HIS.out.2).mono ?_
 rintro e w15 ⟨rfl, hb15⟩
 refine ⟨_, rfl, ?_⟩
 refine hK.out _ _ ⟨pw_cell_below hb15 (hHeld.1), pw_cell_below hb15 (hHeld.2.1), pw_cell_below hb15 (hHeld.2.2.1), pw_cell_below hb15 (hHeld.2.2.2.1), pw_cell_below hb15 (hHeld.2.2.2.2.1), pw_cell_below hb15 (hHeld.2.2.2.2.2.1), pw_cell_below hb15 (hHeld.2.2.2.2.2.2.1), pw_cell_below hb15 (hHeld.2.2.2.2.2.2.2.1), pw_cell_below hb15 (hHeld.2.2.2.2.2.2.2.2.1), pw_cell_below hb15 (hHeld.2.2.2.2.2.2.2.2.2.1), pw_cell_below hb15 (hHeld.2.2.2.2.2.2.2.2.2.2)⟩ (fun hHeld => ?_)
 clear hK K
 refine norm_ (a' := ?_) ?_ ?_
 rotate_left
 ·show Act.put _ (some 53) _ = _
  simp only [Act.put, List.setIfInBounds_toArray, List.set_cons_zero, List.set_cons_succ, i64_w, i32_w]
  rfl
 refine pure_ (i := 6) (N := some 12) (v := ?_) (a' := ?_) (bs 7 127) rfl rfl (by kernel_rfl) (fun _ _ _ h => h) (Or.inl ⟨by rfl, ?_⟩) ?_ ?_
 rotate_left
 ·intro w'
  go_simp
  with_reducible rfl
 rotate_left
 ·simp only [Act.put, List.setIfInBounds_toArray, List.set_cons_zero, List.set_cons_succ, i64_w, i32_w]
  rfl
 refine done_ (by kernel_rfl) ?_
 have hB := bel2 (bel2 (bel2 (below_drew (Below.refl w12.heap.size w12)) hb13) hb14) hb15
 have H10 := Aside0.mk (H9.out.step HP2.out hB)
 clear hHeld hB hb13 hb14 hb15 hkd13 ho14 k0 k1 k2 k3 k4 k5 k6 k7 k8 k9 k10 H9 HB1
 go_upto_region 8 with fail
 go_cut [69] from 15 (fun s69 wc => s69 = .bool false ∧ wc = w15)
 case first =>
  have q1 := HQ.out.1
  rcases HQ.out.2.1 with rfl | rfl | rfl
  ·obtain rfl : own = false := q1
   go_wp2_with fail
   go_meet
   case rel => exact ⟨rfl, rfl⟩
  ·obtain rfl : own = true := q1
   go_wp2_with fail
   go_meet
   case rel => exact ⟨rfl, rfl⟩
  ·obtain rfl : own = false := q1
   go_wp2_with fail
   go_meet
   case rel => exact ⟨rfl, rfl⟩
 case rest =>
 obtain ⟨rfl, rfl⟩ := hcut
 by_cases hle : le = 0
 ·subst hle
  obtain ⟨hlo, hp1, hp2, hp3⟩ := HQ.out.2.2.2 rfl
  have HLO := Aside0.mk (And.intro hlo (HL3.out hlo))
  have HPP := Lib.hid (And.intro hp1 hp2)
  have HP3 := Aside0.mk hp3
  have hea := fun W hb hl => HEA.out Al cl lv W hb hl
  rw [HFO.out lv hlo] at hea
  have HE2 := Aside0.mk hea
  have hsh1 := rShovels_calls Al cl lv wc H10.out.rows.2 HLO.out.2.2 HLO.out.2.1
  have hsh2 := fun ct => rShovels_calls At ct tr wc H10.out.rows.1.1 HT3.out.1.2 HT3.out.1.1
  clear hlo hp1 hp2 hp3 hea
  obtain ⟨n, hn⟩ : ∃ n, lv.sum = n := ⟨_, rfl⟩
  obtain ⟨m, hm⟩ : ∃ m, tr.sum = m := ⟨_, rfl⟩
  have HNM := Lib.hid (And.intro hn hm)
  rw [hn] at hsh1
  rw [hm] at hsh2
  clear hn hm
  go_wp2_with fail
  refine hsh1.mono ?_
  rintro e w16 ⟨rfl, rfl⟩
  go_wp2_with fail
  refine (hsh2 _).mono ?_
  rintro e w16 ⟨rfl, rfl⟩
  clear hsh1 hsh2
  have k0 := H10.out.box.cell 0 _ rfl
  have k1 := H10.out.box.cell 1 _ rfl
  have k2 := H10.out.box.cell 2 _ rfl
  have k3 := H10.out.box.cell 3 _ rfl
  have k4 := H10.out.box.cell 4 _ rfl
  have k5 := H10.out.box.cell 5 _ rfl
  have k6 := H10.out.box.cell 6 _ rfl
  have k7 := H10.out.box.cell 7 _ rfl
  have k8 := H10.out.box.cell 8 _ rfl
  have k9 := H10.out.box.cell 9 _ rfl
  have k10 := H10.out.box.cell 10 _ rfl
  go_wp2_with fail
  refine (HE2.out _ H10.out.bel H10.out.rows.2).mono ?_
  rintro e w16 ⟨rfl, hb⟩
  have H11 := Aside0.mk (H10.out.step HP2.out hb)
  clear hb H10 k0 k1 k2 k3 k4 k5 k6 k7 k8 k9 k10
  have k0 := H11.out.box.cell 0 _ rfl
  have k1 := H11.out.box.cell 1 _ rfl
  have k2 := H11.out.box.cell 2 _ rfl
  have k3 := H11.out.box.cell 3 _ rfl
  have k4 := H11.out.box.cell 4 _ rfl
  have k5 := H11.out.box.cell 5 _ rfl
  have k6 := H11.out.box.cell 6 _ rfl
  have k7 := H11.out.box.cell 7 _ rfl
  have k8 := H11.out.box.cell 8 _ rfl
  have k9 := H11.out.box.cell 9 _ rfl
  have k10 := H11.out.box.cell 10 _ rfl
  go_wp2_with fail
  refine (HCP.out _ H11.out.bel).mono ?_
  rintro e w17 ⟨gs, rfl, hb, hkd⟩
  have H12 := Aside0.mk (H11.out.step HP2.out hb)
  clear hb H11 k0 k1 k2 k3 k4 k5 k6 k7 k8 k9 k10
  go_wp2_with fail
  refine (listS_calls Al _ lv _ H12.out.rows.2 (by have := HLO.out.2.1; omega)).mono ?_
  rintro e w18 ⟨Bn, bn, rfl, hro, hb⟩
  have hpr := HP5.out lv n w18 gs Bn bn (k38.K_below hb hkd) (own_list hro) true (by rw [← HNM.out.1]; exact HPP.out.1)
  have H13 := Aside0.mk (H12.out.step HP2.out hb)
  clear hb H12 hkd hro
  go_wp2_with fail
  refine hpr.mono ?_
  rintro e w19 ⟨rfl, hb⟩
  have H14 := Aside0.mk (H13.out.step HP2.out hb)
  clear hb H13 hpr
  have k0 := H14.out.box.cell 0 _ rfl
  have k1 := H14.out.box.cell 1 _ rfl
  have k2 := H14.out.box.cell 2 _ rfl
  have k3 := H14.out.box.cell 3 _ rfl
  have k4 := H14.out.box.cell 4 _ rfl
  have k5 := H14.out.box.cell 5 _ rfl
  have k6 := H14.out.box.cell 6 _ rfl
  have k7 := H14.out.box.cell 7 _ rfl
  have k8 := H14.out.box.cell 8 _ rfl
  have k9 := H14.out.box.cell 9 _ rfl
  have k10 := H14.out.box.cell 10 _ rfl
  go_wp2_with fail
  refine (HCP.out _ H14.out.bel).mono ?_
  rintro e w20 ⟨hs, rfl, hb, hkd⟩
  have H15 := Aside0.mk (H14.out.step HP2.out hb)
  clear hb H14 k0 k1 k2 k3 k4 k5 k6 k7 k8 k9 k10
  go_wp2_with fail
  refine (listS_calls Af _ fu _ H15.out.rows.1.2 (by have := HT3.out.2.1; omega)).mono ?_
  rintro e w21 ⟨Bo, bo, rfl, hro, hb⟩
  have hpr := HP5.out fu 99 w21 hs Bo bo (k38.K_below hb hkd) (own_list hro) true HPP.out.2
  have H16 := Aside0.mk (H15.out.step HP2.out hb)
  clear hb H15 hkd hro
  go_wp2_with fail
  refine hpr.mono ?_
  rintro e w22 ⟨rfl, hb⟩
  have H17 := Aside0.mk (H16.out.step HP2.out hb)
  clear hb H16 hpr
  cases is with
  | false =>
   go_wp2_with fail
   refine (awake_calls _).mono ?_
   rintro e w23 ⟨rfl, hb⟩
   have H18 := Aside0.mk (bel2 H17.out.bel hb)
   clear hb
   go_wp2
   go_ret
   exact ⟨rfl, H18.out⟩
  | true =>
   obtain ⟨j1, j2⟩ := HP3.out rfl
   rw [HNM.out.1, HNM.out.2] at j1 j2
   by_cases hgt : n < m
   ·clear j1 j2
    go_wp2_with fail
    refine (awake_calls _).mono ?_
    rintro e w23 ⟨rfl, hb⟩
    have H18 := Aside0.mk (bel2 H17.out.bel hb)
    clear hb
    go_wp2
    go_ret
    exact ⟨rfl, H18.out⟩
   ·obtain rfl : m = n := by omega
    have hbf := fun ct => rBefore_calls At Al ct cl tr lv w22 H17.out.rows.1.1 H17.out.rows.2
    rw [j2 rfl] at hbf
    have hmm : (m == m) = true := by simp
    clear j1 j2
    go_wp2_with fail
    refine (hbf _).mono ?_
    rintro e w23 ⟨rfl, hb⟩
    have H18 := Aside0.mk (bel2 H17.out.bel hb)
    clear hb hbf
    go_wp2_with fail
    refine (awake_calls _).mono ?_
    rintro e w24 ⟨rfl, hb⟩
    have H19 := Aside0.mk (bel2 H18.out hb)
    clear hb
    go_wp2
    go_ret
    exact ⟨rfl, H19.out⟩
 ·obtain ⟨h10, h11, h12⟩ := HQ.out.2.2.1.resolve_left hle
  subst h11
  subst h12
  rcases h10 with rfl | rfl
  all_goals
   go_wp2_with fail
   refine (awake_calls _).mono ?_
   rintro e w23 ⟨rfl, hb⟩
   have H18 := Aside0.mk (bel2 H10.out.bel hb)
   clear hb
   go_wp2
   go_ret
   exact ⟨rfl, H18.out⟩
theorem noless_law (x : S38) (cs : List Value) (wh : Int) (h0 : 0 ≤ wh) (h1 : wh ≤ 65535) (w : World) (hx : k38.K w x cs) : Calls Try.prog 18 #[.agg cs.toArray, .int .u16 wh] w fun e w' => e = .returned (.bool true) ∧ Below w.heap.size w w' := by
 cases h : readyB x with
 | false => exact nol_awake x cs wh w hx h
 | true =>
  obtain ⟨t, rfl⟩ : ∃ t : Nat, wh = (t : Int) := ⟨wh.toNat, by omega⟩
  exact nol_main x cs t (by omega) w hx h
end Go.Proofs.Ytdgkhoflajdidaa
