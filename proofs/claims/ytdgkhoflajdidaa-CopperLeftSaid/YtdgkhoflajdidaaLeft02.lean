/- Lemmas for the law's proof: Qg. -/
import Derived.Test.YtdgkhoflajdidaaLeft01
import Derived.Test.YtdgkhoflajdidaaCore14
/- CopperLeft: the walk. -/
namespace Go.Proofs.Ytdgkhoflajdidaa
open Go.RowKit Go.Proofs.YtdgkhoflajdidaaW.PrintWords Go.Proofs.YtdgkhoflajdidaaW.PrintMore Go.Proofs.YtdgkhoflajdidaaW.PrintLast Go.Proofs.Ytdgkhoflajdidaa.Print
set_option linter.unusedVariables false
set_option linter.unusedSimpArgs false
set_option maxRecDepth 100000
set_option maxHeartbeats 4000000
/-- The bits of the first k numbers. -/
def orTo (l : List Int) : Nat → Int
 | 0 => 0
 | k + 1 => Go.bits .or .i64 (orTo l k) (2 ^ (l.getD k 0).toNat)
theorem orTo_all : ∀ b, b < 32 → orTo (bitsL b) (bitsL b).length = b := by decide +kernel
theorem bitsL_in : ∀ n : Nat, n < 6 → ∀ b : Nat, b < 2 ^ n → ∀ v ∈ bitsL b, 0 ≤ v ∧ v ≤ (n : Int) - 1 := by decide +kernel
theorem bitsL_up : ∀ b, b < 32 → ∀ k, k < 5 → k + 1 < (bitsL b).length → (bitsL b).getD k 0 < (bitsL b).getD (k + 1) 0 := by decide +kernel
theorem and_full : ∀ n : Nat, n < 6 → ∀ t : Nat, t < 256 → Go.bits .and .i64 (t : Int) (((2 ^ n - 1 : Nat) : Int)) = ((t % 2 ^ n : Nat) : Int) := by decide +kernel
theorem bitsL_len5 (b : Nat) : (bitsL b).length ≤ 5 := by simpa [bitsL, bitsTo] using List.length_filter_le (p := b.testBit) (l := List.range 5)
theorem add0 (a : Addr) : a.add 0 = a := by cases a; unfold Addr.add; split <;> simp_all
theorem pw_below_eq {W V : World} (h : W = V) : Below W.heap.size W V := h ▸ Below.refl _ _
theorem left_awake (x : S38) (cs : List Value) (tr : Int) (w : World) (hx : k38.K w x cs) (h : readyB x = false) : Calls Try.prog 10 #[.agg cs.toArray, .int .u8 tr] w fun e w' => e = .returned (.bool true) ∧ Below w.heap.size w w' := by
 have hthin := fun W (hW : Below w.heap.size w W) => ready_calls x cs W (k38.K_below hW hx)
 obtain ⟨A5, c5, A6, c6, A9, c9, A10, c10, rfl, _⟩ := k38_open hx
 clear hx
 have hu := Try.underlying28
 have ZB := Aside0.mk (below_alloc (Below.refl w.heap.size w) (.cells #[.int .i64 x.f0, .int .i64 x.f1, .int .i64 x.f2, .int .i64 x.f3, .int .i64 x.f4, .slice A5 x.f5.length c5, .slice A6 x.f6.length c6, .int .i64 x.f7.f0, .int .i64 x.f7.f1, .slice A9 x.f8.length c9, .slice A10 x.f9.length c10] 28))
 have hth := hthin _ ZB.out
 rw [h] at hth
 clear hthin h
 go_enter Try.func10, Try.ntmps10
 go_wp2_with fail
 refine hth.mono ?_
 rintro e w1 ⟨rfl, hb⟩
 have HB := Aside0.mk (bel2 ZB.out hb)
 clear hb hth
 go_wp2_with fail
 refine (awake_calls _).mono ?_
 rintro e w2 ⟨rfl, hb⟩
 have HB2 := Aside0.mk (bel2 HB.out hb)
 clear hb
 go_wp2
 go_ret
 exact ⟨rfl, HB2.out⟩
theorem left_main (x : S38) (cs : List Value) (tr : Nat) (htr : tr < 256) (w : World) (hx : k38.K w x cs) (h1 : readyB x = true) : Calls Try.prog 10 #[.agg cs.toArray, .int .u8 tr] w fun e w' => e = .returned (.bool true) ∧ Below w.heap.size w w' := by
 have hthin := fun W (hW : Below w.heap.size w W) => ready_calls x cs W (k38.K_below hW hx)
 rw [h1] at hthin
 obtain ⟨hT, hV⟩ := (readyB_iff x).1 h1
 have HCP := Aside0.mk (fun W (hW : Below w.heap.size w W) => copper_calls x cs W (k38.K_below hW hx) hT)
 have HCP2 := Aside0.mk (fun b W ds (hd : k38.K W (someX x b) ds) => copper_calls (someX x b) ds W hd (thin_some hT b))
 have HSM := Aside0.mk (fun b (hb : b < 64) W (hW : Below w.heap.size w W) => some_calls x cs b W (k38.K_below hW hx) hV.rdN hb)
 have hlv := fun W ds (hd : k38.K W x ds) => leave_calls x ds W hd
 have hkp := fun y W ds (hd : k38.K W y ds) => keepsF_calls y ds W hd
 unfold KeepPost at hkp
 have HKP := Aside0.mk (fun y e (h : askE y true = e) W ds (hd : k38.K W y ds) => (hkp y W ds hd).mono fun e' w' h' => (show ∃ A n a, e' = .returned (.tuple #[.slice A n a, .int .i64 e]) ∧ Below W.heap.size W w' from by
  obtain ⟨A, a, h1, _, h3⟩ := h'
  rw [keepsF_e, h] at h1
  exact ⟨A, _, a, h1, h3⟩))
 obtain ⟨b, hlf, hb2, hp1, hp2⟩ := left_spec hV
 rw [hlf] at hlv
 have hrd := hV.rdN
 have h5 := pow5 hrd
 have h0 := Nat.two_pow_pos x.f9.length
 obtain ⟨F, hF⟩ : ∃ F : Nat, 2 ^ x.f9.length = F + 1 := ⟨2 ^ x.f9.length - 1, by omega⟩
 have hFz : (2 : Int) ^ x.f9.length - 1 = (F : Int) := by
  have h1 : (2 : Int) ^ x.f9.length = ((2 ^ x.f9.length : Nat) : Int) := by simp
  rw [h1, hF]
  omega
 have HFU := Aside0.mk (fun V (hb : Below w.heap.size w V) => (rFull_calls x cs V (k38.K_below hb hx) hrd).mono fun e w' h => (⟨h.1.trans (by rw [hFz]), h.2⟩ : e = .returned (.int .i64 (F : Int)) ∧ Below V.heap.size V w'))
 have hmn : tr % (F + 1) < F + 1 := Nat.mod_lt _ (by omega)
 have hand : Go.bits .and .i64 (tr : Int) (F : Int) = ((tr % (F + 1) : Nat) : Int) := by
  have := and_full x.f9.length (by omega) tr htr
  rwa [hF] at this
 have hp3 := hp2 (tr % (F + 1)) (by omega)
 have hm1 : Go.bits .andNot .i64 (F : Int) (b : Int) = ((F - b : Nat) : Int) := by
  have := mask_nat x.f9.length (by omega) b hb2
  unfold maskB at this
  rw [hFz, hF] at this
  exact this
 have hm2 : Go.bits .andNot .i64 (F : Int) ((tr % (F + 1) : Nat) : Int) = ((F - tr % (F + 1) : Nat) : Int) := by
  have := mask_nat x.f9.length (by omega) (tr % (F + 1)) (by omega)
  unfold maskB at this
  rw [hFz, hF] at this
  exact this
 have HIN := Aside0.mk (show ∀ v ∈ bitsL b, 0 ≤ v ∧ v ≤ (x.f9.length : Int) - 1 from bitsL_in x.f9.length (by omega) b hb2)
 have HUP := Aside0.mk (bitsL_up b (by omega))
 have HOR := Lib.hid (orTo_all b (by omega))
 rw [hF] at hp1 hp3 hb2 h5
 rw [show F + 1 - 1 = F from rfl] at hp1 hp3
 have HK1 := Aside0.mk (HKP.out _ 0 hp1)
 have hb31 : b < 32 := by omega
 have hn31 : tr % (F + 1) < 32 := by omega
 have hl5 := bitsL_len5 b
 obtain ⟨A5, c5, A6, c6, A9, c9, A10, c10, rfl, _⟩ := k38_open hx
 clear hx h1 hT hV hkp hlf hp1 hp2 hF hFz h0
 have hu := Try.underlying28
 have ZB := Aside0.mk (And.intro (below_alloc (Below.refl w.heap.size w) (.cells #[.int .i64 x.f0, .int .i64 x.f1, .int .i64 x.f2, .int .i64 x.f3, .int .i64 x.f4, .slice A5 x.f5.length c5, .slice A6 x.f6.length c6, .int .i64 x.f7.f0, .int .i64 x.f7.f1, .slice A9 x.f8.length c9, .slice A10 x.f9.length c10] 28)) (Blk.new w #[.int .i64 x.f0, .int .i64 x.f1, .int .i64 x.f2, .int .i64 x.f3, .int .i64 x.f4, .slice A5 x.f5.length c5, .slice A6 x.f6.length c6, .int .i64 x.f7.f0, .int .i64 x.f7.f1, .slice A9 x.f8.length c9, .slice A10 x.f9.length c10] 28 _ rfl))
 have hth := hthin _ ZB.out.1
 have HLV := Aside0.mk hlv
 have HM := Lib.hid (And.intro hm1 (And.intro hm2 hand))
 have HP3 := Lib.hid hp3
 have HBF := Lib.hid (And.intro (show F - b < 64 by omega) (show F - tr % (F + 1) < 64 by omega))
 have hlz : (x.f9.length : Int) ≤ 5 := by omega
 clear hthin hlv hm1 hm2 hand hp3 hb2 hmn h5 hrd
 have htz : (tr : Int) ≤ 255 := by omega
 generalize tr % (F + 1) = nn at *
 generalize F - b = mb at *
 generalize F - nn = mn at *
 obtain ⟨l, hl⟩ : ∃ l, bitsL b = l := ⟨_, rfl⟩
 have HLB := Lib.hid hl
 rw [hl] at HLV HIN HUP HOR hl5
 change Aside0 (∀ W ds, k38.K W x ds → Calls Try.prog 36 #[.agg ds.toArray] W fun e w' => ∃ A c, e = .returned (.tuple #[.slice A l.length c, .int .i64 0]) ∧ Kd.C (Kd.int .i64) w' A l.length l ∧ Below W.heap.size W w') at HLV
 clear hl
 go_enter Try.func10, Try.ntmps10
 go_wp2_with fail
 refine hth.mono ?_
 rintro e w1 ⟨rfl, hb⟩
 have H1 := Aside0.mk (And.intro (bel2 ZB.out.1 hb) (ZB.out.2.below hb))
 clear hb hth ZB
 have k0 := H1.out.2.cell 0 _ rfl
 have k1 := H1.out.2.cell 1 _ rfl
 have k2 := H1.out.2.cell 2 _ rfl
 have k3 := H1.out.2.cell 3 _ rfl
 have k4 := H1.out.2.cell 4 _ rfl
 have k5 := H1.out.2.cell 5 _ rfl
 have k6 := H1.out.2.cell 6 _ rfl
 have k7 := H1.out.2.cell 7 _ rfl
 have k8 := H1.out.2.cell 8 _ rfl
 have k9 := H1.out.2.cell 9 _ rfl
 have k10 := H1.out.2.cell 10 _ rfl
 go_wp2_with fail
 refine (HCP.out _ H1.out.1).mono ?_
 rintro e w2 ⟨ds, rfl, hb, hkd⟩
 have H2 := Aside0.mk (And.intro (bel2 H1.out.1 hb) (H1.out.2.below hb))
 clear hb H1 k0 k1 k2 k3 k4 k5 k6 k7 k8 k9 k10
 go_wp2_with fail
 refine (HLV.out _ ds hkd).mono ?_
 rintro e w3 ⟨Al, cl, rfl, hcl, hb⟩
 have HP := Aside0.mk (fun W V (h : Kd.C (Kd.int .i64) W Al l.length l) (hb : Below W.heap.size W V) => Kd.C_below h hb)
 have H3 := Aside0.mk (LwSt.mk (w := w) (B := #[.int .i64 x.f0, .int .i64 x.f1, .int .i64 x.f2, .int .i64 x.f3, .int .i64 x.f4, .slice A5 x.f5.length c5, .slice A6 x.f6.length c6, .int .i64 x.f7.f0, .int .i64 x.f7.f1, .slice A9 x.f8.length c9, .slice A10 x.f9.length c10]) (P := fun W => Kd.C (Kd.int .i64) W Al l.length l) (bel2 H2.out.1 hb) (H2.out.2.below hb) hcl)
 clear hb H2 hkd HLV hcl
 go_wp2
 go_loopw [7, 8] (fun s7 s8 wr => ∃ k : Nat, k ≤ l.length ∧ s7 = .int .i64 (orTo l k) ∧ s8 = .int .i64 k ∧ Aside0 (LwSt w #[.int .i64 x.f0, .int .i64 x.f1, .int .i64 x.f2, .int .i64 x.f3, .int .i64 x.f4, .slice A5 x.f5.length c5, .slice A6 x.f6.length c6, .int .i64 x.f7.f0, .int .i64 x.f7.f1, .slice A9 x.f8.length c9, .slice A10 x.f9.length c10] (fun W => Kd.C (Kd.int .i64) W Al l.length l) wr)) (fun _ s8 _ => l.length - (intOf s8).toNat)
 case atStart => exact ⟨0, Nat.zero_le _, rfl, rfl, H3⟩
 case round =>
  obtain ⟨k, hk, rfl, rfl, HW⟩ := hrel
  clear H3
  by_cases hlt : k < l.length
  ·have hltz : (k : Int) < (l.length : Int) := by omega
   obtain ⟨qa, rfl, qv⟩ := row_at_int HW.out.rows k hlt
   have hin := HIN.out _ (List.getElem_mem hlt)
   have hor : orTo l (k + 1) = Go.bits .or .i64 (orTo l k) (2 ^ (l[k]).toNat) := by
    show Go.bits .or .i64 (orTo l k) (2 ^ (l.getD k 0).toNat) = _
    rw [show l.getD k 0 = l[k] by simp [hlt]]
   have k10 := HW.out.box.cell 10 _ rfl
   obtain ⟨nm, hwn⟩ : ∃ nm, wrap64 ((x.f9.length : Int) - 1) = nm := ⟨_, rfl⟩
   have hwn2 : IntKind.i64.wrap ((x.f9.length : Int) - 1) = nm := (i64_w _).trans hwn
   have hri := fun W => rIn_calls l[k] 0 nm W
   rw [show inR l[k] 0 nm = true from by rw [inR_iff, ← hwn, IntWalk.wrap64_in _ (by omega)]; exact hin] at hri
   have hD := below_drew (Below.refl wr.heap.size wr)
   have hv5 : l[k] = 0 ∨ l[k] = 1 ∨ l[k] = 2 ∨ l[k] = 3 ∨ l[k] = 4 := by omega
   have HV5 := Lib.hid hv5
   have HOR2 := Lib.hid hor
   generalize orTo l k = ob at *
   cases k with
   | zero =>
    generalize l[0] = v at *
    have qv0 : wr.cell? qa = some (.int .i64 v) := by rw [add0 qa] at qv; exact qv
    clear hin hv5 hor
    go_upto_region 10 with fail
    go_cut [57] from 26 to 65 (fun s57 wc => s57 = .bool false ∧ Aside0 (Below wr.heap.size wr wc))
    case first =>
     refine start_ (n := 26) (S := fun w' => w'.cell? qa = some (.int .i64 v) ∧ w'.cell? ⟨w.heap.size, 10, none⟩ = some (.slice A10 x.f9.length c10)) (ds := []) #[false, false, false, false, false, false, false, false, false, false, false, false, false, false, false, false, false, false, false, false, false, false, false, false, false, false] (by kernel_rfl) rfl rfl ⟨qv0, k10⟩ (fun hHeld => ?_)
     refine pure_ (i := 0) (N := some 32) (v := ?_) (a' := ?_) (bs 26 1) rfl rfl (by kernel_rfl) (fun _ _ _ h => h) (Or.inl ⟨by rfl, ?_⟩) ?_ ?_
     rotate_left
     ·intro w'
      go_simp
      with_reducible rfl
     rotate_left
     ·simp only [Act.put, List.setIfInBounds_toArray, List.set_cons_zero, List.set_cons_succ, i64_w, i32_w]
      rfl
     refine pure_ (i := 1) (N := some 33) (v := ?_) (a' := ?_) (bs 26 3) rfl rfl (by kernel_rfl) (fun _ _ _ h => h) (Or.inl ⟨by rfl, ?_⟩) ?_ ?_
     rotate_left
     ·intro w'
      go_simp
      with_reducible rfl
     rotate_left
     ·simp only [Act.put, List.setIfInBounds_toArray, List.set_cons_zero, List.set_cons_succ, i64_w, i32_w]
      rfl
     refine pure_ (i := 2) (N := some 34) (v := ?_) (a' := ?_) (bs 26 7) rfl rfl (by kernel_rfl) (fun _ _ _ h => h) (Or.inl ⟨by rfl, ?_⟩) ?_ ?_
     rotate_left
     ·intro w'
      go_simp
      with_reducible rfl
     rotate_left
     ·simp only [Act.put, List.setIfInBounds_toArray, List.set_cons_zero, List.set_cons_succ, i64_w, i32_w]
      rfl
     refine pure_ (i := 4) (N := some 36) (v := ?_) (a' := ?_) (bs 26 23) rfl rfl (by kernel_rfl) (fun _ _ _ h => h) (Or.inl ⟨by rfl, ?_⟩) ?_ ?_
     rotate_left
     ·intro w'
      go_simp
      with_reducible rfl
     rotate_left
     ·simp only [Act.put, List.setIfInBounds_toArray, List.set_cons_zero, List.set_cons_succ, i64_w, i32_w]
      rfl
     refine take_ (i := 3) (N := some 35) (v := ?_) (a' := ?_) (bs 26 31) rfl rfl (by kernel_rfl) (fun _ _ _ h => h) (Or.inl ⟨by rfl, ?_⟩) hHeld ?_ ?_
     rotate_left
     ·rintro w' ⟨s0, s1⟩
      go_simp
      with_reducible rfl
     rotate_left
     ·simp only [Act.put, List.setIfInBounds_toArray, List.set_cons_zero, List.set_cons_succ, i64_w, i32_w]
      rfl
     refine take_ (i := 5) (N := some 37) (v := ?_) (a' := ?_) (bs 26 63) rfl rfl (by kernel_rfl) (fun _ _ _ h => h) (Or.inl ⟨by rfl, ?_⟩) hHeld ?_ ?_
     rotate_left
     ·rintro w' ⟨s0, s1⟩
      go_simp
      with_reducible rfl
     rotate_left
     ·simp only [Act.put, List.setIfInBounds_toArray, List.set_cons_zero, List.set_cons_succ, i64_w, i32_w]
      rfl
     refine pure_ (i := 6) (N := some 38) (v := ?_) (a' := ?_) (bs 26 127) rfl rfl (by kernel_rfl) (fun _ _ _ h => h) (Or.inl ⟨by rfl, ?_⟩) ?_ ?_
     rotate_left
     ·intro w'
      go_simp
      with_reducible rfl
     rotate_left
     ·simp only [Act.put, List.setIfInBounds_toArray, List.set_cons_zero, List.set_cons_succ, i64_w, i32_w]
      rfl
     refine pure_ (i := 7) (N := some 39) (v := ?_) (a' := ?_) (bs 26 255) rfl rfl (by kernel_rfl) (fun _ _ _ h => h) (Or.inl ⟨by rfl, ?_⟩) ?_ ?_
     rotate_left
     ·intro w'
      go_simp
      with_reducible rfl
     rotate_left
     ·simp only [Act.put, List.setIfInBounds_toArray, List.set_cons_zero, List.set_cons_succ, i64_w, i32_w]
      rfl
     refine one_ (i := 8) (N := some 40) (bs 26 511) rfl rfl (by kernel_rfl) (by decide) (fun K hK => ?_)
     refine goes_ Try.func31 (by kernel_rfl) rfl #[.int .i64 v, .int .i64 0, .int .i64 nm] (by rfl) rfl rfl (by simp only [List.map_toArray, List.map_cons, List.map_nil]; rfl) ?_
     with_reducible refine (hri _).mono ?_
     rintro e w8 ⟨rfl, hw8⟩
     have hb8 := pw_below_eq hw8
     refine ⟨_, rfl, ?_⟩
     refine hK.out _ _ ⟨pw_cell_below hb8 (hHeld.1), pw_cell_below hb8 (hHeld.2)⟩ (fun hHeld => ?_)
     clear hK K
     refine norm_ (a' := ?_) ?_ ?_
     rotate_left
     ·show Act.put _ (some 40) _ = _
      simp only [Act.put, List.setIfInBounds_toArray, List.set_cons_zero, List.set_cons_succ, i64_w, i32_w]
      rfl
     refine pure_ (i := 9) (N := some 41) (v := ?_) (a' := ?_) (bs 26 1023) rfl rfl (by kernel_rfl) (fun _ _ _ h => h) (Or.inl ⟨by rfl, ?_⟩) ?_ ?_
     rotate_left
     ·intro w'
      go_simp
      with_reducible rfl
     rotate_left
     ·simp only [Act.put, List.setIfInBounds_toArray, List.set_cons_zero, List.set_cons_succ, i64_w, i32_w]
      rfl
     refine pure_ (i := 10) (N := some 42) (v := ?_) (a' := ?_) (bs 26 2047) rfl rfl (by kernel_rfl) (fun _ _ _ h => h) (Or.inl ⟨by rfl, ?_⟩) ?_ ?_
     rotate_left
     ·intro w'
      go_simp
      with_reducible rfl
     rotate_left
     ·simp only [Act.put, List.setIfInBounds_toArray, List.set_cons_zero, List.set_cons_succ, i64_w, i32_w]
      rfl
     refine pure_ (i := 11) (N := some 43) (v := ?_) (a' := ?_) (bs 26 4095) rfl rfl (by kernel_rfl) (fun _ _ _ h => h) (Or.inl ⟨by rfl, ?_⟩) ?_ ?_
     rotate_left
     ·intro w'
      go_simp
      with_reducible rfl
     rotate_left
     ·simp only [Act.put, List.setIfInBounds_toArray, List.set_cons_zero, List.set_cons_succ, i64_w, i32_w]
      rfl
     refine pure_ (i := 12) (N := some 44) (v := ?_) (a' := ?_) (bs 26 8191) rfl rfl (by kernel_rfl) (fun _ _ _ h => h) (Or.inl ⟨by rfl, ?_⟩) ?_ ?_
     rotate_left
     ·intro w'
      go_simp
      with_reducible rfl
     rotate_left
     ·simp only [Act.put, List.setIfInBounds_toArray, List.set_cons_zero, List.set_cons_succ, i64_w, i32_w]
      rfl
     refine pure_ (i := 13) (N := some 45) (v := ?_) (a' := ?_) (bs 26 16383) rfl rfl (by kernel_rfl) (fun _ _ _ h => h) (Or.inl ⟨by rfl, ?_⟩) ?_ ?_
     rotate_left
     ·intro w'
      go_simp
      with_reducible rfl
     rotate_left
     ·simp only [Act.put, List.setIfInBounds_toArray, List.set_cons_zero, List.set_cons_succ, i64_w, i32_w]
      rfl
     refine pure_ (i := 14) (N := some 46) (v := undef) (a' := ?_) (bs 26 32767) rfl rfl (by kernel_rfl) (fun _ _ _ h => h) (Or.inr ⟨by rfl, rfl⟩) ?_ ?_
     rotate_left
     ·simp only [Act.put, List.setIfInBounds_toArray, List.set_cons_zero, List.set_cons_succ, i64_w, i32_w]
      rfl
     refine pure_ (i := 15) (N := some 47) (v := undef) (a' := ?_) (bs 26 65535) rfl rfl (by kernel_rfl) (fun _ _ _ h => h) (Or.inr ⟨by rfl, rfl⟩) ?_ ?_
     rotate_left
     ·simp only [Act.put, List.setIfInBounds_toArray, List.set_cons_zero, List.set_cons_succ, i64_w, i32_w]
      rfl
     refine pure_ (i := 16) (N := some 48) (v := undef) (a' := ?_) (bs 26 131071) rfl rfl (by kernel_rfl) (fun _ _ _ h => h) (Or.inr ⟨by rfl, rfl⟩) ?_ ?_
     rotate_left
     ·simp only [Act.put, List.setIfInBounds_toArray, List.set_cons_zero, List.set_cons_succ, i64_w, i32_w]
      rfl
     refine pure_ (i := 17) (N := some 49) (v := undef) (a' := ?_) (bs 26 262143) rfl rfl (by kernel_rfl) (fun _ _ _ h => h) (Or.inr ⟨by rfl, rfl⟩) ?_ ?_
     rotate_left
     ·simp only [Act.put, List.setIfInBounds_toArray, List.set_cons_zero, List.set_cons_succ, i64_w, i32_w]
      rfl
     refine pure_ (i := 18) (N := some 50) (v := undef) (a' := ?_) (bs 26 524287) rfl rfl (by kernel_rfl) (fun _ _ _ h => h) (Or.inr ⟨by rfl, rfl⟩) ?_ ?_
     rotate_left
     ·simp only [Act.put, List.setIfInBounds_toArray, List.set_cons_zero, List.set_cons_succ, i64_w, i32_w]
      rfl
     refine pure_ (i := 19) (N := some 51) (v := undef) (a' := ?_) (bs 26 1048575) rfl rfl (by kernel_rfl) (fun _ _ _ h => h) (Or.inr ⟨by rfl, rfl⟩) ?_ ?_
     rotate_left
     ·simp only [Act.put, List.setIfInBounds_toArray, List.set_cons_zero, List.set_cons_succ, i64_w, i32_w]
      rfl
     refine pure_ (i := 20) (N := some 52) (v := undef) (a' := ?_) (bs 26 2097151) rfl rfl (by kernel_rfl) (fun _ _ _ h => h) (Or.inr ⟨by rfl, rfl⟩) ?_ ?_
     rotate_left
     ·simp only [Act.put, List.setIfInBounds_toArray, List.set_cons_zero, List.set_cons_succ, i64_w, i32_w]
      rfl
     refine pure_ (i := 21) (N := some 53) (v := undef) (a' := ?_) (bs 26 4194303) rfl rfl (by kernel_rfl) (fun _ _ _ h => h) (Or.inr ⟨by rfl, rfl⟩) ?_ ?_
     rotate_left
     ·simp only [Act.put, List.setIfInBounds_toArray, List.set_cons_zero, List.set_cons_succ, i64_w, i32_w]
      rfl
     refine pure_ (i := 22) (N := some 54) (v := undef) (a' := ?_) (bs 26 8388607) rfl rfl (by kernel_rfl) (fun _ _ _ h => h) (Or.inr ⟨by rfl, rfl⟩) ?_ ?_
     rotate_left
     ·simp only [Act.put, List.setIfInBounds_toArray, List.set_cons_zero, List.set_cons_succ, i64_w, i32_w]
      rfl
     refine pure_ (i := 23) (N := some 55) (v := undef) (a' := ?_) (bs 26 16777215) rfl rfl (by kernel_rfl) (fun _ _ _ h => h) (Or.inr ⟨by rfl, rfl⟩) ?_ ?_
     rotate_left
     ·simp only [Act.put, List.setIfInBounds_toArray, List.set_cons_zero, List.set_cons_succ, i64_w, i32_w]
      rfl
     refine pure_ (i := 24) (N := some 56) (v := ?_) (a' := ?_) (bs 26 33554431) rfl rfl (by kernel_rfl) (fun _ _ _ h => h) (Or.inl ⟨by rfl, ?_⟩) ?_ ?_
     rotate_left
     ·intro w'
      go_simp
      with_reducible rfl
     rotate_left
     ·simp only [Act.put, List.setIfInBounds_toArray, List.set_cons_zero, List.set_cons_succ, i64_w, i32_w]
      rfl
     refine pure_ (i := 25) (N := some 57) (v := ?_) (a' := ?_) (bs 26 67108863) rfl rfl (by kernel_rfl) (fun _ _ _ h => h) (Or.inl ⟨by rfl, ?_⟩) ?_ ?_
     rotate_left
     ·intro w'
      go_simp
      with_reducible rfl
     rotate_left
     ·simp only [Act.put, List.setIfInBounds_toArray, List.set_cons_zero, List.set_cons_succ, i64_w, i32_w]
      rfl
     refine done_ (by kernel_rfl) ?_
     have HN := Aside0.mk (bel2 hD hb8)
     clear hHeld hb8
     go_wp2_with fail
     go_meet
     case rel => exact ⟨rfl, HN⟩
    case rest =>
    obtain ⟨rfl, HC⟩ := hcut
    have qv2 := pw_cell_below HC.out qv0
    have HN := Aside0.mk (HW.out.step HP.out HC.out)
    clear qv qv0 k10 HC hri hwn hwn2 hD
    have hv5 := HV5.out
    rcases hv5 with rfl | rfl | rfl | rfl | rfl
    all_goals
     go_wp2
     go_roundw
     case rel => exact ⟨0 + 1, by omega, by rw [HOR2.out]; rfl, by go_num, HN⟩
     case measure => simp [intOf]; omega
   | succ j =>
    have hup := HUP.out j (by omega) hlt
    rw [show l.getD j 0 = l[j]'(by omega) by simp [show j < l.length by omega], show l.getD (j + 1) 0 = l[j + 1] by simp [hlt]] at hup
    obtain ⟨qa2, hqa, qu⟩ := row_at_int HW.out.rows j (by omega)
    cases hqa
    have hjz : (j : Int) < (l.length : Int) := by omega
    have hk0 : (0 : Int) < ((j + 1 : Nat) : Int) := by omega
    have hwk : wrap64 (((j + 1 : Nat) : Int) - 1) = (j : Int) := by rw [show ((j + 1 : Nat) : Int) - 1 = (j : Int) by omega]; exact IntWalk.wrap64_in _ (by omega)
    have hjl : (j : Int) ≤ 5 := by omega
    have hwk2 : IntKind.i64.wrap (((j + 1 : Nat) : Int) - 1) = (j : Int) := (i64_w _).trans hwk
    obtain ⟨kk, hkk⟩ : ∃ kk : Nat, j + 1 = kk := ⟨_, rfl⟩
    have HKK := Lib.hid hkk
    generalize l[j + 1] = v at *
    generalize l[j]'(by omega) = u at *
    have hle : ¬ v ≤ u := by omega
    have hle2 : decide (v ≤ u) = false := decide_eq_false hle
    rw [hkk] at hk hltz qv hk0 hwk hwk2 HOR2 hlt
    rw [hkk]
    have hkn : 0 < kk := by omega
    clear hin hv5 hor hup hkk
    go_upto_region 10 with fail
    go_cut [57] from 26 to 65 (fun s57 wc => s57 = .bool false ∧ Aside0 (Below wr.heap.size wr wc))
    case first =>
     refine start_ (n := 26) (S := fun w' => w'.cell? (qa.add kk) = some (.int .i64 v) ∧ w'.cell? (qa.add j) = some (.int .i64 u) ∧ w'.cell? ⟨w.heap.size, 10, none⟩ = some (.slice A10 x.f9.length c10)) (ds := []) #[false, false, false, false, false, false, false, false, false, false, false, false, false, false, false, false, false, false, false, false, false, false, false, false, false, false] (by kernel_rfl) rfl rfl ⟨qv, qu, k10⟩ (fun hHeld => ?_)
     refine pure_ (i := 0) (N := some 32) (v := ?_) (a' := ?_) (bs 26 1) rfl rfl (by kernel_rfl) (fun _ _ _ h => h) (Or.inl ⟨by rfl, ?_⟩) ?_ ?_
     rotate_left
     ·intro w'
      go_simp
      with_reducible rfl
     rotate_left
     ·simp only [Act.put, List.setIfInBounds_toArray, List.set_cons_zero, List.set_cons_succ, i64_w, i32_w]
      rfl
     refine pure_ (i := 1) (N := some 33) (v := ?_) (a' := ?_) (bs 26 3) rfl rfl (by kernel_rfl) (fun _ _ _ h => h) (Or.inl ⟨by rfl, ?_⟩) ?_ ?_
     rotate_left
     ·intro w'
      go_simp
      with_reducible rfl
     rotate_left
     ·simp only [Act.put, List.setIfInBounds_toArray, List.set_cons_zero, List.set_cons_succ, i64_w, i32_w]
      rfl
     refine pure_ (i := 2) (N := some 34) (v := ?_) (a' := ?_) (bs 26 7) rfl rfl (by kernel_rfl) (fun _ _ _ h => h) (Or.inl ⟨by rfl, ?_⟩) ?_ ?_
     rotate_left
     ·intro w'
      go_simp
      with_reducible rfl
     rotate_left
     ·simp only [Act.put, List.setIfInBounds_toArray, List.set_cons_zero, List.set_cons_succ, i64_w, i32_w]
      rfl
     refine pure_ (i := 4) (N := some 36) (v := ?_) (a' := ?_) (bs 26 23) rfl rfl (by kernel_rfl) (fun _ _ _ h => h) (Or.inl ⟨by rfl, ?_⟩) ?_ ?_
     rotate_left
     ·intro w'
      go_simp
      with_reducible rfl
     rotate_left
     ·simp only [Act.put, List.setIfInBounds_toArray, List.set_cons_zero, List.set_cons_succ, i64_w, i32_w]
      rfl
     refine take_ (i := 3) (N := some 35) (v := ?_) (a' := ?_) (bs 26 31) rfl rfl (by kernel_rfl) (fun _ _ _ h => h) (Or.inl ⟨by rfl, ?_⟩) hHeld ?_ ?_
     rotate_left
     ·rintro w' ⟨s0, s1, s2⟩
      go_simp
      with_reducible rfl
     rotate_left
     ·simp only [Act.put, List.setIfInBounds_toArray, List.set_cons_zero, List.set_cons_succ, i64_w, i32_w]
      rfl
     refine take_ (i := 5) (N := some 37) (v := ?_) (a' := ?_) (bs 26 63) rfl rfl (by kernel_rfl) (fun _ _ _ h => h) (Or.inl ⟨by rfl, ?_⟩) hHeld ?_ ?_
     rotate_left
     ·rintro w' ⟨s0, s1, s2⟩
      go_simp
      with_reducible rfl
     rotate_left
     ·simp only [Act.put, List.setIfInBounds_toArray, List.set_cons_zero, List.set_cons_succ, i64_w, i32_w]
      rfl
     refine pure_ (i := 6) (N := some 38) (v := ?_) (a' := ?_) (bs 26 127) rfl rfl (by kernel_rfl) (fun _ _ _ h => h) (Or.inl ⟨by rfl, ?_⟩) ?_ ?_
     rotate_left
     ·intro w'
      go_simp
      with_reducible rfl
     rotate_left
     ·simp only [Act.put, List.setIfInBounds_toArray, List.set_cons_zero, List.set_cons_succ, i64_w, i32_w]
      rfl
     refine pure_ (i := 7) (N := some 39) (v := ?_) (a' := ?_) (bs 26 255) rfl rfl (by kernel_rfl) (fun _ _ _ h => h) (Or.inl ⟨by rfl, ?_⟩) ?_ ?_
     rotate_left
     ·intro w'
      go_simp
      with_reducible rfl
     rotate_left
     ·simp only [Act.put, List.setIfInBounds_toArray, List.set_cons_zero, List.set_cons_succ, i64_w, i32_w]
      rfl
     refine one_ (i := 8) (N := some 40) (bs 26 511) rfl rfl (by kernel_rfl) (by decide) (fun K hK => ?_)
     refine goes_ Try.func31 (by kernel_rfl) rfl #[.int .i64 v, .int .i64 0, .int .i64 nm] (by rfl) rfl rfl (by simp only [List.map_toArray, List.map_cons, List.map_nil]; rfl) ?_
     with_reducible refine (hri _).mono ?_
     rintro e w8 ⟨rfl, hw8⟩
     have hb8 := pw_below_eq hw8
     refine ⟨_, rfl, ?_⟩
     refine hK.out _ _ ⟨pw_cell_below hb8 (hHeld.1), pw_cell_below hb8 (hHeld.2.1), pw_cell_below hb8 (hHeld.2.2)⟩ (fun hHeld => ?_)
     clear hK K
     refine norm_ (a' := ?_) ?_ ?_
     rotate_left
     ·show Act.put _ (some 40) _ = _
      simp only [Act.put, List.setIfInBounds_toArray, List.set_cons_zero, List.set_cons_succ, i64_w, i32_w]
      rfl
     refine pure_ (i := 9) (N := some 41) (v := ?_) (a' := ?_) (bs 26 1023) rfl rfl (by kernel_rfl) (fun _ _ _ h => h) (Or.inl ⟨by rfl, ?_⟩) ?_ ?_
     rotate_left
     ·intro w'
      go_simp
      with_reducible rfl
     rotate_left
     ·simp only [Act.put, List.setIfInBounds_toArray, List.set_cons_zero, List.set_cons_succ, i64_w, i32_w]
      rfl
     refine pure_ (i := 10) (N := some 42) (v := ?_) (a' := ?_) (bs 26 2047) rfl rfl (by kernel_rfl) (fun _ _ _ h => h) (Or.inl ⟨by rfl, ?_⟩) ?_ ?_
     rotate_left
     ·intro w'
      go_simp
      with_reducible rfl
     rotate_left
     ·simp only [Act.put, List.setIfInBounds_toArray, List.set_cons_zero, List.set_cons_succ, i64_w, i32_w]
      rfl
     refine pure_ (i := 11) (N := some 43) (v := ?_) (a' := ?_) (bs 26 4095) rfl rfl (by kernel_rfl) (fun _ _ _ h => h) (Or.inl ⟨by rfl, ?_⟩) ?_ ?_
     rotate_left
     ·intro w'
      go_simp
      with_reducible rfl
     rotate_left
     ·simp only [Act.put, List.setIfInBounds_toArray, List.set_cons_zero, List.set_cons_succ, i64_w, i32_w]
      rfl
     refine pure_ (i := 12) (N := some 44) (v := ?_) (a' := ?_) (bs 26 8191) rfl rfl (by kernel_rfl) (fun _ _ _ h => h) (Or.inl ⟨by rfl, ?_⟩) ?_ ?_
     rotate_left
     ·intro w'
      go_simp
      with_reducible rfl
     rotate_left
     ·simp only [Act.put, List.setIfInBounds_toArray, List.set_cons_zero, List.set_cons_succ, i64_w, i32_w]
      rfl
     refine pure_ (i := 13) (N := some 45) (v := ?_) (a' := ?_) (bs 26 16383) rfl rfl (by kernel_rfl) (fun _ _ _ h => h) (Or.inl ⟨by rfl, ?_⟩) ?_ ?_
     rotate_left
     ·intro w'
      go_simp
      with_reducible rfl
     rotate_left
     ·simp only [Act.put, List.setIfInBounds_toArray, List.set_cons_zero, List.set_cons_succ, i64_w, i32_w]
      rfl
     refine pure_ (i := 14) (N := some 46) (v := ?_) (a' := ?_) (bs 26 32767) rfl rfl (by kernel_rfl) (fun _ _ _ h => h) (Or.inl ⟨by rfl, ?_⟩) ?_ ?_
     rotate_left
     ·intro w'
      go_simp
      with_reducible rfl
     rotate_left
     ·simp only [Act.put, List.setIfInBounds_toArray, List.set_cons_zero, List.set_cons_succ, i64_w, i32_w]
      rfl
     refine pure_ (i := 15) (N := some 47) (v := ?_) (a' := ?_) (bs 26 65535) rfl rfl (by kernel_rfl) (fun _ _ _ h => h) (Or.inl ⟨by rfl, ?_⟩) ?_ ?_
     rotate_left
     ·intro w'
      go_simp
      with_reducible rfl
     rotate_left
     ·simp only [Act.put, List.setIfInBounds_toArray, List.set_cons_zero, List.set_cons_succ, i64_w, i32_w]
      rfl
     refine pure_ (i := 16) (N := some 48) (v := ?_) (a' := ?_) (bs 26 131071) rfl rfl (by kernel_rfl) (fun _ _ _ h => h) (Or.inl ⟨by rfl, ?_⟩) ?_ ?_
     rotate_left
     ·intro w'
      go_simp
      with_reducible rfl
     rotate_left
     ·simp only [Act.put, List.setIfInBounds_toArray, List.set_cons_zero, List.set_cons_succ, i64_w, i32_w]
      rfl
     refine pure_ (i := 18) (N := some 50) (v := ?_) (a' := ?_) (bs 26 393215) rfl rfl (by kernel_rfl) (fun _ _ _ h => h) (Or.inl ⟨by rfl, ?_⟩) ?_ ?_
     rotate_left
     ·intro w'
      go_simp
      with_reducible rfl
     rotate_left
     ·simp only [Act.put, List.setIfInBounds_toArray, List.set_cons_zero, List.set_cons_succ, i64_w, i32_w]
      rfl
     refine pure_ (i := 19) (N := some 51) (v := ?_) (a' := ?_) (bs 26 917503) rfl rfl (by kernel_rfl) (fun _ _ _ h => h) (Or.inl ⟨by rfl, ?_⟩) ?_ ?_
     rotate_left
     ·intro w'
      go_simp
      with_reducible rfl
     rotate_left
     ·simp only [Act.put, List.setIfInBounds_toArray, List.set_cons_zero, List.set_cons_succ, i64_w, i32_w]
      rfl
     refine pure_ (i := 20) (N := some 52) (v := ?_) (a' := ?_) (bs 26 1966079) rfl rfl (by kernel_rfl) (fun _ _ _ h => h) (Or.inl ⟨by rfl, ?_⟩) ?_ ?_
     rotate_left
     ·intro w'
      go_simp
      with_reducible rfl
     rotate_left
     ·simp only [Act.put, List.setIfInBounds_toArray, List.set_cons_zero, List.set_cons_succ, i64_w, i32_w]
      rfl
     refine pure_ (i := 21) (N := some 53) (v := ?_) (a' := ?_) (bs 26 4063231) rfl rfl (by kernel_rfl) (fun _ _ _ h => h) (Or.inl ⟨by rfl, ?_⟩) ?_ ?_
     rotate_left
     ·intro w'
      go_simp
      with_reducible rfl
     rotate_left
     ·simp only [Act.put, List.setIfInBounds_toArray, List.set_cons_zero, List.set_cons_succ, i64_w, i32_w]
      rfl
     refine take_ (i := 17) (N := some 49) (v := ?_) (a' := ?_) (bs 26 4194303) rfl rfl (by kernel_rfl) (fun _ _ _ h => h) (Or.inl ⟨by rfl, ?_⟩) hHeld ?_ ?_
     rotate_left
     ·rintro w' ⟨s0, s1, s2⟩
      go_simp
      with_reducible rfl
     rotate_left
     ·simp only [Act.put, List.setIfInBounds_toArray, List.set_cons_zero, List.set_cons_succ, i64_w, i32_w]
      rfl
     refine take_ (i := 22) (N := some 54) (v := ?_) (a' := ?_) (bs 26 8388607) rfl rfl (by kernel_rfl) (fun _ _ _ h => h) (Or.inl ⟨by rfl, ?_⟩) hHeld ?_ ?_
     rotate_left
     ·rintro w' ⟨s0, s1, s2⟩
      go_simp
      with_reducible rfl
     rotate_left
     ·simp only [Act.put, List.setIfInBounds_toArray, List.set_cons_zero, List.set_cons_succ, i64_w, i32_w]
      rfl
     refine pure_ (i := 23) (N := some 55) (v := ?_) (a' := ?_) (bs 26 16777215) rfl rfl (by kernel_rfl) (fun _ _ _ h => h) (Or.inl ⟨by rfl, ?_⟩) ?_ ?_
     rotate_left
     ·intro w'
      go_simp
      with_reducible rfl
     rotate_left
     ·simp only [Act.put, List.setIfInBounds_toArray, List.set_cons_zero, List.set_cons_succ, i64_w, i32_w]
      rfl
     refine pure_ (i := 24) (N := some 56) (v := ?_) (a' := ?_) (bs 26 33554431) rfl rfl (by kernel_rfl) (fun _ _ _ h => h) (Or.inl ⟨by rfl, ?_⟩) ?_ ?_
     rotate_left
     ·intro w'
      go_simp
      with_reducible rfl
     rotate_left
     ·simp only [Act.put, List.setIfInBounds_toArray, List.set_cons_zero, List.set_cons_succ, i64_w, i32_w]
      rfl
     refine pure_ (i := 25) (N := some 57) (v := ?_) (a' := ?_) (bs 26 67108863) rfl rfl (by kernel_rfl) (fun _ _ _ h => h) (Or.inl ⟨by rfl, ?_⟩) ?_ ?_
     rotate_left
     ·intro w'
      go_simp
      with_reducible rfl
     rotate_left
     ·simp only [Act.put, List.setIfInBounds_toArray, List.set_cons_zero, List.set_cons_succ, i64_w, i32_w]
      rfl
     refine done_ (by kernel_rfl) ?_
     have HN := Aside0.mk (bel2 hD hb8)
     clear hHeld hb8
     go_wp2_with fail
     go_meet
     case rel => exact ⟨rfl, HN⟩
    case rest =>
    obtain ⟨rfl, HC⟩ := hcut
    have qv2 := pw_cell_below HC.out qv
    have HN := Aside0.mk (HW.out.step HP.out HC.out)
    clear qv qu k10 HC hri hwn hwn2 hD hwk hwk2 hle hle2 hk0 hjz hjl hkn
    have hv5 := HV5.out
    rcases hv5 with rfl | rfl | rfl | rfl | rfl
    all_goals
     go_wp2
     go_roundw
     case rel => exact ⟨kk + 1, by omega, by rw [HOR2.out]; rfl, by go_num, HN⟩
     case measure => simp [intOf]; omega
  ·obtain rfl : k = l.length := by omega
   have hltz : ¬ (l.length : Int) < (l.length : Int) := by omega
   rw [HOR.out]
   have k0 := HW.out.box.cell 0 _ rfl
   have k1 := HW.out.box.cell 1 _ rfl
   have k2 := HW.out.box.cell 2 _ rfl
   have k3 := HW.out.box.cell 3 _ rfl
   have k4 := HW.out.box.cell 4 _ rfl
   have k5 := HW.out.box.cell 5 _ rfl
   have k6 := HW.out.box.cell 6 _ rfl
   have k7 := HW.out.box.cell 7 _ rfl
   have k8 := HW.out.box.cell 8 _ rfl
   have k9 := HW.out.box.cell 9 _ rfl
   have k10 := HW.out.box.cell 10 _ rfl
   go_wp2_with fail
   refine (HFU.out _ HW.out.bel).mono ?_
   rintro e w4 ⟨rfl, hb⟩
   have H4 := Aside0.mk (HW.out.step HP.out hb)
   clear hb HW k0 k1 k2 k3 k4 k5 k6 k7 k8 k9 k10
   have hm1 := HM.out.1
   have hm2 := HM.out.2.1
   have hand := HM.out.2.2
   have k0 := H4.out.box.cell 0 _ rfl
   have k1 := H4.out.box.cell 1 _ rfl
   have k2 := H4.out.box.cell 2 _ rfl
   have k3 := H4.out.box.cell 3 _ rfl
   have k4 := H4.out.box.cell 4 _ rfl
   have k5 := H4.out.box.cell 5 _ rfl
   have k6 := H4.out.box.cell 6 _ rfl
   have k7 := H4.out.box.cell 7 _ rfl
   have k8 := H4.out.box.cell 8 _ rfl
   have k9 := H4.out.box.cell 9 _ rfl
   have k10 := H4.out.box.cell 10 _ rfl
   have HB0 := Aside0.mk (bel2 H4.out.bel (below_drew (Below.refl w4.heap.size w4)))
   go_wp2
   refine start_ (n := 13) (S := fun w' => w'.cell? ⟨w.heap.size, 0, none⟩ = some (.int .i64 x.f0) ∧ w'.cell? ⟨w.heap.size, 1, none⟩ = some (.int .i64 x.f1) ∧ w'.cell? ⟨w.heap.size, 2, none⟩ = some (.int .i64 x.f2) ∧ w'.cell? ⟨w.heap.size, 3, none⟩ = some (.int .i64 x.f3) ∧ w'.cell? ⟨w.heap.size, 4, none⟩ = some (.int .i64 x.f4) ∧ w'.cell? ⟨w.heap.size, 5, none⟩ = some (.slice A5 x.f5.length c5) ∧ w'.cell? ⟨w.heap.size, 6, none⟩ = some (.slice A6 x.f6.length c6) ∧ w'.cell? ⟨w.heap.size, 7, none⟩ = some (.int .i64 x.f7.f0) ∧ w'.cell? ⟨w.heap.size, 8, none⟩ = some (.int .i64 x.f7.f1) ∧ w'.cell? ⟨w.heap.size, 9, none⟩ = some (.slice A9 x.f8.length c9) ∧ w'.cell? ⟨w.heap.size, 10, none⟩ = some (.slice A10 x.f9.length c10)) (ds := []) #[false, false, false, false, false, false, false, false, false, false, false, false, false] (by kernel_rfl) rfl rfl ⟨k0, k1, k2, k3, k4, k5, k6, k7, k8, k9, k10⟩ (fun hHeld => ?_)
   refine pure_ (i := 3) (N := some 75) (v := ?_) (a' := ?_) (bs 13 8) rfl rfl (by kernel_rfl) (fun _ _ _ h => h) (Or.inl ⟨by rfl, ?_⟩) ?_ ?_
   rotate_left
   ·intro w'
    go_simp
    with_reducible rfl
   rotate_left
   ·simp only [Act.put, List.setIfInBounds_toArray, List.set_cons_zero, List.set_cons_succ, i64_w, i32_w]
    rfl
   refine take_ (i := 0) (N := some 72) (v := ?_) (a' := ?_) (bs 13 9) rfl rfl (by kernel_rfl) (fun _ _ _ h => h) (Or.inl ⟨by rfl, ?_⟩) hHeld ?_ ?_
   rotate_left
   ·rintro w' ⟨s0, s1, s2, s3, s4, s5, s6, s7, s8, s9, s10⟩
    go_simp
    with_reducible rfl
   rotate_left
   ·simp only [Act.put, List.setIfInBounds_toArray, List.set_cons_zero, List.set_cons_succ, i64_w, i32_w]
    rfl
   refine take_ (i := 1) (N := some 73) (v := ?_) (a' := ?_) (bs 13 11) rfl rfl (by kernel_rfl) (fun _ _ _ h => h) (Or.inl ⟨by rfl, ?_⟩) hHeld ?_ ?_
   rotate_left
   ·rintro w' ⟨s0, s1, s2, s3, s4, s5, s6, s7, s8, s9, s10⟩
    go_simp
    with_reducible rfl
   rotate_left
   ·simp only [Act.put, List.setIfInBounds_toArray, List.set_cons_zero, List.set_cons_succ, i64_w, i32_w]
    rfl
   refine one_ (i := 2) (N := some 74) (bs 13 15) rfl rfl (by kernel_rfl) (by decide) (fun K hK => ?_)
   refine goes_ Try.func54 (by kernel_rfl) rfl #[.agg #[.int .i64 x.f0, .int .i64 x.f1, .int .i64 x.f2, .int .i64 x.f3, .int .i64 x.f4, .slice A5 x.f5.length c5, .slice A6 x.f6.length c6, .int .i64 x.f7.f0, .int .i64 x.f7.f1, .slice A9 x.f8.length c9, .slice A10 x.f9.length c10]] (by rfl) rfl rfl (by simp only [List.map_toArray, List.map_cons, List.map_nil]; rfl) ?_
   with_reducible refine (HFU.out _ HB0.out).mono ?_
   rintro e w5 ⟨rfl, hb5⟩
   refine ⟨_, rfl, ?_⟩
   refine hK.out _ _ ⟨pw_cell_below hb5 (hHeld.1), pw_cell_below hb5 (hHeld.2.1), pw_cell_below hb5 (hHeld.2.2.1), pw_cell_below hb5 (hHeld.2.2.2.1), pw_cell_below hb5 (hHeld.2.2.2.2.1), pw_cell_below hb5 (hHeld.2.2.2.2.2.1), pw_cell_below hb5 (hHeld.2.2.2.2.2.2.1), pw_cell_below hb5 (hHeld.2.2.2.2.2.2.2.1), pw_cell_below hb5 (hHeld.2.2.2.2.2.2.2.2.1), pw_cell_below hb5 (hHeld.2.2.2.2.2.2.2.2.2.1), pw_cell_below hb5 (hHeld.2.2.2.2.2.2.2.2.2.2)⟩ (fun hHeld => ?_)
   clear hK K
   refine norm_ (a' := ?_) ?_ ?_
   rotate_left
   ·show Act.put _ (some 74) _ = _
    simp only [Act.put, List.setIfInBounds_toArray, List.set_cons_zero, List.set_cons_succ, i64_w, i32_w]
    rfl
   refine pure_ (i := 4) (N := some 76) (v := ?_) (a' := ?_) (bs 13 31) rfl rfl (by kernel_rfl) (fun _ _ _ h => h) (Or.inl ⟨by rfl, ?_⟩) ?_ ?_
   rotate_left
   ·intro w'
    go_simp
    with_reducible rfl
   rotate_left
   ·simp only [Act.put, List.setIfInBounds_toArray, List.set_cons_zero, List.set_cons_succ, i64_w, i32_w]
    rfl
   refine one_ (i := 5) (N := some 77) (bs 13 63) rfl rfl (by kernel_rfl) (by decide) (fun K hK => ?_)
   refine goes_ Try.func53 (by kernel_rfl) rfl #[.agg #[.int .i64 x.f0, .int .i64 x.f1, .int .i64 x.f2, .int .i64 x.f3, .int .i64 x.f4, .slice A5 x.f5.length c5, .slice A6 x.f6.length c6, .int .i64 x.f7.f0, .int .i64 x.f7.f1, .slice A9 x.f8.length c9, .slice A10 x.f9.length c10], .int .i64 mb] (by rfl) rfl rfl (by simp only [List.map_toArray, List.map_cons, List.map_nil]; rfl) ?_
   with_reducible refine (HSM.out mb HBF.out.1 _ (bel2 HB0.out hb5)).mono ?_
   rintro e w6 ⟨d6, rfl, hb6, hkd6⟩
   refine ⟨_, rfl, ?_⟩
   refine hK.out _ _ ⟨pw_cell_below hb6 (hHeld.1), pw_cell_below hb6 (hHeld.2.1), pw_cell_below hb6 (hHeld.2.2.1), pw_cell_below hb6 (hHeld.2.2.2.1), pw_cell_below hb6 (hHeld.2.2.2.2.1), pw_cell_below hb6 (hHeld.2.2.2.2.2.1), pw_cell_below hb6 (hHeld.2.2.2.2.2.2.1), pw_cell_below hb6 (hHeld.2.2.2.2.2.2.2.1), pw_cell_below hb6 (hHeld.2.2.2.2.2.2.2.2.1), pw_cell_below hb6 (hHeld.2.2.2.2.2.2.2.2.2.1), pw_cell_below hb6 (hHeld.2.2.2.2.2.2.2.2.2.2)⟩ (fun hHeld => ?_)
   clear hK K
   refine norm_ (a' := ?_) ?_ ?_
   rotate_left
   ·show Act.put _ (some 77) _ = _
    simp only [Act.put, List.setIfInBounds_toArray, List.set_cons_zero, List.set_cons_succ, i64_w, i32_w]
    rfl
   refine one_ (i := 6) (N := some 78) (bs 13 127) rfl rfl (by kernel_rfl) (by decide) (fun K hK => ?_)
   refine goes_ Try.func22 (by kernel_rfl) rfl #[.agg d6.toArray] (by rfl) rfl rfl (by simp only [List.map_toArray, List.map_cons, List.map_nil]; rfl) ?_
   with_reducible refine (HCP2.out mb _ d6 hkd6).mono ?_
   rintro e w7 ⟨d7, rfl, hb7, hkd7⟩
   refine ⟨_, rfl, ?_⟩
   refine hK.out _ _ ⟨pw_cell_below hb7 (hHeld.1), pw_cell_below hb7 (hHeld.2.1), pw_cell_below hb7 (hHeld.2.2.1), pw_cell_below hb7 (hHeld.2.2.2.1), pw_cell_below hb7 (hHeld.2.2.2.2.1), pw_cell_below hb7 (hHeld.2.2.2.2.2.1), pw_cell_below hb7 (hHeld.2.2.2.2.2.2.1), pw_cell_below hb7 (hHeld.2.2.2.2.2.2.2.1), pw_cell_below hb7 (hHeld.2.2.2.2.2.2.2.2.1), pw_cell_below hb7 (hHeld.2.2.2.2.2.2.2.2.2.1), pw_cell_below hb7 (hHeld.2.2.2.2.2.2.2.2.2.2)⟩ (fun hHeld => ?_)
   clear hK K
   refine norm_ (a' := ?_) ?_ ?_
   rotate_left
   ·show Act.put _ (some 78) _ = _
    simp only [Act.put, List.setIfInBounds_toArray, List.set_cons_zero, List.set_cons_succ, i64_w, i32_w]
    rfl
   refine one_ (i := 7) (N := some 79) (bs 13 255) rfl rfl (by kernel_rfl) (by decide) (fun K hK => ?_)
   refine goes_ Try.func52 (by kernel_rfl) rfl #[.agg d7.toArray] (by rfl) rfl rfl (by simp only [List.map_toArray, List.map_cons, List.map_nil]; rfl) ?_
   with_reducible refine (HK1.out _ d7 hkd7).mono ?_
   rintro e w8 ⟨Ak, nk, ak, rfl, hb8⟩
   refine ⟨_, rfl, ?_⟩
   refine hK.out _ _ ⟨pw_cell_below hb8 (hHeld.1), pw_cell_below hb8 (hHeld.2.1), pw_cell_below hb8 (hHeld.2.2.1), pw_cell_below hb8 (hHeld.2.2.2.1), pw_cell_below hb8 (hHeld.2.2.2.2.1), pw_cell_below hb8 (hHeld.2.2.2.2.2.1), pw_cell_below hb8 (hHeld.2.2.2.2.2.2.1), pw_cell_below hb8 (hHeld.2.2.2.2.2.2.2.1), pw_cell_below hb8 (hHeld.2.2.2.2.2.2.2.2.1), pw_cell_below hb8 (hHeld.2.2.2.2.2.2.2.2.2.1), pw_cell_below hb8 (hHeld.2.2.2.2.2.2.2.2.2.2)⟩ (fun hHeld => ?_)
   clear hK K
   refine norm_ (a' := ?_) ?_ ?_
   rotate_left
   ·show Act.put _ (some 79) _ = _
    simp only [Act.put, List.setIfInBounds_toArray, List.set_cons_zero, List.set_cons_succ, i64_w, i32_w]
    rfl
   refine pure_ (i := 8) (N := some 71) (v := ?_) (a' := ?_) (bs 13 511) rfl rfl (by kernel_rfl) (fun _ _ _ h => h) (Or.inl ⟨by rfl, ?_⟩) ?_ ?_
   rotate_left
   ·intro w'
    go_simp
    with_reducible rfl
   rotate_left
   ·simp only [Act.put, List.setIfInBounds_toArray, List.set_cons_zero, List.set_cons_succ, i64_w, i32_w]
    rfl
   refine pure_ (i := 9) (N := some 80) (v := ?_) (a' := ?_) (bs 13 1023) rfl rfl (by kernel_rfl) (fun _ _ _ h => h) (Or.inl ⟨by rfl, ?_⟩) ?_ ?_
   rotate_left
   ·intro w'
    go_simp
    with_reducible rfl
   rotate_left
   ·simp only [Act.put, List.setIfInBounds_toArray, List.set_cons_zero, List.set_cons_succ, i64_w, i32_w]
    rfl
   refine pure_ (i := 10) (N := some 81) (v := ?_) (a' := ?_) (bs 13 2047) rfl rfl (by kernel_rfl) (fun _ _ _ h => h) (Or.inl ⟨by rfl, ?_⟩) ?_ ?_
   rotate_left
   ·intro w'
    go_simp
    with_reducible rfl
   rotate_left
   ·simp only [Act.put, List.setIfInBounds_toArray, List.set_cons_zero, List.set_cons_succ, i64_w, i32_w]
    rfl
   refine pure_ (i := 11) (N := some 10) (v := ?_) (a' := ?_) (bs 13 4095) rfl rfl (by kernel_rfl) (fun _ _ _ h => h) (Or.inl ⟨by rfl, ?_⟩) ?_ ?_
   rotate_left
   ·intro w'
    go_simp
    with_reducible rfl
   rotate_left
   ·simp only [Act.put, List.setIfInBounds_toArray, List.set_cons_zero, List.set_cons_succ, i64_w, i32_w]
    rfl
   refine pure_ (i := 12) (N := some 11) (v := ?_) (a' := ?_) (bs 13 8191) rfl rfl (by kernel_rfl) (fun _ _ _ h => h) (Or.inl ⟨by rfl, ?_⟩) ?_ ?_
   rotate_left
   ·intro w'
    go_simp
    with_reducible rfl
   rotate_left
   ·simp only [Act.put, List.setIfInBounds_toArray, List.set_cons_zero, List.set_cons_succ, i64_w, i32_w]
    rfl
   refine done_ (by kernel_rfl) ?_
   have H5 := Aside0.mk (H4.out.step HP.out (bel2 (bel2 (bel2 (bel2 (below_drew (Below.refl w4.heap.size w4)) hb5) hb6) hb7) hb8))
   clear hHeld hb5 hb6 hb7 hb8 hkd6 hkd7 k0 k1 k2 k3 k4 k5 k6 k7 k8 k9 k10 H4
   have k0 := H5.out.box.cell 0 _ rfl
   have k1 := H5.out.box.cell 1 _ rfl
   have k2 := H5.out.box.cell 2 _ rfl
   have k3 := H5.out.box.cell 3 _ rfl
   have k4 := H5.out.box.cell 4 _ rfl
   have k5 := H5.out.box.cell 5 _ rfl
   have k6 := H5.out.box.cell 6 _ rfl
   have k7 := H5.out.box.cell 7 _ rfl
   have k8 := H5.out.box.cell 8 _ rfl
   have k9 := H5.out.box.cell 9 _ rfl
   have k10 := H5.out.box.cell 10 _ rfl
   have HB1 := Aside0.mk (bel2 H5.out.bel (below_drew (Below.refl w8.heap.size w8)))
   obtain ⟨e2, he2⟩ : ∃ e2, askE (someX x mn) true = e2 := ⟨_, rfl⟩
   have HK2 := Aside0.mk (HKP.out _ e2 he2)
   go_wp2
   refine start_ (n := 13) (S := fun w' => w'.cell? ⟨w.heap.size, 0, none⟩ = some (.int .i64 x.f0) ∧ w'.cell? ⟨w.heap.size, 1, none⟩ = some (.int .i64 x.f1) ∧ w'.cell? ⟨w.heap.size, 2, none⟩ = some (.int .i64 x.f2) ∧ w'.cell? ⟨w.heap.size, 3, none⟩ = some (.int .i64 x.f3) ∧ w'.cell? ⟨w.heap.size, 4, none⟩ = some (.int .i64 x.f4) ∧ w'.cell? ⟨w.heap.size, 5, none⟩ = some (.slice A5 x.f5.length c5) ∧ w'.cell? ⟨w.heap.size, 6, none⟩ = some (.slice A6 x.f6.length c6) ∧ w'.cell? ⟨w.heap.size, 7, none⟩ = some (.int .i64 x.f7.f0) ∧ w'.cell? ⟨w.heap.size, 8, none⟩ = some (.int .i64 x.f7.f1) ∧ w'.cell? ⟨w.heap.size, 9, none⟩ = some (.slice A9 x.f8.length c9) ∧ w'.cell? ⟨w.heap.size, 10, none⟩ = some (.slice A10 x.f9.length c10)) (ds := []) #[false, false, false, false, false, false, false, false, false, false, false, false, false] (by kernel_rfl) rfl rfl ⟨k0, k1, k2, k3, k4, k5, k6, k7, k8, k9, k10⟩ (fun hHeld => ?_)
   refine pure_ (i := 3) (N := some 86) (v := ?_) (a' := ?_) (bs 13 8) rfl rfl (by kernel_rfl) (fun _ _ _ h => h) (Or.inl ⟨by rfl, ?_⟩) ?_ ?_
   rotate_left
   ·intro w'
    go_simp
    with_reducible rfl
   rotate_left
   ·simp only [Act.put, List.setIfInBounds_toArray, List.set_cons_zero, List.set_cons_succ, i64_w, i32_w]
    rfl
   refine take_ (i := 0) (N := some 83) (v := ?_) (a' := ?_) (bs 13 9) rfl rfl (by kernel_rfl) (fun _ _ _ h => h) (Or.inl ⟨by rfl, ?_⟩) hHeld ?_ ?_
   rotate_left
   ·rintro w' ⟨s0, s1, s2, s3, s4, s5, s6, s7, s8, s9, s10⟩
    go_simp
    with_reducible rfl
   rotate_left
   ·simp only [Act.put, List.setIfInBounds_toArray, List.set_cons_zero, List.set_cons_succ, i64_w, i32_w]
    rfl
   refine take_ (i := 1) (N := some 84) (v := ?_) (a' := ?_) (bs 13 11) rfl rfl (by kernel_rfl) (fun _ _ _ h => h) (Or.inl ⟨by rfl, ?_⟩) hHeld ?_ ?_
   rotate_left
   ·rintro w' ⟨s0, s1, s2, s3, s4, s5, s6, s7, s8, s9, s10⟩
    go_simp
    with_reducible rfl
   rotate_left
   ·simp only [Act.put, List.setIfInBounds_toArray, List.set_cons_zero, List.set_cons_succ, i64_w, i32_w]
    rfl
   refine one_ (i := 2) (N := some 85) (bs 13 15) rfl rfl (by kernel_rfl) (by decide) (fun K hK => ?_)
   refine goes_ Try.func54 (by kernel_rfl) rfl #[.agg #[.int .i64 x.f0, .int .i64 x.f1, .int .i64 x.f2, .int .i64 x.f3, .int .i64 x.f4, .slice A5 x.f5.length c5, .slice A6 x.f6.length c6, .int .i64 x.f7.f0, .int .i64 x.f7.f1, .slice A9 x.f8.length c9, .slice A10 x.f9.length c10]] (by rfl) rfl rfl (by simp only [List.map_toArray, List.map_cons, List.map_nil]; rfl) ?_
   with_reducible refine (HFU.out _ HB1.out).mono ?_
   rintro e w9 ⟨rfl, hb9⟩
   refine ⟨_, rfl, ?_⟩
   refine hK.out _ _ ⟨pw_cell_below hb9 (hHeld.1), pw_cell_below hb9 (hHeld.2.1), pw_cell_below hb9 (hHeld.2.2.1), pw_cell_below hb9 (hHeld.2.2.2.1), pw_cell_below hb9 (hHeld.2.2.2.2.1), pw_cell_below hb9 (hHeld.2.2.2.2.2.1), pw_cell_below hb9 (hHeld.2.2.2.2.2.2.1), pw_cell_below hb9 (hHeld.2.2.2.2.2.2.2.1), pw_cell_below hb9 (hHeld.2.2.2.2.2.2.2.2.1), pw_cell_below hb9 (hHeld.2.2.2.2.2.2.2.2.2.1), pw_cell_below hb9 (hHeld.2.2.2.2.2.2.2.2.2.2)⟩ (fun hHeld => ?_)
   clear hK K
   refine norm_ (a' := ?_) ?_ ?_
   rotate_left
   ·show Act.put _ (some 85) _ = _
    simp only [Act.put, List.setIfInBounds_toArray, List.set_cons_zero, List.set_cons_succ, i64_w, i32_w]
    rfl
   refine pure_ (i := 4) (N := some 87) (v := ?_) (a' := ?_) (bs 13 31) rfl rfl (by kernel_rfl) (fun _ _ _ h => h) (Or.inl ⟨by rfl, ?_⟩) ?_ ?_
   rotate_left
   ·intro w'
    go_simp
    with_reducible rfl
   rotate_left
   ·simp only [Act.put, List.setIfInBounds_toArray, List.set_cons_zero, List.set_cons_succ, i64_w, i32_w]
    rfl
   refine one_ (i := 5) (N := some 88) (bs 13 63) rfl rfl (by kernel_rfl) (by decide) (fun K hK => ?_)
   refine goes_ Try.func53 (by kernel_rfl) rfl #[.agg #[.int .i64 x.f0, .int .i64 x.f1, .int .i64 x.f2, .int .i64 x.f3, .int .i64 x.f4, .slice A5 x.f5.length c5, .slice A6 x.f6.length c6, .int .i64 x.f7.f0, .int .i64 x.f7.f1, .slice A9 x.f8.length c9, .slice A10 x.f9.length c10], .int .i64 mn] (by rfl) rfl rfl (by simp only [List.map_toArray, List.map_cons, List.map_nil]; rfl) ?_
   with_reducible refine (HSM.out mn HBF.out.2 _ (bel2 HB1.out hb9)).mono ?_
   rintro e w10 ⟨d10, rfl, hb10, hkd10⟩
   refine ⟨_, rfl, ?_⟩
   refine hK.out _ _ ⟨pw_cell_below hb10 (hHeld.1), pw_cell_below hb10 (hHeld.2.1), pw_cell_below hb10 (hHeld.2.2.1), pw_cell_below hb10 (hHeld.2.2.2.1), pw_cell_below hb10 (hHeld.2.2.2.2.1), pw_cell_below hb10 (hHeld.2.2.2.2.2.1), pw_cell_below hb10 (hHeld.2.2.2.2.2.2.1), pw_cell_below hb10 (hHeld.2.2.2.2.2.2.2.1), pw_cell_below hb10 (hHeld.2.2.2.2.2.2.2.2.1), pw_cell_below hb10 (hHeld.2.2.2.2.2.2.2.2.2.1), pw_cell_below hb10 (hHeld.2.2.2.2.2.2.2.2.2.2)⟩ (fun hHeld => ?_)
   clear hK K
   refine norm_ (a' := ?_) ?_ ?_
   rotate_left
   ·show Act.put _ (some 88) _ = _
    simp only [Act.put, List.setIfInBounds_toArray, List.set_cons_zero, List.set_cons_succ, i64_w, i32_w]
    rfl
   refine one_ (i := 6) (N := some 89) (bs 13 127) rfl rfl (by kernel_rfl) (by decide) (fun K hK => ?_)
   refine goes_ Try.func22 (by kernel_rfl) rfl #[.agg d10.toArray] (by rfl) rfl rfl (by simp only [List.map_toArray, List.map_cons, List.map_nil]; rfl) ?_
   with_reducible refine (HCP2.out mn _ d10 hkd10).mono ?_
   rintro e w11 ⟨d11, rfl, hb11, hkd11⟩
   refine ⟨_, rfl, ?_⟩
   refine hK.out _ _ ⟨pw_cell_below hb11 (hHeld.1), pw_cell_below hb11 (hHeld.2.1), pw_cell_below hb11 (hHeld.2.2.1), pw_cell_below hb11 (hHeld.2.2.2.1), pw_cell_below hb11 (hHeld.2.2.2.2.1), pw_cell_below hb11 (hHeld.2.2.2.2.2.1), pw_cell_below hb11 (hHeld.2.2.2.2.2.2.1), pw_cell_below hb11 (hHeld.2.2.2.2.2.2.2.1), pw_cell_below hb11 (hHeld.2.2.2.2.2.2.2.2.1), pw_cell_below hb11 (hHeld.2.2.2.2.2.2.2.2.2.1), pw_cell_below hb11 (hHeld.2.2.2.2.2.2.2.2.2.2)⟩ (fun hHeld => ?_)
   clear hK K
   refine norm_ (a' := ?_) ?_ ?_
   rotate_left
   ·show Act.put _ (some 89) _ = _
    simp only [Act.put, List.setIfInBounds_toArray, List.set_cons_zero, List.set_cons_succ, i64_w, i32_w]
    rfl
   refine one_ (i := 7) (N := some 90) (bs 13 255) rfl rfl (by kernel_rfl) (by decide) (fun K hK => ?_)
   refine goes_ Try.func52 (by kernel_rfl) rfl #[.agg d11.toArray] (by rfl) rfl rfl (by simp only [List.map_toArray, List.map_cons, List.map_nil]; rfl) ?_
   with_reducible refine (HK2.out _ d11 hkd11).mono ?_
   rintro e w12 ⟨Am, nm, am, rfl, hb12⟩
   refine ⟨_, rfl, ?_⟩
   refine hK.out _ _ ⟨pw_cell_below hb12 (hHeld.1), pw_cell_below hb12 (hHeld.2.1), pw_cell_below hb12 (hHeld.2.2.1), pw_cell_below hb12 (hHeld.2.2.2.1), pw_cell_below hb12 (hHeld.2.2.2.2.1), pw_cell_below hb12 (hHeld.2.2.2.2.2.1), pw_cell_below hb12 (hHeld.2.2.2.2.2.2.1), pw_cell_below hb12 (hHeld.2.2.2.2.2.2.2.1), pw_cell_below hb12 (hHeld.2.2.2.2.2.2.2.2.1), pw_cell_below hb12 (hHeld.2.2.2.2.2.2.2.2.2.1), pw_cell_below hb12 (hHeld.2.2.2.2.2.2.2.2.2.2)⟩ (fun hHeld => ?_)
   clear hK K
   refine norm_ (a' := ?_) ?_ ?_
   rotate_left
   ·show Act.put _ (some 90) _ = _
    simp only [Act.put, List.setIfInBounds_toArray, List.set_cons_zero, List.set_cons_succ, i64_w, i32_w]
    rfl
   refine pure_ (i := 8) (N := some 82) (v := ?_) (a' := ?_) (bs 13 511) rfl rfl (by kernel_rfl) (fun _ _ _ h => h) (Or.inl ⟨by rfl, ?_⟩) ?_ ?_
   rotate_left
   ·intro w'
    go_simp
    with_reducible rfl
   rotate_left
   ·simp only [Act.put, List.setIfInBounds_toArray, List.set_cons_zero, List.set_cons_succ, i64_w, i32_w]
    rfl
   refine pure_ (i := 9) (N := some 91) (v := ?_) (a' := ?_) (bs 13 1023) rfl rfl (by kernel_rfl) (fun _ _ _ h => h) (Or.inl ⟨by rfl, ?_⟩) ?_ ?_
   rotate_left
   ·intro w'
    go_simp
    with_reducible rfl
   rotate_left
   ·simp only [Act.put, List.setIfInBounds_toArray, List.set_cons_zero, List.set_cons_succ, i64_w, i32_w]
    rfl
   refine pure_ (i := 10) (N := some 92) (v := ?_) (a' := ?_) (bs 13 2047) rfl rfl (by kernel_rfl) (fun _ _ _ h => h) (Or.inl ⟨by rfl, ?_⟩) ?_ ?_
   rotate_left
   ·intro w'
    go_simp
    with_reducible rfl
   rotate_left
   ·simp only [Act.put, List.setIfInBounds_toArray, List.set_cons_zero, List.set_cons_succ, i64_w, i32_w]
    rfl
   refine pure_ (i := 11) (N := some 12) (v := ?_) (a' := ?_) (bs 13 4095) rfl rfl (by kernel_rfl) (fun _ _ _ h => h) (Or.inl ⟨by rfl, ?_⟩) ?_ ?_
   rotate_left
   ·intro w'
    go_simp
    with_reducible rfl
   rotate_left
   ·simp only [Act.put, List.setIfInBounds_toArray, List.set_cons_zero, List.set_cons_succ, i64_w, i32_w]
    rfl
   refine pure_ (i := 12) (N := some 13) (v := ?_) (a' := ?_) (bs 13 8191) rfl rfl (by kernel_rfl) (fun _ _ _ h => h) (Or.inl ⟨by rfl, ?_⟩) ?_ ?_
   rotate_left
   ·intro w'
    go_simp
    with_reducible rfl
   rotate_left
   ·simp only [Act.put, List.setIfInBounds_toArray, List.set_cons_zero, List.set_cons_succ, i64_w, i32_w]
    rfl
   refine done_ (by kernel_rfl) ?_
   have H6 := Aside0.mk (H5.out.step HP.out (bel2 (bel2 (bel2 (bel2 (below_drew (Below.refl w8.heap.size w8)) hb9) hb10) hb11) hb12))
   clear hHeld hb9 hb10 hb11 hb12 hkd10 hkd11 k0 k1 k2 k3 k4 k5 k6 k7 k8 k9 k10 H5
   have hp3 := HP3.out
   rw [he2] at hp3
   clear he2 hm1 hm2 hand
   rcases hp3 with rfl | ⟨rfl, hsh⟩
   ·go_wp2_with fail
    refine (awake_calls _).mono ?_
    rintro e w14 ⟨rfl, hb⟩
    have H9 := Aside0.mk (bel2 H6.out.bel hb)
    clear hb
    go_wp2
    go_ret
    exact ⟨rfl, H9.out⟩
   ·rw [HLB.out] at hsh
    have HSH := Lib.hid hsh
    clear hsh
    go_wp2_with fail
    refine (rBits_calls nn hn31 _).mono ?_
    rintro e w13 ⟨D, d, rfl, hC, hb⟩
    have H7 := Aside0.mk (H6.out.step HP.out hb)
    have hs2 := rShorter_calls D Al d cl _ _ w13 hC H7.out.rows
    rw [HSH.out] at hs2
    clear hb hC H6
    go_wp2_with fail
    refine hs2.mono ?_
    rintro e w14 ⟨rfl, hb⟩
    have H8 := Aside0.mk (bel2 H7.out.bel hb)
    clear hb hs2
    go_wp2_with fail
    refine (awake_calls _).mono ?_
    rintro e w15 ⟨rfl, hb⟩
    have H9 := Aside0.mk (bel2 H8.out hb)
    clear hb
    go_wp2
    go_ret
    exact ⟨rfl, H9.out⟩
theorem left_law (x : S38) (cs : List Value) (tr : Int) (h0 : 0 ≤ tr) (h1 : tr ≤ 255) (w : World) (hx : k38.K w x cs) : Calls Try.prog 10 #[.agg cs.toArray, .int .u8 tr] w fun e w' => e = .returned (.bool true) ∧ Below w.heap.size w w' := by
 cases h : readyB x with
 | false => exact left_awake x cs tr w hx h
 | true =>
  obtain ⟨t, rfl⟩ : ∃ t : Nat, tr = (t : Int) := ⟨tr.toNat, by omega⟩
  exact left_main x cs t (by omega) w hx h
end Go.Proofs.Ytdgkhoflajdidaa
