/- Lemmas for the law's proof: Qj. -/
import Derived.Test.YtdgkhoflajdidaaPromised01
import Derived.Test.YtdgkhoflajdidaaCore14
/- CopperPromised: the walk. -/
namespace Go.Proofs.Ytdgkhoflajdidaa
open Go.RowKit Go.Proofs.YtdgkhoflajdidaaW.PrintWords Go.Proofs.YtdgkhoflajdidaaW.PrintMore Go.Proofs.YtdgkhoflajdidaaW.PrintLast Go.Proofs.Ytdgkhoflajdidaa.Print
set_option linter.unusedVariables false
set_option linter.unusedSimpArgs false
set_option maxRecDepth 100000
set_option maxHeartbeats 4000000
theorem prm_awake (x : S38) (cs : List Value) (A : Option Addr) (c : Nat) (ws : List Wd16) (hr by_ : Int) (w : World) (hx : k38.K w x cs) (h : readyB x = false) : Calls Try.prog 17 #[.agg cs.toArray, .slice A ws.length c, .int .u8 hr, .int .u8 by_] w fun e w' => e = .returned (.bool true) ∧ Below w.heap.size w w' := by
 have hthin := fun W (hW : Below w.heap.size w W) => ready_calls x cs W (k38.K_below hW hx)
 obtain ⟨A5, c5, A6, c6, A9, c9, A10, c10, rfl, _⟩ := k38_open hx
 clear hx
 have hu := Try.underlying28
 have ZB := Aside0.mk (below_alloc (Below.refl w.heap.size w) (.cells #[.int .i64 x.f0, .int .i64 x.f1, .int .i64 x.f2, .int .i64 x.f3, .int .i64 x.f4, .slice A5 x.f5.length c5, .slice A6 x.f6.length c6, .int .i64 x.f7.f0, .int .i64 x.f7.f1, .slice A9 x.f8.length c9, .slice A10 x.f9.length c10] 28))
 have hth := hthin _ ZB.out
 rw [h] at hth
 clear hthin h
 go_enter Try.func17, Try.ntmps17
 go_wp2_with fail
 refine hth.mono ?_
 rintro e w1 ⟨rfl, hb⟩
 have HB := Aside0.mk (bel2 ZB.out hb)
 clear hb hth
 go_wp2_with fail
 refine (awake_calls _).mono ?_
 rintro e w2 ⟨rfl, hb⟩
 have HB2 := Aside0.mk (bel2 HB.out hb)
 clear hb
 go_wp2
 go_ret
 exact ⟨rfl, HB2.out⟩
theorem own_listN {w : World} {base : Nat} {v : Value} {n : Nat} {l : List Int} (h : w.ownsRow base 3 1 v n (nums .i64 l)) (hn : l.length = n) : ∃ A c, v = .slice A l.length c ∧ Kd.C (Kd.int .i64) w A l.length l := by
 subst hn
 obtain ⟨A', c', e5, _, g5⟩ := own_C (Kd.int .i64) (.int .i64) rfl (fun _ _ => rfl) (xs := l) rfl (by simp [nums]) h
 exact ⟨A', c', e5, g5⟩
theorem own_list2 {w : World} {base : Nat} {A : Option Addr} {c n : Nat} {l : List Int} (h : w.ownsRow base 3 1 (.slice A n c) n (nums .i64 l)) (hn : l.length = n) : Kd.C (Kd.int .i64) w A l.length l := by
 obtain ⟨A', c', e5, g5⟩ := own_listN h hn
 simp only [Value.slice.injEq] at e5
 rw [e5.1]
 exact g5
theorem own_zero {x : S38} {d : Nat} (hze : zeroL x = List.replicate d 0) (W : World) (base : Nat) (hb : base ≤ W.heap.size) (hd : d ≤ 5) : (W.alloc (.cells (madeCells #[.int .i64 0] d) 3)).ownsRow base 3 1 (.slice (some ⟨W.heap.size, 0, none⟩) d d) d (nums .i64 (zeroL x)) := by
 rw [hze]
 exact own_made W base 3 .i64 d hb (by omega)
/-- The state of Promised's loop. -/
structure PmSt (w : World) (B : Array Value) (l m : List Int) (n1 n2 : Nat) (v1 v2 : Value) (W : World) : Prop where
 bel : Below w.heap.size w W
 box : Blk W w.heap.size B 28
 r1 : W.ownsRow w.heap.size 3 1 v1 n1 (nums .i64 l)
 r2 : W.ownsRow w.heap.size 3 1 v2 n2 (nums .i64 m)
 ap : v2.ownBlock = none ∨ v2.ownBlock ≠ v1.ownBlock
section
variable {w W V : World} {B : Array Value} {l m : List Int} {n1 n2 : Nat} {v1 v2 v' : Value}
theorem PmSt.app1 (h : PmSt w B l m n1 n2 v1 v2 W) (o : Obj) (a : Int) (ho : V.ownsRow w.heap.size 3 1 v' (n1 + 1) (nums .i64 l ++ [.int .i64 a])) (hg : (W.alloc o).grownBy V v1.ownBlock) (hat : v'.ownBlock = v1.ownBlock ∨ v'.ownBlock = some (W.alloc o).heap.size) : PmSt w B (l ++ [a]) m (n1 + 1) n2 v' v2 V := by
 obtain ⟨a1, a2, a3⟩ := two_rows (below_alloc h.bel o) (h.r1.alloc o) (h.r2.alloc o) h.ap ho hg hat
 exact ⟨a1, (h.box.alloc o).grown hg (blk_row (h.box.alloc o) (h.r1.alloc o) (by decide)), by simpa [nums] using ho, a2, a3⟩
theorem PmSt.app2 (h : PmSt w B l m n1 n2 v1 v2 W) (o : Obj) (a : Int) (ho : V.ownsRow w.heap.size 3 1 v' (n2 + 1) (nums .i64 m ++ [.int .i64 a])) (hg : (W.alloc o).grownBy V v2.ownBlock) (hat : v'.ownBlock = v2.ownBlock ∨ v'.ownBlock = some (W.alloc o).heap.size) : PmSt w B l (m ++ [a]) n1 (n2 + 1) v1 v' V := by
 obtain ⟨a1, a2, a3⟩ := two_rows (below_alloc h.bel o) (h.r2.alloc o) (h.r1.alloc o) (ap_symm h.ap) ho hg hat
 exact ⟨a1, (h.box.alloc o).grown hg (blk_row (h.box.alloc o) (h.r2.alloc o) (by decide)), a2, by simpa [nums] using ho, ap_symm a3⟩
end
theorem prm_main (x : S38) (cs : List Value) (A : Option Addr) (c : Nat) (ws : List Wd16) (hr by0 : Nat) (hr2 : hr < 256) (hby2 : by0 < 256) (w : World) (hx : k38.K w x cs) (hws : Kd.C kW w A ws.length ws) (h1 : readyB x = true) : Calls Try.prog 17 #[.agg cs.toArray, .slice A ws.length c, .int .u8 hr, .int .u8 by0] w fun e w' => e = .returned (.bool true) ∧ Below w.heap.size w w' := by
 have hthin := fun W (hW : Below w.heap.size w W) => ready_calls x cs W (k38.K_below hW hx)
 rw [h1] at hthin
 obtain ⟨hT, hV⟩ := (readyB_iff x).1 h1
 have HCP := Aside0.mk (fun W (hW : Below w.heap.size w W) => copper_calls x cs W (k38.K_below hW hx) hT)
 have HWD := Aside0.mk (fun n (hn : n ≤ 100000) W (hW : Below w.heap.size w W) => word_calls A c ws n W (Kd.C_below hws hW) hn)
 have HMO := Aside0.mk (fun mo (p : Int × Int) (hp : moreF x mo = p) W ds B b (hd : k38.K W x ds) (hb : Kd.C (Kd.int .i64) W B mo.length mo) => (hp ▸ moreF_calls x ds B b mo W hd hb : Calls Try.prog 26 #[.agg ds.toArray, .slice B mo.length b] W fun e w' => e = .returned (.tuple #[.int .i64 p.1, .int .i64 p.2]) ∧ Below W.heap.size W w'))
 have hlk := fun W ds (hd : k38.K W x ds) => lacksF_calls x ds W hd
 have hsp := fun (k : Nat) W ds (hd : k38.K W x ds) => spareF_calls x ds k W hd
 have hf0 := hV.last0
 have hf1 := hV.last1
 have HSI := Aside0.mk (fun (k : Nat) (hk : (k : Int) ≤ x.f0) (n : Int) W (hW : Below w.heap.size w W) => rSingle_calls x cs k n W (k38.K_below hW hx) (by omega) hk hf1)
 obtain ⟨d, hd⟩ : ∃ d : Nat, x.f0 + 1 = (d : Int) := ⟨(x.f0 + 1).toNat, by omega⟩
 have hdn : (x.f0 + 1).toNat = d := by omega
 have hd1 : 1 ≤ d := by omega
 have hd5 : d ≤ 5 := by omega
 have hd5z : (d : Int) ≤ 5 := by omega
 have hmod := tmod_nat hr d
 have hkl : hr % d < d := Nat.mod_lt _ (by omega)
 obtain ⟨kk, hkk⟩ : ∃ kk, hr % d = kk := ⟨_, rfl⟩
 rw [hkk] at hmod hkl
 have hkf : (kk : Int) ≤ x.f0 := by omega
 have hmod4 := tmod_nat by0 4
 obtain ⟨b4, hb4⟩ : ∃ b4, by0 % 4 = b4 := ⟨_, rfl⟩
 rw [hb4] at hmod4
 have hb43 : b4 ≤ 3 := by omega
 have hmod4' : (by0 : Int) % 4 = (b4 : Int) := by omega
 change (by0 : Int).tmod 4 = (b4 : Int) at hmod4
 obtain ⟨bb, hbb⟩ : ∃ bb, 1 + b4 = bb := ⟨_, rfl⟩
 have hbbz : 1 + (b4 : Int) = (bb : Int) := by omega
 have hbb4 : (bb : Int) ≤ 4 := by omega
 have hbb1 : 1 ≤ bb := by omega
 have hhz : (hr : Int) ≤ 255 := by omega
 have hbz : (by0 : Int) ≤ 255 := by omega
 have hd0 : ¬ d = 0 := by omega
 have hdz : ((d : Int) == 0) = false := by simp; omega
 have hmk := print_make (P := Try.prog) 22 3 .i64 8 Try.underlying22 info3 (by decide) d (by omega)
 have HPR := Aside0.mk (fun hE => promised hV hE ws hkf hbb1)
 have HBD := Aside0.mk (fun hE mo hn hm => promised_bad (x := x) (mo := mo) hV hE hn hm)
 have HLA := Lib.hid (lacks_e hV)
 have HE11 := Lib.hid (show ¬ askE x true = 0 → askE x true = 11 from fun hE => by
  rw [askE_t, if_pos ((valid_iff x).2 hV)] at hE ⊢
  by_cases h : truthL x = []
  ·rw [if_pos h]
  ·rw [if_neg h] at hE; exact absurd rfl hE)
 have HSF := Lib.hid (show ¬ askE x true = 0 → spareF x kk = (0, askE x true) from fun h => by
  unfold spareF
  rw [show inR (kk : Int) 0 x.f0 = true by rw [inR_iff]; omega, if_neg h])
 obtain ⟨lw, hlw⟩ : ∃ l, lessW ws d = l := ⟨_, rfl⟩
 obtain ⟨mw, hmw⟩ : ∃ l, moreW ws d = l := ⟨_, rfl⟩
 have hlwn : lw.length = d := by rw [← hlw]; exact lessW_len ws d
 have hmwn : mw.length = d := by rw [← hmw]; exact moreW_len ws d
 have hlwv := lessW_val ws d
 have hmwv := moreW_val ws d
 have hzn : (zeroL x).length = d := by simp [zeroL, hdn]
 have hze : zeroL x = List.replicate d 0 := by unfold zeroL; rw [hdn]
 rw [hdn, hlw, hmw] at HPR
 rw [hlw] at hlwv
 rw [hmw] at hmwv
 obtain ⟨A5, c5, A6, c6, A9, c9, A10, c10, rfl, _⟩ := k38_open hx
 clear hx hws h1 hT hV hkk hb4 hbb hf0 hf1 hdn
 have hu := Try.underlying28
 have ZB := Aside0.mk (And.intro (below_alloc (Below.refl w.heap.size w) (.cells #[.int .i64 x.f0, .int .i64 x.f1, .int .i64 x.f2, .int .i64 x.f3, .int .i64 x.f4, .slice A5 x.f5.length c5, .slice A6 x.f6.length c6, .int .i64 x.f7.f0, .int .i64 x.f7.f1, .slice A9 x.f8.length c9, .slice A10 x.f9.length c10] 28)) (Blk.new w #[.int .i64 x.f0, .int .i64 x.f1, .int .i64 x.f2, .int .i64 x.f3, .int .i64 x.f4, .slice A5 x.f5.length c5, .slice A6 x.f6.length c6, .int .i64 x.f7.f0, .int .i64 x.f7.f1, .slice A9 x.f8.length c9, .slice A10 x.f9.length c10] 28 _ rfl))
 have hth := hthin _ ZB.out.1
 clear hthin
 obtain ⟨mL, hmL⟩ : ∃ p, moreF x lw = p := ⟨_, rfl⟩
 obtain ⟨mM, hmM⟩ : ∃ p, moreF x mw = p := ⟨_, rfl⟩
 obtain ⟨mZ, hmZ⟩ : ∃ p, moreF x (zeroL x) = p := ⟨_, rfl⟩
 obtain ⟨lk, hlkv⟩ : ∃ p, lacksF x = p := ⟨_, rfl⟩
 obtain ⟨sf, hsf⟩ : ∃ p, spareF x kk = p := ⟨_, rfl⟩
 have hsp := hsp kk
 rw [hlkv] at hlk
 rw [hsf] at hsp
 have HLK := Aside0.mk hlk
 have HSP := Aside0.mk hsp
 have HM1 := Aside0.mk (HMO.out lw mL hmL)
 have HM2 := Aside0.mk (HMO.out mw mM hmM)
 have HM3 := Aside0.mk (HMO.out (zeroL x) mZ hmZ)
 have HEQ := Lib.hid (And.intro hmL (And.intro hmM (And.intro hmZ (And.intro hlkv hsf))))
 have HLN := Lib.hid (And.intro hlwn (And.intro hmwn hzn))
 have HVV := Aside0.mk (And.intro hlwv hmwv)
 have HLW := Lib.hid (And.intro hlw hmw)
 have HZE := Lib.hid hze
 clear hlk hsp hmL hmM hmZ hlkv hsf hlwn hmwn hzn hlwv hmwv hlw hmw hze
 have HKF := Lib.hid hkf
 have HSG := Aside0.mk (HSI.out kk hkf)
 clear hkf
 go_enter Try.func17, Try.ntmps17
 go_wp2_with fail
 refine hth.mono ?_
 rintro e w1 ⟨rfl, hb⟩
 have H1 := Aside0.mk (And.intro (bel2 ZB.out.1 hb) (ZB.out.2.below hb))
 clear hb hth ZB
 have k0 := H1.out.2.cell 0 _ rfl
 go_wp2
 clear k0 hmod hmod4 hmod4' hhz hbz hd0 hdz hbbz
 go_loopw [11, 12, 13] (fun s11 s12 s13 wr => ∃ i : Nat, i ≤ d ∧ s13 = .int .i64 i ∧ Aside0 (PmSt w #[.int .i64 x.f0, .int .i64 x.f1, .int .i64 x.f2, .int .i64 x.f3, .int .i64 x.f4, .slice A5 x.f5.length c5, .slice A6 x.f6.length c6, .int .i64 x.f7.f0, .int .i64 x.f7.f1, .slice A9 x.f8.length c9, .slice A10 x.f9.length c10] (lessW ws i) (moreW ws i) i i s11 s12 wr)) (fun _ _ s13 _ => d - (intOf s13).toNat)
 case atStart => exact ⟨0, Nat.zero_le _, rfl, ⟨H1.out.1, H1.out.2, own_nil _ _ _ _, own_nil _ _ _ _, .inl rfl⟩⟩
 case round =>
  obtain ⟨i, hi, rfl, HW⟩ := hrel
  clear H1
  have k0 := HW.out.box.cell 0 _ rfl
  by_cases hlt : i < d
  ·have hltz : (i : Int) ≤ x.f0 := by omega
   have hls := lessW_snoc ws i
   have hms := moreW_snoc ws i
   have hwd := HWD.out i (by omega)
   have hwl := wordF_lt ws i
   have hl1 := lessW_len ws i
   have hl2 := moreW_len ws i
   generalize wordF ws i = v at *
   have h3 := tmod_nat v 3
   have h8 := tdiv_nat v 8
   have h2 := tmod_nat (v / 8) 2
   obtain ⟨m3, hm3⟩ : ∃ m3, v % 3 = m3 := ⟨_, rfl⟩
   obtain ⟨q8, hq8⟩ : ∃ q8, v / 8 = q8 := ⟨_, rfl⟩
   obtain ⟨m2, hm2⟩ : ∃ m2, v / 8 % 2 = m2 := ⟨_, rfl⟩
   rw [hm3] at h3 hls
   rw [hq8] at h8
   rw [hm2] at h2
   rw [hm3, hm2] at hms
   rw [hq8] at h2
   have b3 : (m3 : Int) ≤ 2 := by omega
   have b2 : (m2 : Int) ≤ 1 := by omega
   have bv : (v : Int) ≤ 65535 := by omega
   have b8 : (q8 : Int) ≤ 65535 := by omega
   have h3' : (v : Int) % 3 = (m3 : Int) := by omega
   have h8' : (v : Int) / 8 = (q8 : Int) := by omega
   have h2' : (q8 : Int) % 2 = (m2 : Int) := by omega
   change (v : Int).tmod 3 = (m3 : Int) at h3
   change (v : Int).tdiv 8 = (q8 : Int) at h8
   change (q8 : Int).tmod 2 = (m2 : Int) at h2
   obtain ⟨sm, hsm⟩ : ∃ sm : Nat, m3 + m2 = sm := ⟨_, rfl⟩
   have hsz : (m3 : Int) + (m2 : Int) = (sm : Int) := by omega
   rw [hsm] at hms
   have HLS := Lib.hid hls
   have HMS := Lib.hid hms
   have HII := Lib.hid hi
   clear hls hms hwl hm3 hq8 hm2 hsm hi
   generalize lessW ws i = ll at *
   generalize moreW ws i = ml at *
   go_wp2_with fail
   refine (hwd _ HW.out.bel).mono ?_
   rintro e w3 ⟨rfl, rfl⟩
   clear hwd
   go_wp2_with (first
    | (at_builtin; refine append_list rfl (.tmp 52) (.tmp 55) 22 3 (.int .i64 0) 1 8 rfl Try.underlying22 info3 rfl (by decide) (by decide) w.heap.size u11 i (nums .i64 ll) [.int .i64 m3] wr.heap.size 1 rfl rfl (HW.out.r1.alloc _) rfl (cells1 (Blk.new _ _ _ _ rfl)) (one1 _) (by omega) (by have h1 := HW.out.bel.size; simp; omega) ?_; intro v4 w4 ho4 hg4 hat4; have H4 := Aside0.mk (HW.out.app1 (.cells #[.int .i64 m3] 3) m3 ho4 hg4 hat4); clear ho4 hg4 hat4)
    | (at_builtin; refine append_list rfl (.tmp 57) (.tmp 64) 22 3 (.int .i64 0) 1 8 rfl Try.underlying22 info3 rfl (by decide) (by decide) w.heap.size u12 i (nums .i64 ml) [.int .i64 sm] w4.heap.size 1 rfl rfl (H4.out.r2.alloc _) rfl (cells1 (Blk.new _ _ _ _ rfl)) (one1 _) (by omega) (by have h1 := H4.out.bel.size; simp; omega) ?_; intro v5 w5 ho5 hg5 hat5; have H5 := Aside0.mk (H4.out.app2 (.cells #[.int .i64 sm] 3) sm ho5 hg5 hat5); clear ho5 hg5 hat5))
   go_roundw
   case rel => exact ⟨i + 1, hlt, by go_num, ⟨by rw [HLS.out, HMS.out]; exact H5.out⟩⟩
   case measure => simp [intOf]; omega
  ·obtain rfl : d = i := by omega
   have hltz : ¬ (d : Int) ≤ x.f0 := by omega
   have hr1 := HW.out.r1
   have hr2 := HW.out.r2
   rw [HLW.out.1] at hr1
   rw [HLW.out.2] at hr2
   obtain ⟨A1, a1, rfl, hc1⟩ := own_listN hr1 HLN.out.1
   obtain ⟨A2, a2, rfl, hc2⟩ := own_listN hr2 HLN.out.2.1
   have HP := Aside0.mk (fun W V (h : Kd.C (Kd.int .i64) W A1 lw.length lw ∧ Kd.C (Kd.int .i64) W A2 mw.length mw) (hb : Below W.heap.size W V) => And.intro (Kd.C_below h.1 hb) (Kd.C_below h.2 hb))
   have H2 := Aside0.mk (LwSt.mk (w := w) (B := #[.int .i64 x.f0, .int .i64 x.f1, .int .i64 x.f2, .int .i64 x.f3, .int .i64 x.f4, .slice A5 x.f5.length c5, .slice A6 x.f6.length c6, .int .i64 x.f7.f0, .int .i64 x.f7.f1, .slice A9 x.f8.length c9, .slice A10 x.f9.length c10]) (P := fun W => Kd.C (Kd.int .i64) W A1 lw.length lw ∧ Kd.C (Kd.int .i64) W A2 mw.length mw) HW.out.bel HW.out.box ⟨hc1, hc2⟩)
   clear hr1 hr2 hc1 hc2 HW k0
   have hL1 := fun W (h : Kd.C (Kd.int .i64) W A1 lw.length lw) => listS_calls A1 a1 lw W h (by have := HLN.out.1; omega)
   have hL2 := fun W (h : Kd.C (Kd.int .i64) W A2 mw.length mw) => listS_calls A2 a2 mw W h (by have := HLN.out.2.1; omega)
   have HL1 := Aside0.mk hL1
   have HL2 := Aside0.mk hL2
   clear hL1 hL2
   have k0 := H2.out.box.cell 0 _ rfl
   have k1 := H2.out.box.cell 1 _ rfl
   have k2 := H2.out.box.cell 2 _ rfl
   have k3 := H2.out.box.cell 3 _ rfl
   have k4 := H2.out.box.cell 4 _ rfl
   have k5 := H2.out.box.cell 5 _ rfl
   have k6 := H2.out.box.cell 6 _ rfl
   have k7 := H2.out.box.cell 7 _ rfl
   have k8 := H2.out.box.cell 8 _ rfl
   have k9 := H2.out.box.cell 9 _ rfl
   have k10 := H2.out.box.cell 10 _ rfl
   go_wp2_with fail
   refine (HCP.out _ H2.out.bel).mono ?_
   rintro e w4 ⟨ds, rfl, hb, hkd⟩
   have H3 := Aside0.mk (H2.out.step HP.out hb)
   clear hb H2 k0 k1 k2 k3 k4 k5 k6 k7 k8 k9 k10
   go_wp2_with fail
   refine (HL1.out _ H3.out.rows.1).mono ?_
   rintro e w5 ⟨B1, b1, rfl, hro, hb⟩
   have hmo := HM1.out w5 ds B1 b1 (k38.K_below hb hkd) (own_list2 hro rfl)
   have H4 := Aside0.mk (H3.out.step HP.out hb)
   clear hb H3 hkd hro HM1 HL1
   go_wp2_with fail
   refine hmo.mono ?_
   rintro e w6 ⟨rfl, hb⟩
   have H5 := Aside0.mk (H4.out.step HP.out hb)
   clear hb H4 hmo
   have k0 := H5.out.box.cell 0 _ rfl
   have k1 := H5.out.box.cell 1 _ rfl
   have k2 := H5.out.box.cell 2 _ rfl
   have k3 := H5.out.box.cell 3 _ rfl
   have k4 := H5.out.box.cell 4 _ rfl
   have k5 := H5.out.box.cell 5 _ rfl
   have k6 := H5.out.box.cell 6 _ rfl
   have k7 := H5.out.box.cell 7 _ rfl
   have k8 := H5.out.box.cell 8 _ rfl
   have k9 := H5.out.box.cell 9 _ rfl
   have k10 := H5.out.box.cell 10 _ rfl
   go_wp2_with fail
   refine (HCP.out _ H5.out.bel).mono ?_
   rintro e w7 ⟨es, rfl, hb, hkd⟩
   have H6 := Aside0.mk (H5.out.step HP.out hb)
   clear hb H5 k0 k1 k2 k3 k4 k5 k6 k7 k8 k9 k10
   go_wp2_with fail
   refine (HL2.out _ H6.out.rows.2).mono ?_
   rintro e w8 ⟨B2, b2, rfl, hro, hb⟩
   have hmo := HM2.out w8 es B2 b2 (k38.K_below hb hkd) (own_list2 hro rfl)
   have H7 := Aside0.mk (H6.out.step HP.out hb)
   clear hb H6 hkd hro HM2 HL2
   go_wp2_with fail
   refine hmo.mono ?_
   rintro e w9 ⟨rfl, hb⟩
   have H8 := Aside0.mk (H7.out.step HP.out hb)
   clear hb H7 hmo
   have k0 := H8.out.box.cell 0 _ rfl
   have k1 := H8.out.box.cell 1 _ rfl
   have k2 := H8.out.box.cell 2 _ rfl
   have k3 := H8.out.box.cell 3 _ rfl
   have k4 := H8.out.box.cell 4 _ rfl
   have k5 := H8.out.box.cell 5 _ rfl
   have k6 := H8.out.box.cell 6 _ rfl
   have k7 := H8.out.box.cell 7 _ rfl
   have k8 := H8.out.box.cell 8 _ rfl
   have k9 := H8.out.box.cell 9 _ rfl
   have k10 := H8.out.box.cell 10 _ rfl
   have HB0 := Aside0.mk (bel2 H8.out.bel (below_drew (Below.refl w9.heap.size w9)))
   have HM3b := Aside0.mk (fun W ds (g : Nat) (hd : k38.K W x ds) (ho : W.ownsRow w9.heap.size 3 1 (.slice (some ⟨g, 0, none⟩) d d) d (nums .i64 (zeroL x))) => (by
    have := HM3.out W ds (some ⟨g, 0, none⟩) d hd (own_list2 ho HLN.out.2.2)
    rw [HLN.out.2.2] at this
    exact this : Calls Try.prog 26 #[.agg ds.toArray, .slice (some ⟨g, 0, none⟩) d d] W fun e w' => e = .returned (.tuple #[.int .i64 mZ.1, .int .i64 mZ.2]) ∧ Below W.heap.size W w'))
   have hwd : wrap64 (d : Int) = (d : Int) := IntWalk.wrap64_in _ (by omega)
   go_wp2
   refine start_ (n := 12) (S := fun w' => w'.cell? ⟨w.heap.size, 0, none⟩ = some (.int .i64 x.f0) ∧ w'.cell? ⟨w.heap.size, 1, none⟩ = some (.int .i64 x.f1) ∧ w'.cell? ⟨w.heap.size, 2, none⟩ = some (.int .i64 x.f2) ∧ w'.cell? ⟨w.heap.size, 3, none⟩ = some (.int .i64 x.f3) ∧ w'.cell? ⟨w.heap.size, 4, none⟩ = some (.int .i64 x.f4) ∧ w'.cell? ⟨w.heap.size, 5, none⟩ = some (.slice A5 x.f5.length c5) ∧ w'.cell? ⟨w.heap.size, 6, none⟩ = some (.slice A6 x.f6.length c6) ∧ w'.cell? ⟨w.heap.size, 7, none⟩ = some (.int .i64 x.f7.f0) ∧ w'.cell? ⟨w.heap.size, 8, none⟩ = some (.int .i64 x.f7.f1) ∧ w'.cell? ⟨w.heap.size, 9, none⟩ = some (.slice A9 x.f8.length c9) ∧ w'.cell? ⟨w.heap.size, 10, none⟩ = some (.slice A10 x.f9.length c10)) (ds := []) #[false, false, false, false, false, false, false, false, false, false, false, false] (by kernel_rfl) rfl rfl ⟨k0, k1, k2, k3, k4, k5, k6, k7, k8, k9, k10⟩ (fun hHeld => ?_)
   refine pure_ (i := 2) (N := some 85) (v := ?_) (a' := ?_) (bs 12 4) rfl rfl (by kernel_rfl) (fun _ _ _ h => h) (Or.inl ⟨by rfl, ?_⟩) ?_ ?_
   rotate_left
   ·intro w'
    go_simp
    with_reducible rfl
   rotate_left
   ·simp only [Act.put, List.setIfInBounds_toArray, List.set_cons_zero, List.set_cons_succ, i64_w, i32_w]
    rfl
   refine take_ (i := 0) (N := some 83) (v := ?_) (a' := ?_) (bs 12 5) rfl rfl (by kernel_rfl) (fun _ _ _ h => h) (Or.inl ⟨by rfl, ?_⟩) hHeld ?_ ?_
   rotate_left
   ·rintro w' ⟨s0, s1, s2, s3, s4, s5, s6, s7, s8, s9, s10⟩
    go_simp
    with_reducible rfl
   rotate_left
   ·simp only [Act.put, List.setIfInBounds_toArray, List.set_cons_zero, List.set_cons_succ, i64_w, i32_w]
    rfl
   refine take_ (i := 3) (N := some 86) (v := ?_) (a' := ?_) (bs 12 13) rfl rfl (by kernel_rfl) (fun _ _ _ h => h) (Or.inl ⟨by rfl, ?_⟩) hHeld ?_ ?_
   rotate_left
   ·rintro w' ⟨s0, s1, s2, s3, s4, s5, s6, s7, s8, s9, s10⟩
    go_simp
    with_reducible rfl
   rotate_left
   ·simp only [Act.put, List.setIfInBounds_toArray, List.set_cons_zero, List.set_cons_succ, i64_w, i32_w]
    rfl
   refine pure_ (i := 4) (N := some 87) (v := ?_) (a' := ?_) (bs 12 29) rfl rfl (by kernel_rfl) (fun _ _ _ h => h) (Or.inl ⟨by rfl, ?_⟩) ?_ ?_
   rotate_left
   ·intro w'
    go_simp
    with_reducible rfl
   rotate_left
   ·simp only [Act.put, List.setIfInBounds_toArray, List.set_cons_zero, List.set_cons_succ, i64_w, i32_w]
    rfl
   refine join_ (σ := List Value × Nat) 6 (bs 12 63) (fun s => [(84, .agg s.1.toArray), (88, .slice (some ⟨s.2, 0, none⟩) d d)]) (fun s w' => (w'.cell? ⟨w.heap.size, 0, none⟩ = some (.int .i64 x.f0) ∧ w'.cell? ⟨w.heap.size, 1, none⟩ = some (.int .i64 x.f1) ∧ w'.cell? ⟨w.heap.size, 2, none⟩ = some (.int .i64 x.f2) ∧ w'.cell? ⟨w.heap.size, 3, none⟩ = some (.int .i64 x.f3) ∧ w'.cell? ⟨w.heap.size, 4, none⟩ = some (.int .i64 x.f4) ∧ w'.cell? ⟨w.heap.size, 5, none⟩ = some (.slice A5 x.f5.length c5) ∧ w'.cell? ⟨w.heap.size, 6, none⟩ = some (.slice A6 x.f6.length c6) ∧ w'.cell? ⟨w.heap.size, 7, none⟩ = some (.int .i64 x.f7.f0) ∧ w'.cell? ⟨w.heap.size, 8, none⟩ = some (.int .i64 x.f7.f1) ∧ w'.cell? ⟨w.heap.size, 9, none⟩ = some (.slice A9 x.f8.length c9) ∧ w'.cell? ⟨w.heap.size, 10, none⟩ = some (.slice A10 x.f9.length c10)) ∧ Below w9.heap.size w9 w' ∧ k38.K w' x s.1 ∧ w'.ownsRow w9.heap.size 3 1 (.slice (some ⟨s.2, 0, none⟩) d d) d (nums .i64 (zeroL x))) ?_ ?_
   rotate_left
   ·intro hJ1_5
    refine join_ (σ := List Value × Nat) 7 (bs 12 31) (fun s => [(84, .agg s.1.toArray)]) (fun s w' => (w'.cell? ⟨w.heap.size, 0, none⟩ = some (.int .i64 x.f0) ∧ w'.cell? ⟨w.heap.size, 1, none⟩ = some (.int .i64 x.f1) ∧ w'.cell? ⟨w.heap.size, 2, none⟩ = some (.int .i64 x.f2) ∧ w'.cell? ⟨w.heap.size, 3, none⟩ = some (.int .i64 x.f3) ∧ w'.cell? ⟨w.heap.size, 4, none⟩ = some (.int .i64 x.f4) ∧ w'.cell? ⟨w.heap.size, 5, none⟩ = some (.slice A5 x.f5.length c5) ∧ w'.cell? ⟨w.heap.size, 6, none⟩ = some (.slice A6 x.f6.length c6) ∧ w'.cell? ⟨w.heap.size, 7, none⟩ = some (.int .i64 x.f7.f0) ∧ w'.cell? ⟨w.heap.size, 8, none⟩ = some (.int .i64 x.f7.f1) ∧ w'.cell? ⟨w.heap.size, 9, none⟩ = some (.slice A9 x.f8.length c9) ∧ w'.cell? ⟨w.heap.size, 10, none⟩ = some (.slice A10 x.f9.length c10)) ∧ Below w9.heap.size w9 w' ∧ k38.K w' x s.1) ?_ ?_
    rotate_left
    ·intro hJ1
     refine join_ (σ := List Value × Nat) 7 (bs 12 61) (fun s => [(88, .slice (some ⟨s.2, 0, none⟩) d d)]) (fun s w' => (w'.cell? ⟨w.heap.size, 0, none⟩ = some (.int .i64 x.f0) ∧ w'.cell? ⟨w.heap.size, 1, none⟩ = some (.int .i64 x.f1) ∧ w'.cell? ⟨w.heap.size, 2, none⟩ = some (.int .i64 x.f2) ∧ w'.cell? ⟨w.heap.size, 3, none⟩ = some (.int .i64 x.f3) ∧ w'.cell? ⟨w.heap.size, 4, none⟩ = some (.int .i64 x.f4) ∧ w'.cell? ⟨w.heap.size, 5, none⟩ = some (.slice A5 x.f5.length c5) ∧ w'.cell? ⟨w.heap.size, 6, none⟩ = some (.slice A6 x.f6.length c6) ∧ w'.cell? ⟨w.heap.size, 7, none⟩ = some (.int .i64 x.f7.f0) ∧ w'.cell? ⟨w.heap.size, 8, none⟩ = some (.int .i64 x.f7.f1) ∧ w'.cell? ⟨w.heap.size, 9, none⟩ = some (.slice A9 x.f8.length c9) ∧ w'.cell? ⟨w.heap.size, 10, none⟩ = some (.slice A10 x.f9.length c10)) ∧ Below w9.heap.size w9 w' ∧ w'.ownsRow w9.heap.size 3 1 (.slice (some ⟨s.2, 0, none⟩) d d) d (nums .i64 (zeroL x))) ?_ ?_
     rotate_left
     ·intro hJ5
      refine two_ (i := 1) (j := 5) (Ni := some 84) (Nj := some 88) (bs 12 31) (bs 12 61) rfl rfl rfl rfl (by kernel_rfl) (by decide) (by decide) (fun K hK => ?_) (fun K hK => ?_)
      ·skip
       refine goes_ Try.func22 (by kernel_rfl) rfl #[.agg #[.int .i64 x.f0, .int .i64 x.f1, .int .i64 x.f2, .int .i64 x.f3, .int .i64 x.f4, .slice A5 x.f5.length c5, .slice A6 x.f6.length c6, .int .i64 x.f7.f0, .int .i64 x.f7.f1, .slice A9 x.f8.length c9, .slice A10 x.f9.length c10]] (by rfl) rfl rfl (by simp only [List.map_toArray, List.map_cons, List.map_nil]; rfl) ?_
       with_reducible refine (HCP.out _ (bel2 H8.out.bel (below_drew (Below.refl w9.heap.size w9)))).mono ?_
       rintro e w11 ⟨dn, rfl, hb11, hk11⟩
       refine ⟨_, rfl, ?_⟩
       refine hK.out _ _ ⟨pw_cell_below hb11 (hHeld.1), pw_cell_below hb11 (hHeld.2.1), pw_cell_below hb11 (hHeld.2.2.1), pw_cell_below hb11 (hHeld.2.2.2.1), pw_cell_below hb11 (hHeld.2.2.2.2.1), pw_cell_below hb11 (hHeld.2.2.2.2.2.1), pw_cell_below hb11 (hHeld.2.2.2.2.2.2.1), pw_cell_below hb11 (hHeld.2.2.2.2.2.2.2.1), pw_cell_below hb11 (hHeld.2.2.2.2.2.2.2.2.1), pw_cell_below hb11 (hHeld.2.2.2.2.2.2.2.2.2.1), pw_cell_below hb11 (hHeld.2.2.2.2.2.2.2.2.2.2)⟩ (fun hHeld => ?_)
       clear hK K
       refine norm_ (a' := ?_) ?_ ?_
       rotate_left
       ·show Act.put _ (some 84) _ = _
        simp only [Act.put, List.setIfInBounds_toArray, List.set_cons_zero, List.set_cons_succ, i64_w, i32_w]
        rfl
       exact norm_ (by first | (simp only [putAll, Act.put, List.setIfInBounds_toArray, List.set_cons_zero, List.set_cons_succ]; done) | (simp only [putAll, Act.put, List.setIfInBounds_toArray, List.set_cons_zero, List.set_cons_succ]; rfl)) (hJ1 (dn, 0) _ ⟨hHeld, bel2 (below_drew (Below.refl w9.heap.size w9)) hb11, hk11⟩)
      ·skip
       refine value_ (w1 := ?_) (v := ?_) (by rfl) rfl ?_ ?_
       rotate_left 2
       ·go_simp
        constructor
        ·rfl
        ·rfl
       refine hK.out _ _ ⟨cell_al _ (hHeld.1), cell_al _ (hHeld.2.1), cell_al _ (hHeld.2.2.1), cell_al _ (hHeld.2.2.2.1), cell_al _ (hHeld.2.2.2.2.1), cell_al _ (hHeld.2.2.2.2.2.1), cell_al _ (hHeld.2.2.2.2.2.2.1), cell_al _ (hHeld.2.2.2.2.2.2.2.1), cell_al _ (hHeld.2.2.2.2.2.2.2.2.1), cell_al _ (hHeld.2.2.2.2.2.2.2.2.2.1), cell_al _ (hHeld.2.2.2.2.2.2.2.2.2.2)⟩ (fun hHeld => ?_)
       clear hK K
       refine norm_ (a' := ?_) ?_ ?_
       rotate_left
       ·show Act.put _ (some 88) _ = _
        simp only [Act.put, List.setIfInBounds_toArray, List.set_cons_zero, List.set_cons_succ, i64_w, i32_w]
        rfl
       exact norm_ (by first | (simp only [putAll, Act.put, List.setIfInBounds_toArray, List.set_cons_zero, List.set_cons_succ]; done) | (simp only [putAll, Act.put, List.setIfInBounds_toArray, List.set_cons_zero, List.set_cons_succ]; rfl)) (hJ5 ([], w9.drew.heap.size) _ ⟨hHeld, below_alloc (below_drew (Below.refl w9.heap.size w9)) _, own_zero HZE.out _ _ ((below_drew (Below.refl w9.heap.size w9))).size hd5⟩)
     ·skip
      rintro ⟨d12, g12⟩ w10 ⟨hHeld, hB, ho12⟩
      try dsimp only at *
      refine norm_ (a' := ?_) ?_ ?_
      rotate_left
      ·simp only [putAll, Act.put, List.setIfInBounds_toArray, List.set_cons_zero, List.set_cons_succ]
       rfl
      refine one_ (i := 1) (N := some 84) (bs 12 63) rfl rfl (by kernel_rfl) (by decide) (fun K hK => ?_)
      refine goes_ Try.func22 (by kernel_rfl) rfl #[.agg #[.int .i64 x.f0, .int .i64 x.f1, .int .i64 x.f2, .int .i64 x.f3, .int .i64 x.f4, .slice A5 x.f5.length c5, .slice A6 x.f6.length c6, .int .i64 x.f7.f0, .int .i64 x.f7.f1, .slice A9 x.f8.length c9, .slice A10 x.f9.length c10]] (by rfl) rfl rfl (by simp only [List.map_toArray, List.map_cons, List.map_nil]; rfl) ?_
      with_reducible refine (HCP.out _ (bel2 H8.out.bel hB)).mono ?_
      rintro e w11 ⟨dn, rfl, hb11, hk11⟩
      refine ⟨_, rfl, ?_⟩
      refine hK.out _ _ ⟨pw_cell_below hb11 (hHeld.1), pw_cell_below hb11 (hHeld.2.1), pw_cell_below hb11 (hHeld.2.2.1), pw_cell_below hb11 (hHeld.2.2.2.1), pw_cell_below hb11 (hHeld.2.2.2.2.1), pw_cell_below hb11 (hHeld.2.2.2.2.2.1), pw_cell_below hb11 (hHeld.2.2.2.2.2.2.1), pw_cell_below hb11 (hHeld.2.2.2.2.2.2.2.1), pw_cell_below hb11 (hHeld.2.2.2.2.2.2.2.2.1), pw_cell_below hb11 (hHeld.2.2.2.2.2.2.2.2.2.1), pw_cell_below hb11 (hHeld.2.2.2.2.2.2.2.2.2.2)⟩ (fun hHeld => ?_)
      clear hK K
      refine norm_ (a' := ?_) ?_ ?_
      rotate_left
      ·show Act.put _ (some 84) _ = _
       simp only [Act.put, List.setIfInBounds_toArray, List.set_cons_zero, List.set_cons_succ, i64_w, i32_w]
       rfl
      exact norm_ (by first | (simp only [putAll, Act.put, List.setIfInBounds_toArray, List.set_cons_zero, List.set_cons_succ]; done) | (simp only [putAll, Act.put, List.setIfInBounds_toArray, List.set_cons_zero, List.set_cons_succ]; rfl)) (hJ1_5 (dn, g12) _ ⟨hHeld, bel2 hB hb11, hk11, own_bel ho12 hb11⟩)
    ·skip
     rintro ⟨d12, g12⟩ w10 ⟨hHeld, hB, hk12⟩
     try dsimp only at *
     refine norm_ (a' := ?_) ?_ ?_
     rotate_left
     ·simp only [putAll, Act.put, List.setIfInBounds_toArray, List.set_cons_zero, List.set_cons_succ]
      rfl
     refine one_ (i := 5) (N := some 88) (bs 12 63) rfl rfl (by kernel_rfl) (by decide) (fun K hK => ?_)
     refine value_ (w1 := ?_) (v := ?_) (by rfl) rfl ?_ ?_
     rotate_left 2
     ·go_simp
      constructor
      ·rfl
      ·rfl
     refine hK.out _ _ ⟨cell_al _ (hHeld.1), cell_al _ (hHeld.2.1), cell_al _ (hHeld.2.2.1), cell_al _ (hHeld.2.2.2.1), cell_al _ (hHeld.2.2.2.2.1), cell_al _ (hHeld.2.2.2.2.2.1), cell_al _ (hHeld.2.2.2.2.2.2.1), cell_al _ (hHeld.2.2.2.2.2.2.2.1), cell_al _ (hHeld.2.2.2.2.2.2.2.2.1), cell_al _ (hHeld.2.2.2.2.2.2.2.2.2.1), cell_al _ (hHeld.2.2.2.2.2.2.2.2.2.2)⟩ (fun hHeld => ?_)
     clear hK K
     refine norm_ (a' := ?_) ?_ ?_
     rotate_left
     ·show Act.put _ (some 88) _ = _
      simp only [Act.put, List.setIfInBounds_toArray, List.set_cons_zero, List.set_cons_succ, i64_w, i32_w]
      rfl
     exact norm_ (by first | (simp only [putAll, Act.put, List.setIfInBounds_toArray, List.set_cons_zero, List.set_cons_succ]; done) | (simp only [putAll, Act.put, List.setIfInBounds_toArray, List.set_cons_zero, List.set_cons_succ]; rfl)) (hJ1_5 (d12, w10.heap.size) _ ⟨hHeld, below_alloc hB _, k38.K_below (below_alloc (Below.refl _ _) _) hk12, own_zero HZE.out _ _ (hB).size hd5⟩)
   rintro ⟨d12, g12⟩ w10 ⟨hHeld, hB, hk12, ho12⟩
   try dsimp only at *
   refine norm_ (a' := ?_) ?_ ?_
   rotate_left
   ·simp only [putAll, Act.put, List.setIfInBounds_toArray, List.set_cons_zero, List.set_cons_succ]
    rfl
   refine one_ (i := 6) (N := some 89) (bs 12 127) rfl rfl (by kernel_rfl) (by decide) (fun K hK => ?_)
   refine goes_ Try.func26 (by kernel_rfl) rfl #[.agg d12.toArray, .slice (some ⟨g12, 0, none⟩) d d] (by rfl) rfl rfl (by simp only [List.map_toArray, List.map_cons, List.map_nil]; rfl) ?_
   with_reducible refine (HM3b.out _ d12 g12 hk12 ho12).mono ?_
   rintro e w13 ⟨rfl, hb13⟩
   refine ⟨_, rfl, ?_⟩
   refine hK.out _ _ ⟨pw_cell_below hb13 (hHeld.1), pw_cell_below hb13 (hHeld.2.1), pw_cell_below hb13 (hHeld.2.2.1), pw_cell_below hb13 (hHeld.2.2.2.1), pw_cell_below hb13 (hHeld.2.2.2.2.1), pw_cell_below hb13 (hHeld.2.2.2.2.2.1), pw_cell_below hb13 (hHeld.2.2.2.2.2.2.1), pw_cell_below hb13 (hHeld.2.2.2.2.2.2.2.1), pw_cell_below hb13 (hHeld.2.2.2.2.2.2.2.2.1), pw_cell_below hb13 (hHeld.2.2.2.2.2.2.2.2.2.1), pw_cell_below hb13 (hHeld.2.2.2.2.2.2.2.2.2.2)⟩ (fun hHeld => ?_)
   clear hK K
   refine norm_ (a' := ?_) ?_ ?_
   rotate_left
   ·show Act.put _ (some 89) _ = _
    simp only [Act.put, List.setIfInBounds_toArray, List.set_cons_zero, List.set_cons_succ, i64_w, i32_w]
    rfl
   refine pure_ (i := 7) (N := some 82) (v := ?_) (a' := ?_) (bs 12 255) rfl rfl (by kernel_rfl) (fun _ _ _ h => h) (Or.inl ⟨by rfl, ?_⟩) ?_ ?_
   rotate_left
   ·intro w'
    go_simp
    with_reducible rfl
   rotate_left
   ·simp only [Act.put, List.setIfInBounds_toArray, List.set_cons_zero, List.set_cons_succ, i64_w, i32_w]
    rfl
   refine pure_ (i := 8) (N := some 90) (v := ?_) (a' := ?_) (bs 12 511) rfl rfl (by kernel_rfl) (fun _ _ _ h => h) (Or.inl ⟨by rfl, ?_⟩) ?_ ?_
   rotate_left
   ·intro w'
    go_simp
    with_reducible rfl
   rotate_left
   ·simp only [Act.put, List.setIfInBounds_toArray, List.set_cons_zero, List.set_cons_succ, i64_w, i32_w]
    rfl
   refine pure_ (i := 9) (N := some 91) (v := ?_) (a' := ?_) (bs 12 1023) rfl rfl (by kernel_rfl) (fun _ _ _ h => h) (Or.inl ⟨by rfl, ?_⟩) ?_ ?_
   rotate_left
   ·intro w'
    go_simp
    with_reducible rfl
   rotate_left
   ·simp only [Act.put, List.setIfInBounds_toArray, List.set_cons_zero, List.set_cons_succ, i64_w, i32_w]
    rfl
   refine pure_ (i := 10) (N := some 19) (v := ?_) (a' := ?_) (bs 12 2047) rfl rfl (by kernel_rfl) (fun _ _ _ h => h) (Or.inl ⟨by rfl, ?_⟩) ?_ ?_
   rotate_left
   ·intro w'
    go_simp
    with_reducible rfl
   rotate_left
   ·simp only [Act.put, List.setIfInBounds_toArray, List.set_cons_zero, List.set_cons_succ, i64_w, i32_w]
    rfl
   refine pure_ (i := 11) (N := some 20) (v := ?_) (a' := ?_) (bs 12 4095) rfl rfl (by kernel_rfl) (fun _ _ _ h => h) (Or.inl ⟨by rfl, ?_⟩) ?_ ?_
   rotate_left
   ·intro w'
    go_simp
    with_reducible rfl
   rotate_left
   ·simp only [Act.put, List.setIfInBounds_toArray, List.set_cons_zero, List.set_cons_succ, i64_w, i32_w]
    rfl
   refine done_ (by kernel_rfl) ?_
   have H9 := Aside0.mk (H8.out.step HP.out (bel2 hB hb13))
   clear hHeld hB hb13 hk12 ho12 k0 k1 k2 k3 k4 k5 k6 k7 k8 k9 k10 H8 HB0 HM3 HM3b hmk hwd
   have k0 := H9.out.box.cell 0 _ rfl
   have k1 := H9.out.box.cell 1 _ rfl
   have k2 := H9.out.box.cell 2 _ rfl
   have k3 := H9.out.box.cell 3 _ rfl
   have k4 := H9.out.box.cell 4 _ rfl
   have k5 := H9.out.box.cell 5 _ rfl
   have k6 := H9.out.box.cell 6 _ rfl
   have k7 := H9.out.box.cell 7 _ rfl
   have k8 := H9.out.box.cell 8 _ rfl
   have k9 := H9.out.box.cell 9 _ rfl
   have k10 := H9.out.box.cell 10 _ rfl
   go_wp2_with fail
   refine (HCP.out _ H9.out.bel).mono ?_
   rintro e w14 ⟨fs, rfl, hb, hkd⟩
   have H10 := Aside0.mk (H9.out.step HP.out hb)
   clear hb H9 k0 k1 k2 k3 k4 k5 k6 k7 k8 k9 k10
   go_wp2_with fail
   refine (HLK.out _ fs hkd).mono ?_
   rintro e w15 ⟨rfl, hb⟩
   have H11 := Aside0.mk (H10.out.step HP.out hb)
   clear hb H10 hkd
   have k0 := H11.out.box.cell 0 _ rfl
   have k1 := H11.out.box.cell 1 _ rfl
   have k2 := H11.out.box.cell 2 _ rfl
   have k3 := H11.out.box.cell 3 _ rfl
   have k4 := H11.out.box.cell 4 _ rfl
   have k5 := H11.out.box.cell 5 _ rfl
   have k6 := H11.out.box.cell 6 _ rfl
   have k7 := H11.out.box.cell 7 _ rfl
   have k8 := H11.out.box.cell 8 _ rfl
   have k9 := H11.out.box.cell 9 _ rfl
   have k10 := H11.out.box.cell 10 _ rfl
   go_wp2_with fail
   refine (HCP.out _ H11.out.bel).mono ?_
   rintro e w16 ⟨gs, rfl, hb, hkd⟩
   have H12 := Aside0.mk (H11.out.step HP.out hb)
   clear hb H11 k0 k1 k2 k3 k4 k5 k6 k7 k8 k9 k10
   go_wp2_with fail
   refine (HSP.out _ gs hkd).mono ?_
   rintro e w17 ⟨rfl, hb⟩
   have H13 := Aside0.mk (H12.out.step HP.out hb)
   clear hb H12 hkd HLK HSP
   by_cases hE : askE x true = 0
   ·have hP := HPR.out hE
    obtain rfl : mL = (withF x lw, 0) := HEQ.out.1.symm.trans hP.eL
    obtain rfl : mM = (withF x mw, 0) := HEQ.out.2.1.symm.trans hP.eM
    obtain rfl : mZ = (withF x (zeroL x), 0) := HEQ.out.2.2.1.symm.trans hP.eZ
    obtain ⟨kn, ke⟩ := lk
    have q1 := hP.c1
    have q2 := hP.c2
    have q3 := hP.c3
    have q4 := hP.sp
    rw [HEQ.out.2.2.2.1] at q3
    rw [HEQ.out.2.2.2.2] at q4
    generalize withF x lw = u at *
    generalize withF x mw = v at *
    generalize withF x (zeroL x) = z at *
    have HQ4 := Aside0.mk q4
    have HQ := Aside0.mk (And.intro q1 (And.intro q2 q3))
    clear q1 q2 q3 q4 hP hE HEQ
    go_upto_region 17 with fail
    go_cut [160] from 29 (fun s160 wc => s160 = .bool false ∧ wc = w17)
    case first =>
     obtain ⟨q1, q2, q3⟩ := HQ.out
     change (z == 1) = (ke == 7) at q3
     have hz7 : (z == 1) = true ∧ (ke == 7) = true ∨ (z == 1) = false ∧ (ke == 7) = false := by
      cases h : (z == 1) with
      | true => rw [h] at q3; exact .inl ⟨rfl, q3.symm⟩
      | false => rw [h] at q3; exact .inr ⟨rfl, q3.symm⟩
     clear q3
     by_cases hv1 : v = 1
     ·obtain rfl : u = 1 := q1 hv1
      subst hv1
      clear q1 q2
      rcases hz7 with ⟨z1, z2⟩ | ⟨z1, z2⟩
      all_goals
       go_wp2_with fail
       go_meet
       case rel => exact ⟨rfl, rfl⟩
     ·have hvb : (v == 1) = false := by simpa using hv1
      by_cases hu2 : u = 2
      ·obtain rfl : v = 2 := q2 hu2
       subst hu2
       clear q1 q2 hv1 hvb
       rcases hz7 with ⟨z1, z2⟩ | ⟨z1, z2⟩
       all_goals
        go_wp2_with fail
        go_meet
        case rel => exact ⟨rfl, rfl⟩
      ·have hub : (u == 2) = false := by simpa using hu2
       clear q1 q2
       rcases hz7 with ⟨z1, z2⟩ | ⟨z1, z2⟩
       all_goals
        go_wp2_with fail
        go_meet
        case rel => exact ⟨rfl, rfl⟩
    case rest =>
    obtain ⟨rfl, rfl⟩ := hcut
    rcases HQ4.out with ⟨hs1, hs2⟩ | ⟨s, hs1, hs2, hs3, hs4, hs5⟩
    ·subst hs1
     have hzb : (z == 1) = false := by simpa using hs2
     clear HQ4 HQ
     go_wp2_with fail
     refine (awake_calls _).mono ?_
     rintro e w18 ⟨rfl, hb⟩
     have H14 := Aside0.mk (bel2 H13.out.bel hb)
     clear hb
     go_wp2
     go_ret
     exact ⟨ret_bool (show (z != 1) = true by rw [bne, hzb]; rfl), H14.out⟩
    ·subst hs1
     subst hs3
     have hin := fun W => rIn_calls (s : Int) 0 20 W
     rw [show inR (s : Int) 0 20 = true from by rw [inR_iff]; omega] at hin
     have HM4 := Aside0.mk (HMO.out _ _ hs4)
     have HS5 := Aside0.mk hs5
     have hs20 : (s : Int) ≤ 20 := by omega
     clear HQ4 HQ hs4 hs5
     go_wp2_with fail
     refine (hin _).mono ?_
     rintro e w18 ⟨rfl, rfl⟩
     clear hin
     have k0 := H13.out.box.cell 0 _ rfl
     have k1 := H13.out.box.cell 1 _ rfl
     have k2 := H13.out.box.cell 2 _ rfl
     have k3 := H13.out.box.cell 3 _ rfl
     have k4 := H13.out.box.cell 4 _ rfl
     have k5 := H13.out.box.cell 5 _ rfl
     have k6 := H13.out.box.cell 6 _ rfl
     have k7 := H13.out.box.cell 7 _ rfl
     have k8 := H13.out.box.cell 8 _ rfl
     have k9 := H13.out.box.cell 9 _ rfl
     have k10 := H13.out.box.cell 10 _ rfl
     have HB1 := Aside0.mk (bel2 H13.out.bel (below_drew (Below.refl wc.heap.size wc)))
     go_wp2
     refine start_ (n := 12) (S := fun w' => w'.cell? ⟨w.heap.size, 0, none⟩ = some (.int .i64 x.f0) ∧ w'.cell? ⟨w.heap.size, 1, none⟩ = some (.int .i64 x.f1) ∧ w'.cell? ⟨w.heap.size, 2, none⟩ = some (.int .i64 x.f2) ∧ w'.cell? ⟨w.heap.size, 3, none⟩ = some (.int .i64 x.f3) ∧ w'.cell? ⟨w.heap.size, 4, none⟩ = some (.int .i64 x.f4) ∧ w'.cell? ⟨w.heap.size, 5, none⟩ = some (.slice A5 x.f5.length c5) ∧ w'.cell? ⟨w.heap.size, 6, none⟩ = some (.slice A6 x.f6.length c6) ∧ w'.cell? ⟨w.heap.size, 7, none⟩ = some (.int .i64 x.f7.f0) ∧ w'.cell? ⟨w.heap.size, 8, none⟩ = some (.int .i64 x.f7.f1) ∧ w'.cell? ⟨w.heap.size, 9, none⟩ = some (.slice A9 x.f8.length c9) ∧ w'.cell? ⟨w.heap.size, 10, none⟩ = some (.slice A10 x.f9.length c10)) (ds := []) #[false, false, false, false, false, false, false, false, false, false, false, false] (by kernel_rfl) rfl rfl ⟨k0, k1, k2, k3, k4, k5, k6, k7, k8, k9, k10⟩ (fun hHeld => ?_)
     refine pure_ (i := 3) (N := some 183) (v := ?_) (a' := ?_) (bs 12 8) rfl rfl (by kernel_rfl) (fun _ _ _ h => h) (Or.inl ⟨by rfl, ?_⟩) ?_ ?_
     rotate_left
     ·intro w'
      go_simp
      with_reducible rfl
     rotate_left
     ·simp only [Act.put, List.setIfInBounds_toArray, List.set_cons_zero, List.set_cons_succ, i64_w, i32_w]
      rfl
     refine pure_ (i := 4) (N := some 184) (v := ?_) (a' := ?_) (bs 12 24) rfl rfl (by kernel_rfl) (fun _ _ _ h => h) (Or.inl ⟨by rfl, ?_⟩) ?_ ?_
     rotate_left
     ·intro w'
      go_simp
      with_reducible rfl
     rotate_left
     ·simp only [Act.put, List.setIfInBounds_toArray, List.set_cons_zero, List.set_cons_succ, i64_w, i32_w]
      rfl
     refine take_ (i := 0) (N := some 180) (v := ?_) (a' := ?_) (bs 12 25) rfl rfl (by kernel_rfl) (fun _ _ _ h => h) (Or.inl ⟨by rfl, ?_⟩) hHeld ?_ ?_
     rotate_left
     ·rintro w' ⟨s0, s1, s2, s3, s4, s5, s6, s7, s8, s9, s10⟩
      go_simp
      with_reducible rfl
     rotate_left
     ·simp only [Act.put, List.setIfInBounds_toArray, List.set_cons_zero, List.set_cons_succ, i64_w, i32_w]
      rfl
     refine take_ (i := 2) (N := some 182) (v := ?_) (a' := ?_) (bs 12 29) rfl rfl (by kernel_rfl) (fun _ _ _ h => h) (Or.inl ⟨by rfl, ?_⟩) hHeld ?_ ?_
     rotate_left
     ·rintro w' ⟨s0, s1, s2, s3, s4, s5, s6, s7, s8, s9, s10⟩
      go_simp
      with_reducible rfl
     rotate_left
     ·simp only [Act.put, List.setIfInBounds_toArray, List.set_cons_zero, List.set_cons_succ, i64_w, i32_w]
      rfl
     refine one_ (i := 1) (N := some 181) (bs 12 31) rfl rfl (by kernel_rfl) (by decide) (fun K hK => ?_)
     refine goes_ Try.func22 (by kernel_rfl) rfl #[.agg #[.int .i64 x.f0, .int .i64 x.f1, .int .i64 x.f2, .int .i64 x.f3, .int .i64 x.f4, .slice A5 x.f5.length c5, .slice A6 x.f6.length c6, .int .i64 x.f7.f0, .int .i64 x.f7.f1, .slice A9 x.f8.length c9, .slice A10 x.f9.length c10]] (by rfl) rfl rfl (by simp only [List.map_toArray, List.map_cons, List.map_nil]; rfl) ?_
     with_reducible refine (HCP.out _ HB1.out).mono ?_
     rintro e w18 ⟨d18, rfl, hb18, hkd18⟩
     refine ⟨_, rfl, ?_⟩
     refine hK.out _ _ ⟨pw_cell_below hb18 (hHeld.1), pw_cell_below hb18 (hHeld.2.1), pw_cell_below hb18 (hHeld.2.2.1), pw_cell_below hb18 (hHeld.2.2.2.1), pw_cell_below hb18 (hHeld.2.2.2.2.1), pw_cell_below hb18 (hHeld.2.2.2.2.2.1), pw_cell_below hb18 (hHeld.2.2.2.2.2.2.1), pw_cell_below hb18 (hHeld.2.2.2.2.2.2.2.1), pw_cell_below hb18 (hHeld.2.2.2.2.2.2.2.2.1), pw_cell_below hb18 (hHeld.2.2.2.2.2.2.2.2.2.1), pw_cell_below hb18 (hHeld.2.2.2.2.2.2.2.2.2.2)⟩ (fun hHeld => ?_)
     clear hK K
     refine norm_ (a' := ?_) ?_ ?_
     rotate_left
     ·show Act.put _ (some 181) _ = _
      simp only [Act.put, List.setIfInBounds_toArray, List.set_cons_zero, List.set_cons_succ, i64_w, i32_w]
      rfl
     refine one_ (i := 5) (N := some 185) (bs 12 63) rfl rfl (by kernel_rfl) (by decide) (fun K hK => ?_)
     refine goes_ Try.func72 (by kernel_rfl) rfl #[.agg #[.int .i64 x.f0, .int .i64 x.f1, .int .i64 x.f2, .int .i64 x.f3, .int .i64 x.f4, .slice A5 x.f5.length c5, .slice A6 x.f6.length c6, .int .i64 x.f7.f0, .int .i64 x.f7.f1, .slice A9 x.f8.length c9, .slice A10 x.f9.length c10], .int .i64 kk, .int .i64 s] (by rfl) rfl rfl (by simp only [List.map_toArray, List.map_cons, List.map_nil]; rfl) ?_
     with_reducible refine (HSG.out s _ (bel2 HB1.out hb18)).mono ?_
     rintro e w19 ⟨A19, a19, rfl, hc19, hb19⟩
     refine ⟨_, rfl, ?_⟩
     refine hK.out _ _ ⟨pw_cell_below hb19 (hHeld.1), pw_cell_below hb19 (hHeld.2.1), pw_cell_below hb19 (hHeld.2.2.1), pw_cell_below hb19 (hHeld.2.2.2.1), pw_cell_below hb19 (hHeld.2.2.2.2.1), pw_cell_below hb19 (hHeld.2.2.2.2.2.1), pw_cell_below hb19 (hHeld.2.2.2.2.2.2.1), pw_cell_below hb19 (hHeld.2.2.2.2.2.2.2.1), pw_cell_below hb19 (hHeld.2.2.2.2.2.2.2.2.1), pw_cell_below hb19 (hHeld.2.2.2.2.2.2.2.2.2.1), pw_cell_below hb19 (hHeld.2.2.2.2.2.2.2.2.2.2)⟩ (fun hHeld => ?_)
     clear hK K
     refine norm_ (a' := ?_) ?_ ?_
     rotate_left
     ·show Act.put _ (some 185) _ = _
      simp only [Act.put, List.setIfInBounds_toArray, List.set_cons_zero, List.set_cons_succ, i64_w, i32_w]
      rfl
     refine one_ (i := 6) (N := some 186) (bs 12 127) rfl rfl (by kernel_rfl) (by decide) (fun K hK => ?_)
     refine goes_ Try.func26 (by kernel_rfl) rfl #[.agg d18.toArray, .slice A19 (singleL x kk s).length a19] (by rfl) rfl rfl (by simp only [List.map_toArray, List.map_cons, List.map_nil]; rfl) ?_
     with_reducible refine (HM4.out _ d18 A19 a19 (k38.K_below hb19 hkd18) hc19).mono ?_
     rintro e w20 ⟨rfl, hb20⟩
     refine ⟨_, rfl, ?_⟩
     refine hK.out _ _ ⟨pw_cell_below hb20 (hHeld.1), pw_cell_below hb20 (hHeld.2.1), pw_cell_below hb20 (hHeld.2.2.1), pw_cell_below hb20 (hHeld.2.2.2.1), pw_cell_below hb20 (hHeld.2.2.2.2.1), pw_cell_below hb20 (hHeld.2.2.2.2.2.1), pw_cell_below hb20 (hHeld.2.2.2.2.2.2.1), pw_cell_below hb20 (hHeld.2.2.2.2.2.2.2.1), pw_cell_below hb20 (hHeld.2.2.2.2.2.2.2.2.1), pw_cell_below hb20 (hHeld.2.2.2.2.2.2.2.2.2.1), pw_cell_below hb20 (hHeld.2.2.2.2.2.2.2.2.2.2)⟩ (fun hHeld => ?_)
     clear hK K
     refine norm_ (a' := ?_) ?_ ?_
     rotate_left
     ·show Act.put _ (some 186) _ = _
      simp only [Act.put, List.setIfInBounds_toArray, List.set_cons_zero, List.set_cons_succ, i64_w, i32_w]
      rfl
     refine pure_ (i := 7) (N := some 179) (v := ?_) (a' := ?_) (bs 12 255) rfl rfl (by kernel_rfl) (fun _ _ _ h => h) (Or.inl ⟨by rfl, ?_⟩) ?_ ?_
     rotate_left
     ·intro w'
      go_simp
      with_reducible rfl
     rotate_left
     ·simp only [Act.put, List.setIfInBounds_toArray, List.set_cons_zero, List.set_cons_succ, i64_w, i32_w]
      rfl
     refine pure_ (i := 8) (N := some 187) (v := ?_) (a' := ?_) (bs 12 511) rfl rfl (by kernel_rfl) (fun _ _ _ h => h) (Or.inl ⟨by rfl, ?_⟩) ?_ ?_
     rotate_left
     ·intro w'
      go_simp
      with_reducible rfl
     rotate_left
     ·simp only [Act.put, List.setIfInBounds_toArray, List.set_cons_zero, List.set_cons_succ, i64_w, i32_w]
      rfl
     refine pure_ (i := 9) (N := some 188) (v := ?_) (a' := ?_) (bs 12 1023) rfl rfl (by kernel_rfl) (fun _ _ _ h => h) (Or.inl ⟨by rfl, ?_⟩) ?_ ?_
     rotate_left
     ·intro w'
      go_simp
      with_reducible rfl
     rotate_left
     ·simp only [Act.put, List.setIfInBounds_toArray, List.set_cons_zero, List.set_cons_succ, i64_w, i32_w]
      rfl
     refine pure_ (i := 10) (N := some 25) (v := ?_) (a' := ?_) (bs 12 2047) rfl rfl (by kernel_rfl) (fun _ _ _ h => h) (Or.inl ⟨by rfl, ?_⟩) ?_ ?_
     rotate_left
     ·intro w'
      go_simp
      with_reducible rfl
     rotate_left
     ·simp only [Act.put, List.setIfInBounds_toArray, List.set_cons_zero, List.set_cons_succ, i64_w, i32_w]
      rfl
     refine pure_ (i := 11) (N := some 26) (v := ?_) (a' := ?_) (bs 12 4095) rfl rfl (by kernel_rfl) (fun _ _ _ h => h) (Or.inl ⟨by rfl, ?_⟩) ?_ ?_
     rotate_left
     ·intro w'
      go_simp
      with_reducible rfl
     rotate_left
     ·simp only [Act.put, List.setIfInBounds_toArray, List.set_cons_zero, List.set_cons_succ, i64_w, i32_w]
      rfl
     refine done_ (by kernel_rfl) ?_
     have H14 := Aside0.mk (H13.out.step HP.out (bel2 (bel2 (bel2 (below_drew (Below.refl wc.heap.size wc)) hb18) hb19) hb20))
     clear hHeld hb18 hb19 hb20 hkd18 hc19 k0 k1 k2 k3 k4 k5 k6 k7 k8 k9 k10 HB1 HM4
     by_cases hgt : 20 < (s : Int) + (bb : Int)
     ·go_wp2_with fail
      refine (awake_calls _).mono ?_
      rintro e w21 ⟨rfl, hb⟩
      have H15 := Aside0.mk (bel2 H14.out.bel hb)
      clear hb
      go_wp2
      go_ret
      exact ⟨rfl, H15.out⟩
     ·obtain ⟨y, hy1, hy2⟩ := HS5.out (by omega)
      have HM5 := Aside0.mk (HMO.out _ _ hy1)
      have hyb : (y == 1) = false := by simpa using hy2
      obtain ⟨sb, hsb⟩ : ∃ sb : Nat, s + bb = sb := ⟨_, rfl⟩
      rw [hsb] at HM5
      have hsbz : (s : Int) + (bb : Int) = (sb : Int) := by omega
      have hwsb : wrap64 ((s : Int) + (bb : Int)) = (sb : Int) := by rw [hsbz]; exact IntWalk.wrap64_in _ (by omega)
      have hwsb2 : IntKind.i64.wrap ((s : Int) + (bb : Int)) = (sb : Int) := (i64_w _).trans hwsb
      have hsb20 : ¬ 20 < (sb : Int) := by rw [← hsbz]; exact hgt
      clear hy1 hsb hgt hsbz
      have k0 := H14.out.box.cell 0 _ rfl
      have k1 := H14.out.box.cell 1 _ rfl
      have k2 := H14.out.box.cell 2 _ rfl
      have k3 := H14.out.box.cell 3 _ rfl
      have k4 := H14.out.box.cell 4 _ rfl
      have k5 := H14.out.box.cell 5 _ rfl
      have k6 := H14.out.box.cell 6 _ rfl
      have k7 := H14.out.box.cell 7 _ rfl
      have k8 := H14.out.box.cell 8 _ rfl
      have k9 := H14.out.box.cell 9 _ rfl
      have k10 := H14.out.box.cell 10 _ rfl
      have HB2 := Aside0.mk (bel2 H14.out.bel (below_drew (Below.refl w20.heap.size w20)))
      go_wp2
      refine start_ (n := 14) (S := fun w' => w'.cell? ⟨w.heap.size, 0, none⟩ = some (.int .i64 x.f0) ∧ w'.cell? ⟨w.heap.size, 1, none⟩ = some (.int .i64 x.f1) ∧ w'.cell? ⟨w.heap.size, 2, none⟩ = some (.int .i64 x.f2) ∧ w'.cell? ⟨w.heap.size, 3, none⟩ = some (.int .i64 x.f3) ∧ w'.cell? ⟨w.heap.size, 4, none⟩ = some (.int .i64 x.f4) ∧ w'.cell? ⟨w.heap.size, 5, none⟩ = some (.slice A5 x.f5.length c5) ∧ w'.cell? ⟨w.heap.size, 6, none⟩ = some (.slice A6 x.f6.length c6) ∧ w'.cell? ⟨w.heap.size, 7, none⟩ = some (.int .i64 x.f7.f0) ∧ w'.cell? ⟨w.heap.size, 8, none⟩ = some (.int .i64 x.f7.f1) ∧ w'.cell? ⟨w.heap.size, 9, none⟩ = some (.slice A9 x.f8.length c9) ∧ w'.cell? ⟨w.heap.size, 10, none⟩ = some (.slice A10 x.f9.length c10)) (ds := []) #[false, false, false, false, false, false, false, false, false, false, false, false, false, false] (by kernel_rfl) rfl rfl ⟨k0, k1, k2, k3, k4, k5, k6, k7, k8, k9, k10⟩ (fun hHeld => ?_)
      refine pure_ (i := 3) (N := some 204) (v := ?_) (a' := ?_) (bs 14 8) rfl rfl (by kernel_rfl) (fun _ _ _ h => h) (Or.inl ⟨by rfl, ?_⟩) ?_ ?_
      rotate_left
      ·intro w'
       go_simp
       with_reducible rfl
      rotate_left
      ·simp only [Act.put, List.setIfInBounds_toArray, List.set_cons_zero, List.set_cons_succ, i64_w, i32_w]
       rfl
      refine pure_ (i := 4) (N := some 205) (v := ?_) (a' := ?_) (bs 14 24) rfl rfl (by kernel_rfl) (fun _ _ _ h => h) (Or.inl ⟨by rfl, ?_⟩) ?_ ?_
      rotate_left
      ·intro w'
       go_simp
       with_reducible rfl
      rotate_left
      ·simp only [Act.put, List.setIfInBounds_toArray, List.set_cons_zero, List.set_cons_succ, i64_w, i32_w]
       rfl
      refine pure_ (i := 5) (N := some 206) (v := ?_) (a' := ?_) (bs 14 56) rfl rfl (by kernel_rfl) (fun _ _ _ h => h) (Or.inl ⟨by rfl, ?_⟩) ?_ ?_
      rotate_left
      ·intro w'
       go_simp
       with_reducible rfl
      rotate_left
      ·simp only [Act.put, List.setIfInBounds_toArray, List.set_cons_zero, List.set_cons_succ, i64_w, i32_w]
       rfl
      refine pure_ (i := 6) (N := some 207) (v := ?_) (a' := ?_) (bs 14 120) rfl rfl (by kernel_rfl) (fun _ _ _ h => h) (Or.inl ⟨by rfl, ?_⟩) ?_ ?_
      rotate_left
      ·intro w'
       go_simp
       with_reducible rfl
      rotate_left
      ·simp only [Act.put, List.setIfInBounds_toArray, List.set_cons_zero, List.set_cons_succ, i64_w, i32_w]
       rfl
      refine take_ (i := 0) (N := some 201) (v := ?_) (a' := ?_) (bs 14 121) rfl rfl (by kernel_rfl) (fun _ _ _ h => h) (Or.inl ⟨by rfl, ?_⟩) hHeld ?_ ?_
      rotate_left
      ·rintro w' ⟨s0, s1, s2, s3, s4, s5, s6, s7, s8, s9, s10⟩
       go_simp
       with_reducible rfl
      rotate_left
      ·simp only [Act.put, List.setIfInBounds_toArray, List.set_cons_zero, List.set_cons_succ, i64_w, i32_w]
       rfl
      refine take_ (i := 2) (N := some 203) (v := ?_) (a' := ?_) (bs 14 125) rfl rfl (by kernel_rfl) (fun _ _ _ h => h) (Or.inl ⟨by rfl, ?_⟩) hHeld ?_ ?_
      rotate_left
      ·rintro w' ⟨s0, s1, s2, s3, s4, s5, s6, s7, s8, s9, s10⟩
       go_simp
       with_reducible rfl
      rotate_left
      ·simp only [Act.put, List.setIfInBounds_toArray, List.set_cons_zero, List.set_cons_succ, i64_w, i32_w]
       rfl
      refine one_ (i := 1) (N := some 202) (bs 14 127) rfl rfl (by kernel_rfl) (by decide) (fun K hK => ?_)
      refine goes_ Try.func22 (by kernel_rfl) rfl #[.agg #[.int .i64 x.f0, .int .i64 x.f1, .int .i64 x.f2, .int .i64 x.f3, .int .i64 x.f4, .slice A5 x.f5.length c5, .slice A6 x.f6.length c6, .int .i64 x.f7.f0, .int .i64 x.f7.f1, .slice A9 x.f8.length c9, .slice A10 x.f9.length c10]] (by rfl) rfl rfl (by simp only [List.map_toArray, List.map_cons, List.map_nil]; rfl) ?_
      with_reducible refine (HCP.out _ HB2.out).mono ?_
      rintro e w21 ⟨d21, rfl, hb21, hkd21⟩
      refine ⟨_, rfl, ?_⟩
      refine hK.out _ _ ⟨pw_cell_below hb21 (hHeld.1), pw_cell_below hb21 (hHeld.2.1), pw_cell_below hb21 (hHeld.2.2.1), pw_cell_below hb21 (hHeld.2.2.2.1), pw_cell_below hb21 (hHeld.2.2.2.2.1), pw_cell_below hb21 (hHeld.2.2.2.2.2.1), pw_cell_below hb21 (hHeld.2.2.2.2.2.2.1), pw_cell_below hb21 (hHeld.2.2.2.2.2.2.2.1), pw_cell_below hb21 (hHeld.2.2.2.2.2.2.2.2.1), pw_cell_below hb21 (hHeld.2.2.2.2.2.2.2.2.2.1), pw_cell_below hb21 (hHeld.2.2.2.2.2.2.2.2.2.2)⟩ (fun hHeld => ?_)
      clear hK K
      refine norm_ (a' := ?_) ?_ ?_
      rotate_left
      ·show Act.put _ (some 202) _ = _
       simp only [Act.put, List.setIfInBounds_toArray, List.set_cons_zero, List.set_cons_succ, i64_w, i32_w]
       rfl
      refine one_ (i := 7) (N := some 208) (bs 14 255) rfl rfl (by kernel_rfl) (by decide) (fun K hK => ?_)
      refine goes_ Try.func72 (by kernel_rfl) rfl #[.agg #[.int .i64 x.f0, .int .i64 x.f1, .int .i64 x.f2, .int .i64 x.f3, .int .i64 x.f4, .slice A5 x.f5.length c5, .slice A6 x.f6.length c6, .int .i64 x.f7.f0, .int .i64 x.f7.f1, .slice A9 x.f8.length c9, .slice A10 x.f9.length c10], .int .i64 kk, .int .i64 sb] (by rfl) rfl rfl (by simp only [List.map_toArray, List.map_cons, List.map_nil]; rfl) ?_
      with_reducible refine (HSG.out sb _ (bel2 HB2.out hb21)).mono ?_
      rintro e w22 ⟨A22, a22, rfl, hc22, hb22⟩
      refine ⟨_, rfl, ?_⟩
      refine hK.out _ _ ⟨pw_cell_below hb22 (hHeld.1), pw_cell_below hb22 (hHeld.2.1), pw_cell_below hb22 (hHeld.2.2.1), pw_cell_below hb22 (hHeld.2.2.2.1), pw_cell_below hb22 (hHeld.2.2.2.2.1), pw_cell_below hb22 (hHeld.2.2.2.2.2.1), pw_cell_below hb22 (hHeld.2.2.2.2.2.2.1), pw_cell_below hb22 (hHeld.2.2.2.2.2.2.2.1), pw_cell_below hb22 (hHeld.2.2.2.2.2.2.2.2.1), pw_cell_below hb22 (hHeld.2.2.2.2.2.2.2.2.2.1), pw_cell_below hb22 (hHeld.2.2.2.2.2.2.2.2.2.2)⟩ (fun hHeld => ?_)
      clear hK K
      refine norm_ (a' := ?_) ?_ ?_
      rotate_left
      ·show Act.put _ (some 208) _ = _
       simp only [Act.put, List.setIfInBounds_toArray, List.set_cons_zero, List.set_cons_succ, i64_w, i32_w]
       rfl
      refine one_ (i := 8) (N := some 209) (bs 14 511) rfl rfl (by kernel_rfl) (by decide) (fun K hK => ?_)
      refine goes_ Try.func26 (by kernel_rfl) rfl #[.agg d21.toArray, .slice A22 (singleL x kk sb).length a22] (by rfl) rfl rfl (by simp only [List.map_toArray, List.map_cons, List.map_nil]; rfl) ?_
      with_reducible refine (HM5.out _ d21 A22 a22 (k38.K_below hb22 hkd21) hc22).mono ?_
      rintro e w23 ⟨rfl, hb23⟩
      refine ⟨_, rfl, ?_⟩
      refine hK.out _ _ ⟨pw_cell_below hb23 (hHeld.1), pw_cell_below hb23 (hHeld.2.1), pw_cell_below hb23 (hHeld.2.2.1), pw_cell_below hb23 (hHeld.2.2.2.1), pw_cell_below hb23 (hHeld.2.2.2.2.1), pw_cell_below hb23 (hHeld.2.2.2.2.2.1), pw_cell_below hb23 (hHeld.2.2.2.2.2.2.1), pw_cell_below hb23 (hHeld.2.2.2.2.2.2.2.1), pw_cell_below hb23 (hHeld.2.2.2.2.2.2.2.2.1), pw_cell_below hb23 (hHeld.2.2.2.2.2.2.2.2.2.1), pw_cell_below hb23 (hHeld.2.2.2.2.2.2.2.2.2.2)⟩ (fun hHeld => ?_)
      clear hK K
      refine norm_ (a' := ?_) ?_ ?_
      rotate_left
      ·show Act.put _ (some 209) _ = _
       simp only [Act.put, List.setIfInBounds_toArray, List.set_cons_zero, List.set_cons_succ, i64_w, i32_w]
       rfl
      refine pure_ (i := 9) (N := some 200) (v := ?_) (a' := ?_) (bs 14 1023) rfl rfl (by kernel_rfl) (fun _ _ _ h => h) (Or.inl ⟨by rfl, ?_⟩) ?_ ?_
      rotate_left
      ·intro w'
       go_simp
       with_reducible rfl
      rotate_left
      ·simp only [Act.put, List.setIfInBounds_toArray, List.set_cons_zero, List.set_cons_succ, i64_w, i32_w]
       rfl
      refine pure_ (i := 10) (N := some 210) (v := ?_) (a' := ?_) (bs 14 2047) rfl rfl (by kernel_rfl) (fun _ _ _ h => h) (Or.inl ⟨by rfl, ?_⟩) ?_ ?_
      rotate_left
      ·intro w'
       go_simp
       with_reducible rfl
      rotate_left
      ·simp only [Act.put, List.setIfInBounds_toArray, List.set_cons_zero, List.set_cons_succ, i64_w, i32_w]
       rfl
      refine pure_ (i := 11) (N := some 211) (v := ?_) (a' := ?_) (bs 14 4095) rfl rfl (by kernel_rfl) (fun _ _ _ h => h) (Or.inl ⟨by rfl, ?_⟩) ?_ ?_
      rotate_left
      ·intro w'
       go_simp
       with_reducible rfl
      rotate_left
      ·simp only [Act.put, List.setIfInBounds_toArray, List.set_cons_zero, List.set_cons_succ, i64_w, i32_w]
       rfl
      refine pure_ (i := 12) (N := some 27) (v := ?_) (a' := ?_) (bs 14 8191) rfl rfl (by kernel_rfl) (fun _ _ _ h => h) (Or.inl ⟨by rfl, ?_⟩) ?_ ?_
      rotate_left
      ·intro w'
       go_simp
       with_reducible rfl
      rotate_left
      ·simp only [Act.put, List.setIfInBounds_toArray, List.set_cons_zero, List.set_cons_succ, i64_w, i32_w]
       rfl
      refine pure_ (i := 13) (N := some 28) (v := ?_) (a' := ?_) (bs 14 16383) rfl rfl (by kernel_rfl) (fun _ _ _ h => h) (Or.inl ⟨by rfl, ?_⟩) ?_ ?_
      rotate_left
      ·intro w'
       go_simp
       with_reducible rfl
      rotate_left
      ·simp only [Act.put, List.setIfInBounds_toArray, List.set_cons_zero, List.set_cons_succ, i64_w, i32_w]
       rfl
      refine done_ (by kernel_rfl) ?_
      have H15 := Aside0.mk (bel2 H14.out.bel (bel2 (bel2 (bel2 (below_drew (Below.refl w20.heap.size w20)) hb21) hb22) hb23))
      clear hHeld hb21 hb22 hb23 hkd21 hc22 k0 k1 k2 k3 k4 k5 k6 k7 k8 k9 k10 HB2 hwsb hwsb2
      go_wp2_with fail
      refine (awake_calls _).mono ?_
      rintro e w24 ⟨rfl, hb⟩
      have H16 := Aside0.mk (bel2 H15.out hb)
      clear hb
      go_wp2
      go_ret
      exact ⟨ret_bool (show (y != 1) = true by rw [bne, hyb]; rfl), H16.out⟩
   ·have hdz2 : ((d : Nat) : Int) = x.f0 + 1 := hd.symm
    obtain rfl : mL = (0, 11) := HEQ.out.1.symm.trans (HBD.out hE lw (by rw [HLN.out.1]; exact hdz2) HVV.out.1)
    obtain rfl : mM = (0, 11) := HEQ.out.2.1.symm.trans (HBD.out hE mw (by rw [HLN.out.2.1]; exact hdz2) HVV.out.2)
    obtain rfl : mZ = (0, 11) := HEQ.out.2.2.1.symm.trans (HBD.out hE (zeroL x) (by rw [HLN.out.2.2]; exact hdz2) (fun n hn => by rw [(List.mem_replicate.1 hn).2]; decide))
    have hE11 : askE x true = 11 := HE11.out hE
    have hl := HLA.out
    rw [if_neg hE, hE11, HEQ.out.2.2.2.1] at hl
    have hs := HSF.out hE
    rw [hE11, HEQ.out.2.2.2.2] at hs
    subst hs
    obtain ⟨kn, ke⟩ := lk
    obtain rfl : ke = 11 := hl
    clear hE hE11 HEQ hdz2
    go_wp2_with fail
    refine (awake_calls _).mono ?_
    rintro e w18 ⟨rfl, hb⟩
    have H14 := Aside0.mk (bel2 H13.out.bel hb)
    clear hb
    go_wp2
    go_ret
    exact ⟨rfl, H14.out⟩
theorem promised_law (x : S38) (cs : List Value) (A : Option Addr) (c : Nat) (ws : List Wd16) (hr by_ : Int) (h0 : 0 ≤ hr ∧ hr ≤ 255) (h1 : 0 ≤ by_ ∧ by_ ≤ 255) (w : World) (hx : k38.K w x cs) (hws : Kd.C kW w A ws.length ws) : Calls Try.prog 17 #[.agg cs.toArray, .slice A ws.length c, .int .u8 hr, .int .u8 by_] w fun e w' => e = .returned (.bool true) ∧ Below w.heap.size w w' := by
 cases h : readyB x with
 | false => exact prm_awake x cs A c ws hr by_ w hx h
 | true =>
  obtain ⟨t, rfl⟩ : ∃ t : Nat, hr = (t : Int) := ⟨hr.toNat, by omega⟩
  obtain ⟨u, rfl⟩ : ∃ u : Nat, by_ = (u : Int) := ⟨by_.toNat, by omega⟩
  exact prm_main x cs A c ws t u (by omega) (by omega) w hx hws h
end Go.Proofs.Ytdgkhoflajdidaa
