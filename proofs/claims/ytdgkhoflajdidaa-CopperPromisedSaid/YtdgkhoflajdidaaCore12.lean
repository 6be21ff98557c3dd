/- Lemmas for the laws' proofs: Kc, Kd, Ke. -/
import Derived.Test.YtdgkhoflajdidaaCore11
import Derived.WalkMore
/- Least's recursion: the walk of the rounds. -/
namespace Go.Proofs.Ytdgkhoflajdidaa
open Go.RowKit Go.Proofs.YtdgkhoflajdidaaW.PrintWords Go.Proofs.YtdgkhoflajdidaaW.PrintMore Go.Proofs.YtdgkhoflajdidaaW.PrintLast Go.Proofs.Ytdgkhoflajdidaa.Print
set_option linter.unusedVariables false
set_option linter.unusedSimpArgs false
set_option maxRecDepth 100000 in
set_option maxHeartbeats 4000000 in
theorem least1_calls (x : S38) (cs : List Value) (w1 : World) (g mb : Nat) (hx : k38.K w1 x cs) (hV : Valid x) (hM : IsMap mb w1) (hW : WorkAt x cs g mb w1) (Bf Bc Bl Bw : Nat) :
    ∀ (d m : Nat) (out : List Int) (A : Option Addr) (c n : Nat) (W : World), LcOk x cs Bf Bc Bl Bw g mb w1 W → Known x mb n W → n + 4 ^ d ≤ 100000 → Kd.C (Kd.int .i64) W A out.length out → (∀ ad, A = some ad → 0 < out.length → ad.block ≠ Bf) → ((out.length + d : Nat) : Int) = x.f0 + 1 → (∀ q ∈ out, 0 ≤ q ∧ q ≤ 3) → m ≤ 15 →
     Calls Try.prog 111 #[.slice A out.length c, .int .i64 m, .pointer (some ⟨Bc, 0, none⟩), .pointer (some ⟨Bf, 0, none⟩), .pointer (some ⟨Bw, 0, none⟩), .pointer (some ⟨Bl, 0, none⟩)] W (LcPost x out d m Bf mb n W) := by
 obtain ⟨A5, c5, A6, c6, A9, c9, A10, c10, hcs, _⟩ := k38_open hx
 have hl1 := hV.last1
 have hl0 := hV.last0
 have hs0 := hV.sh0
 have hs1 := hV.sh1
 have HX := Aside0.mk hx
 have HV := Aside0.mk hV
 have HCS := Aside0.mk hcs
 have HM := Aside0.mk hM
 have HWK := Aside0.mk hW
 clear hx hV hcs hM hW
 intro d
 induction d with
 | zero =>
  intro m out A c n W hL hK hn hC hA hlen hv hm
  exact least0_calls x cs w1 g mb HX.out HV.out HM.out HWK.out Bf Bc Bl Bw m out A c n W hL hK (Nat.lt_of_lt_of_le (show n < 100001 by simp at hn; omega) (by decide)) hC hA (by simpa using hlen) hv
 | succ d ih =>
  intro m out A c n W hL hK hn hC hA hlen hv hm
  have hu := Try.underlying38
  have hIH := Aside0.mk ih
  have HL := Aside0.mk hL
  have HK := Aside0.mk hK
  have HC := Aside0.mk hC
  have HA := Aside0.mk hA
  have HVV := Aside0.mk hv
  have hbc := hL.c
  rw [HCS.out] at hbc
  have k0 := hbc.cell 0 _ rfl
  have k4 := hbc.cell 4 _ rfl
  have hle2 : ((out.length : Int) == x.f0 + 1) = false := by simp; omega
  have hol : out.length ≤ 1000 := by omega
  have hmz : (m : Int) ≤ 15 := by omega
  have hP4 : 4 ^ (d + 1) = 4 * 4 ^ d := by rw [Nat.pow_succ]; omega
  have HN := Lib.hid (show n + 4 * 4 ^ d ≤ 100000 by omega)
  have HP4 := Lib.hid hP4
  have HLE := Lib.hid hlen
  have hmin := fun (W : World) h0 h1 => minimum_calls W.heap.size 2 x.f4 (m : Int) (W.alloc (.cells #[.int .i64 x.f4, .int .i64 m] 3)) h0 h1
  have hmn : mn2 x.f4 (m : Int) = ((min x.f4.toNat m : Nat) : Int) := by rw [mn2_eq]; omega
  obtain ⟨K, hKK⟩ : ∃ K, min x.f4.toNat m = K := ⟨_, rfl⟩
  rw [hKK] at hmn
  have hK3 : (K : Int) ≤ 3 := by omega
  have hKm : (K : Int) ≤ (m : Int) := by omega
  have HKK := Lib.hid hKK
  clear ih hL hK hC hA hlen hbc hn hv hP4 hKK
  have hmin2 := hmin W (cell_last _ _ _ _ rfl 0 _ rfl) (cell_last _ _ _ _ rfl 1 _ rfl)
  rw [hmn] at hmin2
  clear hmin hmn
  have hbW : Below W.heap.size W (W.alloc (.cells #[.int .i64 x.f4, .int .i64 m] 3)) := below_alloc (Below.refl _ _) _
  have HBW := Aside0.mk hbW
  clear hbW
  go_enter Try.func111, Try.ntmps111
  go_wp2_with (go_at_call 109; refine hmin2.mono ?_; clear hmin2; rintro e w3 ⟨rfl, rfl⟩)
  generalize W.alloc (.cells #[.int .i64 x.f4, .int .i64 m] 3) = W0 at *
  go_loopw [30] (fun s30 wr => ∃ j : Nat, j ≤ K + 1 ∧ s30 = .int .i64 (j : Int) ∧ Aside0 (Keep2 Bf mb W wr ∧ LcOk x cs Bf Bc Bl Bw g mb w1 wr ∧ Known x mb (n + j * 4 ^ d) wr ∧ (paysTo x.f4.toNat d m j).find? (fun t => sureB x (out ++ t)) = none)) (fun s30 _ => (100 - intOf s30).toNat)
  case atStart => exact ⟨0, Nat.zero_le _, rfl, ⟨Keep2.of_below HBW.out, HL.out.below HBW.out, by simpa using HK.out.below HBW.out, rfl⟩⟩
  case round =>
   obtain ⟨j, hj, rfl, HW⟩ := hrel
   have hjz : (j : Int) ≥ 0 := by omega
   have hjz4 : (j : Int) ≤ 4 := by omega
   by_cases hlt : j < K + 1
   ·have hlz : (j : Int) < (K : Int) + 1 := by omega
    have hCw := C_keep2 HC.out HL.out.im HW.out.1 HA.out
    have kl := HW.out.2.1.l.cell 0 _ rfl
    have HCw := Aside0.mk hCw
    have hBfz : Bf < wr.heap.size := HW.out.2.1.f.elim fun v hv => hv.lt
    have hi0 : (j : Int) ≤ (m : Int) := by omega
    clear hCw
    have hstep : ∀ (A6 : Option Addr) (c6 : Nat) (w5 : World), Below wr.heap.size wr w5 → Kd.C (Kd.int .i64) w5 A6 (out ++ [(j : Int)]).length (out ++ [(j : Int)]) → (∀ k, (Value.slice A6 (out ++ [(j : Int)]).length c6).ownBlock = some k → wr.heap.size ≤ k) →
        Calls Try.prog 111 #[.slice A6 (out ++ [(j : Int)]).length c6, .int .i64 (wrap64 ((m : Int) - (j : Int))), .pointer (some ⟨Bc, 0, none⟩), .pointer (some ⟨Bf, 0, none⟩), .pointer (some ⟨Bw, 0, none⟩), .pointer (some ⟨Bl, 0, none⟩)] w5 (LcPost x (out ++ [(j : Int)]) d (m - j) Bf mb (n + j * 4 ^ d) w5) := by
     intro A6 c6 w5 hb hc ho
     have h1 := hIH.out (m - j) (out ++ [(j : Int)]) A6 c6 (n + j * 4 ^ d) w5 (HW.out.2.1.below hb) (HW.out.2.2.1.below hb) (by
      have h2 : j * 4 ^ d ≤ 3 * 4 ^ d := Nat.mul_le_mul_right _ (by omega)
      have h3 := HN.out
      omega) hc (fun ad e h0 h => by subst e; have := ho ad.block rfl; omega) (by have := HLE.out; simp; omega) (fun q hq => by
       rcases List.mem_append.1 hq with h | h
       ·exact HVV.out q h
       ·simp only [List.mem_singleton] at h; omega) (by omega)
     rw [IntWalk.wrap64_in ((m : Int) - (j : Int)) (by omega), show (m : Int) - (j : Int) = ((m - j : Nat) : Int) by omega]
     exact h1
    have HST := Aside0.mk hstep
    have HKJ := Lib.hid (show n + j * 4 ^ d + 4 ^ d = n + (j + 1) * 4 ^ d by rw [Nat.add_mul]; omega)
    have HKE := Lib.hid (show n + j * 4 ^ d + 4 ^ d ≤ n + 4 ^ (d + 1) by
     have h2 : j * 4 ^ d ≤ 3 * 4 ^ d := Nat.mul_le_mul_right _ (by omega)
     have h3 := HP4.out
     omega)
    have HLT := Lib.hid hlt
    clear hstep
    cases hfs : findC x (out ++ [(j : Int)]) d (m - j) with
    | some t =>
     have HSS := Aside0.mk (fun A6 c6 w5 h1 h2 h3 => (HST.out A6 c6 w5 h1 h2 h3).mono (R' := fun e W' => e = .returned (.bool true) ∧ Keep2 Bf mb w5 W' ∧ Known x mb (n + j * 4 ^ d + 4 ^ d) W' ∧ ∃ A c, Blk W' Bf #[.slice A ((out ++ [(j : Int)]) ++ t).length c] 22 ∧ Kd.C (Kd.int .i64) W' A ((out ++ [(j : Int)]) ++ t).length ((out ++ [(j : Int)]) ++ t))
      (fun e W' h => by
       rcases h.2.2 with ⟨h1, t', ht, hr⟩ | ⟨_, ht, _⟩
       ·rw [hfs] at ht; cases ht; exact ⟨h1, h.1, h.2.1, hr⟩
       ·rw [hfs] at ht; cases ht))
     have HFS := Lib.hid hfs
     clear hfs
     go_wp2
     refine start_ (n := 10) (S := fun w' => w'.cell? ⟨Bl, 0, none⟩ = some (.func (.func 111) #[] #[.pointer (some ⟨Bc, 0, none⟩), .pointer (some ⟨Bf, 0, none⟩), .pointer (some ⟨Bw, 0, none⟩), .pointer (some ⟨Bl, 0, none⟩)])) (ds := [9]) #[false, false, false, false, false, false, false, false, false, false] (by kernel_rfl) rfl rfl (kl) (fun hHeld => ?_)
     refine pure_ (i := 1) (N := some 34) (v := ?_) (a' := ?_) (bs 10 2) rfl rfl (by kernel_rfl) (fun _ _ _ h => h) (Or.inl ⟨by rfl, ?_⟩) ?_ ?_
     rotate_left
     ·intro w'
      go_simp
      with_reducible rfl
     rotate_left
     ·simp only [Act.put, List.setIfInBounds_toArray, List.set_cons_zero, List.set_cons_succ, i64_w, i32_w]
      rfl
     refine pure_ (i := 3) (N := some 36) (v := ?_) (a' := ?_) (bs 10 10) rfl rfl (by kernel_rfl) (fun _ _ _ h => h) (Or.inl ⟨by rfl, ?_⟩) ?_ ?_
     rotate_left
     ·intro w'
      go_simp
      with_reducible rfl
     rotate_left
     ·simp only [Act.put, List.setIfInBounds_toArray, List.set_cons_zero, List.set_cons_succ, i64_w, i32_w]
      rfl
     refine pure_ (i := 6) (N := some 39) (v := ?_) (a' := ?_) (bs 10 74) rfl rfl (by kernel_rfl) (fun _ _ _ h => h) (Or.inl ⟨by rfl, ?_⟩) ?_ ?_
     rotate_left
     ·intro w'
      go_simp
      with_reducible rfl
     rotate_left
     ·simp only [Act.put, List.setIfInBounds_toArray, List.set_cons_zero, List.set_cons_succ, i64_w, i32_w]
      rfl
     refine pure_ (i := 7) (N := some 40) (v := ?_) (a' := ?_) (bs 10 202) rfl rfl (by kernel_rfl) (fun _ _ _ h => h) (Or.inl ⟨by rfl, ?_⟩) ?_ ?_
     rotate_left
     ·intro w'
      go_simp
      with_reducible rfl
     rotate_left
     ·simp only [Act.put, List.setIfInBounds_toArray, List.set_cons_zero, List.set_cons_succ, i64_w, i32_w]
      rfl
     refine pure_ (i := 8) (N := some 41) (v := ?_) (a' := ?_) (bs 10 458) rfl rfl (by kernel_rfl) (fun _ _ _ h => h) (Or.inl ⟨by rfl, ?_⟩) ?_ ?_
     rotate_left
     ·intro w'
      go_simp
      with_reducible rfl
     rotate_left
     ·simp only [Act.put, List.setIfInBounds_toArray, List.set_cons_zero, List.set_cons_succ, i64_w, i32_w]
      rfl
     refine take_ (i := 0) (N := some 33) (v := ?_) (a' := ?_) (bs 10 459) rfl rfl (by kernel_rfl) (fun _ _ _ h => h) (Or.inl ⟨by rfl, ?_⟩) hHeld ?_ ?_
     rotate_left
     ·intro w' s0
      go_simp
      with_reducible rfl
     rotate_left
     ·simp only [Act.put, List.setIfInBounds_toArray, List.set_cons_zero, List.set_cons_succ, i64_w, i32_w]
      rfl
     refine join_ (σ := Value × Nat) 2 (bs 10 479) (fun s => [(35, s.1), (37, .slice (some ⟨s.2, 0, none⟩) 1 1)]) (fun s w' => (w'.cell? ⟨Bl, 0, none⟩ = some (.func (.func 111) #[] #[.pointer (some ⟨Bc, 0, none⟩), .pointer (some ⟨Bf, 0, none⟩), .pointer (some ⟨Bw, 0, none⟩), .pointer (some ⟨Bl, 0, none⟩)])) ∧ w'.ownsRow wr.heap.size 3 1 s.1 out.length (nums .i64 out) ∧ Blk w' s.2 #[.int .i64 (j : Int)] 3 ∧ Below wr.heap.size wr w') ?_ ?_
     rotate_left
     ·intro hCont
      refine two_ (i := 2) (j := 4) (Ni := some 35) (Nj := some 37) (bs 10 463) (bs 10 475) rfl rfl rfl rfl (by kernel_rfl) (by decide) (by decide) (fun K hK => ?_) (fun K hK => ?_)
      ·skip
       refine goes_ Try.func91 (by kernel_rfl) rfl #[.slice A out.length c] (by rfl) rfl rfl (by simp only [List.map_toArray, List.map_cons, List.map_nil]; rfl) ?_
       with_reducible refine (clone_calls A c out _ (Kd.C_below HCw.out (below_drew (Below.refl _ wr))) hol).mono ?_
       rintro e w3 ⟨v3, rfl, ho3, hb3⟩
       refine ⟨_, rfl, ?_⟩
       refine hK.out _ _ (pw_cell_below hb3 hHeld) (fun hHeld => ?_)
       clear hK K
       refine norm_ (a' := ?_) ?_ ?_
       rotate_left
       ·show Act.put _ (some 35) _ = _
        simp only [Act.put, List.setIfInBounds_toArray, List.set_cons_zero, List.set_cons_succ, i64_w, i32_w]
        rfl
       refine one_ (i := 4) (N := some 37) (bs 10 479) rfl rfl (by kernel_rfl) (by decide) (fun K hK => ?_)
       refine value_ (w1 := ?_) (v := ?_) (by rfl) rfl ?_ ?_
       rotate_left 2
       ·go_simp
        constructor
        ·rfl
        ·rfl
       refine hK.out _ _ (cell_al _ hHeld) (fun hHeld => ?_)
       clear hK K
       refine norm_ (a' := ?_) ?_ ?_
       rotate_left
       ·show Act.put _ (some 37) _ = _
        simp only [Act.put, List.setIfInBounds_toArray, List.set_cons_zero, List.set_cons_succ, i64_w, i32_w]
        rfl
       exact norm_ (by simp only [putAll, Act.put, List.setIfInBounds_toArray, List.set_cons_zero, List.set_cons_succ]) (hCont (v3, w3.heap.size) _ ⟨hHeld, (own_weaken ho3 (Nat.le_refl wr.heap.size)).alloc _, Blk.new _ _ _ _ rfl, below_alloc (bel2 (below_drew (Below.refl _ _)) hb3) _⟩)
      ·skip
       refine value_ (w1 := ?_) (v := ?_) (by rfl) rfl ?_ ?_
       rotate_left 2
       ·go_simp
        constructor
        ·rfl
        ·rfl
       refine hK.out _ _ (cell_al _ hHeld) (fun hHeld => ?_)
       clear hK K
       refine norm_ (a' := ?_) ?_ ?_
       rotate_left
       ·show Act.put _ (some 37) _ = _
        simp only [Act.put, List.setIfInBounds_toArray, List.set_cons_zero, List.set_cons_succ, i64_w, i32_w]
        rfl
       refine one_ (i := 2) (N := some 35) (bs 10 479) rfl rfl (by kernel_rfl) (by decide) (fun K hK => ?_)
       refine goes_ Try.func91 (by kernel_rfl) rfl #[.slice A out.length c] (by rfl) rfl rfl (by simp only [List.map_toArray, List.map_cons, List.map_nil]; rfl) ?_
       with_reducible refine (clone_calls A c out _ (Kd.C_below HCw.out (below_drew (below_alloc (Below.refl _ wr) _))) hol).mono ?_
       rintro e w3 ⟨v3, rfl, ho3, hb3⟩
       refine ⟨_, rfl, ?_⟩
       refine hK.out _ _ (pw_cell_below hb3 hHeld) (fun hHeld => ?_)
       clear hK K
       refine norm_ (a' := ?_) ?_ ?_
       rotate_left
       ·show Act.put _ (some 35) _ = _
        simp only [Act.put, List.setIfInBounds_toArray, List.set_cons_zero, List.set_cons_succ, i64_w, i32_w]
        rfl
       exact norm_ (by simp only [putAll, Act.put, List.setIfInBounds_toArray, List.set_cons_zero, List.set_cons_succ]) (hCont (v3, wr.heap.size) _ ⟨hHeld, own_weaken ho3 (by show wr.heap.size ≤ (wr.alloc _).heap.size; simp), (Blk.drew (Blk.new wr _ _ _ rfl)).below hb3, bel2 (below_drew (below_alloc (Below.refl _ _) _)) hb3⟩)
     rintro ⟨v4, p4⟩ w4 ⟨hHeld, ho4, hbk4, hb4⟩
     refine norm_ (a' := ?_) ?_ ?_
     rotate_left
     ·simp only [putAll, Act.put, List.setIfInBounds_toArray, List.set_cons_zero, List.set_cons_succ]
      rfl
     refine one_ (i := 5) (N := some 38) (bs 10 511) rfl rfl (by kernel_rfl) (by decide) (fun K hK => ?_)
     refine append_op (w := w4) (.tmp 35) (.tmp 37) 22 3 (.int .i64 0) 8 (by rfl) rfl rfl info3 rfl (by decide) wr.heap.size v4 (nums .i64 out) (.int .i64 (j : Int)) p4 1 rfl rfl (by simpa [nums] using ho4) (hbk4.cell 0 _ rfl) rfl (by simp [nums]; omega) hb4.size ?_
     intro v5 w5 ho5 hg5 hat5
     have hb5 : Below wr.heap.size wr w5 := hb4.grown hg5 hb4.size (own_base ho4)
     have hbs5 := own_base ho5
     obtain ⟨A6, c6', hv6, hl6, hC6⟩ := own_C (Kd.int .i64) (.int .i64) rfl (fun _ _ => rfl) (xs := out ++ [(j : Int)]) (by simp [nums]) rfl ho5
     subst hv6
     refine hK.out _ _ (pw_cell_below hb5 kl) (fun hHeld => ?_)
     clear hK K
     refine norm_ (a' := ?_) ?_ ?_
     rotate_left
     ·show Act.put _ (some 38) _ = _
      simp only [Act.put, List.setIfInBounds_toArray, List.set_cons_zero, List.set_cons_succ, i64_w, i32_w]
      rfl
     refine last_ (i := 9) (N := some 42) (bs 10 1023) rfl rfl (by kernel_rfl) (by decide) (fun K hK => ?_)
     refine goesV_ Try.func111 (by kernel_rfl) rfl #[.slice A6 (out ++ [(j : Int)]).length c6', .int .i64 (wrap64 ((m : Int) - (j : Int))), .pointer (some ⟨Bc, 0, none⟩), .pointer (some ⟨Bf, 0, none⟩), .pointer (some ⟨Bw, 0, none⟩), .pointer (some ⟨Bl, 0, none⟩)] (by rfl) rfl rfl rfl (by simp only [List.map_toArray, List.map_cons, List.map_nil]; rfl) ?_
     with_reducible refine (HSS.out _ _ w5 hb5 hC6 hbs5).mono ?_
     rintro e w6 ⟨rfl, hmk6, hR6⟩
     refine ⟨_, rfl, ?_⟩
     refine hK.out _ _ ?_
     clear hK K
     refine norm_ (a' := ?_) ?_ ?_
     rotate_left
     ·show Act.put _ (some 42) _ = _
      simp only [Act.put, List.setIfInBounds_toArray, List.set_cons_zero, List.set_cons_succ, i64_w, i32_w]
      rfl
     refine done_ (by kernel_rfl) ?_
     have HQ : Aside0 (LcPost x out (d + 1) m Bf mb n W (.returned (.bool true)) w6) := by
      obtain ⟨hK6, A7, c7, hb7, hc7⟩ := hR6
      refine ⟨(HW.out.1.trans (Keep2.of_below hb5)).trans hmk6, hK6.mono HKE.out, .inl ⟨rfl, (j : Int) :: t, ?_, A7, c7, ?_, ?_⟩⟩
      ·have h1 := HFS.out
       unfold findC at h1
       exact paysTo_some (p := fun t => sureB x (out ++ t)) (t := t) HW.out.2.2.2 (by simpa [List.append_assoc] using h1) (by rw [HKK.out]; exact HLT.out)
      ·rw [show out ++ (j : Int) :: t = (out ++ [(j : Int)]) ++ t by simp]; exact hb7
      ·rw [show out ++ (j : Int) :: t = (out ++ [(j : Int)]) ++ t by simp]; exact hc7
     clear hR6 hmk6 hC6 ho5 ho4 hbk4 hb4 hb5 hg5 hat5 hHeld
     go_wp2
     go_ret
     exact HQ.out
    | none =>
     have HSS := Aside0.mk (fun A6 c6 w5 h1 h2 h3 => (HST.out A6 c6 w5 h1 h2 h3).mono (R' := fun e W' => e = .returned (.bool false) ∧ Keep2 Bf mb w5 W' ∧ Known x mb (n + j * 4 ^ d + 4 ^ d) W' ∧ ∃ v, Blk W' Bf #[v] 22)
      (fun e W' h => by
       rcases h.2.2 with ⟨h1, t', ht, hr⟩ | ⟨h1, ht, hr⟩
       ·rw [hfs] at ht; cases ht
       ·exact ⟨h1, h.1, h.2.1, hr⟩))
     have HFS := Lib.hid hfs
     clear hfs
     go_wp2
     refine start_ (n := 10) (S := fun w' => w'.cell? ⟨Bl, 0, none⟩ = some (.func (.func 111) #[] #[.pointer (some ⟨Bc, 0, none⟩), .pointer (some ⟨Bf, 0, none⟩), .pointer (some ⟨Bw, 0, none⟩), .pointer (some ⟨Bl, 0, none⟩)])) (ds := [9]) #[false, false, false, false, false, false, false, false, false, false] (by kernel_rfl) rfl rfl (kl) (fun hHeld => ?_)
     refine pure_ (i := 1) (N := some 34) (v := ?_) (a' := ?_) (bs 10 2) rfl rfl (by kernel_rfl) (fun _ _ _ h => h) (Or.inl ⟨by rfl, ?_⟩) ?_ ?_
     rotate_left
     ·intro w'
      go_simp
      with_reducible rfl
     rotate_left
     ·simp only [Act.put, List.setIfInBounds_toArray, List.set_cons_zero, List.set_cons_succ, i64_w, i32_w]
      rfl
     refine pure_ (i := 3) (N := some 36) (v := ?_) (a' := ?_) (bs 10 10) rfl rfl (by kernel_rfl) (fun _ _ _ h => h) (Or.inl ⟨by rfl, ?_⟩) ?_ ?_
     rotate_left
     ·intro w'
      go_simp
      with_reducible rfl
     rotate_left
     ·simp only [Act.put, List.setIfInBounds_toArray, List.set_cons_zero, List.set_cons_succ, i64_w, i32_w]
      rfl
     refine pure_ (i := 6) (N := some 39) (v := ?_) (a' := ?_) (bs 10 74) rfl rfl (by kernel_rfl) (fun _ _ _ h => h) (Or.inl ⟨by rfl, ?_⟩) ?_ ?_
     rotate_left
     ·intro w'
      go_simp
      with_reducible rfl
     rotate_left
     ·simp only [Act.put, List.setIfInBounds_toArray, List.set_cons_zero, List.set_cons_succ, i64_w, i32_w]
      rfl
     refine pure_ (i := 7) (N := some 40) (v := ?_) (a' := ?_) (bs 10 202) rfl rfl (by kernel_rfl) (fun _ _ _ h => h) (Or.inl ⟨by rfl, ?_⟩) ?_ ?_
     rotate_left
     ·intro w'
      go_simp
      with_reducible rfl
     rotate_left
     ·simp only [Act.put, List.setIfInBounds_toArray, List.set_cons_zero, List.set_cons_succ, i64_w, i32_w]
      rfl
     refine pure_ (i := 8) (N := some 41) (v := ?_) (a' := ?_) (bs 10 458) rfl rfl (by kernel_rfl) (fun _ _ _ h => h) (Or.inl ⟨by rfl, ?_⟩) ?_ ?_
     rotate_left
     ·intro w'
      go_simp
      with_reducible rfl
     rotate_left
     ·simp only [Act.put, List.setIfInBounds_toArray, List.set_cons_zero, List.set_cons_succ, i64_w, i32_w]
      rfl
     refine take_ (i := 0) (N := some 33) (v := ?_) (a' := ?_) (bs 10 459) rfl rfl (by kernel_rfl) (fun _ _ _ h => h) (Or.inl ⟨by rfl, ?_⟩) hHeld ?_ ?_
     rotate_left
     ·intro w' s0
      go_simp
      with_reducible rfl
     rotate_left
     ·simp only [Act.put, List.setIfInBounds_toArray, List.set_cons_zero, List.set_cons_succ, i64_w, i32_w]
      rfl
     refine join_ (σ := Value × Nat) 2 (bs 10 479) (fun s => [(35, s.1), (37, .slice (some ⟨s.2, 0, none⟩) 1 1)]) (fun s w' => (w'.cell? ⟨Bl, 0, none⟩ = some (.func (.func 111) #[] #[.pointer (some ⟨Bc, 0, none⟩), .pointer (some ⟨Bf, 0, none⟩), .pointer (some ⟨Bw, 0, none⟩), .pointer (some ⟨Bl, 0, none⟩)])) ∧ w'.ownsRow wr.heap.size 3 1 s.1 out.length (nums .i64 out) ∧ Blk w' s.2 #[.int .i64 (j : Int)] 3 ∧ Below wr.heap.size wr w') ?_ ?_
     rotate_left
     ·intro hCont
      refine two_ (i := 2) (j := 4) (Ni := some 35) (Nj := some 37) (bs 10 463) (bs 10 475) rfl rfl rfl rfl (by kernel_rfl) (by decide) (by decide) (fun K hK => ?_) (fun K hK => ?_)
      ·skip
       refine goes_ Try.func91 (by kernel_rfl) rfl #[.slice A out.length c] (by rfl) rfl rfl (by simp only [List.map_toArray, List.map_cons, List.map_nil]; rfl) ?_
       with_reducible refine (clone_calls A c out _ (Kd.C_below HCw.out (below_drew (Below.refl _ wr))) hol).mono ?_
       rintro e w3 ⟨v3, rfl, ho3, hb3⟩
       refine ⟨_, rfl, ?_⟩
       refine hK.out _ _ (pw_cell_below hb3 hHeld) (fun hHeld => ?_)
       clear hK K
       refine norm_ (a' := ?_) ?_ ?_
       rotate_left
       ·show Act.put _ (some 35) _ = _
        simp only [Act.put, List.setIfInBounds_toArray, List.set_cons_zero, List.set_cons_succ, i64_w, i32_w]
        rfl
       refine one_ (i := 4) (N := some 37) (bs 10 479) rfl rfl (by kernel_rfl) (by decide) (fun K hK => ?_)
       refine value_ (w1 := ?_) (v := ?_) (by rfl) rfl ?_ ?_
       rotate_left 2
       ·go_simp
        constructor
        ·rfl
        ·rfl
       refine hK.out _ _ (cell_al _ hHeld) (fun hHeld => ?_)
       clear hK K
       refine norm_ (a' := ?_) ?_ ?_
       rotate_left
       ·show Act.put _ (some 37) _ = _
        simp only [Act.put, List.setIfInBounds_toArray, List.set_cons_zero, List.set_cons_succ, i64_w, i32_w]
        rfl
       exact norm_ (by simp only [putAll, Act.put, List.setIfInBounds_toArray, List.set_cons_zero, List.set_cons_succ]) (hCont (v3, w3.heap.size) _ ⟨hHeld, (own_weaken ho3 (Nat.le_refl wr.heap.size)).alloc _, Blk.new _ _ _ _ rfl, below_alloc (bel2 (below_drew (Below.refl _ _)) hb3) _⟩)
      ·skip
       refine value_ (w1 := ?_) (v := ?_) (by rfl) rfl ?_ ?_
       rotate_left 2
       ·go_simp
        constructor
        ·rfl
        ·rfl
       refine hK.out _ _ (cell_al _ hHeld) (fun hHeld => ?_)
       clear hK K
       refine norm_ (a' := ?_) ?_ ?_
       rotate_left
       ·show Act.put _ (some 37) _ = _
        simp only [Act.put, List.setIfInBounds_toArray, List.set_cons_zero, List.set_cons_succ, i64_w, i32_w]
        rfl
       refine one_ (i := 2) (N := some 35) (bs 10 479) rfl rfl (by kernel_rfl) (by decide) (fun K hK => ?_)
       refine goes_ Try.func91 (by kernel_rfl) rfl #[.slice A out.length c] (by rfl) rfl rfl (by simp only [List.map_toArray, List.map_cons, List.map_nil]; rfl) ?_
       with_reducible refine (clone_calls A c out _ (Kd.C_below HCw.out (below_drew (below_alloc (Below.refl _ wr) _))) hol).mono ?_
       rintro e w3 ⟨v3, rfl, ho3, hb3⟩
       refine ⟨_, rfl, ?_⟩
       refine hK.out _ _ (pw_cell_below hb3 hHeld) (fun hHeld => ?_)
       clear hK K
       refine norm_ (a' := ?_) ?_ ?_
       rotate_left
       ·show Act.put _ (some 35) _ = _
        simp only [Act.put, List.setIfInBounds_toArray, List.set_cons_zero, List.set_cons_succ, i64_w, i32_w]
        rfl
       exact norm_ (by simp only [putAll, Act.put, List.setIfInBounds_toArray, List.set_cons_zero, List.set_cons_succ]) (hCont (v3, wr.heap.size) _ ⟨hHeld, own_weaken ho3 (by show wr.heap.size ≤ (wr.alloc _).heap.size; simp), (Blk.drew (Blk.new wr _ _ _ rfl)).below hb3, bel2 (below_drew (below_alloc (Below.refl _ _) _)) hb3⟩)
     rintro ⟨v4, p4⟩ w4 ⟨hHeld, ho4, hbk4, hb4⟩
     refine norm_ (a' := ?_) ?_ ?_
     rotate_left
     ·simp only [putAll, Act.put, List.setIfInBounds_toArray, List.set_cons_zero, List.set_cons_succ]
      rfl
     refine one_ (i := 5) (N := some 38) (bs 10 511) rfl rfl (by kernel_rfl) (by decide) (fun K hK => ?_)
     refine append_op (w := w4) (.tmp 35) (.tmp 37) 22 3 (.int .i64 0) 8 (by rfl) rfl rfl info3 rfl (by decide) wr.heap.size v4 (nums .i64 out) (.int .i64 (j : Int)) p4 1 rfl rfl (by simpa [nums] using ho4) (hbk4.cell 0 _ rfl) rfl (by simp [nums]; omega) hb4.size ?_
     intro v5 w5 ho5 hg5 hat5
     have hb5 : Below wr.heap.size wr w5 := hb4.grown hg5 hb4.size (own_base ho4)
     have hbs5 := own_base ho5
     obtain ⟨A6, c6', hv6, hl6, hC6⟩ := own_C (Kd.int .i64) (.int .i64) rfl (fun _ _ => rfl) (xs := out ++ [(j : Int)]) (by simp [nums]) rfl ho5
     subst hv6
     refine hK.out _ _ (pw_cell_below hb5 kl) (fun hHeld => ?_)
     clear hK K
     refine norm_ (a' := ?_) ?_ ?_
     rotate_left
     ·show Act.put _ (some 38) _ = _
      simp only [Act.put, List.setIfInBounds_toArray, List.set_cons_zero, List.set_cons_succ, i64_w, i32_w]
      rfl
     refine last_ (i := 9) (N := some 42) (bs 10 1023) rfl rfl (by kernel_rfl) (by decide) (fun K hK => ?_)
     refine goesV_ Try.func111 (by kernel_rfl) rfl #[.slice A6 (out ++ [(j : Int)]).length c6', .int .i64 (wrap64 ((m : Int) - (j : Int))), .pointer (some ⟨Bc, 0, none⟩), .pointer (some ⟨Bf, 0, none⟩), .pointer (some ⟨Bw, 0, none⟩), .pointer (some ⟨Bl, 0, none⟩)] (by rfl) rfl rfl rfl (by simp only [List.map_toArray, List.map_cons, List.map_nil]; rfl) ?_
     with_reducible refine (HSS.out _ _ w5 hb5 hC6 hbs5).mono ?_
     rintro e w6 ⟨rfl, hmk6, hR6⟩
     refine ⟨_, rfl, ?_⟩
     refine hK.out _ _ ?_
     clear hK K
     refine norm_ (a' := ?_) ?_ ?_
     rotate_left
     ·show Act.put _ (some 42) _ = _
      simp only [Act.put, List.setIfInBounds_toArray, List.set_cons_zero, List.set_cons_succ, i64_w, i32_w]
      rfl
     refine done_ (by kernel_rfl) ?_
     have hmkw : Keep2 Bf mb W w6 := (HW.out.1.trans (Keep2.of_below hb5)).trans hmk6
     have hnew : (paysTo x.f4.toNat d m (j + 1)).find? (fun t => sureB x (out ++ t)) = none := by
      have h1 := HFS.out
      unfold findC at h1
      exact paysTo_none (p := fun t => sureB x (out ++ t)) HW.out.2.2.2 (by simpa [List.append_assoc] using h1)
     have hkn6 : Known x mb (n + (j + 1) * 4 ^ d) w6 := by rw [← HKJ.out]; exact hR6.1
     have HQ := Aside0.mk (And.intro hmkw (And.intro ((HW.out.2.1.below hb5).keep hmk6 hR6.2 hkn6.isMap) (And.intro hkn6 hnew)))
     clear hmkw hnew hkn6 hR6 hmk6 hC6 ho5 ho4 hbk4 hb4 hb5 hg5 hat5 hHeld
     go_wp2
     go_roundw
     case rel => exact ⟨j + 1, by omega, by go_num, HQ⟩
     case measure => simp [intOf]; omega
   ·have hlz : ¬ (j : Int) < (K : Int) + 1 := by omega
    have hjn : j = K + 1 := by omega
    have HNN : Aside0 (findC x out (d + 1) m = none) := by
     refine ⟨?_⟩
     have := HW.out.2.2.2
     rw [hjn, ← HKK.out] at this
     exact this
    have HKE : Aside0 (Known x mb (n + 4 ^ (d + 1)) wr) := ⟨HW.out.2.2.1.mono (by
     have h2 : j * 4 ^ d ≤ 4 * 4 ^ d := Nat.mul_le_mul_right _ (by omega)
     have h3 := HP4.out
     omega)⟩
    go_wp2
    go_ret
    exact ⟨HW.out.1, HKE.out, .inr ⟨rfl, HNN.out, HW.out.2.1.f⟩⟩
end Go.Proofs.Ytdgkhoflajdidaa
/- Least. -/
namespace Go.Proofs.Ytdgkhoflajdidaa
open Go.RowKit Go.Proofs.YtdgkhoflajdidaaW.PrintWords Go.Proofs.YtdgkhoflajdidaaW.PrintMore Go.Proofs.YtdgkhoflajdidaaW.PrintLast Go.Proofs.Ytdgkhoflajdidaa.Print
set_option linter.unusedVariables false
set_option linter.unusedSimpArgs false
/-- The greatest sum of shovels. -/
def mostC (x : S38) : Nat := x.f4.toNat * (x.f0 + 1).toNat
/-- What Least finds. -/
def leastL (x : S38) : Option (List Int) := (List.range (mostC x + 1)).findSome? fun m => findC x [] (x.f0 + 1).toNat m
/-- What Least returns. -/
def leastF (x : S38) : List Int × Int := if askE x true = 0 then (match leastL x with
 | some t => (t, 0)
 | none => ([], 10)) else ([], askE x true)
theorem leastF_hit {x : S38} (hE : askE x true = 0) {m : Nat} {t : List Int} (hm : m ≤ mostC x) (h1 : findC x [] (x.f0 + 1).toNat m = some t) (h2 : ∀ j, j < m → findC x [] (x.f0 + 1).toNat j = none) : leastF x = (t, 0) := by
 unfold leastF
 rw [if_pos hE]
 have : leastL x = some t := by
  unfold leastL
  rw [List.findSome?_eq_some_iff]
  refine ⟨List.range m, m, List.range' (m + 1) (mostC x - m), ?_, h1, fun j hj => h2 j (List.mem_range.1 hj)⟩
  rw [List.range_eq_range', List.range_eq_range', show mostC x + 1 = m + (1 + (mostC x - m)) by omega, ← List.range'_append_1, ← List.range'_append_1]
  simp
 rw [this]
theorem leastF_miss {x : S38} (hE : askE x true = 0) (h2 : ∀ j, j < mostC x + 1 → findC x [] (x.f0 + 1).toNat j = none) : leastF x = ([], 10) := by
 unfold leastF
 rw [if_pos hE]
 have : leastL x = none := by
  unfold leastL
  rw [List.findSome?_eq_none_iff]
  intro j hj
  exact h2 j (List.mem_range.1 hj)
 rw [this]
theorem leastF_bad {x : S38} (hE : ¬ askE x true = 0) : leastF x = ([], askE x true) := by unfold leastF; rw [if_neg hE]
def LeastPost (x : S38) (w : World) (e : Ending) (w' : World) : Prop := ∃ A c, e = .returned (.tuple #[.slice A (leastF x).1.length c, .int .i64 (leastF x).2]) ∧ Kd.C (Kd.int .i64) w' A (leastF x).1.length (leastF x).1 ∧ Below w.heap.size w w'
set_option maxRecDepth 100000 in
set_option maxHeartbeats 4000000 in
theorem leastF_calls (x : S38) (cs : List Value) (w : World) (hx : k38.K w x cs) : Calls Try.prog 63 #[.agg cs.toArray] w (LeastPost x w) := by
 have hgood := ask_box x cs true w hx
 have hbad := ask_bad x cs true w hx
 have HX := Aside0.mk hx
 obtain ⟨A5, c5, A6, c6, A9, c9, A10, c10, hcs, _⟩ := k38_open hx
 subst hcs
 clear hx
 have hu := Try.underlying38
 have hu1 := Try.underlying107
 have hu2 := Try.underlying128
 have hu3 := Try.underlying22
 by_cases hE : askE x true = 0
 ·have HV := Aside0.mk ((valid_iff x).1 (askE_nonneg hE).1)
  have hf0 := HV.out.last0
  have hf1 := HV.out.last1
  have hs0 := HV.out.sh0
  have hs1 := HV.out.sh1
  have HE := Lib.hid hE
  have hask := hgood hE
  clear hgood hbad hE
  obtain ⟨T, hTT⟩ : ∃ T, mostC x = T := ⟨_, rfl⟩
  have hT : x.f4 * (x.f0 + 1) = (T : Int) := by rw [← hTT]; unfold mostC; rw [Int.natCast_mul]; congr 1 <;> omega
  have hT15 : (T : Int) ≤ 15 := by
   rw [← hT]
   have h4 : x.f4 = 0 ∨ x.f4 = 1 ∨ x.f4 = 2 ∨ x.f4 = 3 := by omega
   rcases h4 with h | h | h | h <;> rw [h] <;> omega
  have HT := Lib.hid hT
  have HTT := Lib.hid hTT
  clear hTT
  go_enter Try.func63, Try.ntmps63
  go_wp2
  go_step3
  go_wp2_with (go_at_call 77; refine hask.mono ?_; clear hask; rintro e w1 ⟨g, mb, rfl, hb1, hbc, hwk, hmap, hg0, hm0⟩; have HW1 := Aside0.mk (And.intro hb1 (And.intro hbc (And.intro hwk hmap))); have hlz := hbc.lt; have k0 := hbc.cell 0 _ rfl; have k4 := hbc.cell 4 _ rfl; clear hb1 hbc hwk hmap)
  have hb2 : Below w1.heap.size w1 (((w1.alloc (.cells #[.pointer (some ⟨g, 0, none⟩)] 107)).alloc (.cells #[.slice none 0 0] 22)).alloc (.cells #[.func (.func 111) #[] #[.pointer (some ⟨w.heap.size, 0, none⟩), .pointer (some ⟨w1.heap.size + 1, 0, none⟩), .pointer (some ⟨w1.heap.size, 0, none⟩), .pointer (some ⟨w1.heap.size + 1 + 1, 0, none⟩)]] 128)) := below_alloc (below_alloc (below_alloc (Below.refl _ _) _) _) _
  have bw : Blk (((w1.alloc (.cells #[.pointer (some ⟨g, 0, none⟩)] 107)).alloc (.cells #[.slice none 0 0] 22)).alloc (.cells #[.func (.func 111) #[] #[.pointer (some ⟨w.heap.size, 0, none⟩), .pointer (some ⟨w1.heap.size + 1, 0, none⟩), .pointer (some ⟨w1.heap.size, 0, none⟩), .pointer (some ⟨w1.heap.size + 1 + 1, 0, none⟩)]] 128)) w1.heap.size #[.pointer (some ⟨g, 0, none⟩)] 107 := ((Blk.new _ _ _ _ rfl).alloc _).alloc _
  have bf : Blk (((w1.alloc (.cells #[.pointer (some ⟨g, 0, none⟩)] 107)).alloc (.cells #[.slice none 0 0] 22)).alloc (.cells #[.func (.func 111) #[] #[.pointer (some ⟨w.heap.size, 0, none⟩), .pointer (some ⟨w1.heap.size + 1, 0, none⟩), .pointer (some ⟨w1.heap.size, 0, none⟩), .pointer (some ⟨w1.heap.size + 1 + 1, 0, none⟩)]] 128)) (w1.heap.size + 1) #[.slice none 0 0] 22 := (Blk.new _ _ _ _ (by simp)).alloc _
  have bl : Blk (((w1.alloc (.cells #[.pointer (some ⟨g, 0, none⟩)] 107)).alloc (.cells #[.slice none 0 0] 22)).alloc (.cells #[.func (.func 111) #[] #[.pointer (some ⟨w.heap.size, 0, none⟩), .pointer (some ⟨w1.heap.size + 1, 0, none⟩), .pointer (some ⟨w1.heap.size, 0, none⟩), .pointer (some ⟨w1.heap.size + 1 + 1, 0, none⟩)]] 128)) (w1.heap.size + 1 + 1) #[.func (.func 111) #[] #[.pointer (some ⟨w.heap.size, 0, none⟩), .pointer (some ⟨w1.heap.size + 1, 0, none⟩), .pointer (some ⟨w1.heap.size, 0, none⟩), .pointer (some ⟨w1.heap.size + 1 + 1, 0, none⟩)]] 128 := Blk.new _ _ _ _ (by simp)
  generalize (((w1.alloc (.cells #[.pointer (some ⟨g, 0, none⟩)] 107)).alloc (.cells #[.slice none 0 0] 22)).alloc (.cells #[.func (.func 111) #[] #[.pointer (some ⟨w.heap.size, 0, none⟩), .pointer (some ⟨w1.heap.size + 1, 0, none⟩), .pointer (some ⟨w1.heap.size, 0, none⟩), .pointer (some ⟨w1.heap.size + 1 + 1, 0, none⟩)]] 128)) = W0 at hb2 bw bf bl ⊢
  have hmz := (Array.getElem?_eq_some_iff.1 HW1.out.2.2.2).1
  have hKn : Known x mb 0 W0 := (known_new HW1.out.2.2.2).below hb2
  have hL0 : LcOk x [.int .i64 x.f0, .int .i64 x.f1, .int .i64 x.f2, .int .i64 x.f3, .int .i64 x.f4, .slice A5 x.f5.length c5, .slice A6 x.f6.length c6, .int .i64 x.f7.f0, .int .i64 x.f7.f1, .slice A9 x.f8.length c9, .slice A10 x.f9.length c10] (w1.heap.size + 1) w.heap.size (w1.heap.size + 1 + 1) w1.heap.size g mb w1 W0 := ⟨HW1.out.2.1.below hb2, bl, bw, ⟨_, bf⟩, MachKeep.of_below hb2, by omega, by omega, by omega, by omega, hKn.isMap⟩
  have k0 := hL0.c.cell 0 _ rfl
  have k4 := hL0.c.cell 4 _ rfl
  have HL0 := Aside0.mk (And.intro hL0 hKn)
  have HB0 := Aside0.mk (bel2 HW1.out.1 hb2)
  obtain ⟨N, hNN⟩ : ∃ N, (x.f0 + 1).toNat = N := ⟨_, rfl⟩
  have hN5 : N ≤ 5 := by omega
  have hstep := fun (m n : Nat) W (hm : m ≤ 15) (hn : n + 4 ^ N ≤ 100000) (hL : LcOk x [.int .i64 x.f0, .int .i64 x.f1, .int .i64 x.f2, .int .i64 x.f3, .int .i64 x.f4, .slice A5 x.f5.length c5, .slice A6 x.f6.length c6, .int .i64 x.f7.f0, .int .i64 x.f7.f1, .slice A9 x.f8.length c9, .slice A10 x.f9.length c10] (w1.heap.size + 1) w.heap.size (w1.heap.size + 1 + 1) w1.heap.size g mb w1 W) (hK : Known x mb n W) => least1_calls x [.int .i64 x.f0, .int .i64 x.f1, .int .i64 x.f2, .int .i64 x.f3, .int .i64 x.f4, .slice A5 x.f5.length c5, .slice A6 x.f6.length c6, .int .i64 x.f7.f0, .int .i64 x.f7.f1, .slice A9 x.f8.length c9, .slice A10 x.f9.length c10] w1 g mb (k38.K_below HW1.out.1 HX.out) HV.out ⟨_, _, HW1.out.2.2.2⟩ HW1.out.2.2.1 (w1.heap.size + 1) w.heap.size (w1.heap.size + 1 + 1) w1.heap.size N m [] none 0 n W hL hK hn (nil_int W) (fun ad h => by cases h) (by simp; omega) (fun q h => by cases h) hm
  have h4N : 4 ^ N ≤ 1024 := by
   have : N = 0 ∨ N = 1 ∨ N = 2 ∨ N = 3 ∨ N = 4 ∨ N = 5 := by omega
   rcases this with h | h | h | h | h | h <;> subst h <;> decide
  have HST := Aside0.mk hstep
  have HNN := Lib.hid hNN
  have H4N := Lib.hid h4N
  clear hstep bw bf bl hb2 hL0 hKn hlz hNN h4N
  go_step3
  go_wp2
  go_loopw [8, 26] (fun s8 s26 wr => ∃ kk : Nat, kk ≤ T + 1 ∧ s8 = .bool false ∧ s26 = .int .i64 kk ∧ Aside0 (Keep2 (w1.heap.size + 1) mb W0 wr ∧ LcOk x [.int .i64 x.f0, .int .i64 x.f1, .int .i64 x.f2, .int .i64 x.f3, .int .i64 x.f4, .slice A5 x.f5.length c5, .slice A6 x.f6.length c6, .int .i64 x.f7.f0, .int .i64 x.f7.f1, .slice A9 x.f8.length c9, .slice A10 x.f9.length c10] (w1.heap.size + 1) w.heap.size (w1.heap.size + 1 + 1) w1.heap.size g mb w1 wr ∧ Known x mb (kk * 4 ^ N) wr ∧ ∀ j, j < kk → findC x [] N j = none)) (fun _ s26 _ => T + 1 - (intOf s26).toNat)
  case atStart => exact ⟨0, Nat.zero_le _, rfl, rfl, ⟨Keep2.refl _ _ _, HL0.out.1, by simpa using HL0.out.2, fun j hj => absurd hj (Nat.not_lt_zero _)⟩⟩
  case round =>
   obtain ⟨kk, hkk, rfl, rfl, HW⟩ := hrel
   have hfin : Aside0 (Below w.heap.size w wr) := ⟨HW.out.1.below HB0.out (Nat.le_refl _) (by omega) (by omega)⟩
   by_cases hlt : kk < T + 1
   ·have hltz : (kk : Int) < (T : Int) + 1 := by omega
    have kl := HW.out.2.1.l.cell 0 _ rfl
    have hcall := HST.out kk (kk * 4 ^ N) wr (by omega) (by
     have h2 : kk * 4 ^ N ≤ 16 * 1024 := Nat.mul_le_mul (by omega) H4N.out
     have h3 := H4N.out
     omega) HW.out.2.1 HW.out.2.2.1
    have HKJ := Lib.hid (show kk * 4 ^ N + 4 ^ N = (kk + 1) * 4 ^ N by rw [Nat.add_mul]; omega)
    cases hfs : findC x [] N kk with
    | some t =>
     have HSS := hcall.mono (R' := fun e W' => e = .returned (.bool true) ∧ Keep2 (w1.heap.size + 1) mb wr W' ∧ ∃ A c, Blk W' (w1.heap.size + 1) #[.slice A t.length c] 22 ∧ Kd.C (Kd.int .i64) W' A t.length t)
      (fun e W' h => by
       rcases h.2.2 with ⟨h1, t', ht, hr⟩ | ⟨_, ht, _⟩
       ·rw [hfs] at ht; cases ht; exact ⟨h1, h.1, hr⟩
       ·rw [hfs] at ht; cases ht)
     have HFS := Lib.hid hfs
     clear hfs hcall
     go_wp2_with (go_at_call 111; refine HSS.mono ?_; clear HSS; rintro e w6 ⟨rfl, hmk6, A7, c7, hb7, hc7⟩; have kf := hb7.cell 0 _ rfl; have H6 := Aside0.mk (And.intro hmk6 hc7); clear hmk6 hc7 hb7)
     refine bodyPost_ret (results_tmp2 rfl _ _ _) rfl ⟨A7, c7, ?_, ?_, ?_⟩
     ·rw [leastF_hit (m := kk) HE.out (by rw [HTT.out]; omega) (by rw [HNN.out]; exact HFS.out) (by rw [HNN.out]; exact HW.out.2.2.2)]; rfl
     ·rw [leastF_hit (m := kk) HE.out (by rw [HTT.out]; omega) (by rw [HNN.out]; exact HFS.out) (by rw [HNN.out]; exact HW.out.2.2.2)]; exact H6.out.2
     ·exact H6.out.1.below hfin.out (Nat.le_refl _) (by omega) (by omega)
    | none =>
     have HSS := hcall.mono (R' := fun e W' => e = .returned (.bool false) ∧ Keep2 (w1.heap.size + 1) mb wr W' ∧ Known x mb ((kk + 1) * 4 ^ N) W' ∧ ∃ v, Blk W' (w1.heap.size + 1) #[v] 22)
      (fun e W' h => by
       rcases h.2.2 with ⟨h1, t', ht, hr⟩ | ⟨h1, ht, hr⟩
       ·rw [hfs] at ht; cases ht
       ·exact ⟨h1, h.1, by rw [← HKJ.out]; exact h.2.1, hr⟩)
     have HFS := Lib.hid hfs
     clear hfs hcall
     go_wp2_with (go_at_call 111; refine HSS.mono ?_; clear HSS; rintro e w6 ⟨rfl, hmk6, hk6, hb6⟩; have H6 := Aside0.mk (And.intro hmk6 (And.intro hk6 hb6)); clear hmk6 hb6 hk6)
     go_roundw
     case rel =>
      refine ⟨kk + 1, by omega, rfl, by go_num, ⟨HW.out.1.trans H6.out.1, HW.out.2.1.keep H6.out.1 H6.out.2.2 H6.out.2.1.isMap, H6.out.2.1, fun j hj => ?_⟩⟩
      rcases Nat.lt_succ_iff_lt_or_eq.1 hj with h | h
      ·exact HW.out.2.2.2 j h
      ·subst h; exact HFS.out
     case measure => simp [intOf]; omega
   ·have hltz : ¬ (kk : Int) < (T : Int) + 1 := by omega
    go_wp2
    refine bodyPost_ret (results_tmp2 rfl _ _ _) rfl ⟨none, 0, ?_, ?_, hfin.out⟩
    ·rw [leastF_miss HE.out (fun j hj => by rw [HNN.out]; exact HW.out.2.2.2 j (by rw [HTT.out] at hj; omega))]; rfl
    ·rw [leastF_miss HE.out (fun j hj => by rw [HNN.out]; exact HW.out.2.2.2 j (by rw [HTT.out] at hj; omega))]; exact nil_int _
 ·have HF := Lib.hid (leastF_bad hE)
  have hask := hbad hE
  have hE2 : (askE x true == 0) = false := by simpa using hE
  clear hgood hbad hE
  generalize askE x true = ec at *
  go_enter Try.func63, Try.ntmps63
  go_wp2
  go_step3
  go_wp2_with (go_at_call 77; refine hask.mono ?_; clear hask; rintro e w1 ⟨rfl, hb1⟩; have H1 := Aside0.mk hb1; clear hb1)
  refine bodyPost_ret (results_tmp2 rfl _ _ _) rfl ⟨none, 0, ?_, ?_, ?_⟩
  ·rw [HF.out]; rfl
  ·rw [HF.out]; exact nil_int _
  ·exact below_alloc H1.out _
end Go.Proofs.Ytdgkhoflajdidaa
/- ProveCoal. -/
namespace Go.Proofs.Ytdgkhoflajdidaa
open Go.RowKit Go.Proofs.YtdgkhoflajdidaaW.PrintWords Go.Proofs.YtdgkhoflajdidaaW.PrintMore Go.Proofs.YtdgkhoflajdidaaW.PrintLast Go.Proofs.Ytdgkhoflajdidaa.Print
set_option linter.unusedVariables false
set_option linter.unusedSimpArgs false
/-- What ProveCoal returns. -/
def proveCF (x : S38) (co : List Int) (many : Int) : Bool := decide (askE x (forHours x.f0 co x.f4) = 0) && (decide (sumTo co co.length ≤ many) && sureB x co)
set_option maxRecDepth 100000 in
set_option maxHeartbeats 4000000 in
theorem proveC_calls (x : S38) (cs : List Value) (C : Option Addr) (c : Nat) (co : List Int) (many : Int) (w : World) (hx : k38.K w x cs) (hco : Kd.C (Kd.int .i64) w C co.length co) :
    Calls Try.prog 64 #[.agg cs.toArray, .slice C co.length c, .int .i64 many] w fun e w' => e = .returned (.bool (proveCF x co many)) ∧ Below w.heap.size w w' := by
 have hb0 := fun o => below_alloc (Below.refl w.heap.size w) o
 have hpr := fun W (hW : Below w.heap.size w W) => isCoal_calls x cs C c co W (k38.K_below hW hx) (Kd.C_below hco hW)
 have hgood := fun W (hW : Below w.heap.size w W) => ask_ok x cs (forHours x.f0 co x.f4) W (k38.K_below hW hx)
 have hbad := fun W (hW : Below w.heap.size w W) => ask_no x cs (forHours x.f0 co x.f4) W (k38.K_below hW hx)
 have HX := Aside0.mk hx
 have HCO := Aside0.mk hco
 have HPR := Aside0.mk hpr
 have hpf : proveCF x co many = (decide (askE x (forHours x.f0 co x.f4) = 0) && (decide (sumTo co co.length ≤ many) && sureB x co)) := rfl
 obtain ⟨A5, c5, A6, c6, A9, c9, A10, c10, hcs, _⟩ := k38_open hx
 subst hcs
 clear hx hco hpr
 have hu := Try.underlying38
 have BC := Blk.new w #[.int .i64 x.f0, .int .i64 x.f1, .int .i64 x.f2, .int .i64 x.f3, .int .i64 x.f4, .slice A5 x.f5.length c5, .slice A6 x.f6.length c6, .int .i64 x.f7.f0, .int .i64 x.f7.f1, .slice A9 x.f8.length c9, .slice A10 x.f9.length c10] 38 _ rfl
 have k0 := BC.cell 0 _ rfl
 have k1 := BC.cell 1 _ rfl
 have k2 := BC.cell 2 _ rfl
 have k3 := BC.cell 3 _ rfl
 have k4 := BC.cell 4 _ rfl
 have k5 := BC.cell 5 _ rfl
 have k6 := BC.cell 6 _ rfl
 have k7 := BC.cell 7 _ rfl
 have k8 := BC.cell 8 _ rfl
 have k9 := BC.cell 9 _ rfl
 have k10 := BC.cell 10 _ rfl
 clear BC
 by_cases hE : askE x (forHours x.f0 co x.f4) = 0
 ·have hval := askE_nonneg hE
  have HV := Aside0.mk ((valid_iff x).1 hval.1)
  have hfor := (forHours_iff HV.out.last0 HV.out.last1).1 hval.2.1
  have HCL : Aside0 (CoalL x co) := ⟨⟨hfor.1, fun n hn => ⟨(hfor.2 n hn).1, by have := (hfor.2 n hn).2; have := HV.out.sh1; omega⟩⟩⟩
  have h5 : co.length ≤ 5 := by have := HV.out.last1; have := hfor.1; omega
  have HG := Aside0.mk (fun W hW => hgood W hW hE)
  rw [decide_eq_true hE, Bool.true_and] at hpf
  clear hgood hbad hval hE hfor
  generalize forHours x.f0 co x.f4 = bb at *
  obtain ⟨sm, hsm⟩ : ∃ s, sumTo co co.length = s := ⟨_, rfl⟩
  obtain ⟨sb, hsb⟩ : ∃ b, sureB x co = b := ⟨_, rfl⟩
  rw [hsm, hsb] at hpf
  have HSM := Lib.hid hsm
  have HSB := Lib.hid hsb
  clear hsm hsb
  go_enter Try.func64, Try.ntmps64
  go_wp2
  refine start_ (n := 10) (S := fun w' => w'.cell? ⟨w.heap.size, 0, none⟩ = some (.int .i64 x.f0) ∧ w'.cell? ⟨w.heap.size, 1, none⟩ = some (.int .i64 x.f1) ∧ w'.cell? ⟨w.heap.size, 2, none⟩ = some (.int .i64 x.f2) ∧ w'.cell? ⟨w.heap.size, 3, none⟩ = some (.int .i64 x.f3) ∧ w'.cell? ⟨w.heap.size, 4, none⟩ = some (.int .i64 x.f4) ∧ w'.cell? ⟨w.heap.size, 5, none⟩ = some (.slice A5 x.f5.length c5) ∧ w'.cell? ⟨w.heap.size, 6, none⟩ = some (.slice A6 x.f6.length c6) ∧ w'.cell? ⟨w.heap.size, 7, none⟩ = some (.int .i64 x.f7.f0) ∧ w'.cell? ⟨w.heap.size, 8, none⟩ = some (.int .i64 x.f7.f1) ∧ w'.cell? ⟨w.heap.size, 9, none⟩ = some (.slice A9 x.f8.length c9) ∧ w'.cell? ⟨w.heap.size, 10, none⟩ = some (.slice A10 x.f9.length c10)) (ds := []) #[false, false, false, false, false, false, false, false, false, false] (by kernel_rfl) rfl rfl ⟨k0, k1, k2, k3, k4, k5, k6, k7, k8, k9, k10⟩ (fun hHeld => ?_)
  refine pure_ (i := 2) (N := some 12) (v := ?_) (a' := ?_) (bs 10 4) rfl rfl (by kernel_rfl) (fun _ _ _ h => h) (Or.inl ⟨by rfl, ?_⟩) ?_ ?_
  rotate_left
  ·intro w'
   go_simp
   with_reducible rfl
  rotate_left
  ·simp only [Act.put, List.setIfInBounds_toArray, List.set_cons_zero, List.set_cons_succ, i64_w, i32_w]
   rfl
  refine take_ (i := 0) (N := some 10) (v := ?_) (a' := ?_) (bs 10 5) rfl rfl (by kernel_rfl) (fun _ _ _ h => h) (Or.inl ⟨by rfl, ?_⟩) hHeld ?_ ?_
  rotate_left
  ·rintro w' ⟨s0, s1, s2, s3, s4, s5, s6, s7, s8, s9, s10⟩
   go_simp
   with_reducible rfl
  rotate_left
  ·simp only [Act.put, List.setIfInBounds_toArray, List.set_cons_zero, List.set_cons_succ, i64_w, i32_w]
   rfl
  refine take_ (i := 1) (N := some 11) (v := ?_) (a' := ?_) (bs 10 7) rfl rfl (by kernel_rfl) (fun _ _ _ h => h) (Or.inl ⟨by rfl, ?_⟩) hHeld ?_ ?_
  rotate_left
  ·rintro w' ⟨s0, s1, s2, s3, s4, s5, s6, s7, s8, s9, s10⟩
   go_simp
   with_reducible rfl
  rotate_left
  ·simp only [Act.put, List.setIfInBounds_toArray, List.set_cons_zero, List.set_cons_succ, i64_w, i32_w]
   rfl
  refine one_ (i := 3) (N := some 13) (bs 10 15) rfl rfl (by kernel_rfl) (by decide) (fun K hK => ?_)
  refine goes_ Try.func103 (by kernel_rfl) rfl #[.agg #[.int .i64 x.f0, .int .i64 x.f1, .int .i64 x.f2, .int .i64 x.f3, .int .i64 x.f4, .slice A5 x.f5.length c5, .slice A6 x.f6.length c6, .int .i64 x.f7.f0, .int .i64 x.f7.f1, .slice A9 x.f8.length c9, .slice A10 x.f9.length c10], .slice C co.length c] (by rfl) rfl rfl (by simp only [List.map_toArray, List.map_cons, List.map_nil]; rfl) ?_
  with_reducible refine (HPR.out _ (below_drew (hb0 _))).mono ?_
  rintro e w3 ⟨rfl, hb3⟩
  refine ⟨_, rfl, ?_⟩
  refine hK.out _ _ ⟨pw_cell_below hb3 (hHeld.1), pw_cell_below hb3 (hHeld.2.1), pw_cell_below hb3 (hHeld.2.2.1), pw_cell_below hb3 (hHeld.2.2.2.1), pw_cell_below hb3 (hHeld.2.2.2.2.1), pw_cell_below hb3 (hHeld.2.2.2.2.2.1), pw_cell_below hb3 (hHeld.2.2.2.2.2.2.1), pw_cell_below hb3 (hHeld.2.2.2.2.2.2.2.1), pw_cell_below hb3 (hHeld.2.2.2.2.2.2.2.2.1), pw_cell_below hb3 (hHeld.2.2.2.2.2.2.2.2.2.1), pw_cell_below hb3 (hHeld.2.2.2.2.2.2.2.2.2.2)⟩ (fun hHeld => ?_)
  clear hK K
  refine norm_ (a' := ?_) ?_ ?_
  rotate_left
  ·show Act.put _ (some 13) _ = _
   simp only [Act.put, List.setIfInBounds_toArray, List.set_cons_zero, List.set_cons_succ, i64_w, i32_w]
   rfl
  refine one_ (i := 4) (N := some 14) (bs 10 31) rfl rfl (by kernel_rfl) (by decide) (fun K hK => ?_)
  refine goes_ Try.func77 (by kernel_rfl) rfl #[.agg #[.int .i64 x.f0, .int .i64 x.f1, .int .i64 x.f2, .int .i64 x.f3, .int .i64 x.f4, .slice A5 x.f5.length c5, .slice A6 x.f6.length c6, .int .i64 x.f7.f0, .int .i64 x.f7.f1, .slice A9 x.f8.length c9, .slice A10 x.f9.length c10], .bool bb] (by rfl) rfl rfl (by simp only [List.map_toArray, List.map_cons, List.map_nil]; rfl) ?_
  with_reducible refine (HG.out w3 (bel2 (below_drew (hb0 _)) hb3)).mono ?_
  rintro e w4 ⟨g, mb, rfl, hb4, hwk, hmap, hgz, hmz⟩
  refine ⟨_, rfl, ?_⟩
  refine hK.out _ _ ⟨pw_cell_below hb4 (hHeld.1), pw_cell_below hb4 (hHeld.2.1), pw_cell_below hb4 (hHeld.2.2.1), pw_cell_below hb4 (hHeld.2.2.2.1), pw_cell_below hb4 (hHeld.2.2.2.2.1), pw_cell_below hb4 (hHeld.2.2.2.2.2.1), pw_cell_below hb4 (hHeld.2.2.2.2.2.2.1), pw_cell_below hb4 (hHeld.2.2.2.2.2.2.2.1), pw_cell_below hb4 (hHeld.2.2.2.2.2.2.2.2.1), pw_cell_below hb4 (hHeld.2.2.2.2.2.2.2.2.2.1), pw_cell_below hb4 (hHeld.2.2.2.2.2.2.2.2.2.2)⟩ (fun hHeld => ?_)
  clear hK K
  refine norm_ (a' := ?_) ?_ ?_
  rotate_left
  ·show Act.put _ (some 14) _ = _
   simp only [Act.put, List.setIfInBounds_toArray, List.set_cons_zero, List.set_cons_succ, i64_w, i32_w]
   rfl
  refine pure_ (i := 5) (N := some 9) (v := ?_) (a' := ?_) (bs 10 63) rfl rfl (by kernel_rfl) (fun _ _ _ h => h) (Or.inl ⟨by rfl, ?_⟩) ?_ ?_
  rotate_left
  ·intro w'
   go_simp
   with_reducible rfl
  rotate_left
  ·simp only [Act.put, List.setIfInBounds_toArray, List.set_cons_zero, List.set_cons_succ, i64_w, i32_w]
   rfl
  refine pure_ (i := 6) (N := some 15) (v := ?_) (a' := ?_) (bs 10 127) rfl rfl (by kernel_rfl) (fun _ _ _ h => h) (Or.inl ⟨by rfl, ?_⟩) ?_ ?_
  rotate_left
  ·intro w'
   go_simp
   with_reducible rfl
  rotate_left
  ·simp only [Act.put, List.setIfInBounds_toArray, List.set_cons_zero, List.set_cons_succ, i64_w, i32_w]
   rfl
  refine pure_ (i := 7) (N := some 16) (v := ?_) (a' := ?_) (bs 10 255) rfl rfl (by kernel_rfl) (fun _ _ _ h => h) (Or.inl ⟨by rfl, ?_⟩) ?_ ?_
  rotate_left
  ·intro w'
   go_simp
   with_reducible rfl
  rotate_left
  ·simp only [Act.put, List.setIfInBounds_toArray, List.set_cons_zero, List.set_cons_succ, i64_w, i32_w]
   rfl
  refine pure_ (i := 8) (N := some 7) (v := ?_) (a' := ?_) (bs 10 511) rfl rfl (by kernel_rfl) (fun _ _ _ h => h) (Or.inl ⟨by rfl, ?_⟩) ?_ ?_
  rotate_left
  ·intro w'
   go_simp
   with_reducible rfl
  rotate_left
  ·simp only [Act.put, List.setIfInBounds_toArray, List.set_cons_zero, List.set_cons_succ, i64_w, i32_w]
   rfl
  refine pure_ (i := 9) (N := some 8) (v := ?_) (a' := ?_) (bs 10 1023) rfl rfl (by kernel_rfl) (fun _ _ _ h => h) (Or.inl ⟨by rfl, ?_⟩) ?_ ?_
  rotate_left
  ·intro w'
   go_simp
   with_reducible rfl
  rotate_left
  ·simp only [Act.put, List.setIfInBounds_toArray, List.set_cons_zero, List.set_cons_succ, i64_w, i32_w]
   rfl
  refine done_ (by kernel_rfl) ?_
  clear hHeld
  have hB4 := bel2 (bel2 (below_drew (hb0 (.cells #[.int .i64 x.f0, .int .i64 x.f1, .int .i64 x.f2, .int .i64 x.f3, .int .i64 x.f4, .slice A5 x.f5.length c5, .slice A6 x.f6.length c6, .int .i64 x.f7.f0, .int .i64 x.f7.f1, .slice A9 x.f8.length c9, .slice A10 x.f9.length c10] 38))) hb3) hb4
  have hsum := sum_calls C c co w4 (Kd.C_below HCO.out hB4) HCL.out.val h5
  rw [HSM.out] at hsum
  have hsure := sure_calls x [.int .i64 x.f0, .int .i64 x.f1, .int .i64 x.f2, .int .i64 x.f3, .int .i64 x.f4, .slice A5 x.f5.length c5, .slice A6 x.f6.length c6, .int .i64 x.f7.f0, .int .i64 x.f7.f1, .slice A9 x.f8.length c9, .slice A10 x.f9.length c10] g mb 0 C c co w4 (k38.K_below hB4 HX.out) HV.out hwk (known_new hmap) (by decide) (Kd.C_below HCO.out hB4) HCL.out
  unfold SurePost at hsure
  rw [HSB.out] at hsure
  have H4 := Aside0.mk hB4
  have hs3 : w.heap.size ≤ w3.heap.size := (bel2 (below_drew (hb0 (.cells #[.int .i64 x.f0, .int .i64 x.f1, .int .i64 x.f2, .int .i64 x.f3, .int .i64 x.f4, .slice A5 x.f5.length c5, .slice A6 x.f6.length c6, .int .i64 x.f7.f0, .int .i64 x.f7.f1, .slice A9 x.f8.length c9, .slice A10 x.f9.length c10] 38))) hb3).size
  clear hB4 hb3 hb4 hwk hmap
  by_cases hle : sm ≤ many
  ·have HPF := Lib.hid (show proveCF x co many = sb by rw [hpf, decide_eq_true hle, Bool.true_and])
   clear hpf
   go_wp2_with (first
    | (go_at_call 113; refine hsum.mono ?_; clear hsum; rintro e w5 ⟨rfl, rfl⟩)
    | (go_at_call 112; refine hsure.mono ?_; clear hsure; rintro e w6 ⟨rfl, hmk, _⟩; have H6 := Aside0.mk hmk; clear hmk))
   go_ret
   exact ⟨ret_bool HPF.out.symm, H6.out.below H4.out (Nat.le_refl _) (by omega)⟩
  ·have HPF := Lib.hid (show proveCF x co many = false by rw [hpf, decide_eq_false hle, Bool.false_and])
   clear hpf hsure
   go_wp2_with (go_at_call 113; refine hsum.mono ?_; clear hsum; rintro e w5 ⟨rfl, rfl⟩)
   go_ret
   exact ⟨ret_bool HPF.out.symm, H4.out⟩
 ·have HG := Aside0.mk (fun W hW => hbad W hW hE)
  have hE2 : (askE x (forHours x.f0 co x.f4) == 0) = false := by simpa using hE
  rw [decide_eq_false hE, Bool.false_and] at hpf
  have HPF := Lib.hid hpf
  clear hgood hbad hpf
  generalize askE x (forHours x.f0 co x.f4) = ec at *
  generalize forHours x.f0 co x.f4 = bb at *
  go_enter Try.func64, Try.ntmps64
  go_wp2
  refine start_ (n := 10) (S := fun w' => w'.cell? ⟨w.heap.size, 0, none⟩ = some (.int .i64 x.f0) ∧ w'.cell? ⟨w.heap.size, 1, none⟩ = some (.int .i64 x.f1) ∧ w'.cell? ⟨w.heap.size, 2, none⟩ = some (.int .i64 x.f2) ∧ w'.cell? ⟨w.heap.size, 3, none⟩ = some (.int .i64 x.f3) ∧ w'.cell? ⟨w.heap.size, 4, none⟩ = some (.int .i64 x.f4) ∧ w'.cell? ⟨w.heap.size, 5, none⟩ = some (.slice A5 x.f5.length c5) ∧ w'.cell? ⟨w.heap.size, 6, none⟩ = some (.slice A6 x.f6.length c6) ∧ w'.cell? ⟨w.heap.size, 7, none⟩ = some (.int .i64 x.f7.f0) ∧ w'.cell? ⟨w.heap.size, 8, none⟩ = some (.int .i64 x.f7.f1) ∧ w'.cell? ⟨w.heap.size, 9, none⟩ = some (.slice A9 x.f8.length c9) ∧ w'.cell? ⟨w.heap.size, 10, none⟩ = some (.slice A10 x.f9.length c10)) (ds := []) #[false, false, false, false, false, false, false, false, false, false] (by kernel_rfl) rfl rfl ⟨k0, k1, k2, k3, k4, k5, k6, k7, k8, k9, k10⟩ (fun hHeld => ?_)
  refine pure_ (i := 2) (N := some 12) (v := ?_) (a' := ?_) (bs 10 4) rfl rfl (by kernel_rfl) (fun _ _ _ h => h) (Or.inl ⟨by rfl, ?_⟩) ?_ ?_
  rotate_left
  ·intro w'
   go_simp
   with_reducible rfl
  rotate_left
  ·simp only [Act.put, List.setIfInBounds_toArray, List.set_cons_zero, List.set_cons_succ, i64_w, i32_w]
   rfl
  refine take_ (i := 0) (N := some 10) (v := ?_) (a' := ?_) (bs 10 5) rfl rfl (by kernel_rfl) (fun _ _ _ h => h) (Or.inl ⟨by rfl, ?_⟩) hHeld ?_ ?_
  rotate_left
  ·rintro w' ⟨s0, s1, s2, s3, s4, s5, s6, s7, s8, s9, s10⟩
   go_simp
   with_reducible rfl
  rotate_left
  ·simp only [Act.put, List.setIfInBounds_toArray, List.set_cons_zero, List.set_cons_succ, i64_w, i32_w]
   rfl
  refine take_ (i := 1) (N := some 11) (v := ?_) (a' := ?_) (bs 10 7) rfl rfl (by kernel_rfl) (fun _ _ _ h => h) (Or.inl ⟨by rfl, ?_⟩) hHeld ?_ ?_
  rotate_left
  ·rintro w' ⟨s0, s1, s2, s3, s4, s5, s6, s7, s8, s9, s10⟩
   go_simp
   with_reducible rfl
  rotate_left
  ·simp only [Act.put, List.setIfInBounds_toArray, List.set_cons_zero, List.set_cons_succ, i64_w, i32_w]
   rfl
  refine one_ (i := 3) (N := some 13) (bs 10 15) rfl rfl (by kernel_rfl) (by decide) (fun K hK => ?_)
  refine goes_ Try.func103 (by kernel_rfl) rfl #[.agg #[.int .i64 x.f0, .int .i64 x.f1, .int .i64 x.f2, .int .i64 x.f3, .int .i64 x.f4, .slice A5 x.f5.length c5, .slice A6 x.f6.length c6, .int .i64 x.f7.f0, .int .i64 x.f7.f1, .slice A9 x.f8.length c9, .slice A10 x.f9.length c10], .slice C co.length c] (by rfl) rfl rfl (by simp only [List.map_toArray, List.map_cons, List.map_nil]; rfl) ?_
  with_reducible refine (HPR.out _ (below_drew (hb0 _))).mono ?_
  rintro e w3 ⟨rfl, hb3⟩
  refine ⟨_, rfl, ?_⟩
  refine hK.out _ _ ⟨pw_cell_below hb3 (hHeld.1), pw_cell_below hb3 (hHeld.2.1), pw_cell_below hb3 (hHeld.2.2.1), pw_cell_below hb3 (hHeld.2.2.2.1), pw_cell_below hb3 (hHeld.2.2.2.2.1), pw_cell_below hb3 (hHeld.2.2.2.2.2.1), pw_cell_below hb3 (hHeld.2.2.2.2.2.2.1), pw_cell_below hb3 (hHeld.2.2.2.2.2.2.2.1), pw_cell_below hb3 (hHeld.2.2.2.2.2.2.2.2.1), pw_cell_below hb3 (hHeld.2.2.2.2.2.2.2.2.2.1), pw_cell_below hb3 (hHeld.2.2.2.2.2.2.2.2.2.2)⟩ (fun hHeld => ?_)
  clear hK K
  refine norm_ (a' := ?_) ?_ ?_
  rotate_left
  ·show Act.put _ (some 13) _ = _
   simp only [Act.put, List.setIfInBounds_toArray, List.set_cons_zero, List.set_cons_succ, i64_w, i32_w]
   rfl
  refine one_ (i := 4) (N := some 14) (bs 10 31) rfl rfl (by kernel_rfl) (by decide) (fun K hK => ?_)
  refine goes_ Try.func77 (by kernel_rfl) rfl #[.agg #[.int .i64 x.f0, .int .i64 x.f1, .int .i64 x.f2, .int .i64 x.f3, .int .i64 x.f4, .slice A5 x.f5.length c5, .slice A6 x.f6.length c6, .int .i64 x.f7.f0, .int .i64 x.f7.f1, .slice A9 x.f8.length c9, .slice A10 x.f9.length c10], .bool bb] (by rfl) rfl rfl (by simp only [List.map_toArray, List.map_cons, List.map_nil]; rfl) ?_
  with_reducible refine (HG.out w3 (bel2 (below_drew (hb0 _)) hb3)).mono ?_
  rintro e w4 ⟨rfl, hb4⟩
  refine ⟨_, rfl, ?_⟩
  refine hK.out _ _ ⟨pw_cell_below hb4 (hHeld.1), pw_cell_below hb4 (hHeld.2.1), pw_cell_below hb4 (hHeld.2.2.1), pw_cell_below hb4 (hHeld.2.2.2.1), pw_cell_below hb4 (hHeld.2.2.2.2.1), pw_cell_below hb4 (hHeld.2.2.2.2.2.1), pw_cell_below hb4 (hHeld.2.2.2.2.2.2.1), pw_cell_below hb4 (hHeld.2.2.2.2.2.2.2.1), pw_cell_below hb4 (hHeld.2.2.2.2.2.2.2.2.1), pw_cell_below hb4 (hHeld.2.2.2.2.2.2.2.2.2.1), pw_cell_below hb4 (hHeld.2.2.2.2.2.2.2.2.2.2)⟩ (fun hHeld => ?_)
  clear hK K
  refine norm_ (a' := ?_) ?_ ?_
  rotate_left
  ·show Act.put _ (some 14) _ = _
   simp only [Act.put, List.setIfInBounds_toArray, List.set_cons_zero, List.set_cons_succ, i64_w, i32_w]
   rfl
  refine pure_ (i := 5) (N := some 9) (v := ?_) (a' := ?_) (bs 10 63) rfl rfl (by kernel_rfl) (fun _ _ _ h => h) (Or.inl ⟨by rfl, ?_⟩) ?_ ?_
  rotate_left
  ·intro w'
   go_simp
   with_reducible rfl
  rotate_left
  ·simp only [Act.put, List.setIfInBounds_toArray, List.set_cons_zero, List.set_cons_succ, i64_w, i32_w]
   rfl
  refine pure_ (i := 6) (N := some 15) (v := ?_) (a' := ?_) (bs 10 127) rfl rfl (by kernel_rfl) (fun _ _ _ h => h) (Or.inl ⟨by rfl, ?_⟩) ?_ ?_
  rotate_left
  ·intro w'
   go_simp
   with_reducible rfl
  rotate_left
  ·simp only [Act.put, List.setIfInBounds_toArray, List.set_cons_zero, List.set_cons_succ, i64_w, i32_w]
   rfl
  refine pure_ (i := 7) (N := some 16) (v := ?_) (a' := ?_) (bs 10 255) rfl rfl (by kernel_rfl) (fun _ _ _ h => h) (Or.inl ⟨by rfl, ?_⟩) ?_ ?_
  rotate_left
  ·intro w'
   go_simp
   with_reducible rfl
  rotate_left
  ·simp only [Act.put, List.setIfInBounds_toArray, List.set_cons_zero, List.set_cons_succ, i64_w, i32_w]
   rfl
  refine pure_ (i := 8) (N := some 7) (v := ?_) (a' := ?_) (bs 10 511) rfl rfl (by kernel_rfl) (fun _ _ _ h => h) (Or.inl ⟨by rfl, ?_⟩) ?_ ?_
  rotate_left
  ·intro w'
   go_simp
   with_reducible rfl
  rotate_left
  ·simp only [Act.put, List.setIfInBounds_toArray, List.set_cons_zero, List.set_cons_succ, i64_w, i32_w]
   rfl
  refine pure_ (i := 9) (N := some 8) (v := ?_) (a' := ?_) (bs 10 1023) rfl rfl (by kernel_rfl) (fun _ _ _ h => h) (Or.inl ⟨by rfl, ?_⟩) ?_ ?_
  rotate_left
  ·intro w'
   go_simp
   with_reducible rfl
  rotate_left
  ·simp only [Act.put, List.setIfInBounds_toArray, List.set_cons_zero, List.set_cons_succ, i64_w, i32_w]
   rfl
  refine done_ (by kernel_rfl) ?_
  clear hHeld
  have H4 := Aside0.mk (bel2 (bel2 (below_drew (hb0 (.cells #[.int .i64 x.f0, .int .i64 x.f1, .int .i64 x.f2, .int .i64 x.f3, .int .i64 x.f4, .slice A5 x.f5.length c5, .slice A6 x.f6.length c6, .int .i64 x.f7.f0, .int .i64 x.f7.f1, .slice A9 x.f8.length c9, .slice A10 x.f9.length c10] 38))) hb3) hb4)
  clear hb3 hb4
  go_wp2
  go_ret
  exact ⟨ret_bool HPF.out.symm, H4.out⟩
end Go.Proofs.Ytdgkhoflajdidaa
