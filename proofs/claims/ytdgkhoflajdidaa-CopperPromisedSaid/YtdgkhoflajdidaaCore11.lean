/- Lemmas for the laws' proofs: Ih, Ja, Jb, Jc, Jd, Je, Jf, Jg, Jh, Ka, Kb. -/
import Derived.Test.YtdgkhoflajdidaaCore10
import Derived.Maps.OwnIn
import Derived.DeepKeys5
/- Spare. -/
namespace Go.Proofs.Ytdgkhoflajdidaa
open Go.RowKit Go.Proofs.YtdgkhoflajdidaaW.PrintWords Go.Proofs.YtdgkhoflajdidaaW.PrintMore Go.Proofs.YtdgkhoflajdidaaW.PrintLast Go.Proofs.Ytdgkhoflajdidaa.Print
set_option linter.unusedVariables false
set_option linter.unusedSimpArgs false
/-- So many in an hour. -/
def singleL (x : S38) (hour : Int) (n : Int) : List Int := (List.replicate (x.f0 + 1).toNat (0 : Int)).set hour.toNat n
theorem singleL_len (x : S38) (hour n : Int) : (singleL x hour n).length = (x.f0 + 1).toNat := by simp [singleL]
theorem singleL_set (x : S38) (hour n m : Int) : (singleL x hour n).set hour.toNat m = singleL x hour m := by simp [singleL, List.set_set]
theorem singleL_bd (x : S38) (hour n : Int) (h0 : 0 ≤ n) (h1 : n ≤ 20) : ∀ q ∈ singleL x hour n, 0 ≤ q ∧ q ≤ 20 := by
 intro q hq
 unfold singleL at hq
 rcases List.mem_or_eq_of_mem_set hq with h | h
 ·rw [List.eq_of_mem_replicate h]; omega
 ·subst h; exact ⟨h0, h1⟩
/-- The greatest number below k that passes. -/
def downF (p : Nat → Bool) : Nat → Option Nat
 | 0 => none
 | k + 1 => if p k = true then some k else downF p k
theorem downF_none {p : Nat → Bool} : ∀ k, (∀ j, j < k → p j = false) → downF p k = none
 | 0, _ => rfl
 | k + 1, h => by rw [downF, if_neg (by rw [h k (by omega)]; decide)]; exact downF_none k fun j hj => h j (by omega)
theorem downF_hit {p : Nat → Bool} : ∀ m k, k < m → p k = true → (∀ j, k < j → j < m → p j = false) → downF p m = some k
 | 0, k, h, _, _ => absurd h (Nat.not_lt_zero _)
 | m + 1, k, h, hp, hn => by
  by_cases e : k = m
  ·subst e; rw [downF, if_pos hp]
  ·rw [downF, if_neg (by rw [hn m (by omega) (by omega)]; decide)]
   exact downF_hit m k (by omega) hp fun j h1 h2 => hn j h1 (by omega)
def spareP (x : S38) (hour : Int) (n : Nat) : Bool := decide (withF x (singleL x hour n) = 1)
/-- What Spare returns. -/
def spareF (x : S38) (hour : Int) : Int × Int := if askE x (inR hour 0 x.f0) = 0 then (match downF (spareP x hour) 21 with
 | some n => ((n : Int), 0)
 | none => (0, 10)) else (0, askE x (inR hour 0 x.f0))
theorem spareF_hit {x : S38} {hour : Int} (hE : askE x (inR hour 0 x.f0) = 0) {k : Nat} (hk : k < 21) (hp : spareP x hour k = true) (hn : ∀ j, k < j → j < 21 → spareP x hour j = false) : spareF x hour = ((k : Int), 0) := by
 unfold spareF; rw [if_pos hE, downF_hit 21 k hk hp hn]
theorem spareF_miss {x : S38} {hour : Int} (hE : askE x (inR hour 0 x.f0) = 0) (hn : ∀ j, j < 21 → spareP x hour j = false) : spareF x hour = (0, 10) := by
 unfold spareF; rw [if_pos hE, downF_none 21 hn]
set_option maxRecDepth 100000 in
set_option maxHeartbeats 4000000 in
theorem spareF_calls (x : S38) (cs : List Value) (hour : Int) (w : World) (hx : k38.K w x cs) :
    Calls Try.prog 28 #[.agg cs.toArray, .int .i64 hour] w fun e w' => e = .returned (.tuple #[.int .i64 (spareF x hour).1, .int .i64 (spareF x hour).2]) ∧ Below w.heap.size w w' := by
 have hb0 := fun o => below_alloc (Below.refl w.heap.size w) o
 have hpr := fun W (hW : Below w.heap.size w W) => hour_calls x cs hour W (k38.K_below hW hx)
 have hgood := fun W (hW : Below w.heap.size w W) => ask_ok x cs (inR hour 0 x.f0) W (k38.K_below hW hx)
 have hbad := fun W (hW : Below w.heap.size w W) => ask_no x cs (inR hour 0 x.f0) W (k38.K_below hW hx)
 have HX := Aside0.mk hx
 have HPR := Aside0.mk hpr
 obtain ⟨A5, c5, A6, c6, A9, c9, A10, c10, hcs, _⟩ := k38_open hx
 subst hcs
 clear hx hpr
 have hu := Try.underlying38
 have BC := Blk.new w #[.int .i64 x.f0, .int .i64 x.f1, .int .i64 x.f2, .int .i64 x.f3, .int .i64 x.f4, .slice A5 x.f5.length c5, .slice A6 x.f6.length c6, .int .i64 x.f7.f0, .int .i64 x.f7.f1, .slice A9 x.f8.length c9, .slice A10 x.f9.length c10] 38 _ rfl
 have k0 := BC.cell 0 _ rfl
 have k1 := BC.cell 1 _ rfl
 have k2 := BC.cell 2 _ rfl
 have k3 := BC.cell 3 _ rfl
 have k4 := BC.cell 4 _ rfl
 have k5 := BC.cell 5 _ rfl
 have k6 := BC.cell 6 _ rfl
 have k7 := BC.cell 7 _ rfl
 have k8 := BC.cell 8 _ rfl
 have k9 := BC.cell 9 _ rfl
 have k10 := BC.cell 10 _ rfl
 clear BC
 by_cases hE : askE x (inR hour 0 x.f0) = 0
 ·have hval := askE_nonneg hE
  have HV := Aside0.mk ((valid_iff x).1 hval.1)
  have hh := inR_iff.1 hval.2.1
  have hf1 := HV.out.last1
  have HE := Lib.hid hE
  have HG := Aside0.mk (fun W hW => hgood W hW hE)
  clear hgood hbad hval hE
  have hh0 := hh.1
  have hh1 := hh.2
  clear hh
  generalize inR hour 0 x.f0 = bb at HPR HG
  go_enter Try.func28, Try.ntmps28
  go_wp2
  refine start_ (n := 10) (S := fun w' => w'.cell? ⟨w.heap.size, 0, none⟩ = some (.int .i64 x.f0) ∧ w'.cell? ⟨w.heap.size, 1, none⟩ = some (.int .i64 x.f1) ∧ w'.cell? ⟨w.heap.size, 2, none⟩ = some (.int .i64 x.f2) ∧ w'.cell? ⟨w.heap.size, 3, none⟩ = some (.int .i64 x.f3) ∧ w'.cell? ⟨w.heap.size, 4, none⟩ = some (.int .i64 x.f4) ∧ w'.cell? ⟨w.heap.size, 5, none⟩ = some (.slice A5 x.f5.length c5) ∧ w'.cell? ⟨w.heap.size, 6, none⟩ = some (.slice A6 x.f6.length c6) ∧ w'.cell? ⟨w.heap.size, 7, none⟩ = some (.int .i64 x.f7.f0) ∧ w'.cell? ⟨w.heap.size, 8, none⟩ = some (.int .i64 x.f7.f1) ∧ w'.cell? ⟨w.heap.size, 9, none⟩ = some (.slice A9 x.f8.length c9) ∧ w'.cell? ⟨w.heap.size, 10, none⟩ = some (.slice A10 x.f9.length c10)) (ds := []) #[false, false, false, false, false, false, false, false, false, false] (by kernel_rfl) rfl rfl ⟨k0, k1, k2, k3, k4, k5, k6, k7, k8, k9, k10⟩ (fun hHeld => ?_)
  refine pure_ (i := 2) (N := some 13) (v := ?_) (a' := ?_) (bs 10 4) rfl rfl (by kernel_rfl) (fun _ _ _ h => h) (Or.inl ⟨by rfl, ?_⟩) ?_ ?_
  rotate_left
  ·intro w'
   go_simp
   with_reducible rfl
  rotate_left
  ·simp only [Act.put, List.setIfInBounds_toArray, List.set_cons_zero, List.set_cons_succ, i64_w, i32_w]
   rfl
  refine take_ (i := 0) (N := some 11) (v := ?_) (a' := ?_) (bs 10 5) rfl rfl (by kernel_rfl) (fun _ _ _ h => h) (Or.inl ⟨by rfl, ?_⟩) hHeld ?_ ?_
  rotate_left
  ·rintro w' ⟨s0, s1, s2, s3, s4, s5, s6, s7, s8, s9, s10⟩
   go_simp
   with_reducible rfl
  rotate_left
  ·simp only [Act.put, List.setIfInBounds_toArray, List.set_cons_zero, List.set_cons_succ, i64_w, i32_w]
   rfl
  refine take_ (i := 1) (N := some 12) (v := ?_) (a' := ?_) (bs 10 7) rfl rfl (by kernel_rfl) (fun _ _ _ h => h) (Or.inl ⟨by rfl, ?_⟩) hHeld ?_ ?_
  rotate_left
  ·rintro w' ⟨s0, s1, s2, s3, s4, s5, s6, s7, s8, s9, s10⟩
   go_simp
   with_reducible rfl
  rotate_left
  ·simp only [Act.put, List.setIfInBounds_toArray, List.set_cons_zero, List.set_cons_succ, i64_w, i32_w]
   rfl
  refine one_ (i := 3) (N := some 14) (bs 10 15) rfl rfl (by kernel_rfl) (by decide) (fun K hK => ?_)
  refine goes_ Try.func85 (by kernel_rfl) rfl #[.agg #[.int .i64 x.f0, .int .i64 x.f1, .int .i64 x.f2, .int .i64 x.f3, .int .i64 x.f4, .slice A5 x.f5.length c5, .slice A6 x.f6.length c6, .int .i64 x.f7.f0, .int .i64 x.f7.f1, .slice A9 x.f8.length c9, .slice A10 x.f9.length c10], .int .i64 hour] (by rfl) rfl rfl (by simp only [List.map_toArray, List.map_cons, List.map_nil]; rfl) ?_
  with_reducible refine (HPR.out _ (below_drew (hb0 _))).mono ?_
  rintro e w3 ⟨rfl, hb3⟩
  refine ⟨_, rfl, ?_⟩
  refine hK.out _ _ ⟨pw_cell_below hb3 (hHeld.1), pw_cell_below hb3 (hHeld.2.1), pw_cell_below hb3 (hHeld.2.2.1), pw_cell_below hb3 (hHeld.2.2.2.1), pw_cell_below hb3 (hHeld.2.2.2.2.1), pw_cell_below hb3 (hHeld.2.2.2.2.2.1), pw_cell_below hb3 (hHeld.2.2.2.2.2.2.1), pw_cell_below hb3 (hHeld.2.2.2.2.2.2.2.1), pw_cell_below hb3 (hHeld.2.2.2.2.2.2.2.2.1), pw_cell_below hb3 (hHeld.2.2.2.2.2.2.2.2.2.1), pw_cell_below hb3 (hHeld.2.2.2.2.2.2.2.2.2.2)⟩ (fun hHeld => ?_)
  clear hK K
  refine norm_ (a' := ?_) ?_ ?_
  rotate_left
  ·show Act.put _ (some 14) _ = _
   simp only [Act.put, List.setIfInBounds_toArray, List.set_cons_zero, List.set_cons_succ, i64_w, i32_w]
   rfl
  refine one_ (i := 4) (N := some 15) (bs 10 31) rfl rfl (by kernel_rfl) (by decide) (fun K hK => ?_)
  refine goes_ Try.func77 (by kernel_rfl) rfl #[.agg #[.int .i64 x.f0, .int .i64 x.f1, .int .i64 x.f2, .int .i64 x.f3, .int .i64 x.f4, .slice A5 x.f5.length c5, .slice A6 x.f6.length c6, .int .i64 x.f7.f0, .int .i64 x.f7.f1, .slice A9 x.f8.length c9, .slice A10 x.f9.length c10], .bool bb] (by rfl) rfl rfl (by simp only [List.map_toArray, List.map_cons, List.map_nil]; rfl) ?_
  with_reducible refine (HG.out w3 (bel2 (below_drew (hb0 _)) hb3)).mono ?_
  rintro e w4 ⟨g, mb, rfl, hb4, hwk, _, _, _⟩
  refine ⟨_, rfl, ?_⟩
  refine hK.out _ _ ⟨pw_cell_below hb4 (hHeld.1), pw_cell_below hb4 (hHeld.2.1), pw_cell_below hb4 (hHeld.2.2.1), pw_cell_below hb4 (hHeld.2.2.2.1), pw_cell_below hb4 (hHeld.2.2.2.2.1), pw_cell_below hb4 (hHeld.2.2.2.2.2.1), pw_cell_below hb4 (hHeld.2.2.2.2.2.2.1), pw_cell_below hb4 (hHeld.2.2.2.2.2.2.2.1), pw_cell_below hb4 (hHeld.2.2.2.2.2.2.2.2.1), pw_cell_below hb4 (hHeld.2.2.2.2.2.2.2.2.2.1), pw_cell_below hb4 (hHeld.2.2.2.2.2.2.2.2.2.2)⟩ (fun hHeld => ?_)
  clear hK K
  refine norm_ (a' := ?_) ?_ ?_
  rotate_left
  ·show Act.put _ (some 15) _ = _
   simp only [Act.put, List.setIfInBounds_toArray, List.set_cons_zero, List.set_cons_succ, i64_w, i32_w]
   rfl
  refine pure_ (i := 5) (N := some 10) (v := ?_) (a' := ?_) (bs 10 63) rfl rfl (by kernel_rfl) (fun _ _ _ h => h) (Or.inl ⟨by rfl, ?_⟩) ?_ ?_
  rotate_left
  ·intro w'
   go_simp
   with_reducible rfl
  rotate_left
  ·simp only [Act.put, List.setIfInBounds_toArray, List.set_cons_zero, List.set_cons_succ, i64_w, i32_w]
   rfl
  refine pure_ (i := 6) (N := some 16) (v := ?_) (a' := ?_) (bs 10 127) rfl rfl (by kernel_rfl) (fun _ _ _ h => h) (Or.inl ⟨by rfl, ?_⟩) ?_ ?_
  rotate_left
  ·intro w'
   go_simp
   with_reducible rfl
  rotate_left
  ·simp only [Act.put, List.setIfInBounds_toArray, List.set_cons_zero, List.set_cons_succ, i64_w, i32_w]
   rfl
  refine pure_ (i := 7) (N := some 17) (v := ?_) (a' := ?_) (bs 10 255) rfl rfl (by kernel_rfl) (fun _ _ _ h => h) (Or.inl ⟨by rfl, ?_⟩) ?_ ?_
  rotate_left
  ·intro w'
   go_simp
   with_reducible rfl
  rotate_left
  ·simp only [Act.put, List.setIfInBounds_toArray, List.set_cons_zero, List.set_cons_succ, i64_w, i32_w]
   rfl
  refine pure_ (i := 8) (N := some 6) (v := ?_) (a' := ?_) (bs 10 511) rfl rfl (by kernel_rfl) (fun _ _ _ h => h) (Or.inl ⟨by rfl, ?_⟩) ?_ ?_
  rotate_left
  ·intro w'
   go_simp
   with_reducible rfl
  rotate_left
  ·simp only [Act.put, List.setIfInBounds_toArray, List.set_cons_zero, List.set_cons_succ, i64_w, i32_w]
   rfl
  refine pure_ (i := 9) (N := some 7) (v := ?_) (a' := ?_) (bs 10 1023) rfl rfl (by kernel_rfl) (fun _ _ _ h => h) (Or.inl ⟨by rfl, ?_⟩) ?_ ?_
  rotate_left
  ·intro w'
   go_simp
   with_reducible rfl
  rotate_left
  ·simp only [Act.put, List.setIfInBounds_toArray, List.set_cons_zero, List.set_cons_succ, i64_w, i32_w]
   rfl
  refine done_ (by kernel_rfl) ?_
  clear hHeld
  have hB4 := bel2 (bel2 (below_drew (hb0 (.cells #[.int .i64 x.f0, .int .i64 x.f1, .int .i64 x.f2, .int .i64 x.f3, .int .i64 x.f4, .slice A5 x.f5.length c5, .slice A6 x.f6.length c6, .int .i64 x.f7.f0, .int .i64 x.f7.f1, .slice A9 x.f8.length c9, .slice A10 x.f9.length c10] 38))) hb3) hb4
  have BC4 := ((Blk.drew (Blk.new w #[.int .i64 x.f0, .int .i64 x.f1, .int .i64 x.f2, .int .i64 x.f3, .int .i64 x.f4, .slice A5 x.f5.length c5, .slice A6 x.f6.length c6, .int .i64 x.f7.f0, .int .i64 x.f7.f1, .slice A9 x.f8.length c9, .slice A10 x.f9.length c10] 38 _ rfl)).below hb3).below hb4
  have H4 := Aside0.mk (And.intro hB4 hwk)
  have hlz := BC4.lt
  have q0 := BC4.cell 0 _ rfl
  obtain ⟨N, hN⟩ : ∃ N : Nat, x.f0 + 1 = (N : Int) := ⟨(x.f0 + 1).toNat, by omega⟩
  have hmk := print_make (P := Try.prog) 22 3 .i64 8 Try.underlying22 info3 (by decide) N (by omega)
  clear hB4 hb3 hb4 hwk BC4 k0 k1 k2 k3 k4 k5 k6 k7 k8 k9 k10
  have hN2 : (x.f0 + 1).toNat = N := by omega
  have hown0 := own_made w4 w4.heap.size 3 .i64 N (Nat.le_refl _) (by omega)
  have HOWN0 := Aside0.mk hown0
  clear hown0
  go_wp2
  generalize hw5 : w4.alloc (.cells (madeCells #[.int .i64 0] N) 3) = w5 at *
  have hb5 : Below w4.heap.size w4 w5 := by rw [← hw5]; exact below_alloc (Below.refl _ _) _
  have HW5 : Aside0 (Below w4.heap.size w4 w5 ∧ w5.ownsRow w4.heap.size 3 1 (.slice (some ⟨w4.heap.size, 0, none⟩) N N) N (nums .i64 (singleL x hour 0))) := ⟨hb5, by
   have h1 : singleL x hour 0 = List.replicate N 0 := by
    unfold singleL
    rw [hN2]
    apply List.ext_getElem (by simp)
    intro i h1 h2
    simp [List.getElem_set]
   rw [h1]; exact HOWN0.out⟩
  clear hb5 hw5
  go_loopw [9] (fun s9 wr => ∃ k : Nat, k ≤ 21 ∧ s9 = .int .i64 ((k : Int) - 1) ∧ Aside0 (Below w4.heap.size w4 wr ∧ ∃ q, wr.ownsRow w4.heap.size 3 1 (.slice (some ⟨w4.heap.size, 0, none⟩) N N) N (nums .i64 (singleL x hour q))) ∧ Aside0 (∀ j, k ≤ j → j < 21 → spareP x hour j = false)) (fun s9 _ => (intOf s9 + 1).toNat)
  case atStart => exact ⟨21, Nat.le_refl _, rfl, ⟨HW5.out.1, 0, HW5.out.2⟩, ⟨fun j h1 h2 => by omega⟩⟩
  case round =>
   obtain ⟨k, hk, rfl, HL, HA⟩ := hrel
   cases k with
   | zero =>
    have hz : ¬ (0 : Int) ≤ ((0 : Nat) : Int) - 1 := by omega
    go_wp2
    refine bodyPost_ret (results_tmp2 rfl _ _ _) rfl ⟨?_, bel2 H4.out.1 HL.out.1⟩
    rw [spareF_miss HE.out (fun j hj => HA.out j (Nat.zero_le _) hj)]; rfl
   | succ k =>
    obtain ⟨hbl, q, hown⟩ := HL.out
    have hsn : ∀ q, (singleL x hour q).length = N := fun q => by rw [singleL_len, hN2]
    have hat := own_at hown hour hh0 (by omega)
    have hst := own_store hown hour (k : Int)
    rw [singleL_set] at hst
    have hBn : Below w4.heap.size w4 (wr.setCell ⟨w4.heap.size, hour.toNat, none⟩ (.int .i64 (k : Int))) := hbl.setCell (p := ⟨w4.heap.size, hour.toNat, none⟩) (Nat.le_refl _) _
    obtain ⟨A', c', hv', _, hC⟩ := own_C (Kd.int .i64) (.int .i64) rfl (fun _ _ => rfl) (xs := singleL x hour (k : Int)) rfl (by simp [nums, hsn]) hst.1
    rw [hsn] at hv'
    simp only [Value.slice.injEq, true_and] at hv'
    obtain ⟨rfl, rfl⟩ := hv'
    have hwith := with_calls x [.int .i64 x.f0, .int .i64 x.f1, .int .i64 x.f2, .int .i64 x.f3, .int .i64 x.f4, .slice A5 x.f5.length c5, .slice A6 x.f6.length c6, .int .i64 x.f7.f0, .int .i64 x.f7.f1, .slice A9 x.f8.length c9, .slice A10 x.f9.length c10] g mb _ N (singleL x hour (k : Int)) _ (k38.K_below (bel2 H4.out.1 hBn) HX.out) HV.out (H4.out.2.below hBn) hC (by rw [hsn]; omega) (singleL_bd x hour _ (by omega) (by omega))
    rw [hsn] at hwith
    have hk1 : ((k + 1 : Nat) : Int) - 1 = (k : Int) := by omega
    rw [hk1]
    have hkz : (0 : Int) ≤ (k : Int) := by omega
    have hkz2 : (k : Int) ≤ 20 := by omega
    have hat0 := hat.1
    have hat1 := hat.2
    have HN := Aside0.mk (And.intro hBn hst.1)
    have hhN : hour < (N : Int) := by omega
    clear hat hst hBn hC hown hbl HL
    by_cases hp : withF x (singleL x hour (k : Int)) = 1
    ·have HP : Aside0 (spareP x hour k = true) := ⟨by unfold spareP; simpa using hp⟩
     rw [hp] at hwith
     go_wp2_with (go_at_call 84; refine hwith.mono ?_; clear hwith; rintro e w7 ⟨rfl, hb7⟩; have H7 := Aside0.mk hb7; clear hb7)
     refine bodyPost_ret (results_tmp2 rfl _ _ _) rfl ⟨?_, bel2 H4.out.1 (bel2 HN.out.1 H7.out)⟩
     rw [spareF_hit HE.out (by omega) HP.out (fun j h1 h2 => HA.out j (by omega) h2)]; rfl
    ·have HP : Aside0 (spareP x hour k = false) := ⟨by unfold spareP; simpa using hp⟩
     generalize withF x (singleL x hour (k : Int)) = wv at *
     have hp2 : (wv == 1) = false := by simpa using hp
     go_wp2_with (go_at_call 84; refine hwith.mono ?_; clear hwith; rintro e w7 ⟨rfl, hb7⟩; have H7 := Aside0.mk hb7; clear hb7)
     go_roundw
     case rel =>
      refine ⟨k, by omega, rfl, ⟨bel2 HN.out.1 H7.out, _, own_bel HN.out.2 H7.out⟩, ⟨fun j h1 h2 => ?_⟩⟩
      by_cases e : j = k
      ·subst e; exact HP.out
      ·exact HA.out j (by omega) h2
     case measure => first | (simp [intOf]; done) | (simp [intOf]; omega)
 ·have HMF := Lib.hid (show spareF x hour = (0, askE x (inR hour 0 x.f0)) by unfold spareF; rw [if_neg hE])
  have HG := Aside0.mk (fun W hW => hbad W hW hE)
  have hE2 : (askE x (inR hour 0 x.f0) == 0) = false := by simpa using hE
  clear hgood hbad
  generalize askE x (inR hour 0 x.f0) = ec at *
  generalize inR hour 0 x.f0 = bb at *
  go_enter Try.func28, Try.ntmps28
  go_wp2
  refine start_ (n := 10) (S := fun w' => w'.cell? ⟨w.heap.size, 0, none⟩ = some (.int .i64 x.f0) ∧ w'.cell? ⟨w.heap.size, 1, none⟩ = some (.int .i64 x.f1) ∧ w'.cell? ⟨w.heap.size, 2, none⟩ = some (.int .i64 x.f2) ∧ w'.cell? ⟨w.heap.size, 3, none⟩ = some (.int .i64 x.f3) ∧ w'.cell? ⟨w.heap.size, 4, none⟩ = some (.int .i64 x.f4) ∧ w'.cell? ⟨w.heap.size, 5, none⟩ = some (.slice A5 x.f5.length c5) ∧ w'.cell? ⟨w.heap.size, 6, none⟩ = some (.slice A6 x.f6.length c6) ∧ w'.cell? ⟨w.heap.size, 7, none⟩ = some (.int .i64 x.f7.f0) ∧ w'.cell? ⟨w.heap.size, 8, none⟩ = some (.int .i64 x.f7.f1) ∧ w'.cell? ⟨w.heap.size, 9, none⟩ = some (.slice A9 x.f8.length c9) ∧ w'.cell? ⟨w.heap.size, 10, none⟩ = some (.slice A10 x.f9.length c10)) (ds := []) #[false, false, false, false, false, false, false, false, false, false] (by kernel_rfl) rfl rfl ⟨k0, k1, k2, k3, k4, k5, k6, k7, k8, k9, k10⟩ (fun hHeld => ?_)
  refine pure_ (i := 2) (N := some 13) (v := ?_) (a' := ?_) (bs 10 4) rfl rfl (by kernel_rfl) (fun _ _ _ h => h) (Or.inl ⟨by rfl, ?_⟩) ?_ ?_
  rotate_left
  ·intro w'
   go_simp
   with_reducible rfl
  rotate_left
  ·simp only [Act.put, List.setIfInBounds_toArray, List.set_cons_zero, List.set_cons_succ, i64_w, i32_w]
   rfl
  refine take_ (i := 0) (N := some 11) (v := ?_) (a' := ?_) (bs 10 5) rfl rfl (by kernel_rfl) (fun _ _ _ h => h) (Or.inl ⟨by rfl, ?_⟩) hHeld ?_ ?_
  rotate_left
  ·rintro w' ⟨s0, s1, s2, s3, s4, s5, s6, s7, s8, s9, s10⟩
   go_simp
   with_reducible rfl
  rotate_left
  ·simp only [Act.put, List.setIfInBounds_toArray, List.set_cons_zero, List.set_cons_succ, i64_w, i32_w]
   rfl
  refine take_ (i := 1) (N := some 12) (v := ?_) (a' := ?_) (bs 10 7) rfl rfl (by kernel_rfl) (fun _ _ _ h => h) (Or.inl ⟨by rfl, ?_⟩) hHeld ?_ ?_
  rotate_left
  ·rintro w' ⟨s0, s1, s2, s3, s4, s5, s6, s7, s8, s9, s10⟩
   go_simp
   with_reducible rfl
  rotate_left
  ·simp only [Act.put, List.setIfInBounds_toArray, List.set_cons_zero, List.set_cons_succ, i64_w, i32_w]
   rfl
  refine one_ (i := 3) (N := some 14) (bs 10 15) rfl rfl (by kernel_rfl) (by decide) (fun K hK => ?_)
  refine goes_ Try.func85 (by kernel_rfl) rfl #[.agg #[.int .i64 x.f0, .int .i64 x.f1, .int .i64 x.f2, .int .i64 x.f3, .int .i64 x.f4, .slice A5 x.f5.length c5, .slice A6 x.f6.length c6, .int .i64 x.f7.f0, .int .i64 x.f7.f1, .slice A9 x.f8.length c9, .slice A10 x.f9.length c10], .int .i64 hour] (by rfl) rfl rfl (by simp only [List.map_toArray, List.map_cons, List.map_nil]; rfl) ?_
  with_reducible refine (HPR.out _ (below_drew (hb0 _))).mono ?_
  rintro e w3 ⟨rfl, hb3⟩
  refine ⟨_, rfl, ?_⟩
  refine hK.out _ _ ⟨pw_cell_below hb3 (hHeld.1), pw_cell_below hb3 (hHeld.2.1), pw_cell_below hb3 (hHeld.2.2.1), pw_cell_below hb3 (hHeld.2.2.2.1), pw_cell_below hb3 (hHeld.2.2.2.2.1), pw_cell_below hb3 (hHeld.2.2.2.2.2.1), pw_cell_below hb3 (hHeld.2.2.2.2.2.2.1), pw_cell_below hb3 (hHeld.2.2.2.2.2.2.2.1), pw_cell_below hb3 (hHeld.2.2.2.2.2.2.2.2.1), pw_cell_below hb3 (hHeld.2.2.2.2.2.2.2.2.2.1), pw_cell_below hb3 (hHeld.2.2.2.2.2.2.2.2.2.2)⟩ (fun hHeld => ?_)
  clear hK K
  refine norm_ (a' := ?_) ?_ ?_
  rotate_left
  ·show Act.put _ (some 14) _ = _
   simp only [Act.put, List.setIfInBounds_toArray, List.set_cons_zero, List.set_cons_succ, i64_w, i32_w]
   rfl
  refine one_ (i := 4) (N := some 15) (bs 10 31) rfl rfl (by kernel_rfl) (by decide) (fun K hK => ?_)
  refine goes_ Try.func77 (by kernel_rfl) rfl #[.agg #[.int .i64 x.f0, .int .i64 x.f1, .int .i64 x.f2, .int .i64 x.f3, .int .i64 x.f4, .slice A5 x.f5.length c5, .slice A6 x.f6.length c6, .int .i64 x.f7.f0, .int .i64 x.f7.f1, .slice A9 x.f8.length c9, .slice A10 x.f9.length c10], .bool bb] (by rfl) rfl rfl (by simp only [List.map_toArray, List.map_cons, List.map_nil]; rfl) ?_
  with_reducible refine (HG.out w3 (bel2 (below_drew (hb0 _)) hb3)).mono ?_
  rintro e w4 ⟨rfl, hb4⟩
  refine ⟨_, rfl, ?_⟩
  refine hK.out _ _ ⟨pw_cell_below hb4 (hHeld.1), pw_cell_below hb4 (hHeld.2.1), pw_cell_below hb4 (hHeld.2.2.1), pw_cell_below hb4 (hHeld.2.2.2.1), pw_cell_below hb4 (hHeld.2.2.2.2.1), pw_cell_below hb4 (hHeld.2.2.2.2.2.1), pw_cell_below hb4 (hHeld.2.2.2.2.2.2.1), pw_cell_below hb4 (hHeld.2.2.2.2.2.2.2.1), pw_cell_below hb4 (hHeld.2.2.2.2.2.2.2.2.1), pw_cell_below hb4 (hHeld.2.2.2.2.2.2.2.2.2.1), pw_cell_below hb4 (hHeld.2.2.2.2.2.2.2.2.2.2)⟩ (fun hHeld => ?_)
  clear hK K
  refine norm_ (a' := ?_) ?_ ?_
  rotate_left
  ·show Act.put _ (some 15) _ = _
   simp only [Act.put, List.setIfInBounds_toArray, List.set_cons_zero, List.set_cons_succ, i64_w, i32_w]
   rfl
  refine pure_ (i := 5) (N := some 10) (v := ?_) (a' := ?_) (bs 10 63) rfl rfl (by kernel_rfl) (fun _ _ _ h => h) (Or.inl ⟨by rfl, ?_⟩) ?_ ?_
  rotate_left
  ·intro w'
   go_simp
   with_reducible rfl
  rotate_left
  ·simp only [Act.put, List.setIfInBounds_toArray, List.set_cons_zero, List.set_cons_succ, i64_w, i32_w]
   rfl
  refine pure_ (i := 6) (N := some 16) (v := ?_) (a' := ?_) (bs 10 127) rfl rfl (by kernel_rfl) (fun _ _ _ h => h) (Or.inl ⟨by rfl, ?_⟩) ?_ ?_
  rotate_left
  ·intro w'
   go_simp
   with_reducible rfl
  rotate_left
  ·simp only [Act.put, List.setIfInBounds_toArray, List.set_cons_zero, List.set_cons_succ, i64_w, i32_w]
   rfl
  refine pure_ (i := 7) (N := some 17) (v := ?_) (a' := ?_) (bs 10 255) rfl rfl (by kernel_rfl) (fun _ _ _ h => h) (Or.inl ⟨by rfl, ?_⟩) ?_ ?_
  rotate_left
  ·intro w'
   go_simp
   with_reducible rfl
  rotate_left
  ·simp only [Act.put, List.setIfInBounds_toArray, List.set_cons_zero, List.set_cons_succ, i64_w, i32_w]
   rfl
  refine pure_ (i := 8) (N := some 6) (v := ?_) (a' := ?_) (bs 10 511) rfl rfl (by kernel_rfl) (fun _ _ _ h => h) (Or.inl ⟨by rfl, ?_⟩) ?_ ?_
  rotate_left
  ·intro w'
   go_simp
   with_reducible rfl
  rotate_left
  ·simp only [Act.put, List.setIfInBounds_toArray, List.set_cons_zero, List.set_cons_succ, i64_w, i32_w]
   rfl
  refine pure_ (i := 9) (N := some 7) (v := ?_) (a' := ?_) (bs 10 1023) rfl rfl (by kernel_rfl) (fun _ _ _ h => h) (Or.inl ⟨by rfl, ?_⟩) ?_ ?_
  rotate_left
  ·intro w'
   go_simp
   with_reducible rfl
  rotate_left
  ·simp only [Act.put, List.setIfInBounds_toArray, List.set_cons_zero, List.set_cons_succ, i64_w, i32_w]
   rfl
  refine done_ (by kernel_rfl) ?_
  clear hHeld
  have H4 := Aside0.mk (bel2 (bel2 (below_drew (hb0 (.cells #[.int .i64 x.f0, .int .i64 x.f1, .int .i64 x.f2, .int .i64 x.f3, .int .i64 x.f4, .slice A5 x.f5.length c5, .slice A6 x.f6.length c6, .int .i64 x.f7.f0, .int .i64 x.f7.f1, .slice A9 x.f8.length c9, .slice A10 x.f9.length c10] 38))) hb3) hb4)
  clear hb3 hb4
  go_wp2
  refine bodyPost_ret (results_tmp2 rfl _ _ _) rfl ⟨?_, H4.out⟩
  rw [HMF.out]; rfl
end Go.Proofs.Ytdgkhoflajdidaa
/- sum. -/
namespace Go.Proofs.Ytdgkhoflajdidaa
open Go.RowKit Go.Proofs.YtdgkhoflajdidaaW.PrintWords Go.Proofs.YtdgkhoflajdidaaW.PrintMore Go.Proofs.YtdgkhoflajdidaaW.PrintLast Go.Proofs.Ytdgkhoflajdidaa.Print
set_option linter.unusedVariables false
set_option linter.unusedSimpArgs false
/-- The first k numbers' sum. -/
def sumTo (l : List Int) : Nat → Int
 | 0 => 0
 | k + 1 => sumTo l k + l.getD k 0
theorem sumTo_bd {l : List Int} (h : ∀ n ∈ l, 0 ≤ n ∧ n ≤ 3) : ∀ k, k ≤ l.length → 0 ≤ sumTo l k ∧ sumTo l k ≤ 3 * (k : Int)
 | 0, _ => by simp [sumTo]
 | k + 1, hk => by
  have h1 := sumTo_bd h k (by omega)
  have h2 := h l[k] (List.getElem_mem (by omega))
  have e : l.getD k 0 = l[k] := by simp [show k < l.length by omega]
  simp only [sumTo, e]
  omega
set_option maxHeartbeats 1000000 in
theorem sum_calls (A : Option Addr) (c : Nat) (l : List Int) (w : World) (hr : Kd.C (Kd.int .i64) w A l.length l) (h : ∀ n ∈ l, 0 ≤ n ∧ n ≤ 3) (hl : l.length ≤ 5) :
    Calls Try.prog 113 #[.slice A l.length c] w fun e w' => e = .returned (.int .i64 (sumTo l l.length)) ∧ w = w' := by
 have HR := Aside0.mk hr
 have HB := Aside0.mk (sumTo_bd h)
 have HV := Aside0.mk h
 clear hr h
 go_enter Try.func113, Try.ntmps113
 go_wp2
 go_loop [2, 7] (fun s2 s7 => ∃ kk : Nat, kk ≤ l.length ∧ s7 = .int .i64 kk ∧ s2 = .int .i64 (sumTo l kk)) (fun _ i => l.length - (intOf i).toNat)
 case atStart => exact ⟨0, Nat.zero_le _, rfl, rfl⟩
 case round =>
  obtain ⟨kk, hkk, rfl, rfl⟩ := hrel
  by_cases hlt : kk < l.length
  ·have hltz : (kk : Int) < (l.length : Int) := by omega
   obtain ⟨ad, hA, hc0⟩ := row_at_int HR.out kk hlt
   obtain rfl := hA
   have h1 := HB.out kk hkk
   have h2 := HV.out l[kk] (List.getElem_mem hlt)
   have hs : sumTo l (kk + 1) = sumTo l kk + l[kk] := by simp [sumTo, hlt]
   generalize sumTo l kk = s at *
   generalize l[kk] = n at *
   have HS := Lib.hid hs
   obtain ⟨h10, h11⟩ := h1
   obtain ⟨h20, h21⟩ := h2
   clear hs
   go_wp2
   go_round
   case rel => exact ⟨kk + 1, by omega, by go_num, by rw [HS.out]⟩
   case measure => simp [intOf]; omega
  ·have hltz : ¬ (kk : Int) < (l.length : Int) := by omega
   obtain rfl : kk = l.length := by omega
   go_wp2
   go_ret
   exact ⟨rfl, rfl⟩
end Go.Proofs.Ytdgkhoflajdidaa
/- The key of the map of what coal is known to be sure. -/
namespace Go.Proofs.Ytdgkhoflajdidaa
open Go.RowKit Go.Proofs.YtdgkhoflajdidaaW.PrintWords Go.Proofs.YtdgkhoflajdidaaW.PrintMore Go.Proofs.YtdgkhoflajdidaaW.PrintLast Go.Proofs.Ytdgkhoflajdidaa.Print
theorem law158 : WideMaps.KeyLaw Try.prog 158 := deep_law_gate (by kernel_rfl) (Nat.le_of_ble_eq_true (by kernel_rfl)) (Nat.le_of_ble_eq_true (by kernel_rfl)) (by kernel_rfl) (by kernel_rfl)
theorem keyed158 : Maps.Keyed Try.prog 158 := Maps.Keyed.of_law law158
end Go.Proofs.Ytdgkhoflajdidaa
/- Are all promises kept in a scene, with coal. -/
namespace Go.Proofs.Ytdgkhoflajdidaa
open Go.RowKit Go.Proofs.YtdgkhoflajdidaaW.PrintWords Go.Proofs.YtdgkhoflajdidaaW.PrintMore Go.Proofs.YtdgkhoflajdidaaW.PrintLast Go.Proofs.Ytdgkhoflajdidaa.Print
set_option linter.unusedVariables false
set_option linter.unusedSimpArgs false
/-- All promises are kept in a scene, with coal. -/
def wholeB (x : S38) (s : Sc) (co : List Int) : Bool := (kepts x s co x.f6 (x.f0 + 1).toNat).all id
set_option maxRecDepth 100000 in
set_option maxHeartbeats 4000000 in
theorem sure1_calls (x : S38) (cs : List Value) (g mb p1 p2 : Nat) (C : Option Addr) (c : Nat) (co : List Int) (y : Sc) (w : World) (hx : k38.K w x cs) (hW : WorkAt x cs g mb w) (hp1 : Blk w p1 #[.pointer (some ⟨g, 0, none⟩)] 107) (hp2 : Blk w p2 #[.slice C co.length c] 22) (hco : Kd.C (Kd.int .i64) w C co.length co) (hP : PlayOk x y co x.f6) :
    Calls Try.prog 132 #[.agg #[.int .i64 y.h, .int .i64 y.l0, .int .i64 y.l1, .int .i64 y.l2, .int .i64 y.l3, .int .i64 y.l4], .pointer (some ⟨p1, 0, none⟩), .pointer (some ⟨p2, 0, none⟩)] w fun e w' => e = .returned (.bool (wholeB x y co)) ∧ Below w.heap.size w w' := by
 have hb0 := fun o => below_alloc (Below.refl w.heap.size w) o
 obtain ⟨A5, c5, A6, c6, A9, c9, A10, c10, hcs, l5, g5, l6, g6, l9, g9, l10, g10⟩ := k38_open hx
 have HPY := Aside0.mk (fun W (hW : Below w.heap.size w W) => play_calls x cs y C A6 c c6 co x.f6 W (k38.K_below hW hx) (Kd.C_below hco hW) (Kd.C_below g6 hW) hP)
 obtain ⟨At, ct, hwb, _⟩ := hW
 subst hcs
 have hb1 := below_alloc (Below.refl w.heap.size w) (.cells #[.int .i64 y.h, .int .i64 y.l0, .int .i64 y.l1, .int .i64 y.l2, .int .i64 y.l3, .int .i64 y.l4] 133)
 have BG := Blk.below (show Blk w g #[.int .i64 x.f0, .int .i64 x.f1, .int .i64 x.f2, .int .i64 x.f3, .int .i64 x.f4, .slice A5 x.f5.length c5, .slice A6 x.f6.length c6, .int .i64 x.f7.f0, .int .i64 x.f7.f1, .slice A9 x.f8.length c9, .slice A10 x.f9.length c10, .slice At (truthL x).length ct, .map (some mb)] 151 from hwb) hb1
 have B1 := hp1.below hb1
 have B2 := hp2.below hb1
 have BY := Blk.new w #[.int .i64 y.h, .int .i64 y.l0, .int .i64 y.l1, .int .i64 y.l2, .int .i64 y.l3, .int .i64 y.l4] 133 _ rfl
 have k0 := BG.cell 0 _ rfl
 have k1 := BG.cell 1 _ rfl
 have k2 := BG.cell 2 _ rfl
 have k3 := BG.cell 3 _ rfl
 have k4 := BG.cell 4 _ rfl
 have k5 := BG.cell 5 _ rfl
 have k6 := BG.cell 6 _ rfl
 have k7 := BG.cell 7 _ rfl
 have k8 := BG.cell 8 _ rfl
 have k9 := BG.cell 9 _ rfl
 have k10 := BG.cell 10 _ rfl
 have b0 := BY.cell 0 _ rfl
 have b1 := BY.cell 1 _ rfl
 have b2 := BY.cell 2 _ rfl
 have b3 := BY.cell 3 _ rfl
 have b4 := BY.cell 4 _ rfl
 have b5 := BY.cell 5 _ rfl
 have kp1 := B1.cell 0 _ rfl
 have kp2 := B2.cell 0 _ rfl
 clear hx hwb hp1 hp2 hco hP g5 g6 g9 g10 l5 l6 l9 l10 BG B1 B2 BY hb1
 have hu := Try.underlying38
 have hu2 := Try.underlying133
 have hu3 := Try.underlying151
 have hu4 := Try.underlying107
 have hu5 := Try.underlying114
 have hfld : ∀ (a b d : Value) (W : World) (o : Option Addr) (n m : Nat), d = .slice o n m → (Instr.field 114 (.agg #[a, b, d]) 2).run Try.prog W = .ok d W := fun a b d W o n m hd => by
  subst hd
  have hi := Try.underlying112
  simp [Instr.field, run_underlying hu5, part, asAgg, hi, go_sem]
 have hfl2 := fun a b W o n m => hfld a b (.slice o n m) W o n m rfl
 clear hfld
 go_enter Try.func132, Try.ntmps132
 go_wp2
 refine start_ (n := 16) (S := fun w' => w'.cell? ⟨p1, 0, none⟩ = some (.pointer (some ⟨g, 0, none⟩)) ∧ w'.cell? ⟨p2, 0, none⟩ = some (.slice C co.length c) ∧ w'.cell? ⟨g, 0, none⟩ = some (.int .i64 x.f0) ∧ w'.cell? ⟨g, 1, none⟩ = some (.int .i64 x.f1) ∧ w'.cell? ⟨g, 2, none⟩ = some (.int .i64 x.f2) ∧ w'.cell? ⟨g, 3, none⟩ = some (.int .i64 x.f3) ∧ w'.cell? ⟨g, 4, none⟩ = some (.int .i64 x.f4) ∧ w'.cell? ⟨g, 5, none⟩ = some (.slice A5 x.f5.length c5) ∧ w'.cell? ⟨g, 6, none⟩ = some (.slice A6 x.f6.length c6) ∧ w'.cell? ⟨g, 7, none⟩ = some (.int .i64 x.f7.f0) ∧ w'.cell? ⟨g, 8, none⟩ = some (.int .i64 x.f7.f1) ∧ w'.cell? ⟨g, 9, none⟩ = some (.slice A9 x.f8.length c9) ∧ w'.cell? ⟨g, 10, none⟩ = some (.slice A10 x.f9.length c10) ∧ w'.cell? ⟨w.heap.size, 0, none⟩ = some (.int .i64 y.h) ∧ w'.cell? ⟨w.heap.size, 1, none⟩ = some (.int .i64 y.l0) ∧ w'.cell? ⟨w.heap.size, 2, none⟩ = some (.int .i64 y.l1) ∧ w'.cell? ⟨w.heap.size, 3, none⟩ = some (.int .i64 y.l2) ∧ w'.cell? ⟨w.heap.size, 4, none⟩ = some (.int .i64 y.l3) ∧ w'.cell? ⟨w.heap.size, 5, none⟩ = some (.int .i64 y.l4)) (ds := []) #[false, false, false, false, false, false, false, false, false, false, false, false, false, false, false, false] (by kernel_rfl) rfl rfl ⟨kp1, kp2, k0, k1, k2, k3, k4, k5, k6, k7, k8, k9, k10, b0, b1, b2, b3, b4, b5⟩ (fun hHeld => ?_)
 refine take_ (i := 0) (N := some 5) (v := ?_) (a' := ?_) (bs 16 1) rfl rfl (by kernel_rfl) (fun _ _ _ h => h) (Or.inl ⟨by rfl, ?_⟩) hHeld ?_ ?_
 rotate_left
 ·rintro w' ⟨s0, s1, s2, s3, s4, s5, s6, s7, s8, s9, s10, s11, s12, s13, s14, s15, s16, s17, s18⟩
  go_simp
  with_reducible rfl
 rotate_left
 ·simp only [Act.put, List.setIfInBounds_toArray, List.set_cons_zero, List.set_cons_succ, i64_w, i32_w]
  rfl
 refine pure_ (i := 1) (N := some 6) (v := ?_) (a' := ?_) (bs 16 3) rfl rfl (by kernel_rfl) (fun _ _ _ h => h) (Or.inl ⟨by rfl, ?_⟩) ?_ ?_
 rotate_left
 ·intro w'
  go_simp
  with_reducible rfl
 rotate_left
 ·simp only [Act.put, List.setIfInBounds_toArray, List.set_cons_zero, List.set_cons_succ, i64_w, i32_w]
  rfl
 refine pure_ (i := 2) (N := some 7) (v := ?_) (a' := ?_) (bs 16 7) rfl rfl (by kernel_rfl) (fun _ _ _ h => h) (Or.inl ⟨by rfl, ?_⟩) ?_ ?_
 rotate_left
 ·intro w'
  go_simp
  with_reducible rfl
 rotate_left
 ·simp only [Act.put, List.setIfInBounds_toArray, List.set_cons_zero, List.set_cons_succ, i64_w, i32_w]
  rfl
 refine take_ (i := 3) (N := some 8) (v := ?_) (a' := ?_) (bs 16 15) rfl rfl (by kernel_rfl) (fun _ _ _ h => h) (Or.inl ⟨by rfl, ?_⟩) hHeld ?_ ?_
 rotate_left
 ·rintro w' ⟨s0, s1, s2, s3, s4, s5, s6, s7, s8, s9, s10, s11, s12, s13, s14, s15, s16, s17, s18⟩
  go_simp
  with_reducible rfl
 rotate_left
 ·simp only [Act.put, List.setIfInBounds_toArray, List.set_cons_zero, List.set_cons_succ, i64_w, i32_w]
  rfl
 refine take_ (i := 4) (N := some 9) (v := ?_) (a' := ?_) (bs 16 31) rfl rfl (by kernel_rfl) (fun _ _ _ h => h) (Or.inl ⟨by rfl, ?_⟩) hHeld ?_ ?_
 rotate_left
 ·rintro w' ⟨s0, s1, s2, s3, s4, s5, s6, s7, s8, s9, s10, s11, s12, s13, s14, s15, s16, s17, s18⟩
  go_simp
  with_reducible rfl
 rotate_left
 ·simp only [Act.put, List.setIfInBounds_toArray, List.set_cons_zero, List.set_cons_succ, i64_w, i32_w]
  rfl
 refine take_ (i := 5) (N := some 10) (v := ?_) (a' := ?_) (bs 16 63) rfl rfl (by kernel_rfl) (fun _ _ _ h => h) (Or.inl ⟨by rfl, ?_⟩) hHeld ?_ ?_
 rotate_left
 ·rintro w' ⟨s0, s1, s2, s3, s4, s5, s6, s7, s8, s9, s10, s11, s12, s13, s14, s15, s16, s17, s18⟩
  go_simp
  with_reducible rfl
 rotate_left
 ·simp only [Act.put, List.setIfInBounds_toArray, List.set_cons_zero, List.set_cons_succ, i64_w, i32_w]
  rfl
 refine take_ (i := 6) (N := some 11) (v := ?_) (a' := ?_) (bs 16 127) rfl rfl (by kernel_rfl) (fun _ _ _ h => h) (Or.inl ⟨by rfl, ?_⟩) hHeld ?_ ?_
 rotate_left
 ·rintro w' ⟨s0, s1, s2, s3, s4, s5, s6, s7, s8, s9, s10, s11, s12, s13, s14, s15, s16, s17, s18⟩
  go_simp
  with_reducible rfl
 rotate_left
 ·simp only [Act.put, List.setIfInBounds_toArray, List.set_cons_zero, List.set_cons_succ, i64_w, i32_w]
  rfl
 refine pure_ (i := 7) (N := some 12) (v := ?_) (a' := ?_) (bs 16 255) rfl rfl (by kernel_rfl) (fun _ _ _ h => h) (Or.inl ⟨by rfl, ?_⟩) ?_ ?_
 rotate_left
 ·intro w'
  go_simp
  with_reducible rfl
 rotate_left
 ·simp only [Act.put, List.setIfInBounds_toArray, List.set_cons_zero, List.set_cons_succ, i64_w, i32_w]
  rfl
 refine pure_ (i := 8) (N := some 13) (v := ?_) (a' := ?_) (bs 16 511) rfl rfl (by kernel_rfl) (fun _ _ _ h => h) (Or.inl ⟨by rfl, ?_⟩) ?_ ?_
 rotate_left
 ·intro w'
  go_simp
  with_reducible rfl
 rotate_left
 ·simp only [Act.put, List.setIfInBounds_toArray, List.set_cons_zero, List.set_cons_succ, i64_w, i32_w]
  rfl
 refine pure_ (i := 9) (N := some 14) (v := ?_) (a' := ?_) (bs 16 1023) rfl rfl (by kernel_rfl) (fun _ _ _ h => h) (Or.inl ⟨by rfl, ?_⟩) ?_ ?_
 rotate_left
 ·intro w'
  go_simp
  with_reducible rfl
 rotate_left
 ·simp only [Act.put, List.setIfInBounds_toArray, List.set_cons_zero, List.set_cons_succ, i64_w, i32_w]
  rfl
 refine take_ (i := 10) (N := some 15) (v := ?_) (a' := ?_) (bs 16 2047) rfl rfl (by kernel_rfl) (fun _ _ _ h => h) (Or.inl ⟨by rfl, ?_⟩) hHeld ?_ ?_
 rotate_left
 ·rintro w' ⟨s0, s1, s2, s3, s4, s5, s6, s7, s8, s9, s10, s11, s12, s13, s14, s15, s16, s17, s18⟩
  go_simp
  with_reducible rfl
 rotate_left
 ·simp only [Act.put, List.setIfInBounds_toArray, List.set_cons_zero, List.set_cons_succ, i64_w, i32_w]
  rfl
 refine one_ (i := 11) (N := some 16) (bs 16 4095) rfl rfl (by kernel_rfl) (by decide) (fun K hK => ?_)
 refine goes_ Try.func97 (by kernel_rfl) rfl #[.agg #[.int .i64 x.f0, .int .i64 x.f1, .int .i64 x.f2, .int .i64 x.f3, .int .i64 x.f4, .slice A5 x.f5.length c5, .slice A6 x.f6.length c6, .int .i64 x.f7.f0, .int .i64 x.f7.f1, .slice A9 x.f8.length c9, .slice A10 x.f9.length c10], .agg #[.int .i64 y.h, .int .i64 y.l0, .int .i64 y.l1, .int .i64 y.l2, .int .i64 y.l3, .int .i64 y.l4], .slice C co.length c, .slice A6 x.f6.length c6] (by rfl) rfl rfl (by simp only [List.map_toArray, List.map_cons, List.map_nil]; rfl) ?_
 with_reducible refine (HPY.out _ (below_drew (hb0 _))).mono ?_
 rintro e w3 ⟨v0, v1, v2, rfl, hpast, hb3⟩
 obtain ⟨P0, d0, P1, d1, P2, d2, hve, hl0, hg0, hl1, hg1, hl2, hg2⟩ := k114_open hpast
 simp only [List.cons.injEq, and_true] at hve
 obtain ⟨rfl, rfl, rfl⟩ := hve
 refine ⟨_, rfl, ?_⟩
 refine hK.out _ _ ⟨pw_cell_below hb3 (hHeld.1), pw_cell_below hb3 (hHeld.2.1), pw_cell_below hb3 (hHeld.2.2.1), pw_cell_below hb3 (hHeld.2.2.2.1), pw_cell_below hb3 (hHeld.2.2.2.2.1), pw_cell_below hb3 (hHeld.2.2.2.2.2.1), pw_cell_below hb3 (hHeld.2.2.2.2.2.2.1), pw_cell_below hb3 (hHeld.2.2.2.2.2.2.2.1), pw_cell_below hb3 (hHeld.2.2.2.2.2.2.2.2.1), pw_cell_below hb3 (hHeld.2.2.2.2.2.2.2.2.2.1), pw_cell_below hb3 (hHeld.2.2.2.2.2.2.2.2.2.2.1), pw_cell_below hb3 (hHeld.2.2.2.2.2.2.2.2.2.2.2.1), pw_cell_below hb3 (hHeld.2.2.2.2.2.2.2.2.2.2.2.2.1), pw_cell_below hb3 (hHeld.2.2.2.2.2.2.2.2.2.2.2.2.2.1), pw_cell_below hb3 (hHeld.2.2.2.2.2.2.2.2.2.2.2.2.2.2.1), pw_cell_below hb3 (hHeld.2.2.2.2.2.2.2.2.2.2.2.2.2.2.2.1), pw_cell_below hb3 (hHeld.2.2.2.2.2.2.2.2.2.2.2.2.2.2.2.2.1), pw_cell_below hb3 (hHeld.2.2.2.2.2.2.2.2.2.2.2.2.2.2.2.2.2.1), pw_cell_below hb3 (hHeld.2.2.2.2.2.2.2.2.2.2.2.2.2.2.2.2.2.2)⟩ (fun hHeld => ?_)
 clear hK K
 refine norm_ (a' := ?_) ?_ ?_
 rotate_left
 ·show Act.put _ (some 16) _ = _
  simp only [Act.put, List.setIfInBounds_toArray, List.set_cons_zero, List.set_cons_succ, i64_w, i32_w]
  rfl
 refine pure_ (i := 12) (N := some 17) (v := ?_) (a' := ?_) (bs 16 8191) rfl rfl (by kernel_rfl) (fun _ _ _ h => h) (Or.inl ⟨by rfl, ?_⟩) ?_ ?_
 rotate_left
 ·intro w'
  go_simp
  with_reducible rfl
 rotate_left
 ·simp only [Act.put, List.setIfInBounds_toArray, List.set_cons_zero, List.set_cons_succ, i64_w, i32_w]
  rfl
 refine one_ (i := 13) (N := some 18) (bs 16 16383) rfl rfl (by kernel_rfl) (by decide) (fun K hK => ?_)
 refine goes_ Try.func133 (by kernel_rfl) rfl #[.slice P2 (pastOf x y co x.f6).f2.length d2, .bool false] (by rfl) rfl rfl (by simp only [List.map_toArray, List.map_cons, List.map_nil]; rfl) ?_
 with_reducible refine (contains_bool false P2 d2 (pastOf x y co x.f6).f2 _ hg2).mono ?_
 rintro e w4 ⟨rfl, rfl⟩
 refine ⟨_, rfl, ?_⟩
 refine hK.out _ _ ⟨hHeld.1, hHeld.2.1, hHeld.2.2.1, hHeld.2.2.2.1, hHeld.2.2.2.2.1, hHeld.2.2.2.2.2.1, hHeld.2.2.2.2.2.2.1, hHeld.2.2.2.2.2.2.2.1, hHeld.2.2.2.2.2.2.2.2.1, hHeld.2.2.2.2.2.2.2.2.2.1, hHeld.2.2.2.2.2.2.2.2.2.2.1, hHeld.2.2.2.2.2.2.2.2.2.2.2.1, hHeld.2.2.2.2.2.2.2.2.2.2.2.2.1, hHeld.2.2.2.2.2.2.2.2.2.2.2.2.2.1, hHeld.2.2.2.2.2.2.2.2.2.2.2.2.2.2.1, hHeld.2.2.2.2.2.2.2.2.2.2.2.2.2.2.2.1, hHeld.2.2.2.2.2.2.2.2.2.2.2.2.2.2.2.2.1, hHeld.2.2.2.2.2.2.2.2.2.2.2.2.2.2.2.2.2.1, hHeld.2.2.2.2.2.2.2.2.2.2.2.2.2.2.2.2.2.2⟩ (fun hHeld => ?_)
 clear hK K
 refine norm_ (a' := ?_) ?_ ?_
 rotate_left
 ·show Act.put _ (some 18) _ = _
  simp only [Act.put, List.setIfInBounds_toArray, List.set_cons_zero, List.set_cons_succ, i64_w, i32_w]
  rfl
 refine pure_ (i := 14) (N := some 19) (v := ?_) (a' := ?_) (bs 16 32767) rfl rfl (by kernel_rfl) (fun _ _ _ h => h) (Or.inl ⟨by rfl, ?_⟩) ?_ ?_
 rotate_left
 ·intro w'
  go_simp
  with_reducible rfl
 rotate_left
 ·simp only [Act.put, List.setIfInBounds_toArray, List.set_cons_zero, List.set_cons_succ, i64_w, i32_w]
  rfl
 refine pure_ (i := 15) (N := some 4) (v := ?_) (a' := ?_) (bs 16 65535) rfl rfl (by kernel_rfl) (fun _ _ _ h => h) (Or.inl ⟨by rfl, ?_⟩) ?_ ?_
 rotate_left
 ·intro w'
  go_simp
  with_reducible rfl
 rotate_left
 ·simp only [Act.put, List.setIfInBounds_toArray, List.set_cons_zero, List.set_cons_succ, i64_w, i32_w]
  rfl
 refine done_ (by kernel_rfl) ?_
 clear hHeld
 have HB := Aside0.mk (bel2 (below_drew (hb0 (.cells #[.int .i64 y.h, .int .i64 y.l0, .int .i64 y.l1, .int .i64 y.l2, .int .i64 y.l3, .int .i64 y.l4] 133))) hb3)
 have HWB := Lib.hid (show wholeB x y co = !((pastOf x y co x.f6).f2.any fun z => false == z) by rw [all_contains, Bool.not_not]; rfl)
 go_wp2
 go_ret
 exact ⟨ret_bool (by rw [HWB.out]; congr 2; funext z; cases z <;> rfl), HB.out⟩
end Go.Proofs.Ytdgkhoflajdidaa
/- Five numbers are a key. -/
namespace Go.Proofs.Ytdgkhoflajdidaa
open Go.RowKit Go.Proofs.YtdgkhoflajdidaaW.PrintWords Go.Proofs.YtdgkhoflajdidaaW.PrintMore Go.Proofs.YtdgkhoflajdidaaW.PrintLast Go.Proofs.Ytdgkhoflajdidaa.Print
theorem key158 (a b c d e : Int) (ha : (Lit.int .i64 a).wf = true) (hb : (Lit.int .i64 b).wf = true) (hc : (Lit.int .i64 c).wf = true) (hd : (Lit.int .i64 d).wf = true) (he : (Lit.int .i64 e).wf = true) : ∃ s, keyOf Try.prog 158 (.agg #[.int .i64 a, .int .i64 b, .int .i64 c, .int .i64 d, .int .i64 e]) = some s := by
 have hu := Try.underlying158
 have hu3 := Try.underlying3
 have hk : Try.prog.keyType 158 = true := by kernel_rfl
 have h5 : Try.prog.cellsOf 158 = 5 := by kernel_rfl
 have h1 : Try.prog.cellsOf 3 = 1 := by kernel_rfl
 have hs : 1 ≤ Try.prog.types.size := Nat.le_of_ble_eq_true (by kernel_rfl)
 obtain ⟨m, hm⟩ : ∃ m, Try.prog.types.size + 1 = m + 2 := ⟨Try.prog.types.size - 1, by omega⟩
 unfold keyOf
 rw [hu, hm]
 simp [hk, Value.formed, hu, h5, Program.keyLits, h1, hu3, Value.cells, ha, hb, hc, hd, he, List.range, List.range.loop]
end Go.Proofs.Ytdgkhoflajdidaa
/- What coal is known to be sure: the map. -/
namespace Go.Proofs.Ytdgkhoflajdidaa
open Go.RowKit Go.Proofs.YtdgkhoflajdidaaW.PrintWords Go.Proofs.YtdgkhoflajdidaaW.PrintMore Go.Proofs.YtdgkhoflajdidaaW.PrintLast Go.Proofs.Ytdgkhoflajdidaa.Print
set_option linter.unusedVariables false
set_option linter.unusedSimpArgs false
def keyA (l : List Int) : Array Value := #[.int .i64 (l.getD 0 0), .int .i64 (l.getD 1 0), .int .i64 (l.getD 2 0), .int .i64 (l.getD 3 0), .int .i64 (l.getD 4 0)]
def keyV (l : List Int) : Value := .agg (keyA l)
/-- Coal that is sure. -/
def sureB (x : S38) (co : List Int) : Bool := (truthL x).all fun s => wholeB x s co
/-- Valid coal, as far as sure needs it. -/
structure CoalL (x : S38) (l : List Int) : Prop where
 len : (l.length : Int) = x.f0 + 1
 val : ∀ n ∈ l, 0 ≤ n ∧ n ≤ 3
theorem CoalL.get {x : S38} {l : List Int} (h : CoalL x l) (k : Nat) : 0 ≤ l.getD k 0 ∧ l.getD k 0 ≤ 3 := by
 by_cases hk : k < l.length
 ·have := h.val _ (List.getElem_mem hk)
  simpa [hk] using this
 ·simp [List.getD_eq_getElem?_getD, List.getElem?_eq_none (Nat.le_of_not_lt hk)]
theorem keyV_inj {x : S38} (hv : Valid x) {l m : List Int} (hl : CoalL x l) (hm : CoalL x m) (h : keyV l = keyV m) : l = m := by
 have e : l.length = m.length := by have := hl.len; have := hm.len; omega
 have h5 : l.length ≤ 5 := by have := hl.len; have := hv.last1; omega
 simp only [keyV, keyA, Value.agg.injEq, Array.mk.injEq, List.cons.injEq, Value.int.injEq, true_and, and_true] at h
 obtain ⟨h0, h1, h2, h3, h4⟩ := h
 apply List.ext_getElem e
 intro i hi hj
 have key : ∀ k, k < 5 → l.getD k 0 = m.getD k 0 := fun k hk => match k, hk with
  | 0, _ => h0
  | 1, _ => h1
  | 2, _ => h2
  | 3, _ => h3
  | 4, _ => h4
 have := key i (by omega)
 simpa [hi, hj] using this
theorem wf_small {n : Int} (h0 : 0 ≤ n) (h1 : n ≤ 3) : (Lit.int .i64 n).wf = true := by
 have : n = 0 ∨ n = 1 ∨ n = 2 ∨ n = 3 := by omega
 rcases this with rfl | rfl | rfl | rfl <;> decide
theorem keyV_key {x : S38} {l : List Int} (h : CoalL x l) : ∃ s, keyOf Try.prog 158 (keyV l) = some s :=
 key158 _ _ _ _ _ (wf_small (h.get 0).1 (h.get 0).2) (wf_small (h.get 1).1 (h.get 1).2) (wf_small (h.get 2).1 (h.get 2).2) (wf_small (h.get 3).1 (h.get 3).2) (wf_small (h.get 4).1 (h.get 4).2)
/-- The map in block mb, with n entries at most: each tells the truth. -/
def Known (x : S38) (mb n : Nat) (W : World) : Prop := ∃ es clock, W.heap[mb]? = some (.map es clock) ∧ WideElems.Fit (H := Unit) Try.prog 158 (plainElem Try.prog 4) es clock ∧ es.size ≤ n ∧ ∀ e ∈ es.toList, ∀ l, CoalL x l → e.key = keyV l → e.val = .bool (sureB x l)
theorem known_new {x : S38} {mb : Nat} {W : World} (h : W.heap[mb]? = some (.map #[] 0)) : Known x mb 0 W :=
 ⟨#[], 0, h, ⟨by simp, MapKept.stamped_empty 0, by simp⟩, Nat.le_refl _, by simp⟩
theorem known_look {x : S38} {mb n : Nat} {W : World} (h : Known x mb n W) {co : List Int} (hc : CoalL x co) :
    (Instr.lookup 148 (.map (some mb)) (keyV co) true).run Try.prog W = .ok (.tuple #[.bool (sureB x co), .bool true]) W ∨ (Instr.lookup 148 (.map (some mb)) (keyV co) true).run Try.prog W = .ok (.tuple #[.bool false, .bool false]) W := by
 obtain ⟨es, clock, hb, F, _, hE⟩ := h
 obtain ⟨s, hs⟩ := keyV_key hc
 have hz : (zeroValue 4).run Try.prog W = .ok (.bool false) W := by
  obtain ⟨i, hi, hzz⟩ := Option.map_eq_some_iff.1 info4
  simp only [Prod.mk.injEq] at hzz
  simp [zeroValue, typeInfo, hi, hzz.1, go_sem]
 rcases Maps.fit_look true keyed158 Try.underlying148 hz hb F hs with ⟨h1, _⟩ | ⟨e0, y, h1, h2, h3, _⟩
 ·exact .inr (by simpa using h1)
 ·refine .inl ?_
  rw [hE e0 h1 co hc h2] at h3
  simpa using h3
end Go.Proofs.Ytdgkhoflajdidaa
/- What is stored in the map. -/
namespace Go.Proofs.Ytdgkhoflajdidaa
open Go.RowKit Go.Proofs.YtdgkhoflajdidaaW.PrintWords Go.Proofs.YtdgkhoflajdidaaW.PrintMore Go.Proofs.YtdgkhoflajdidaaW.PrintLast Go.Proofs.Ytdgkhoflajdidaa.Print
open Go.WideElems Go.MapKept Go.ChangeMaps Go.WideMaps Go.Maps
set_option linter.unusedVariables false
set_option linter.unusedSimpArgs false
theorem known_store {x : S38} (hv : Valid x) {mb n : Nat} {W : World} (h : Known x mb n W) (hn : n < maxLen) {co : List Int} (hc : CoalL x co) :
    ∃ W', (Instr.mapUpdate 148 (.map (some mb)) (keyV co) (.bool (sureB x co))).run Try.prog W = .ok () W' ∧ Known x mb (n + 1) W' ∧ MachKeep mb 1 W W' := by
 obtain ⟨es, clock, hb, F, hsz, hE⟩ := h
 obtain ⟨s, hs⟩ := keyV_key hc
 obtain ⟨es', clock', hrun, F', hput, _, _, hwho⟩ := Maps.fit_store (R' := plainElem Try.prog 4) keyed158 Try.underlying148 hb F (Nat.lt_of_le_of_lt hsz hn) (fun _ _ _ _ hz => hz) hs (plainElem_bool Try.underlying4 (sureB x co))
 refine ⟨_, hrun, ⟨es', clock', heap_setBlock_same hb _, F', ?_, ?_⟩, ⟨rfl, rfl, rfl, by simp [setBlock], fun k hk hne => heap_setBlock_other hb _ (by omega)⟩⟩
 ·have e1 : es'.size = ((es'.toList.map (rg Try.prog 158 (plainElem (H := Unit) Try.prog 4))).foldr DataW.insert []).length := by rw [length_sorted]; simp
  rw [e1, hput]
  unfold putKey
  rw [length_insert]
  have e2 := List.length_filter_le (notKey s) ((es.toList.map (rg Try.prog 158 (plainElem (H := Unit) Try.prog 4))).foldr DataW.insert [])
  rw [length_sorted] at e2
  simp at e2
  omega
 ·intro e he l hl hk
  rcases hwho e he with ⟨h1, _⟩ | ⟨h1, h2⟩
  ·exact hE e h1 l hl hk
  ·rw [h2, keyV_inj hv hc hl (h1.symm.trans hk)]
end Go.Proofs.Ytdgkhoflajdidaa
/- sure: is coal sure. -/
namespace Go.Proofs.Ytdgkhoflajdidaa
open Go.RowKit Go.Proofs.YtdgkhoflajdidaaW.PrintWords Go.Proofs.YtdgkhoflajdidaaW.PrintMore Go.Proofs.YtdgkhoflajdidaaW.PrintLast Go.Proofs.Ytdgkhoflajdidaa.Print
set_option linter.unusedVariables false
set_option linter.unusedSimpArgs false
theorem row_to_key (l : List Int) (hl : l.length ≤ 5) : ((#[Value.int .i64 0, .int .i64 0, .int .i64 0, .int .i64 0, .int .i64 0] : Array Value).toList.take 0 ++ nums .i64 l ++ (#[Value.int .i64 0, .int .i64 0, .int .i64 0, .int .i64 0, .int .i64 0] : Array Value).toList.drop (0 + (nums .i64 l).length)).toArray = keyA l := by
 match l, hl with
 | [], _ => rfl
 | [_], _ => rfl
 | [_, _], _ => rfl
 | [_, _, _], _ => rfl
 | [_, _, _, _], _ => rfl
 | [_, _, _, _, _], _ => rfl
/-- What sure leaves: only the map turns. -/
def SurePost (x : S38) (mb n : Nat) (co : List Int) (w : World) (e : Ending) (w' : World) : Prop := e = .returned (.bool (sureB x co)) ∧ MachKeep mb 1 w w' ∧ Known x mb (n + 1) w'
theorem sure_play {x : S38} (hv : Valid x) {co : List Int} (hc : CoalL x co) {s : Sc} (hs : s ∈ truthL x) : PlayOk x s co x.f6 :=
 hv.play (((mem_allSc hv).1 (mem_truthL.1 hs).1).ok hv) hc.len hc.val hv.wantN (fun n hn => ⟨(hv.wantV n hn).1, by have := (hv.wantV n hn).2; omega⟩)
end Go.Proofs.Ytdgkhoflajdidaa
/- sure: the walk. -/
namespace Go.Proofs.Ytdgkhoflajdidaa
open Go.RowKit Go.Proofs.YtdgkhoflajdidaaW.PrintWords Go.Proofs.YtdgkhoflajdidaaW.PrintMore Go.Proofs.YtdgkhoflajdidaaW.PrintLast Go.Proofs.Ytdgkhoflajdidaa.Print
set_option linter.unusedVariables false
set_option linter.unusedSimpArgs false
theorem Known.below {x : S38} {mb n : Nat} {W V : World} (h : Known x mb n W) (hb : Below W.heap.size W V) : Known x mb n V := by
 obtain ⟨es, clock, h1, h2, h3, h4⟩ := h
 exact ⟨es, clock, (hb.block mb (Array.getElem?_eq_some_iff.1 h1).1).trans h1, h2, h3, h4⟩
theorem Known.mono {x : S38} {mb n m : Nat} {W : World} (h : Known x mb n W) (hm : n ≤ m) : Known x mb m W := by
 obtain ⟨es, clock, h1, h2, h3, h4⟩ := h
 exact ⟨es, clock, h1, h2, Nat.le_trans h3 hm, h4⟩
theorem Blk.low {W V : World} {B g : Nat} {cs : Array Value} {t : TypeId} (h : Blk W g cs t) (hb : Below B W V) (hg : g < B) : Blk V g cs t := (hb.block g hg).trans h
set_option maxRecDepth 100000 in
set_option maxHeartbeats 4000000 in
theorem sure_calls (x : S38) (cs : List Value) (g mb n : Nat) (C : Option Addr) (c : Nat) (co : List Int) (w : World) (hx : k38.K w x cs) (hV : Valid x) (hW : WorkAt x cs g mb w) (hK : Known x mb n w) (hn : n < maxLen) (hco : Kd.C (Kd.int .i64) w C co.length co) (hc : CoalL x co) :
    Calls Try.prog 112 #[.pointer (some ⟨g, 0, none⟩), .slice C co.length c] w (SurePost x mb n co w) := by
 have hb3 : ∀ o1 o2 o3, Below w.heap.size w (((w.alloc o1).alloc o2).alloc o3) := fun o1 o2 o3 => below_alloc (below_alloc (below_alloc (Below.refl _ _) _) _) _
 have h5 : co.length ≤ 5 := by have := hc.len; have := hV.last1; omega
 have hpos : 0 < co.length := by have := hc.len; have := hV.last0; omega
 obtain ⟨ca, hca, _⟩ := row_at_int hco 0 hpos
 subst hca
 have HX0 := Aside0.mk hx
 obtain ⟨A5, c5, A6, c6, A9, c9, A10, c10, hcs, _⟩ := k38_open hx
 subst hcs
 obtain ⟨sb, hsb⟩ : ∃ b, sureB x co = b := ⟨_, rfl⟩
 have HSB := Lib.hid hsb
 clear hsb
 have HC := Aside0.mk hco
 have HCL := Aside0.mk hc
 have HV := Aside0.mk hV
 have HKN := Aside0.mk hK
 have HX := Aside0.mk hx
 have HWK := Aside0.mk hW
 clear hco hc hV hK hx hW
 have hu := Try.underlying107
 have hu2 := Try.underlying158
 have hu3 := Try.underlying151
 have hu4 := Try.underlying22
 go_enter Try.func112, Try.ntmps112
 go_wp2
 have hb1 : Below w.heap.size w (((w.alloc (.cells #[.pointer (some ⟨g, 0, none⟩)] 107)).alloc (.cells #[.slice (some ca) co.length c] 22)).alloc (.cells #[.int .i64 0, .int .i64 0, .int .i64 0, .int .i64 0, .int .i64 0] 158)) := hb3 _ _ _
 have B0 : Blk (((w.alloc (.cells #[.pointer (some ⟨g, 0, none⟩)] 107)).alloc (.cells #[.slice (some ca) co.length c] 22)).alloc (.cells #[.int .i64 0, .int .i64 0, .int .i64 0, .int .i64 0, .int .i64 0] 158)) w.heap.size #[.pointer (some ⟨g, 0, none⟩)] 107 := ((Blk.new _ _ _ _ rfl).alloc _).alloc _
 have B1 : Blk (((w.alloc (.cells #[.pointer (some ⟨g, 0, none⟩)] 107)).alloc (.cells #[.slice (some ca) co.length c] 22)).alloc (.cells #[.int .i64 0, .int .i64 0, .int .i64 0, .int .i64 0, .int .i64 0] 158)) (w.heap.size + 1) #[.slice (some ca) co.length c] 22 := (Blk.new _ _ _ _ (by simp)).alloc _
 have B2 : Blk (((w.alloc (.cells #[.pointer (some ⟨g, 0, none⟩)] 107)).alloc (.cells #[.slice (some ca) co.length c] 22)).alloc (.cells #[.int .i64 0, .int .i64 0, .int .i64 0, .int .i64 0, .int .i64 0] 158)) (w.heap.size + 1 + 1) #[.int .i64 0, .int .i64 0, .int .i64 0, .int .i64 0, .int .i64 0] 158 := Blk.new _ _ _ _ (by simp)
 generalize (((w.alloc (.cells #[.pointer (some ⟨g, 0, none⟩)] 107)).alloc (.cells #[.slice (some ca) co.length c] 22)).alloc (.cells #[.int .i64 0, .int .i64 0, .int .i64 0, .int .i64 0, .int .i64 0] 158)) = W1 at *
 have kc := B1.cell 0 _ rfl
 have HB := Aside0.mk (And.intro hb1 (And.intro B0 (And.intro B1 B2)))
 clear hb1 B0 B1 B2 hb3
 refine start_ (n := 3) (S := fun w' => w'.cell? ⟨w.heap.size + 1, 0, none⟩ = some (.slice (some ca) co.length c)) (ds := [2]) #[false, false, false] (by kernel_rfl) rfl rfl (kc) (fun hHeld => ?_)
 refine pure_ (i := 0) (N := some 8) (v := ?_) (a' := ?_) (bs 3 1) rfl rfl (by kernel_rfl) (fun _ _ _ h => h) (Or.inl ⟨by rfl, ?_⟩) ?_ ?_
 rotate_left
 ·intro w'
  go_simp
  with_reducible rfl
 rotate_left
 ·simp only [Act.put, List.setIfInBounds_toArray, List.set_cons_zero, List.set_cons_succ, i64_w, i32_w]
  rfl
 refine take_ (i := 1) (N := some 9) (v := ?_) (a' := ?_) (bs 3 3) rfl rfl (by kernel_rfl) (fun _ _ _ h => h) (Or.inl ⟨by rfl, ?_⟩) hHeld ?_ ?_
 rotate_left
 ·intro w' s0
  go_simp
  with_reducible rfl
 rotate_left
 ·simp only [Act.put, List.setIfInBounds_toArray, List.set_cons_zero, List.set_cons_succ, i64_w, i32_w]
  rfl
 refine last_ (i := 2) (N := some 10) (bs 3 7) rfl rfl (by kernel_rfl) (by decide) (fun K hK => ?_)
 refine copy_op (w := W1.drew) (.tmp 8) (.tmp 9) 22 22 3 (w.heap.size + 1 + 1) 0 5 5 ca co.length c #[.int .i64 0, .int .i64 0, .int .i64 0, .int .i64 0, .int .i64 0] 158 (nums .i64 co) (by rfl) rfl Try.underlying22 (by kernel_rfl) rfl rfl HB.out.2.2.2 (by simp [nums, Nat.min_def]; omega) (fun j v hj => ?_) (by simp [nums]; omega) (fun v hv => by simp only [nums, List.mem_map] at hv; obtain ⟨q, _, rfl⟩ := hv; rfl) ?_
 ·have hlt : j < co.length := by have := (List.getElem?_eq_some_iff.1 hj).1; simpa [nums] using this
  obtain ⟨ca', hca', hc0⟩ := row_at_int (Kd.C_below HC.out (below_drew HB.out.1)) j hlt
  obtain rfl : ca = ca' := Option.some.inj hca'
  rw [hc0]
  rw [← hj]; simp [nums, hlt]
 refine hK.out _ _ ?_
 clear hK K
 refine norm_ (a' := ?_) ?_ ?_
 rotate_left
 ·show Act.put _ (some 10) _ = _
  simp only [Act.put, List.setIfInBounds_toArray, List.set_cons_zero, List.set_cons_succ, i64_w, i32_w]
  rfl
 refine done_ (by kernel_rfl) ?_
 have hb2 := below_setRow' (below_drew HB.out.1) (g := w.heap.size + 1 + 1) (by omega) ((#[Value.int .i64 0, .int .i64 0, .int .i64 0, .int .i64 0, .int .i64 0] : Array Value).toList.take 0 ++ nums .i64 co ++ (#[Value.int .i64 0, .int .i64 0, .int .i64 0, .int .i64 0, .int .i64 0] : Array Value).toList.drop (0 + (nums .i64 co).length)).toArray
 have B2' := (Blk.drew HB.out.2.2.2).setRow ((#[Value.int .i64 0, .int .i64 0, .int .i64 0, .int .i64 0, .int .i64 0] : Array Value).toList.take 0 ++ nums .i64 co ++ (#[Value.int .i64 0, .int .i64 0, .int .i64 0, .int .i64 0, .int .i64 0] : Array Value).toList.drop (0 + (nums .i64 co).length)).toArray
 rw [row_to_key _ h5] at hb2 B2'
 rw [row_to_key _ h5]
 have b0W := Blk.low (B := w.heap.size + 1 + 1) (Blk.drew HB.out.2.1) (below_setRow' (Below.refl (w.heap.size + 1 + 1) W1.drew) (Nat.le_refl _) (keyA co)) (by omega)
 have b1W := Blk.low (B := w.heap.size + 1 + 1) (Blk.drew HB.out.2.2.1) (below_setRow' (Below.refl (w.heap.size + 1 + 1) W1.drew) (Nat.le_refl _) (keyA co)) (by omega)
 obtain ⟨q0, q1, q2, q3, q4, hkey⟩ : ∃ q0 q1 q2 q3 q4 : Int, keyA co = #[.int .i64 q0, .int .i64 q1, .int .i64 q2, .int .i64 q3, .int .i64 q4] := ⟨_, _, _, _, _, rfl⟩
 have HKEY := Lib.hid hkey
 clear HB kc h5
 rw [hkey] at hb2 B2' b0W b1W ⊢
 clear hkey
 generalize W1.drew.setRow (w.heap.size + 1 + 1) #[.int .i64 q0, .int .i64 q1, .int .i64 q2, .int .i64 q3, .int .i64 q4] = W2 at *
 have hbd : Below w.heap.size w W2.drew := below_drew hb2
 obtain ⟨Aw, cw, hgw, htr⟩ := HWK.out.below hb2
 have k12 := hgw.cell 12 _ rfl
 have k11 := hgw.cell 11 _ rfl
 have k0 := b0W.cell 0 _ rfl
 have kk0 := B2'.cell 0 _ rfl
 have kk1 := B2'.cell 1 _ rfl
 have kk2 := B2'.cell 2 _ rfl
 have kk3 := B2'.cell 3 _ rfl
 have kk4 := B2'.cell 4 _ rfl
 have hlook := known_look (HKN.out.below hbd) HCL.out
 unfold keyV at hlook
 rw [HKEY.out, HSB.out] at hlook
 have HB2 := Aside0.mk (And.intro hb2 (And.intro htr (And.intro b0W (And.intro b1W (And.intro B2' hgw)))))
 clear hb2 htr b0W b1W B2' hgw hbd
 rcases hlook with hlook | hlook
 ·have HSBN : Aside0 (Known x mb (n + 1) W2.drew) := ⟨(HKN.out.below (below_drew HB2.out.1)).mono (Nat.le_succ n)⟩
  go_wp2
  refine start_ (n := 11) (S := fun w' => w'.cell? ⟨w.heap.size, 0, none⟩ = some (.pointer (some ⟨g, 0, none⟩)) ∧ w'.cell? ⟨g, 12, none⟩ = some (.map (some mb)) ∧ w'.cell? ⟨w.heap.size + 1 + 1, 0, none⟩ = some (.int .i64 q0) ∧ w'.cell? ⟨w.heap.size + 1 + 1, 1, none⟩ = some (.int .i64 q1) ∧ w'.cell? ⟨w.heap.size + 1 + 1, 2, none⟩ = some (.int .i64 q2) ∧ w'.cell? ⟨w.heap.size + 1 + 1, 3, none⟩ = some (.int .i64 q3) ∧ w'.cell? ⟨w.heap.size + 1 + 1, 4, none⟩ = some (.int .i64 q4) ∧ (Instr.lookup 148 (.map (some mb)) (.agg #[.int .i64 q0, .int .i64 q1, .int .i64 q2, .int .i64 q3, .int .i64 q4]) true).run Try.prog w' = .ok (.tuple #[.bool sb, .bool true]) w') (ds := []) #[false, false, false, false, false, false, false, false, false, false, false] (by kernel_rfl) rfl rfl ⟨k0, k12, kk0, kk1, kk2, kk3, kk4, hlook⟩ (fun hHeld => ?_)
  refine take_ (i := 0) (N := some 12) (v := ?_) (a' := ?_) (bs 11 1) rfl rfl (by kernel_rfl) (fun _ _ _ h => h) (Or.inl ⟨by rfl, ?_⟩) hHeld ?_ ?_
  rotate_left
  ·rintro w' ⟨s0, s1, s2, s3, s4, s5, s6, s7⟩
   go_simp
   with_reducible rfl
  rotate_left
  ·simp only [Act.put, List.setIfInBounds_toArray, List.set_cons_zero, List.set_cons_succ, i64_w, i32_w]
   rfl
  refine pure_ (i := 1) (N := some 13) (v := ?_) (a' := ?_) (bs 11 3) rfl rfl (by kernel_rfl) (fun _ _ _ h => h) (Or.inl ⟨by rfl, ?_⟩) ?_ ?_
  rotate_left
  ·intro w'
   go_simp
   with_reducible rfl
  rotate_left
  ·simp only [Act.put, List.setIfInBounds_toArray, List.set_cons_zero, List.set_cons_succ, i64_w, i32_w]
   rfl
  refine pure_ (i := 2) (N := some 14) (v := ?_) (a' := ?_) (bs 11 7) rfl rfl (by kernel_rfl) (fun _ _ _ h => h) (Or.inl ⟨by rfl, ?_⟩) ?_ ?_
  rotate_left
  ·intro w'
   go_simp
   with_reducible rfl
  rotate_left
  ·simp only [Act.put, List.setIfInBounds_toArray, List.set_cons_zero, List.set_cons_succ, i64_w, i32_w]
   rfl
  refine take_ (i := 3) (N := some 15) (v := ?_) (a' := ?_) (bs 11 15) rfl rfl (by kernel_rfl) (fun _ _ _ h => h) (Or.inl ⟨by rfl, ?_⟩) hHeld ?_ ?_
  rotate_left
  ·rintro w' ⟨s0, s1, s2, s3, s4, s5, s6, s7⟩
   go_simp
   with_reducible rfl
  rotate_left
  ·simp only [Act.put, List.setIfInBounds_toArray, List.set_cons_zero, List.set_cons_succ, i64_w, i32_w]
   rfl
  refine take_ (i := 4) (N := some 16) (v := ?_) (a' := ?_) (bs 11 31) rfl rfl (by kernel_rfl) (fun _ _ _ h => h) (Or.inl ⟨by rfl, ?_⟩) hHeld ?_ ?_
  rotate_left
  ·rintro w' ⟨s0, s1, s2, s3, s4, s5, s6, s7⟩
   go_simp
   with_reducible rfl
  rotate_left
  ·simp only [Act.put, List.setIfInBounds_toArray, List.set_cons_zero, List.set_cons_succ, i64_w, i32_w]
   rfl
  refine take_ (i := 5) (N := some 17) (v := ?_) (a' := ?_) (bs 11 63) rfl rfl (by kernel_rfl) (fun _ _ _ h => h) (Or.inl ⟨by rfl, ?_⟩) hHeld ?_ ?_
  rotate_left
  ·rintro w' ⟨s0, s1, s2, s3, s4, s5, s6, s7⟩
   go_simp
   with_reducible rfl
  rotate_left
  ·simp only [Act.put, List.setIfInBounds_toArray, List.set_cons_zero, List.set_cons_succ, i64_w, i32_w]
   rfl
  refine pure_ (i := 6) (N := some 11) (v := ?_) (a' := ?_) (bs 11 127) rfl rfl (by kernel_rfl) (fun _ _ _ h => h) (Or.inl ⟨by rfl, ?_⟩) ?_ ?_
  rotate_left
  ·intro w'
   go_simp
   with_reducible rfl
  rotate_left
  ·simp only [Act.put, List.setIfInBounds_toArray, List.set_cons_zero, List.set_cons_succ, i64_w, i32_w]
   rfl
  refine pure_ (i := 7) (N := some 18) (v := ?_) (a' := ?_) (bs 11 255) rfl rfl (by kernel_rfl) (fun _ _ _ h => h) (Or.inl ⟨by rfl, ?_⟩) ?_ ?_
  rotate_left
  ·intro w'
   go_simp
   with_reducible rfl
  rotate_left
  ·simp only [Act.put, List.setIfInBounds_toArray, List.set_cons_zero, List.set_cons_succ, i64_w, i32_w]
   rfl
  refine pure_ (i := 8) (N := some 19) (v := ?_) (a' := ?_) (bs 11 511) rfl rfl (by kernel_rfl) (fun _ _ _ h => h) (Or.inl ⟨by rfl, ?_⟩) ?_ ?_
  rotate_left
  ·intro w'
   go_simp
   with_reducible rfl
  rotate_left
  ·simp only [Act.put, List.setIfInBounds_toArray, List.set_cons_zero, List.set_cons_succ, i64_w, i32_w]
   rfl
  refine pure_ (i := 9) (N := some 6) (v := ?_) (a' := ?_) (bs 11 1023) rfl rfl (by kernel_rfl) (fun _ _ _ h => h) (Or.inl ⟨by rfl, ?_⟩) ?_ ?_
  rotate_left
  ·intro w'
   go_simp
   with_reducible rfl
  rotate_left
  ·simp only [Act.put, List.setIfInBounds_toArray, List.set_cons_zero, List.set_cons_succ, i64_w, i32_w]
   rfl
  refine pure_ (i := 10) (N := some 7) (v := ?_) (a' := ?_) (bs 11 2047) rfl rfl (by kernel_rfl) (fun _ _ _ h => h) (Or.inl ⟨by rfl, ?_⟩) ?_ ?_
  rotate_left
  ·intro w'
   go_simp
   with_reducible rfl
  rotate_left
  ·simp only [Act.put, List.setIfInBounds_toArray, List.set_cons_zero, List.set_cons_succ, i64_w, i32_w]
   rfl
  refine done_ (by kernel_rfl) ?_
  clear hHeld hlook
  go_wp2
  go_ret
  exact ⟨ret_bool HSB.out.symm, MachKeep.of_below (below_drew HB2.out.1), HSBN.out⟩
 ·have hall : Calls Try.prog 131 #[.slice Aw (truthL x).length cw, .func (.func 132) #[] #[.pointer (some ⟨w.heap.size, 0, none⟩), .pointer (some ⟨w.heap.size + 1, 0, none⟩)]] W2.drew fun e w' => e = .returned (.bool sb) ∧ Below W2.drew.heap.size W2.drew w' := by
    have hbd := below_drew HB2.out.1
    have h1 := all_sc 132 #[] #[.pointer (some ⟨w.heap.size, 0, none⟩), .pointer (some ⟨w.heap.size + 1, 0, none⟩)] (fun s => wholeB x s co) Aw cw (truthL x) W2.drew (enters_of Try.func132 (by kernel_rfl) rfl)
     (fun W s hs hb => sure1_calls x _ g mb w.heap.size (w.heap.size + 1) (some ca) c co s W (k38.K_below (bel2 hbd hb) HX0.out) (HWK.out.below (bel2 hbd hb)) (HB2.out.2.2.1.drew.below hb) (HB2.out.2.2.2.1.drew.below hb) (Kd.C_below HC.out (bel2 hbd hb)) (sure_play HV.out HCL.out hs))
     (Kd.C_below HB2.out.2.1 (below_drew (Below.refl _ _)))
    rw [show (truthL x).all (fun s => wholeB x s co) = sb from HSB.out] at h1
    exact h1
  have HALL := Aside0.mk hall
  clear hall
  go_wp2
  refine start_ (n := 11) (S := fun w' => w'.cell? ⟨w.heap.size, 0, none⟩ = some (.pointer (some ⟨g, 0, none⟩)) ∧ w'.cell? ⟨g, 12, none⟩ = some (.map (some mb)) ∧ w'.cell? ⟨w.heap.size + 1 + 1, 0, none⟩ = some (.int .i64 q0) ∧ w'.cell? ⟨w.heap.size + 1 + 1, 1, none⟩ = some (.int .i64 q1) ∧ w'.cell? ⟨w.heap.size + 1 + 1, 2, none⟩ = some (.int .i64 q2) ∧ w'.cell? ⟨w.heap.size + 1 + 1, 3, none⟩ = some (.int .i64 q3) ∧ w'.cell? ⟨w.heap.size + 1 + 1, 4, none⟩ = some (.int .i64 q4) ∧ (Instr.lookup 148 (.map (some mb)) (.agg #[.int .i64 q0, .int .i64 q1, .int .i64 q2, .int .i64 q3, .int .i64 q4]) true).run Try.prog w' = .ok (.tuple #[.bool false, .bool false]) w') (ds := []) #[false, false, false, false, false, false, false, false, false, false, false] (by kernel_rfl) rfl rfl ⟨k0, k12, kk0, kk1, kk2, kk3, kk4, hlook⟩ (fun hHeld => ?_)
  refine take_ (i := 0) (N := some 12) (v := ?_) (a' := ?_) (bs 11 1) rfl rfl (by kernel_rfl) (fun _ _ _ h => h) (Or.inl ⟨by rfl, ?_⟩) hHeld ?_ ?_
  rotate_left
  ·rintro w' ⟨s0, s1, s2, s3, s4, s5, s6, s7⟩
   go_simp
   with_reducible rfl
  rotate_left
  ·simp only [Act.put, List.setIfInBounds_toArray, List.set_cons_zero, List.set_cons_succ, i64_w, i32_w]
   rfl
  refine pure_ (i := 1) (N := some 13) (v := ?_) (a' := ?_) (bs 11 3) rfl rfl (by kernel_rfl) (fun _ _ _ h => h) (Or.inl ⟨by rfl, ?_⟩) ?_ ?_
  rotate_left
  ·intro w'
   go_simp
   with_reducible rfl
  rotate_left
  ·simp only [Act.put, List.setIfInBounds_toArray, List.set_cons_zero, List.set_cons_succ, i64_w, i32_w]
   rfl
  refine pure_ (i := 2) (N := some 14) (v := ?_) (a' := ?_) (bs 11 7) rfl rfl (by kernel_rfl) (fun _ _ _ h => h) (Or.inl ⟨by rfl, ?_⟩) ?_ ?_
  rotate_left
  ·intro w'
   go_simp
   with_reducible rfl
  rotate_left
  ·simp only [Act.put, List.setIfInBounds_toArray, List.set_cons_zero, List.set_cons_succ, i64_w, i32_w]
   rfl
  refine take_ (i := 3) (N := some 15) (v := ?_) (a' := ?_) (bs 11 15) rfl rfl (by kernel_rfl) (fun _ _ _ h => h) (Or.inl ⟨by rfl, ?_⟩) hHeld ?_ ?_
  rotate_left
  ·rintro w' ⟨s0, s1, s2, s3, s4, s5, s6, s7⟩
   go_simp
   with_reducible rfl
  rotate_left
  ·simp only [Act.put, List.setIfInBounds_toArray, List.set_cons_zero, List.set_cons_succ, i64_w, i32_w]
   rfl
  refine take_ (i := 4) (N := some 16) (v := ?_) (a' := ?_) (bs 11 31) rfl rfl (by kernel_rfl) (fun _ _ _ h => h) (Or.inl ⟨by rfl, ?_⟩) hHeld ?_ ?_
  rotate_left
  ·rintro w' ⟨s0, s1, s2, s3, s4, s5, s6, s7⟩
   go_simp
   with_reducible rfl
  rotate_left
  ·simp only [Act.put, List.setIfInBounds_toArray, List.set_cons_zero, List.set_cons_succ, i64_w, i32_w]
   rfl
  refine take_ (i := 5) (N := some 17) (v := ?_) (a' := ?_) (bs 11 63) rfl rfl (by kernel_rfl) (fun _ _ _ h => h) (Or.inl ⟨by rfl, ?_⟩) hHeld ?_ ?_
  rotate_left
  ·rintro w' ⟨s0, s1, s2, s3, s4, s5, s6, s7⟩
   go_simp
   with_reducible rfl
  rotate_left
  ·simp only [Act.put, List.setIfInBounds_toArray, List.set_cons_zero, List.set_cons_succ, i64_w, i32_w]
   rfl
  refine pure_ (i := 6) (N := some 11) (v := ?_) (a' := ?_) (bs 11 127) rfl rfl (by kernel_rfl) (fun _ _ _ h => h) (Or.inl ⟨by rfl, ?_⟩) ?_ ?_
  rotate_left
  ·intro w'
   go_simp
   with_reducible rfl
  rotate_left
  ·simp only [Act.put, List.setIfInBounds_toArray, List.set_cons_zero, List.set_cons_succ, i64_w, i32_w]
   rfl
  refine pure_ (i := 7) (N := some 18) (v := ?_) (a' := ?_) (bs 11 255) rfl rfl (by kernel_rfl) (fun _ _ _ h => h) (Or.inl ⟨by rfl, ?_⟩) ?_ ?_
  rotate_left
  ·intro w'
   go_simp
   with_reducible rfl
  rotate_left
  ·simp only [Act.put, List.setIfInBounds_toArray, List.set_cons_zero, List.set_cons_succ, i64_w, i32_w]
   rfl
  refine pure_ (i := 8) (N := some 19) (v := ?_) (a' := ?_) (bs 11 511) rfl rfl (by kernel_rfl) (fun _ _ _ h => h) (Or.inl ⟨by rfl, ?_⟩) ?_ ?_
  rotate_left
  ·intro w'
   go_simp
   with_reducible rfl
  rotate_left
  ·simp only [Act.put, List.setIfInBounds_toArray, List.set_cons_zero, List.set_cons_succ, i64_w, i32_w]
   rfl
  refine pure_ (i := 9) (N := some 6) (v := ?_) (a' := ?_) (bs 11 1023) rfl rfl (by kernel_rfl) (fun _ _ _ h => h) (Or.inl ⟨by rfl, ?_⟩) ?_ ?_
  rotate_left
  ·intro w'
   go_simp
   with_reducible rfl
  rotate_left
  ·simp only [Act.put, List.setIfInBounds_toArray, List.set_cons_zero, List.set_cons_succ, i64_w, i32_w]
   rfl
  refine pure_ (i := 10) (N := some 7) (v := ?_) (a' := ?_) (bs 11 2047) rfl rfl (by kernel_rfl) (fun _ _ _ h => h) (Or.inl ⟨by rfl, ?_⟩) ?_ ?_
  rotate_left
  ·intro w'
   go_simp
   with_reducible rfl
  rotate_left
  ·simp only [Act.put, List.setIfInBounds_toArray, List.set_cons_zero, List.set_cons_succ, i64_w, i32_w]
   rfl
  refine done_ (by kernel_rfl) ?_
  clear hHeld hlook
  go_wp2_with (go_at_call 131; refine HALL.out.mono ?_; rintro e W3 ⟨rfl, hb3⟩)
  have k0 := pw_cell_below hb3 k0
  have k12 := pw_cell_below hb3 k12
  have kk0 := pw_cell_below hb3 kk0
  have kk1 := pw_cell_below hb3 kk1
  have kk2 := pw_cell_below hb3 kk2
  have kk3 := pw_cell_below hb3 kk3
  have kk4 := pw_cell_below hb3 kk4
  have hbe : Below w.heap.size w W3.drew := below_drew (bel2 (below_drew HB2.out.1) hb3)
  obtain ⟨W4, hrun, hk4, hmk4⟩ := known_store HV.out (HKN.out.below hbe) hn HCL.out
  unfold keyV at hrun
  rw [HKEY.out, HSB.out] at hrun
  have HE := Aside0.mk (And.intro hbe (And.intro hk4 hmk4))
  clear hbe hk4 hmk4 hb3
  refine start_ (n := 7) (S := fun w' => w'.cell? ⟨w.heap.size, 0, none⟩ = some (.pointer (some ⟨g, 0, none⟩)) ∧ w'.cell? ⟨g, 12, none⟩ = some (.map (some mb)) ∧ w'.cell? ⟨w.heap.size + 1 + 1, 0, none⟩ = some (.int .i64 q0) ∧ w'.cell? ⟨w.heap.size + 1 + 1, 1, none⟩ = some (.int .i64 q1) ∧ w'.cell? ⟨w.heap.size + 1 + 1, 2, none⟩ = some (.int .i64 q2) ∧ w'.cell? ⟨w.heap.size + 1 + 1, 3, none⟩ = some (.int .i64 q3) ∧ w'.cell? ⟨w.heap.size + 1 + 1, 4, none⟩ = some (.int .i64 q4)) (ds := [6]) #[false, false, false, false, false, false, false] (by kernel_rfl) rfl rfl ⟨k0, k12, kk0, kk1, kk2, kk3, kk4⟩ (fun hHeld => ?_)
  refine pure_ (i := 5) (N := some 33) (v := ?_) (a' := ?_) (bs 7 32) rfl rfl (by kernel_rfl) (fun _ _ _ h => h) (Or.inl ⟨by rfl, ?_⟩) ?_ ?_
  rotate_left
  ·intro w'
   go_simp
   with_reducible rfl
  rotate_left
  ·simp only [Act.put, List.setIfInBounds_toArray, List.set_cons_zero, List.set_cons_succ, i64_w, i32_w]
   rfl
  refine take_ (i := 0) (N := some 28) (v := ?_) (a' := ?_) (bs 7 33) rfl rfl (by kernel_rfl) (fun _ _ _ h => h) (Or.inl ⟨by rfl, ?_⟩) hHeld ?_ ?_
  rotate_left
  ·rintro w' ⟨s0, s1, s2, s3, s4, s5, s6⟩
   go_simp
   with_reducible rfl
  rotate_left
  ·simp only [Act.put, List.setIfInBounds_toArray, List.set_cons_zero, List.set_cons_succ, i64_w, i32_w]
   rfl
  refine pure_ (i := 1) (N := some 29) (v := ?_) (a' := ?_) (bs 7 35) rfl rfl (by kernel_rfl) (fun _ _ _ h => h) (Or.inl ⟨by rfl, ?_⟩) ?_ ?_
  rotate_left
  ·intro w'
   go_simp
   with_reducible rfl
  rotate_left
  ·simp only [Act.put, List.setIfInBounds_toArray, List.set_cons_zero, List.set_cons_succ, i64_w, i32_w]
   rfl
  refine pure_ (i := 2) (N := some 30) (v := ?_) (a' := ?_) (bs 7 39) rfl rfl (by kernel_rfl) (fun _ _ _ h => h) (Or.inl ⟨by rfl, ?_⟩) ?_ ?_
  rotate_left
  ·intro w'
   go_simp
   with_reducible rfl
  rotate_left
  ·simp only [Act.put, List.setIfInBounds_toArray, List.set_cons_zero, List.set_cons_succ, i64_w, i32_w]
   rfl
  refine take_ (i := 3) (N := some 31) (v := ?_) (a' := ?_) (bs 7 47) rfl rfl (by kernel_rfl) (fun _ _ _ h => h) (Or.inl ⟨by rfl, ?_⟩) hHeld ?_ ?_
  rotate_left
  ·rintro w' ⟨s0, s1, s2, s3, s4, s5, s6⟩
   go_simp
   with_reducible rfl
  rotate_left
  ·simp only [Act.put, List.setIfInBounds_toArray, List.set_cons_zero, List.set_cons_succ, i64_w, i32_w]
   rfl
  refine take_ (i := 4) (N := some 32) (v := ?_) (a' := ?_) (bs 7 63) rfl rfl (by kernel_rfl) (fun _ _ _ h => h) (Or.inl ⟨by rfl, ?_⟩) hHeld ?_ ?_
  rotate_left
  ·rintro w' ⟨s0, s1, s2, s3, s4, s5, s6⟩
   go_simp
   with_reducible rfl
  rotate_left
  ·simp only [Act.put, List.setIfInBounds_toArray, List.set_cons_zero, List.set_cons_succ, i64_w, i32_w]
   rfl
  refine last_ (i := 6) (N := none) (bs 7 127) rfl rfl (by kernel_rfl) (by decide) (fun K hK => ?_)
  refine skip_ (w1 := ?_) (by rfl) rfl ?_ ?_
  rotate_left
  ·go_simp
   rfl
  refine hK.out _ _ ?_
  clear hK K
  refine done_ (by kernel_rfl) ?_
  clear hHeld
  go_wp2
  go_ret
  exact ⟨ret_bool HSB.out.symm, (MachKeep.of_below HE.out.1).trans HE.out.2.2, HE.out.2.1⟩
end Go.Proofs.Ytdgkhoflajdidaa
/- What Least's recursion keeps. -/
namespace Go.Proofs.Ytdgkhoflajdidaa
open Go.RowKit Go.Proofs.YtdgkhoflajdidaaW.PrintWords Go.Proofs.YtdgkhoflajdidaaW.PrintMore Go.Proofs.YtdgkhoflajdidaaW.PrintLast Go.Proofs.Ytdgkhoflajdidaa.Print
set_option linter.unusedVariables false
set_option linter.unusedSimpArgs false
/-- The ways to pay m shovels in d hours, at most sh in one, in lexicographic order. -/
def pays (sh : Nat) : Nat → Nat → List (List Int)
 | 0, m => if m = 0 then [[]] else []
 | d + 1, m => (List.range (min sh m + 1)).flatMap fun n => (pays sh d (m - n)).map ((n : Int) :: ·)
def paysTo (sh d m j : Nat) : List (List Int) := (List.range j).flatMap fun n => (pays sh d (m - n)).map ((n : Int) :: ·)
theorem paysTo_succ (sh d m j : Nat) : paysTo sh d m (j + 1) = paysTo sh d m j ++ (pays sh d (m - j)).map ((j : Int) :: ·) := by
 unfold paysTo
 rw [List.range_succ, List.flatMap_append]
 simp
theorem paysTo_none {sh d m j : Nat} {p : List Int → Bool} (h : (paysTo sh d m j).find? p = none) (h2 : (pays sh d (m - j)).find? (fun t => p ((j : Int) :: t)) = none) : (paysTo sh d m (j + 1)).find? p = none := by
 rw [paysTo_succ, List.find?_append, h, List.find?_map]
 have : (pays sh d (m - j)).find? (p ∘ ((j : Int) :: ·)) = none := h2
 rw [this]
 rfl
theorem paysTo_some {sh d m j : Nat} {p : List Int → Bool} {t : List Int} (h : (paysTo sh d m j).find? p = none) (h2 : (pays sh d (m - j)).find? (fun t => p ((j : Int) :: t)) = some t) (hj : j < min sh m + 1) : (pays sh (d + 1) m).find? p = some ((j : Int) :: t) := by
 have h3 : (paysTo sh d m (j + 1)).find? p = some ((j : Int) :: t) := by
  rw [paysTo_succ, List.find?_append, h, List.find?_map]
  have : (pays sh d (m - j)).find? (p ∘ ((j : Int) :: ·)) = some t := h2
  rw [this]
  rfl
 obtain ⟨q, hq⟩ : ∃ q, min sh m + 1 = (j + 1) + q := ⟨_, (Nat.add_sub_cancel' hj).symm⟩
 have h4 : pays sh (d + 1) m = paysTo sh d m (j + 1) ++ (List.range' (0 + (j + 1)) q).flatMap fun n => (pays sh d (m - n)).map ((n : Int) :: ·) := by
  show (List.range (min sh m + 1)).flatMap _ = _
  unfold paysTo
  rw [List.range_eq_range', List.range_eq_range', hq, ← List.range'_append_1, List.flatMap_append]
 rw [h4, List.find?_append, h3]
 rfl
/-- What the recursion finds. -/
def findC (x : S38) (out : List Int) (d m : Nat) : Option (List Int) := (pays x.f4.toNat d m).find? fun t => sureB x (out ++ t)
/-- Only two blocks turn. -/
structure Keep2 (a b : Nat) (A B : World) : Prop where
 os : B.os = A.os
 tape : B.tape = A.tape
 output : B.output = A.output
 size : A.heap.size ≤ B.heap.size
 block : ∀ k, k < A.heap.size → k ≠ a → k ≠ b → B.heap[k]? = A.heap[k]?
variable {a b : Nat} {A B C : World}
theorem Keep2.refl (a b : Nat) (A : World) : Keep2 a b A A := ⟨rfl, rfl, rfl, Nat.le_refl _, fun _ _ _ _ => rfl⟩
theorem Keep2.trans (h : Keep2 a b A B) (k : Keep2 a b B C) : Keep2 a b A C :=
 ⟨k.os.trans h.os, k.tape.trans h.tape, k.output.trans h.output, Nat.le_trans h.size k.size, fun j hj h1 h2 => (k.block j (Nat.lt_of_lt_of_le hj h.size) h1 h2).trans (h.block j hj h1 h2)⟩
theorem Keep2.of_below (h : Below A.heap.size A B) : Keep2 a b A B := ⟨h.os, h.tape, h.output, h.size, fun k hk _ _ => h.block k hk⟩
theorem Keep2.ofL (h : MachKeep a 1 A B) : Keep2 a b A B := ⟨h.os, h.tape, h.output, h.size, fun k hk h1 _ => h.block k hk (by omega)⟩
theorem Keep2.ofR (h : MachKeep b 1 A B) : Keep2 a b A B := ⟨h.os, h.tape, h.output, h.size, fun k hk _ h2 => h.block k hk (by omega)⟩
theorem Keep2.below {n : Nat} {w : World} (h : Keep2 a b A C) (hb : Below n w A) (hB : n ≤ w.heap.size) (ha : n ≤ a) (hb2 : n ≤ b) : Below n w C :=
 ⟨h.os.trans hb.os, h.tape.trans hb.tape, h.output.trans hb.output, Nat.le_trans hb.size h.size, fun k hk => (h.block k (by have := hb.size; omega) (by omega) (by omega)).trans (hb.block k hk)⟩
theorem Keep2.mach {w : World} (h : Keep2 a b A C) (hb : MachKeep b 1 w A) (ha : w.heap.size ≤ a) : MachKeep b 1 w C :=
 ⟨h.os.trans hb.os, h.tape.trans hb.tape, h.output.trans hb.output, Nat.le_trans hb.size h.size, fun k hk hn => (h.block k (by have := hb.size; omega) (by omega) (by omega)).trans (hb.block k hk hn)⟩
theorem _root_.Go.Proofs.Ytdgkhoflajdidaa.Blk.keep2 {g : Nat} {cs : Array Value} {t : TypeId} (h : Blk A g cs t) (hk : Keep2 a b A B) (h1 : g ≠ a) (h2 : g ≠ b) : Blk B g cs t := (hk.block g h.lt h1 h2).trans h
/-- A map in block b. -/
def IsMap (b : Nat) (W : World) : Prop := ∃ es c, W.heap[b]? = some (.map es c)
theorem Known.isMap {x : S38} {mb n : Nat} {W : World} (h : Known x mb n W) : IsMap mb W := by
 obtain ⟨es, c, h1, _⟩ := h
 exact ⟨es, c, h1⟩
theorem cell_mach {p : Addr} {v : Value} (hM : IsMap b A) (hk : MachKeep b 1 A B) (hc : A.cell? p = some v) : B.cell? p = some v := by
 obtain ⟨o, ho, h2⟩ := cells_of_cell hc
 have hne : p.block ≠ b := by
  rintro rfl
  obtain ⟨es, c, h1⟩ := hM
  rw [h1] at ho
  cases ho
  cases h2
 exact (World.cell?_of_block (hk.block p.block (Array.getElem?_eq_some_iff.1 ho).1 (by omega))).trans hc
theorem Kd.C_keep {α : Type} {d : Kd α} {W V : World} {D : Option Addr} {n : Nat} {xs : List α} (hK : ∀ p c, d.K W p c → d.K V p c) (hc : ∀ p v, W.cell? p = some v → V.cell? p = some v) (h : Kd.C d W D n xs) : Kd.C d V D n xs := by
 refine ⟨h.1, h.2.1, fun h0 => ?_⟩
 obtain ⟨ad, e, hh⟩ := h.2.2 h0
 refine ⟨ad, e, fun j p hj => ?_⟩
 obtain ⟨c, hs, hr, hcell⟩ := hh j p hj
 exact ⟨c, hs, hK _ _ hr, fun i u hu => hc _ _ (hcell i u hu)⟩
theorem k38_mach {x : S38} {cs : List Value} (hM : IsMap b A) (hk : MachKeep b 1 A B) (h : k38.K A x cs) : k38.K B x cs := by
 obtain ⟨A5, c5, A6, c6, A9, c9, A10, c10, rfl, l5, g5, l6, g6, l9, g9, l10, g10⟩ := k38_open h
 have hc := fun p v (hh : A.cell? p = some v) => cell_mach hM hk hh
 exact k38_mk B x l5 (Kd.C_keep (W := A) (V := B) (d := Kd.int .i64) (fun p c h => h) hc g5) l6 (Kd.C_keep (W := A) (V := B) (d := Kd.int .i64) (fun p c h => h) hc g6) l9 (Kd.C_keep (fun p c h => by rw [k35_open h]; exact k35_mk B p) hc g9) l10 (Kd.C_keep (fun p c h => by rw [k119_open h]; exact k119_mk B p) hc g10)
theorem isMap_ne {g : Nat} {cs : Array Value} {t : TypeId} (hM : IsMap b A) (h : Blk A g cs t) : g ≠ b := by
 rintro rfl
 obtain ⟨es, c, h1⟩ := hM
 unfold Blk at h
 rw [h1] at h
 cases h
theorem WorkAt.mach {x : S38} {cs : List Value} {g : Nat} (hM : IsMap b A) (hk : MachKeep b 1 A B) (h : WorkAt x cs g b A) : WorkAt x cs g b B := by
 obtain ⟨D, c, h1, h2⟩ := h
 exact ⟨D, c, h1.mach hk (by have := isMap_ne hM h1; omega), Kd.C_keep (fun p c h => by rw [k133_open h]; exact k133_mk B p) (fun p v hh => cell_mach hM hk hh) h2⟩
theorem C_keep2 {D : Option Addr} {xs : List Int} (h : Kd.C (Kd.int .i64) A D xs.length xs) (hM : IsMap b A) (hk : Keep2 a b A B) (hne : ∀ ad, D = some ad → 0 < xs.length → ad.block ≠ a) : Kd.C (Kd.int .i64) B D xs.length xs := by
 refine ⟨h.1, h.2.1, fun h0 => ?_⟩
 obtain ⟨ad, e, hc⟩ := h.2.2 h0
 refine ⟨ad, e, fun j p hj => ?_⟩
 obtain ⟨c, hs, hr, hcell⟩ := hc j p hj
 refine ⟨c, hs, hr, fun i u hu => ?_⟩
 have h1 := hcell i u hu
 have hb : (ad.add (j * (Kd.int .i64).sz + i)).block = ad.block := by unfold Addr.add; split <;> rfl
 obtain ⟨o, ho, h2⟩ := cells_of_cell h1
 have hnb : (ad.add (j * (Kd.int .i64).sz + i)).block ≠ b := by
  intro hh
  obtain ⟨es, c, h3⟩ := hM
  rw [hh, h3] at ho
  cases ho
  cases h2
 exact (World.cell?_of_block (hk.block _ (Array.getElem?_eq_some_iff.1 ho).1 (by rw [hb]; exact hne ad e h0) hnb)).trans h1
/-- What the recursion reads: coppers in Bc, what is found in Bf, the work's pointer in Bw, the recursion in Bl. -/
structure LcOk (x : S38) (cs : List Value) (Bf Bc Bl Bw g mb : Nat) (w1 : World) (W : World) : Prop where
 c : Blk W Bc cs.toArray 38
 l : Blk W Bl #[.func (.func 111) #[] #[.pointer (some ⟨Bc, 0, none⟩), .pointer (some ⟨Bf, 0, none⟩), .pointer (some ⟨Bw, 0, none⟩), .pointer (some ⟨Bl, 0, none⟩)]] 128
 wb : Blk W Bw #[.pointer (some ⟨g, 0, none⟩)] 107
 f : ∃ v, Blk W Bf #[v] 22
 mach : MachKeep mb 1 w1 W
 hc : Bc ≠ Bf
 hl : Bl ≠ Bf
 hw : Bw ≠ Bf
 hf : w1.heap.size ≤ Bf
 im : IsMap mb W
theorem IsMap.below (h : IsMap b A) (hb : Below A.heap.size A B) : IsMap b B := by
 obtain ⟨es, c, h1⟩ := h
 exact ⟨es, c, (hb.block b (Array.getElem?_eq_some_iff.1 h1).1).trans h1⟩
theorem LcOk.below {x : S38} {cs : List Value} {Bf Bc Bl Bw g mb : Nat} {w1 W V : World} (h : LcOk x cs Bf Bc Bl Bw g mb w1 W) (hb : Below W.heap.size W V) : LcOk x cs Bf Bc Bl Bw g mb w1 V :=
 ⟨h.c.below hb, h.l.below hb, h.wb.below hb, h.f.elim fun v hv => ⟨v, hv.below hb⟩, h.mach.trans (MachKeep.of_below hb), h.hc, h.hl, h.hw, h.hf, h.im.below hb⟩
theorem LcOk.keep {x : S38} {cs : List Value} {Bf Bc Bl Bw g mb : Nat} {w1 W V : World} (h : LcOk x cs Bf Bc Bl Bw g mb w1 W) (hk : Keep2 Bf mb W V) (hf : ∃ v, Blk V Bf #[v] 22) (hM : IsMap mb V) : LcOk x cs Bf Bc Bl Bw g mb w1 V :=
 ⟨h.c.keep2 hk h.hc (isMap_ne h.im h.c), h.l.keep2 hk h.hl (isMap_ne h.im h.l), h.wb.keep2 hk h.hw (isMap_ne h.im h.wb), hf, hk.mach h.mach h.hf, h.hc, h.hl, h.hw, h.hf, hM⟩
/-- What it leaves. -/
def LcPost (x : S38) (out : List Int) (d m Bf mb n : Nat) (W : World) (e : Ending) (W' : World) : Prop :=
 Keep2 Bf mb W W' ∧ Known x mb (n + 4 ^ d) W' ∧ ((e = .returned (.bool true) ∧ ∃ t, findC x out d m = some t ∧ ∃ D c, Blk W' Bf #[.slice D (out ++ t).length c] 22 ∧ Kd.C (Kd.int .i64) W' D (out ++ t).length (out ++ t)) ∨ (e = .returned (.bool false) ∧ findC x out d m = none ∧ ∃ v, Blk W' Bf #[v] 22))
end Go.Proofs.Ytdgkhoflajdidaa
/- Least's recursion: the walk. -/
namespace Go.Proofs.Ytdgkhoflajdidaa
open Go.RowKit Go.Proofs.YtdgkhoflajdidaaW.PrintWords Go.Proofs.YtdgkhoflajdidaaW.PrintMore Go.Proofs.YtdgkhoflajdidaaW.PrintLast Go.Proofs.Ytdgkhoflajdidaa.Print
set_option linter.unusedVariables false
set_option linter.unusedSimpArgs false
set_option maxRecDepth 100000 in
set_option maxHeartbeats 4000000 in
theorem least0_calls (x : S38) (cs : List Value) (w1 : World) (g mb : Nat) (hx : k38.K w1 x cs) (hV : Valid x) (hM : IsMap mb w1) (hW : WorkAt x cs g mb w1) (Bf Bc Bl Bw : Nat) (m : Nat) (out : List Int) (A : Option Addr) (c n : Nat) (W : World)
    (hL : LcOk x cs Bf Bc Bl Bw g mb w1 W) (hK : Known x mb n W) (hn : n < maxLen) (hC : Kd.C (Kd.int .i64) W A out.length out) (hA : ∀ ad, A = some ad → 0 < out.length → ad.block ≠ Bf) (hlen : (out.length : Int) = x.f0 + 1) (hv : ∀ q ∈ out, 0 ≤ q ∧ q ≤ 3) :
    Calls Try.prog 111 #[.slice A out.length c, .int .i64 m, .pointer (some ⟨Bc, 0, none⟩), .pointer (some ⟨Bf, 0, none⟩), .pointer (some ⟨Bw, 0, none⟩), .pointer (some ⟨Bl, 0, none⟩)] W (LcPost x out 0 m Bf mb n W) := by
 obtain ⟨v, hf⟩ := hL.f
 have hfc := hf.cell 0 _ rfl
 have hff := hf.frozen 0
 have hk2 : Keep2 Bf mb W (W.setCell ⟨Bf, 0, none⟩ (.slice A out.length c)) := Keep2.ofL (MachKeep.setCell _ _ (by show Bf ≤ Bf; omega) (by show Bf < Bf + 1; omega))
 have hne : mb ≠ Bf := fun e => isMap_ne hL.im hf e.symm
 have hKn : Known x mb n (W.setCell ⟨Bf, 0, none⟩ (.slice A out.length c)) := by
  obtain ⟨es, clock, h1, h2, h3, h4⟩ := hK
  exact ⟨es, clock, (Below.heap_setCell W ⟨Bf, 0, none⟩ _ mb hne).trans h1, h2, h3, h4⟩
 have hL2 := hL.keep hk2 ⟨_, hf.set 0 _⟩ hKn.isMap
 have hC2 := C_keep2 hC hL.im hk2 hA
 have hcoal : CoalL x out := ⟨hlen, hv⟩
 have hcall := sure_calls x cs g mb n A c out _ (k38_mach hM hL2.mach hx) hV (hW.mach hM hL2.mach) hKn hn hC2 hcoal
 obtain ⟨sb, hsb⟩ : ∃ b, sureB x out = b := ⟨_, rfl⟩
 have hfs : findC x out 0 m = if m = 0 then (if sureB x out then some [] else none) else none := by
  unfold findC pays
  by_cases h : m = 0
  ·simp only [h, if_true, List.find?, List.append_nil]; cases sureB x out <;> rfl
  ·simp only [if_neg h]; rfl
 rw [hsb] at hfs
 unfold SurePost at hcall
 rw [hsb] at hcall
 have hbc := hL2.c
 obtain ⟨A5, c5, A6, c6, A9, c9, A10, c10, hcs, _⟩ := k38_open hx
 rw [hcs] at hbc
 have k0 := hL.c.cell 0 (.int .i64 x.f0) (by rw [hcs]; rfl)
 have kw := hL2.wb.cell 0 _ rfl
 have hu := Try.underlying38
 have hl1 := hV.last1
 have hl0 := hV.last0
 have HH := Aside0.mk (And.intro hk2 (And.intro hKn (And.intro (hf.set 0 (.slice A out.length c)) hC2)))
 have HFS := Lib.hid hfs
 have HSB := Lib.hid hsb
 have HCL := Aside0.mk hcall
 have hLE := Lib.hid hlen
 have hle2 : ((out.length : Int) == x.f0 + 1) = true := by simpa using hlen
 clear hfs hsb hcall hk2 hKn hL2 hC2 hf hbc hL hK hC hA hcoal hv hx hV hM hW hn hlen hne hcs
 by_cases hm : m = 0
 ·subst hm
  cases hb : sb with
  | true =>
   subst hb
   go_enter Try.func111, Try.ntmps111
   go_wp2_with (go_at_call 112; refine HCL.out.mono ?_; rintro e w3 ⟨rfl, hmk3, hkn3⟩; have H3 := Aside0.mk (And.intro hmk3 hkn3); clear hmk3 hkn3)
   go_ret
   refine ⟨HH.out.1.trans (Keep2.ofR H3.out.1), H3.out.2, .inl ⟨rfl, [], by rw [HFS.out]; rfl, A, c, ?_, ?_⟩⟩
   ·rw [List.append_nil]; exact HH.out.2.2.1.mach H3.out.1 (by have := isMap_ne HH.out.2.1.isMap HH.out.2.2.1; omega)
   ·rw [List.append_nil]; exact Kd.C_keep (W := W.setCell ⟨Bf, 0, none⟩ (.slice A out.length c)) (V := w3) (d := Kd.int .i64) (fun p c h => h) (fun p v hh => cell_mach HH.out.2.1.isMap H3.out.1 hh) HH.out.2.2.2
  | false =>
   subst hb
   go_enter Try.func111, Try.ntmps111
   go_wp2_with (go_at_call 112; refine HCL.out.mono ?_; rintro e w3 ⟨rfl, hmk3, hkn3⟩; have H3 := Aside0.mk (And.intro hmk3 hkn3); clear hmk3 hkn3)
   go_ret
   exact ⟨HH.out.1.trans (Keep2.ofR H3.out.1), H3.out.2, .inr ⟨rfl, by rw [HFS.out]; rfl, _, HH.out.2.2.1.mach H3.out.1 (by have := isMap_ne HH.out.2.1.isMap HH.out.2.2.1; omega)⟩⟩
 ·have hm2 : ((m : Int) == 0) = false := by simpa using hm
  have HM := Lib.hid hm
  clear hm HCL
  go_enter Try.func111, Try.ntmps111
  go_wp2
  go_ret
  exact ⟨HH.out.1, HH.out.2.1.mono (by simp), .inr ⟨rfl, by rw [HFS.out, if_neg HM.out], _, HH.out.2.2.1⟩⟩
end Go.Proofs.Ytdgkhoflajdidaa
