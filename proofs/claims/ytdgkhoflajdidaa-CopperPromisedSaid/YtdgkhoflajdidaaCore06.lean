/- Lemmas for the laws' proofs: De, Ea, Eb, Ec, Ed. -/
import Derived.Test.YtdgkhoflajdidaaCore05
import Derived.RangeFuncNested
import Derived.RangeFuncBound
import Derived.RangeFuncCalls
import Derived.RangeFuncLeaves
import Derived.Shelf.Abstract
import Derived.Shelf.RegionOpen
import Derived.WalkKit
import Derived.OwnWalkIn
import Derived.TacticsInMore
import Derived.LoopNIn
import Derived.LoopIn
import Derived.OrdersIn
import Derived.Laws.EntriesVeiled
/- right: are all readings but some right. -/
namespace Go.Proofs.Ytdgkhoflajdidaa
open Go.RowKit Go.Proofs.YtdgkhoflajdidaaW.PrintWords Go.Proofs.YtdgkhoflajdidaaW.PrintMore Go.Proofs.YtdgkhoflajdidaaW.PrintLast Go.Proofs.Ytdgkhoflajdidaa.Print
set_option linter.unusedVariables false
set_option linter.unusedSimpArgs false
set_option maxRecDepth 100000 in
set_option maxHeartbeats 4000000 in
theorem right_calls (x : S38) (cs : List Value) (s : Sc) (C : Option Addr) (c : Nat) (out : List Int) (w : World) (hx : k38.K w x cs) (hout : Kd.C (Kd.int .i64) w C out.length out) (hV : Valid x) (hS : ScOk s) :
    Calls Try.prog 100 #[.agg cs.toArray, .agg #[.int .i64 s.h, .int .i64 s.l0, .int .i64 s.l1, .int .i64 s.l2, .int .i64 s.l3, .int .i64 s.l4], .slice C out.length c] w
     fun e w' => e = .returned (.bool (rightB x s out)) ∧ Below w.heap.size w w' := by
 obtain ⟨A5, c5, A6, c6, A9, c9, A10, c10, hcs, l5, g5, l6, g6, l9, g9, l10, g10⟩ := k38_open hx
 have HX := Aside0.mk hx
 subst hcs
 have HP := Aside0.mk (hV.play0 hS)
 have HV := Aside0.mk hV
 have HO := Aside0.mk hout
 have G5 := Aside0.mk g5
 have G6 := Aside0.mk g6
 have G10 := Aside0.mk g10
 have hl10 := g10.2.1
 have hf0 := hV.last0
 have hf1 := hV.last1
 have hcall := fun W (hW : Below w.heap.size w W) => play_calls x _ s A5 A6 c5 c6 x.f5 x.f6 W (k38.K_below hW HX.out) (Kd.C_below G5.out hW) (Kd.C_below G6.out hW) HP.out
 have HCALL := Aside0.mk hcall
 clear hx g5 g6 g9 g10 l5 l6 l9 l10 hV hS hout hcall
 have hu := Try.underlying38
 have hu2 := Try.underlying133
 have hu3 := Try.underlying114
 have hu4 := Try.underlying119
 have hu5 := Try.underlying35
 have hb0 : ∀ o1 o2, Below w.heap.size w ((w.alloc o1).alloc o2) := fun o1 o2 => below_alloc (below_alloc (Below.refl _ _) _) _
 have HB0 := Aside0.mk hb0
 clear hb0
 go_enter Try.func100, Try.ntmps100
 go_wp2_with (go_at_call 97; refine (HCALL.out _ (HB0.out _ _)).mono ?_; rintro e w1 ⟨v0, v1, v2, rfl, hpast, hb1⟩; have hB1 := bel2 (HB0.out _ _) hb1; have BC := ((Blk.new w _ 38 _ rfl).alloc _).below hb1; obtain ⟨P0, d0, P1, d1, P2, d2, hve, hl0, hg0, hl1, hg1, hl2, hg2⟩ := k114_open hpast; simp only [List.cons.injEq, and_true] at hve; obtain ⟨rfl, rfl, rfl⟩ := hve; have HB1 := Aside0.mk hB1; have HBC := Aside0.mk BC; have HG0 := Aside0.mk hg0; have hlz := BC.lt; have kc := BC.cell 9 _ rfl; have kc10 := BC.cell 10 _ rfl; clear hB1 BC hg0 hg1 hg2 hpast hb1 kc)
 have hb7 := below_alloc (Below.refl w1.heap.size w1) (.cells #[.slice P0 (pastOf x s x.f5 x.f6).f0.length d0, .slice P1 (pastOf x s x.f5 x.f6).f1.length d1, .slice P2 (pastOf x s x.f5 x.f6).f2.length d2] 114)
 have BG := Blk.new w1 #[.slice P0 (pastOf x s x.f5 x.f6).f0.length d0, .slice P1 (pastOf x s x.f5 x.f6).f1.length d1, .slice P2 (pastOf x s x.f5 x.f6).f2.length d2] 114 _ rfl
 have hz7 : (w1.alloc (.cells #[.slice P0 (pastOf x s x.f5 x.f6).f0.length d0, .slice P1 (pastOf x s x.f5 x.f6).f1.length d1, .slice P2 (pastOf x s x.f5 x.f6).f2.length d2] 114)).heap.size = w1.heap.size + 1 := by simp
 generalize hW7 : w1.alloc (.cells #[.slice P0 (pastOf x s x.f5 x.f6).f0.length d0, .slice P1 (pastOf x s x.f5 x.f6).f1.length d1, .slice P2 (pastOf x s x.f5 x.f6).f2.length d2] 114) = W7 at hb7 BG hz7 ⊢
 have HB7 := Aside0.mk (bel2 HB1.out hb7)
 have HBC7 := Aside0.mk (HBC.out.below hb7)
 have HBG7 := Aside0.mk BG
 have HG07 := Aside0.mk (Kd.C_below HG0.out hb7)
 generalize hgg : w1.heap.size = g7 at *
 clear hb7 BG hW7 HB1 HBC HG0 kc10 HCALL HB0
 have kc11 := HBC7.out.cell 10 _ rfl
 have hl0 : (pastOf x s x.f5 x.f6).f0 = hots x s x.f5 x.f6 (x.f0 + 1).toNat := rfl
 rw [hl0] at HG07 HBG7
 have hpl : (hots x s x.f5 x.f6 (x.f0 + 1).toNat).length = (x.f0 + 1).toNat := hots_len _
 go_wp2
 go_loopw [20] (fun s20 wr => ∃ kk : Nat, kk ≤ x.f9.length ∧ s20 = .int .i64 kk ∧ Aside0 (Below W7.heap.size W7 wr) ∧ Aside0 (∀ j, j < kk → okAt x s out j = true)) (fun s20 _ => x.f9.length - (intOf s20).toNat)
 case atStart => exact ⟨0, Nat.zero_le _, rfl, ⟨Below.refl _ _⟩, ⟨fun j hj => absurd hj (Nat.not_lt_zero _)⟩⟩
 case round =>
  obtain ⟨kk, hkk, rfl, HBW, HA⟩ := hrel
  by_cases hlt : kk < x.f9.length
  ·have hltz : (kk : Int) < (x.f9.length : Int) := by omega
   obtain ⟨ad, hA, hc0, hc1, hc2⟩ := row_at_rd (Kd.C_below (Kd.C_below G10.out HB7.out) HBW.out) kk hlt
   obtain rfl := hA
   have hrv := HV.out.rdV _ (List.getElem_mem hlt)
   have hok : okAt x s out kk = ((out.any fun y => (kk : Int) == y) || inR (hotAt x s x.f5 x.f6 (x.f9[kk].f0).toNat) x.f9[kk].f1.f0 x.f9[kk].f1.f1) := by
    unfold okAt; rw [show x.f9.getD kk z119 = x.f9[kk] by simp [hlt]]
   have HOK := Lib.hid hok
   generalize hy : x.f9[kk] = y at *
   obtain ⟨hr0, hr1, hr2, hr3, hr4⟩ := hrv
   have hhz : y.f0.toNat < (hots x s x.f5 x.f6 (x.f0 + 1).toNat).length := by rw [hpl]; omega
   obtain ⟨ap, hap, hch⟩ := row_at_int (Kd.C_below HG07.out HBW.out) y.f0.toNat hhz
   obtain rfl := hap
   rw [hots_getD (by omega)] at hch
   generalize hh : hotAt x s x.f5 x.f6 y.f0.toNat = hot at *
   have hyz : y.f0 < ((hots x s x.f5 x.f6 (x.f0 + 1).toNat).length : Int) := by omega
   have hg0 := (HBG7.out.below HBW.out).cell 0 _ rfl
   clear hpl
   go_wp2
   have hb9 := below_alloc (Below.refl wr.heap.size wr) (.cells #[.int .i64 y.f0, .int .i64 y.f1.f0, .int .i64 y.f1.f1] 119)
   have B9 := Blk.new wr #[.int .i64 y.f0, .int .i64 y.f1.f0, .int .i64 y.f1.f1] 119 _ rfl
   generalize hw9 : wr.alloc (.cells #[.int .i64 y.f0, .int .i64 y.f1.f0, .int .i64 y.f1.f1] 119) = w9 at hb9 B9 ⊢
   have kr0 := B9.cell 0 _ rfl
   have kr1 := B9.cell 1 _ rfl
   have kr2 := B9.cell 2 _ rfl
   have kg0 := pw_cell_below hb9 hg0
   have kh := pw_cell_below hb9 hch
   have HB9 := Aside0.mk (bel2 HBW.out hb9)
   have hcon := fun W (hW : Below w.heap.size w W) => contains_int kk C c out W (Kd.C_below HO.out hW)
   have HBw9 := Aside0.mk (bel2 HB7.out HB9.out)
   clear hw9 hb9 B9 hg0 hch hc0 hc1 hc2
   cases hq : (out.any fun z => (kk : Int) == z) with
   | true =>
    rw [hq] at hcon
    have HQ := Lib.hid (show okAt x s out kk = true by rw [HOK.out, hq, Bool.true_or])
    clear hq
    have HCON := Aside0.mk hcon
    clear hcon
    refine start_ (n := 16) (S := fun w' => w'.cell? ⟨wr.heap.size, 0, none⟩ = some (.int .i64 y.f0) ∧ w'.cell? ⟨wr.heap.size, 1, none⟩ = some (.int .i64 y.f1.f0) ∧ w'.cell? ⟨wr.heap.size, 2, none⟩ = some (.int .i64 y.f1.f1) ∧ w'.cell? ⟨g7, 0, none⟩ = some (.slice (some ap) (hots x s x.f5 x.f6 (x.f0 + 1).toNat).length d0) ∧ w'.cell? (ap.add y.f0.toNat) = some (.int .i64 hot)) (ds := []) #[false, false, false, false, false, false, false, false, false, false, false, false, false, false, false, false] (by kernel_rfl) rfl rfl ⟨kr0, kr1, kr2, kg0, kh⟩ (fun hHeld => ?_)
    refine pure_ (i := 0) (N := some 25) (v := ?_) (a' := ?_) (bs 16 1) rfl rfl (by kernel_rfl) (fun _ _ _ h => h) (Or.inl ⟨by rfl, ?_⟩) ?_ ?_
    rotate_left
    ·intro w'
     go_simp
     with_reducible rfl
    rotate_left
    ·simp only [Act.put, List.setIfInBounds_toArray, List.set_cons_zero, List.set_cons_succ, i64_w, i32_w]
     rfl
    refine pure_ (i := 1) (N := some 26) (v := ?_) (a' := ?_) (bs 16 3) rfl rfl (by kernel_rfl) (fun _ _ _ h => h) (Or.inl ⟨by rfl, ?_⟩) ?_ ?_
    rotate_left
    ·intro w'
     go_simp
     with_reducible rfl
    rotate_left
    ·simp only [Act.put, List.setIfInBounds_toArray, List.set_cons_zero, List.set_cons_succ, i64_w, i32_w]
     rfl
    refine one_ (i := 2) (N := some 27) (bs 16 7) rfl rfl (by kernel_rfl) (by decide) (fun K hK => ?_)
    refine goes_ Try.func124 (by kernel_rfl) rfl #[.slice C out.length c, .int .i64 (kk : Int)] (by rfl) rfl rfl (by simp only [List.map_toArray, List.map_cons, List.map_nil]; rfl) ?_
    with_reducible refine (HCON.out _ (below_drew HBw9.out)).mono ?_
    rintro e w3 ⟨rfl, rfl⟩
    refine ⟨_, rfl, ?_⟩
    refine hK.out _ _ ⟨hHeld.1, hHeld.2.1, hHeld.2.2.1, hHeld.2.2.2.1, hHeld.2.2.2.2⟩ (fun hHeld => ?_)
    clear hK K
    refine norm_ (a' := ?_) ?_ ?_
    rotate_left
    ·show Act.put _ (some 27) _ = _
     simp only [Act.put, List.setIfInBounds_toArray, List.set_cons_zero, List.set_cons_succ, i64_w, i32_w]
     rfl
    refine pure_ (i := 3) (N := some 28) (v := ?_) (a' := ?_) (bs 16 15) rfl rfl (by kernel_rfl) (fun _ _ _ h => h) (Or.inl ⟨by rfl, ?_⟩) ?_ ?_
    rotate_left
    ·intro w'
     go_simp
     with_reducible rfl
    rotate_left
    ·simp only [Act.put, List.setIfInBounds_toArray, List.set_cons_zero, List.set_cons_succ, i64_w, i32_w]
     rfl
    refine pure_ (i := 4) (N := some 29) (v := ?_) (a' := ?_) (bs 16 31) rfl rfl (by kernel_rfl) (fun _ _ _ h => h) (Or.inl ⟨by rfl, ?_⟩) ?_ ?_
    rotate_left
    ·intro w'
     go_simp
     with_reducible rfl
    rotate_left
    ·simp only [Act.put, List.setIfInBounds_toArray, List.set_cons_zero, List.set_cons_succ, i64_w, i32_w]
     rfl
    refine pure_ (i := 5) (N := some 30) (v := undef) (a' := ?_) (bs 16 63) rfl rfl (by kernel_rfl) (fun _ _ _ h => h) (Or.inr ⟨by rfl, rfl⟩) ?_ ?_
    rotate_left
    ·simp only [Act.put, List.setIfInBounds_toArray, List.set_cons_zero, List.set_cons_succ, i64_w, i32_w]
     rfl
    refine pure_ (i := 6) (N := some 31) (v := undef) (a' := ?_) (bs 16 127) rfl rfl (by kernel_rfl) (fun _ _ _ h => h) (Or.inr ⟨by rfl, rfl⟩) ?_ ?_
    rotate_left
    ·simp only [Act.put, List.setIfInBounds_toArray, List.set_cons_zero, List.set_cons_succ, i64_w, i32_w]
     rfl
    refine pure_ (i := 7) (N := some 32) (v := undef) (a' := ?_) (bs 16 255) rfl rfl (by kernel_rfl) (fun _ _ _ h => h) (Or.inr ⟨by rfl, rfl⟩) ?_ ?_
    rotate_left
    ·simp only [Act.put, List.setIfInBounds_toArray, List.set_cons_zero, List.set_cons_succ, i64_w, i32_w]
     rfl
    refine pure_ (i := 8) (N := some 33) (v := undef) (a' := ?_) (bs 16 511) rfl rfl (by kernel_rfl) (fun _ _ _ h => h) (Or.inr ⟨by rfl, rfl⟩) ?_ ?_
    rotate_left
    ·simp only [Act.put, List.setIfInBounds_toArray, List.set_cons_zero, List.set_cons_succ, i64_w, i32_w]
     rfl
    refine pure_ (i := 9) (N := some 34) (v := undef) (a' := ?_) (bs 16 1023) rfl rfl (by kernel_rfl) (fun _ _ _ h => h) (Or.inr ⟨by rfl, rfl⟩) ?_ ?_
    rotate_left
    ·simp only [Act.put, List.setIfInBounds_toArray, List.set_cons_zero, List.set_cons_succ, i64_w, i32_w]
     rfl
    refine pure_ (i := 10) (N := some 35) (v := undef) (a' := ?_) (bs 16 2047) rfl rfl (by kernel_rfl) (fun _ _ _ h => h) (Or.inr ⟨by rfl, rfl⟩) ?_ ?_
    rotate_left
    ·simp only [Act.put, List.setIfInBounds_toArray, List.set_cons_zero, List.set_cons_succ, i64_w, i32_w]
     rfl
    refine pure_ (i := 11) (N := some 36) (v := undef) (a' := ?_) (bs 16 4095) rfl rfl (by kernel_rfl) (fun _ _ _ h => h) (Or.inr ⟨by rfl, rfl⟩) ?_ ?_
    rotate_left
    ·simp only [Act.put, List.setIfInBounds_toArray, List.set_cons_zero, List.set_cons_succ, i64_w, i32_w]
     rfl
    refine pure_ (i := 12) (N := some 37) (v := undef) (a' := ?_) (bs 16 8191) rfl rfl (by kernel_rfl) (fun _ _ _ h => h) (Or.inr ⟨by rfl, rfl⟩) ?_ ?_
    rotate_left
    ·simp only [Act.put, List.setIfInBounds_toArray, List.set_cons_zero, List.set_cons_succ, i64_w, i32_w]
     rfl
    refine pure_ (i := 13) (N := some 38) (v := undef) (a' := ?_) (bs 16 16383) rfl rfl (by kernel_rfl) (fun _ _ _ h => h) (Or.inr ⟨by rfl, rfl⟩) ?_ ?_
    rotate_left
    ·simp only [Act.put, List.setIfInBounds_toArray, List.set_cons_zero, List.set_cons_succ, i64_w, i32_w]
     rfl
    refine pure_ (i := 14) (N := some 39) (v := undef) (a' := ?_) (bs 16 32767) rfl rfl (by kernel_rfl) (fun _ _ _ h => h) (Or.inr ⟨by rfl, rfl⟩) ?_ ?_
    rotate_left
    ·simp only [Act.put, List.setIfInBounds_toArray, List.set_cons_zero, List.set_cons_succ, i64_w, i32_w]
     rfl
    refine pure_ (i := 15) (N := some 40) (v := ?_) (a' := ?_) (bs 16 65535) rfl rfl (by kernel_rfl) (fun _ _ _ h => h) (Or.inl ⟨by rfl, ?_⟩) ?_ ?_
    rotate_left
    ·intro w'
     go_simp
     with_reducible rfl
    rotate_left
    ·simp only [Act.put, List.setIfInBounds_toArray, List.set_cons_zero, List.set_cons_succ, i64_w, i32_w]
     rfl
    refine done_ (by kernel_rfl) ?_
    clear hHeld
    go_wp2
    go_roundw
    case rel => exact ⟨kk + 1, by omega, by go_num, ⟨below_drew HB9.out⟩, ⟨fun j hj => by rcases Nat.lt_succ_iff_lt_or_eq.1 hj with h | h; exact HA.out j h; subst h; exact HQ.out⟩⟩
    case measure => simp [intOf]; omega
   | false =>
    rw [hq] at hcon
    have HOQ := Lib.hid (show okAt x s out kk = inR hot y.f1.f0 y.f1.f1 by rw [HOK.out, hq, Bool.false_or])
    clear hq
    have HCON := Aside0.mk hcon
    have hhas := fun W => has_calls y.f1 hot W
    clear hcon
    cases hi : inR hot y.f1.f0 y.f1.f1 with
    | true =>
     rw [hi] at hhas
     have HHAS := Aside0.mk hhas
     have HQ := Lib.hid (HOQ.out.trans hi)
     clear hi hhas
     refine start_ (n := 16) (S := fun w' => w'.cell? ⟨wr.heap.size, 0, none⟩ = some (.int .i64 y.f0) ∧ w'.cell? ⟨wr.heap.size, 1, none⟩ = some (.int .i64 y.f1.f0) ∧ w'.cell? ⟨wr.heap.size, 2, none⟩ = some (.int .i64 y.f1.f1) ∧ w'.cell? ⟨g7, 0, none⟩ = some (.slice (some ap) (hots x s x.f5 x.f6 (x.f0 + 1).toNat).length d0) ∧ w'.cell? (ap.add y.f0.toNat) = some (.int .i64 hot)) (ds := []) #[false, false, false, false, false, false, false, false, false, false, false, false, false, false, false, false] (by kernel_rfl) rfl rfl ⟨kr0, kr1, kr2, kg0, kh⟩ (fun hHeld => ?_)
     refine pure_ (i := 0) (N := some 25) (v := ?_) (a' := ?_) (bs 16 1) rfl rfl (by kernel_rfl) (fun _ _ _ h => h) (Or.inl ⟨by rfl, ?_⟩) ?_ ?_
     rotate_left
     ·intro w'
      go_simp
      with_reducible rfl
     rotate_left
     ·simp only [Act.put, List.setIfInBounds_toArray, List.set_cons_zero, List.set_cons_succ, i64_w, i32_w]
      rfl
     refine pure_ (i := 1) (N := some 26) (v := ?_) (a' := ?_) (bs 16 3) rfl rfl (by kernel_rfl) (fun _ _ _ h => h) (Or.inl ⟨by rfl, ?_⟩) ?_ ?_
     rotate_left
     ·intro w'
      go_simp
      with_reducible rfl
     rotate_left
     ·simp only [Act.put, List.setIfInBounds_toArray, List.set_cons_zero, List.set_cons_succ, i64_w, i32_w]
      rfl
     refine one_ (i := 2) (N := some 27) (bs 16 7) rfl rfl (by kernel_rfl) (by decide) (fun K hK => ?_)
     refine goes_ Try.func124 (by kernel_rfl) rfl #[.slice C out.length c, .int .i64 (kk : Int)] (by rfl) rfl rfl (by simp only [List.map_toArray, List.map_cons, List.map_nil]; rfl) ?_
     with_reducible refine (HCON.out _ (below_drew HBw9.out)).mono ?_
     rintro e w3 ⟨rfl, rfl⟩
     refine ⟨_, rfl, ?_⟩
     refine hK.out _ _ ⟨hHeld.1, hHeld.2.1, hHeld.2.2.1, hHeld.2.2.2.1, hHeld.2.2.2.2⟩ (fun hHeld => ?_)
     clear hK K
     refine norm_ (a' := ?_) ?_ ?_
     rotate_left
     ·show Act.put _ (some 27) _ = _
      simp only [Act.put, List.setIfInBounds_toArray, List.set_cons_zero, List.set_cons_succ, i64_w, i32_w]
      rfl
     refine pure_ (i := 3) (N := some 28) (v := ?_) (a' := ?_) (bs 16 15) rfl rfl (by kernel_rfl) (fun _ _ _ h => h) (Or.inl ⟨by rfl, ?_⟩) ?_ ?_
     rotate_left
     ·intro w'
      go_simp
      with_reducible rfl
     rotate_left
     ·simp only [Act.put, List.setIfInBounds_toArray, List.set_cons_zero, List.set_cons_succ, i64_w, i32_w]
      rfl
     refine pure_ (i := 4) (N := some 29) (v := ?_) (a' := ?_) (bs 16 31) rfl rfl (by kernel_rfl) (fun _ _ _ h => h) (Or.inl ⟨by rfl, ?_⟩) ?_ ?_
     rotate_left
     ·intro w'
      go_simp
      with_reducible rfl
     rotate_left
     ·simp only [Act.put, List.setIfInBounds_toArray, List.set_cons_zero, List.set_cons_succ, i64_w, i32_w]
      rfl
     refine pure_ (i := 5) (N := some 30) (v := ?_) (a' := ?_) (bs 16 63) rfl rfl (by kernel_rfl) (fun _ _ _ h => h) (Or.inl ⟨by rfl, ?_⟩) ?_ ?_
     rotate_left
     ·intro w'
      go_simp
      with_reducible rfl
     rotate_left
     ·simp only [Act.put, List.setIfInBounds_toArray, List.set_cons_zero, List.set_cons_succ, i64_w, i32_w]
      rfl
     refine pure_ (i := 7) (N := some 32) (v := ?_) (a' := ?_) (bs 16 191) rfl rfl (by kernel_rfl) (fun _ _ _ h => h) (Or.inl ⟨by rfl, ?_⟩) ?_ ?_
     rotate_left
     ·intro w'
      go_simp
      with_reducible rfl
     rotate_left
     ·simp only [Act.put, List.setIfInBounds_toArray, List.set_cons_zero, List.set_cons_succ, i64_w, i32_w]
      rfl
     refine pure_ (i := 9) (N := some 34) (v := ?_) (a' := ?_) (bs 16 703) rfl rfl (by kernel_rfl) (fun _ _ _ h => h) (Or.inl ⟨by rfl, ?_⟩) ?_ ?_
     rotate_left
     ·intro w'
      go_simp
      with_reducible rfl
     rotate_left
     ·simp only [Act.put, List.setIfInBounds_toArray, List.set_cons_zero, List.set_cons_succ, i64_w, i32_w]
      rfl
     refine take_ (i := 6) (N := some 31) (v := ?_) (a' := ?_) (bs 16 767) rfl rfl (by kernel_rfl) (fun _ _ _ h => h) (Or.inl ⟨by rfl, ?_⟩) hHeld ?_ ?_
     rotate_left
     ·rintro w' ⟨s0, s1, s2, s3, s4⟩
      go_simp
      with_reducible rfl
     rotate_left
     ·simp only [Act.put, List.setIfInBounds_toArray, List.set_cons_zero, List.set_cons_succ, i64_w, i32_w]
      rfl
     refine take_ (i := 8) (N := some 33) (v := ?_) (a' := ?_) (bs 16 1023) rfl rfl (by kernel_rfl) (fun _ _ _ h => h) (Or.inl ⟨by rfl, ?_⟩) hHeld ?_ ?_
     rotate_left
     ·rintro w' ⟨s0, s1, s2, s3, s4⟩
      go_simp
      with_reducible rfl
     rotate_left
     ·simp only [Act.put, List.setIfInBounds_toArray, List.set_cons_zero, List.set_cons_succ, i64_w, i32_w]
      rfl
     refine take_ (i := 10) (N := some 35) (v := ?_) (a' := ?_) (bs 16 2047) rfl rfl (by kernel_rfl) (fun _ _ _ h => h) (Or.inl ⟨by rfl, ?_⟩) hHeld ?_ ?_
     rotate_left
     ·rintro w' ⟨s0, s1, s2, s3, s4⟩
      go_simp
      with_reducible rfl
     rotate_left
     ·simp only [Act.put, List.setIfInBounds_toArray, List.set_cons_zero, List.set_cons_succ, i64_w, i32_w]
      rfl
     refine pure_ (i := 11) (N := some 36) (v := ?_) (a' := ?_) (bs 16 4095) rfl rfl (by kernel_rfl) (fun _ _ _ h => h) (Or.inl ⟨by rfl, ?_⟩) ?_ ?_
     rotate_left
     ·intro w'
      go_simp
      with_reducible rfl
     rotate_left
     ·simp only [Act.put, List.setIfInBounds_toArray, List.set_cons_zero, List.set_cons_succ, i64_w, i32_w]
      rfl
     refine take_ (i := 12) (N := some 37) (v := ?_) (a' := ?_) (bs 16 8191) rfl rfl (by kernel_rfl) (fun _ _ _ h => h) (Or.inl ⟨by rfl, ?_⟩) hHeld ?_ ?_
     rotate_left
     ·rintro w' ⟨s0, s1, s2, s3, s4⟩
      go_simp
      with_reducible rfl
     rotate_left
     ·simp only [Act.put, List.setIfInBounds_toArray, List.set_cons_zero, List.set_cons_succ, i64_w, i32_w]
      rfl
     refine one_ (i := 13) (N := some 38) (bs 16 16383) rfl rfl (by kernel_rfl) (by decide) (fun K hK => ?_)
     refine goes_ Try.func123 (by kernel_rfl) rfl #[.agg #[.int .i64 y.f1.f0, .int .i64 y.f1.f1], .int .i64 hot] (by rfl) rfl rfl (by simp only [List.map_toArray, List.map_cons, List.map_nil]; rfl) ?_
     with_reducible refine (HHAS.out _).mono ?_
     rintro e w4 ⟨rfl, hb4⟩
     refine ⟨_, rfl, ?_⟩
     refine hK.out _ _ ⟨pw_cell_below hb4 hHeld.1, pw_cell_below hb4 hHeld.2.1, pw_cell_below hb4 hHeld.2.2.1, pw_cell_below hb4 hHeld.2.2.2.1, pw_cell_below hb4 hHeld.2.2.2.2⟩ (fun hHeld => ?_)
     clear hK K
     refine norm_ (a' := ?_) ?_ ?_
     rotate_left
     ·show Act.put _ (some 38) _ = _
      simp only [Act.put, List.setIfInBounds_toArray, List.set_cons_zero, List.set_cons_succ, i64_w, i32_w]
      rfl
     refine pure_ (i := 14) (N := some 39) (v := ?_) (a' := ?_) (bs 16 32767) rfl rfl (by kernel_rfl) (fun _ _ _ h => h) (Or.inl ⟨by rfl, ?_⟩) ?_ ?_
     rotate_left
     ·intro w'
      go_simp
      with_reducible rfl
     rotate_left
     ·simp only [Act.put, List.setIfInBounds_toArray, List.set_cons_zero, List.set_cons_succ, i64_w, i32_w]
      rfl
     refine pure_ (i := 15) (N := some 40) (v := ?_) (a' := ?_) (bs 16 65535) rfl rfl (by kernel_rfl) (fun _ _ _ h => h) (Or.inl ⟨by rfl, ?_⟩) ?_ ?_
     rotate_left
     ·intro w'
      go_simp
      with_reducible rfl
     rotate_left
     ·simp only [Act.put, List.setIfInBounds_toArray, List.set_cons_zero, List.set_cons_succ, i64_w, i32_w]
      rfl
     refine done_ (by kernel_rfl) ?_
     clear hHeld
     have HB10 := Aside0.mk (bel2 HB9.out (bel2 (below_drew (Below.refl _ _)) hb4))
     go_wp2
     go_roundw
     case rel => exact ⟨kk + 1, by omega, by go_num, HB10, ⟨fun j hj => by rcases Nat.lt_succ_iff_lt_or_eq.1 hj with h | h; exact HA.out j h; subst h; exact HQ.out⟩⟩
     case measure => simp [intOf]; omega
    | false =>
     rw [hi] at hhas
     have HHAS := Aside0.mk hhas
     have HQ := Lib.hid (HOQ.out.trans hi)
     clear hi hhas
     refine start_ (n := 16) (S := fun w' => w'.cell? ⟨wr.heap.size, 0, none⟩ = some (.int .i64 y.f0) ∧ w'.cell? ⟨wr.heap.size, 1, none⟩ = some (.int .i64 y.f1.f0) ∧ w'.cell? ⟨wr.heap.size, 2, none⟩ = some (.int .i64 y.f1.f1) ∧ w'.cell? ⟨g7, 0, none⟩ = some (.slice (some ap) (hots x s x.f5 x.f6 (x.f0 + 1).toNat).length d0) ∧ w'.cell? (ap.add y.f0.toNat) = some (.int .i64 hot)) (ds := []) #[false, false, false, false, false, false, false, false, false, false, false, false, false, false, false, false] (by kernel_rfl) rfl rfl ⟨kr0, kr1, kr2, kg0, kh⟩ (fun hHeld => ?_)
     refine pure_ (i := 0) (N := some 25) (v := ?_) (a' := ?_) (bs 16 1) rfl rfl (by kernel_rfl) (fun _ _ _ h => h) (Or.inl ⟨by rfl, ?_⟩) ?_ ?_
     rotate_left
     ·intro w'
      go_simp
      with_reducible rfl
     rotate_left
     ·simp only [Act.put, List.setIfInBounds_toArray, List.set_cons_zero, List.set_cons_succ, i64_w, i32_w]
      rfl
     refine pure_ (i := 1) (N := some 26) (v := ?_) (a' := ?_) (bs 16 3) rfl rfl (by kernel_rfl) (fun _ _ _ h => h) (Or.inl ⟨by rfl, ?_⟩) ?_ ?_
     rotate_left
     ·intro w'
      go_simp
      with_reducible rfl
     rotate_left
     ·simp only [Act.put, List.setIfInBounds_toArray, List.set_cons_zero, List.set_cons_succ, i64_w, i32_w]
      rfl
     refine one_ (i := 2) (N := some 27) (bs 16 7) rfl rfl (by kernel_rfl) (by decide) (fun K hK => ?_)
     refine goes_ Try.func124 (by kernel_rfl) rfl #[.slice C out.length c, .int .i64 (kk : Int)] (by rfl) rfl rfl (by simp only [List.map_toArray, List.map_cons, List.map_nil]; rfl) ?_
     with_reducible refine (HCON.out _ (below_drew HBw9.out)).mono ?_
     rintro e w3 ⟨rfl, rfl⟩
     refine ⟨_, rfl, ?_⟩
     refine hK.out _ _ ⟨hHeld.1, hHeld.2.1, hHeld.2.2.1, hHeld.2.2.2.1, hHeld.2.2.2.2⟩ (fun hHeld => ?_)
     clear hK K
     refine norm_ (a' := ?_) ?_ ?_
     rotate_left
     ·show Act.put _ (some 27) _ = _
      simp only [Act.put, List.setIfInBounds_toArray, List.set_cons_zero, List.set_cons_succ, i64_w, i32_w]
      rfl
     refine pure_ (i := 3) (N := some 28) (v := ?_) (a' := ?_) (bs 16 15) rfl rfl (by kernel_rfl) (fun _ _ _ h => h) (Or.inl ⟨by rfl, ?_⟩) ?_ ?_
     rotate_left
     ·intro w'
      go_simp
      with_reducible rfl
     rotate_left
     ·simp only [Act.put, List.setIfInBounds_toArray, List.set_cons_zero, List.set_cons_succ, i64_w, i32_w]
      rfl
     refine pure_ (i := 4) (N := some 29) (v := ?_) (a' := ?_) (bs 16 31) rfl rfl (by kernel_rfl) (fun _ _ _ h => h) (Or.inl ⟨by rfl, ?_⟩) ?_ ?_
     rotate_left
     ·intro w'
      go_simp
      with_reducible rfl
     rotate_left
     ·simp only [Act.put, List.setIfInBounds_toArray, List.set_cons_zero, List.set_cons_succ, i64_w, i32_w]
      rfl
     refine pure_ (i := 5) (N := some 30) (v := ?_) (a' := ?_) (bs 16 63) rfl rfl (by kernel_rfl) (fun _ _ _ h => h) (Or.inl ⟨by rfl, ?_⟩) ?_ ?_
     rotate_left
     ·intro w'
      go_simp
      with_reducible rfl
     rotate_left
     ·simp only [Act.put, List.setIfInBounds_toArray, List.set_cons_zero, List.set_cons_succ, i64_w, i32_w]
      rfl
     refine pure_ (i := 7) (N := some 32) (v := ?_) (a' := ?_) (bs 16 191) rfl rfl (by kernel_rfl) (fun _ _ _ h => h) (Or.inl ⟨by rfl, ?_⟩) ?_ ?_
     rotate_left
     ·intro w'
      go_simp
      with_reducible rfl
     rotate_left
     ·simp only [Act.put, List.setIfInBounds_toArray, List.set_cons_zero, List.set_cons_succ, i64_w, i32_w]
      rfl
     refine pure_ (i := 9) (N := some 34) (v := ?_) (a' := ?_) (bs 16 703) rfl rfl (by kernel_rfl) (fun _ _ _ h => h) (Or.inl ⟨by rfl, ?_⟩) ?_ ?_
     rotate_left
     ·intro w'
      go_simp
      with_reducible rfl
     rotate_left
     ·simp only [Act.put, List.setIfInBounds_toArray, List.set_cons_zero, List.set_cons_succ, i64_w, i32_w]
      rfl
     refine take_ (i := 6) (N := some 31) (v := ?_) (a' := ?_) (bs 16 767) rfl rfl (by kernel_rfl) (fun _ _ _ h => h) (Or.inl ⟨by rfl, ?_⟩) hHeld ?_ ?_
     rotate_left
     ·rintro w' ⟨s0, s1, s2, s3, s4⟩
      go_simp
      with_reducible rfl
     rotate_left
     ·simp only [Act.put, List.setIfInBounds_toArray, List.set_cons_zero, List.set_cons_succ, i64_w, i32_w]
      rfl
     refine take_ (i := 8) (N := some 33) (v := ?_) (a' := ?_) (bs 16 1023) rfl rfl (by kernel_rfl) (fun _ _ _ h => h) (Or.inl ⟨by rfl, ?_⟩) hHeld ?_ ?_
     rotate_left
     ·rintro w' ⟨s0, s1, s2, s3, s4⟩
      go_simp
      with_reducible rfl
     rotate_left
     ·simp only [Act.put, List.setIfInBounds_toArray, List.set_cons_zero, List.set_cons_succ, i64_w, i32_w]
      rfl
     refine take_ (i := 10) (N := some 35) (v := ?_) (a' := ?_) (bs 16 2047) rfl rfl (by kernel_rfl) (fun _ _ _ h => h) (Or.inl ⟨by rfl, ?_⟩) hHeld ?_ ?_
     rotate_left
     ·rintro w' ⟨s0, s1, s2, s3, s4⟩
      go_simp
      with_reducible rfl
     rotate_left
     ·simp only [Act.put, List.setIfInBounds_toArray, List.set_cons_zero, List.set_cons_succ, i64_w, i32_w]
      rfl
     refine pure_ (i := 11) (N := some 36) (v := ?_) (a' := ?_) (bs 16 4095) rfl rfl (by kernel_rfl) (fun _ _ _ h => h) (Or.inl ⟨by rfl, ?_⟩) ?_ ?_
     rotate_left
     ·intro w'
      go_simp
      with_reducible rfl
     rotate_left
     ·simp only [Act.put, List.setIfInBounds_toArray, List.set_cons_zero, List.set_cons_succ, i64_w, i32_w]
      rfl
     refine take_ (i := 12) (N := some 37) (v := ?_) (a' := ?_) (bs 16 8191) rfl rfl (by kernel_rfl) (fun _ _ _ h => h) (Or.inl ⟨by rfl, ?_⟩) hHeld ?_ ?_
     rotate_left
     ·rintro w' ⟨s0, s1, s2, s3, s4⟩
      go_simp
      with_reducible rfl
     rotate_left
     ·simp only [Act.put, List.setIfInBounds_toArray, List.set_cons_zero, List.set_cons_succ, i64_w, i32_w]
      rfl
     refine one_ (i := 13) (N := some 38) (bs 16 16383) rfl rfl (by kernel_rfl) (by decide) (fun K hK => ?_)
     refine goes_ Try.func123 (by kernel_rfl) rfl #[.agg #[.int .i64 y.f1.f0, .int .i64 y.f1.f1], .int .i64 hot] (by rfl) rfl rfl (by simp only [List.map_toArray, List.map_cons, List.map_nil]; rfl) ?_
     with_reducible refine (HHAS.out _).mono ?_
     rintro e w4 ⟨rfl, hb4⟩
     refine ⟨_, rfl, ?_⟩
     refine hK.out _ _ ⟨pw_cell_below hb4 hHeld.1, pw_cell_below hb4 hHeld.2.1, pw_cell_below hb4 hHeld.2.2.1, pw_cell_below hb4 hHeld.2.2.2.1, pw_cell_below hb4 hHeld.2.2.2.2⟩ (fun hHeld => ?_)
     clear hK K
     refine norm_ (a' := ?_) ?_ ?_
     rotate_left
     ·show Act.put _ (some 38) _ = _
      simp only [Act.put, List.setIfInBounds_toArray, List.set_cons_zero, List.set_cons_succ, i64_w, i32_w]
      rfl
     refine pure_ (i := 14) (N := some 39) (v := ?_) (a' := ?_) (bs 16 32767) rfl rfl (by kernel_rfl) (fun _ _ _ h => h) (Or.inl ⟨by rfl, ?_⟩) ?_ ?_
     rotate_left
     ·intro w'
      go_simp
      with_reducible rfl
     rotate_left
     ·simp only [Act.put, List.setIfInBounds_toArray, List.set_cons_zero, List.set_cons_succ, i64_w, i32_w]
      rfl
     refine pure_ (i := 15) (N := some 40) (v := ?_) (a' := ?_) (bs 16 65535) rfl rfl (by kernel_rfl) (fun _ _ _ h => h) (Or.inl ⟨by rfl, ?_⟩) ?_ ?_
     rotate_left
     ·intro w'
      go_simp
      with_reducible rfl
     rotate_left
     ·simp only [Act.put, List.setIfInBounds_toArray, List.set_cons_zero, List.set_cons_succ, i64_w, i32_w]
      rfl
     refine done_ (by kernel_rfl) ?_
     clear hHeld
     have HB10 := Aside0.mk (bel2 HB9.out (bel2 (below_drew (Below.refl _ _)) hb4))
     go_wp2
     go_ret
     exact ⟨ret_bool (rightB_false hlt HQ.out).symm, bel2 HB7.out HB10.out⟩
  ·have hltz : ¬ (kk : Int) < (x.f9.length : Int) := by omega
   obtain rfl : kk = x.f9.length := by omega
   go_wp2
   go_ret
   exact ⟨ret_bool (rightB_true HA.out).symm, bel2 HB7.out HBW.out⟩
end Go.Proofs.Ytdgkhoflajdidaa
/- A range over an iterator that keeps a state of its own in cells: the iterator's contract (IterC) and the caller's law, turned by hand from the kit's law for loops within loops. -/
namespace Go.Proofs.Ytdgkhoflajdidaa
open Go.RowKit Go.Proofs.YtdgkhoflajdidaaW.PrintWords Go.Proofs.YtdgkhoflajdidaaW.PrintMore Go.Proofs.YtdgkhoflajdidaaW.PrintLast Go.Proofs.Ytdgkhoflajdidaa.Print
set_option linter.unusedVariables false
set_option linter.unusedSimpArgs false
/-- Blocks m .. m + n - 1 alone have turned; there may be new ones. -/
structure MachKeep (m n : Nat) (A B : World) : Prop where
 os : B.os = A.os
 tape : B.tape = A.tape
 output : B.output = A.output
 size : A.heap.size ≤ B.heap.size
 block : ∀ k, k < A.heap.size → ¬ (m ≤ k ∧ k < m + n) → B.heap[k]? = A.heap[k]?
theorem MachKeep.refl (m n : Nat) (A : World) : MachKeep m n A A := ⟨rfl, rfl, rfl, Nat.le_refl _, fun _ _ _ => rfl⟩
theorem MachKeep.trans {m n : Nat} {A B C : World} (h : MachKeep m n A B) (k : MachKeep m n B C) : MachKeep m n A C :=
 ⟨k.os.trans h.os, k.tape.trans h.tape, k.output.trans h.output, Nat.le_trans h.size k.size, fun j hj hn => (k.block j (Nat.lt_of_lt_of_le hj h.size) hn).trans (h.block j hj hn)⟩
theorem MachKeep.wide {m n m' n' : Nat} {A B : World} (h : MachKeep m n A B) (h1 : m' ≤ m) (h2 : m + n ≤ m' + n') : MachKeep m' n' A B :=
 ⟨h.os, h.tape, h.output, h.size, fun k hk hn => h.block k hk (fun e => hn ⟨by omega, by omega⟩)⟩
theorem MachKeep.alloc (m n : Nat) (A : World) (o : Obj) : MachKeep m n A (A.alloc o) := ⟨rfl, rfl, rfl, by simp, fun k hk _ => Below.heap_alloc A o k hk⟩
theorem MachKeep.putObj {m n : Nat} (A : World) {l : Nat} (o : Obj) (h1 : m ≤ l) (h2 : l < m + n) : MachKeep m n A (A.putObj l o) :=
 ⟨rfl, rfl, rfl, by simp, fun k hk hn => World.putObj_heap_other (fun e => hn (by subst e; exact ⟨h1, h2⟩))⟩
theorem MachKeep.setCell {m n : Nat} (A : World) {p : Addr} (v : Value) (h1 : m ≤ p.block) (h2 : p.block < m + n) : MachKeep m n A (A.setCell p v) :=
 ⟨rfl, rfl, rfl, by simp [World.setCell], fun k hk hn => Below.heap_setCell A p v k (fun e => hn (by subst e; exact ⟨h1, h2⟩))⟩
theorem MachKeep.below {m n B : Nat} {w A C : World} (h : MachKeep m n A C) (hb : Below B w A) (hB : B ≤ w.heap.size) (hm : B ≤ m) : Below B w C :=
 ⟨h.os.trans hb.os, h.tape.trans hb.tape, h.output.trans hb.output, Nat.le_trans hb.size h.size, fun k hk => (h.block k (by have := hb.size; omega) (by omega)).trans (hb.block k hk)⟩
theorem MachKeep.of_below {m n : Nat} {A B : World} (h : Below A.heap.size A B) : MachKeep m n A B := ⟨h.os, h.tape, h.output, h.size, fun k hk _ => h.block k hk⟩
theorem Blk.mach {m n : Nat} {A B : World} {g : Nat} {cs : Array Value} {t : TypeId} (h : Blk A g cs t) (hk : MachKeep m n A B) (hg : ¬ (m ≤ g ∧ g < m + n)) : Blk B g cs t := (hk.block g h.lt hg).trans h
/-- Blocks m .. m + n - 1 lie as they lay. -/
def KeepI (m n : Nat) (A B : World) : Prop := ∀ k, m ≤ k → k < m + n → B.heap[k]? = A.heap[k]?
theorem KeepI.trans {m n : Nat} {A B C : World} (h : KeepI m n A B) (k : KeepI m n B C) : KeepI m n A C := fun j h1 h2 => (k j h1 h2).trans (h j h1 h2)
theorem KeepI.narrow {m n m' n' : Nat} {A B : World} (h : KeepI m n A B) (h1 : m ≤ m') (h2 : m' + n' ≤ m + n) : KeepI m' n' A B := fun k ha hb => h k (by omega) (by omega)
theorem KeepI.of_below {m n : Nat} {A B : World} (h : Below A.heap.size A B) (hm : m + n ≤ A.heap.size) : KeepI m n A B := fun k h1 h2 => h.block k (by omega)
theorem KeepI.putObj {m n : Nat} (A : World) {l : Nat} (o : Obj) (h : l < m ∨ m + n ≤ l) : KeepI m n A (A.putObj l o) := fun k h1 h2 => World.putObj_heap_other (by omega)
/-- AN ITERATOR WITH N3 BLOCKS OF ITS OWN, which it lays first: what it owes. CF: what it reads of the caller's memory. -/
def IterC {α : Type} (P : Program) (gf : Nat) (lb : Array Value) (encs : α → Array Value) (N3 : Nat) (CF : World → Prop) (all : List α) : Prop :=
 ∀ (l : Nat) (J Jx : List α → World → Prop) (W : World),
  (∀ pre A B, J pre A → MachKeep W.heap.size N3 A B → J pre B) → (∀ pre A, J pre A → CF A) →
  (∀ pre x A, J pre A → pre ++ [x] <+: all → W.heap.size + N3 ≤ A.heap.size → YieldAt Fence.wide 0 P l (encs x) A fun e A' => (e = .returned (.bool true) ∧ J (pre ++ [x]) A' ∧ KeepI W.heap.size N3 A A') ∨ (e = .returned (.bool false) ∧ Jx (pre ++ [x]) A')) →
  J [] W →
  CallsIn Fence.wide 0 P gf (#[.func (.yield l) #[] #[]] ++ lb) W fun e W' => (∃ v, e = .returned v) ∧ (J all W' ∨ ∃ pre, pre <+: all ∧ Jx pre W')
/-- HOW THE BODY OF A ROUND MAY BE LEFT: the loop's machinery lies as it lay. -/
def mPost {α : Type} (m n : Nat) (I : List α → World → Prop) (Ix : Code → List α → World → Prop) (xs : List α) (W : World) : Exit → Act → World → Prop
 | .normal, _, W' => KeepI m n W W' ∧ I xs W'
 | .ret, _, W' => KeepI m n W W' ∧ Ix .ret xs W'
 | .exit id, _, W' => KeepI m n W W' ∧ Ix (.exit id) xs W'
 | .goto t, _, W' => KeepI m n W W' ∧ Ix (.goto t) xs W'
 | .panic _, _, _ => False
 | .outgrown, _, _ => False
theorem wide_room (k : Nat) : Fence.wide.room k := fun d h => by cases h
theorem RoundIn.wide {n n' : Nat} {P : Program} {l f : Nat} {tmps : Array Value} {assign body : Code} {w : World} {R : Ending → World → Prop} (h : RoundIn Fence.wide n P l f tmps assign body w R) : RoundIn Fence.wide n' P l f tmps assign body w R :=
 ⟨h.1, fun c cs _ => h.2 c cs (wide_room _)⟩
/-- THE LAW: a range over such an iterator. -/
theorem wpIn_rangeFunc_mine {α : Type} {P : Program} {g : Operand} {ps : Array Tmp} {assign body : Code} {Q : Exit → Act → World → Prop} {a : Act} {w : World}
    {gf : Nat} {lb : Array Value} (hg : a.eval g = .func (.func gf) #[] lb) (eg : ∀ args w, (callFunc gf args).run P w = .ok (.enter gf args) w)
    {encs : α → Array Value} {N3 : Nat} {CF : World → Prop} {all : List α} (hseq : IterC P gf lb encs N3 CF all) (hps : ∀ x, (encs x).size = ps.size)
    (I : List α → World → Prop) (Ix : Code → List α → World → Prop) (hI : ∀ pre A B, I pre A → MachKeep w.heap.size (N3 + 2) A B → I pre B) (hIx : ∀ c pre A B, Ix c pre A → MachKeep w.heap.size (N3 + 2) A B → Ix c pre B)
    (hCF : ∀ pre A, I pre A → CF A) (h0 : I [] w) (Ax : List α → α → Act → World → Prop)
    (hAx : ∀ pre x a' A B, Ax pre x a' A → I pre A → MachKeep w.heap.size (N3 + 2) A B → Ax pre x a' B)
    (hassign : ∀ (l : Nat) (pre : List α) (x : α) (W : World) (K : Act → World → Prop), w.heap.size + (N3 + 2) ≤ W.heap.size → I pre W → (∀ a' W', KeepI w.heap.size (N3 + 2) W W' → W.heap.size ≤ W'.heap.size → I pre W' → Ax pre x a' W' → K a' W') →
     assign.wpIn (Fence.wide.inRound l) 0 P (Exit.then K (fun _ _ _ => False)) { tmps := (ps.zip (encs x)).foldl (fun t (p, v) => t.setIfInBounds p v) a.tmps, defers := [] } W)
    (hbody : ∀ (l : Nat) (pre : List α) (x : α) (a' : Act) (W : World), w.heap.size + (N3 + 2) ≤ W.heap.size → pre ++ [x] <+: all → I pre W → Ax pre x a' W → body.wpIn (Fence.wide.inRound l) 0 P (mPost w.heap.size (N3 + 2) I Ix (pre ++ [x]) W) a' W)
    (hdone : ∀ (W : World), I all W → W.heap[w.heap.size]? = some (.deferred (some [])) → Q .normal { a with defers := { target := .collected w.heap.size, args := #[] } :: a.defers } W)
    (hstop : ∀ (c : Code) (pre : List α) (W : World), pre <+: all → Ix c pre W → W.heap[w.heap.size]? = some (.deferred (some [])) → c.wpIn Fence.wide 0 P Q { a with defers := { target := .collected w.heap.size, args := #[] } :: a.defers } W) :
    (Code.rangeFunc g ps assign body).wpIn Fence.wide 0 P Q a w := by
 refine wpIn_rangeFunc ?_
 intro fn hfn
 rw [show Fence.wide.round = none from rfl]
 obtain ⟨rec, hrec⟩ : ∃ rec : LoopState → Option Code → Loop, rec = fun st pe => { state := st, pending := pe, fn, tmps := a.tmps, params := ps, assign, body, defers := w.heap.size } := ⟨_, rfl⟩
 obtain ⟨W1, hW1⟩ : ∃ W1, (w.alloc (.deferred (some []))).alloc (.loop (rec .ready none)) = W1 := ⟨_, rfl⟩
 have hL1 : W1.heap[w.heap.size + 1]? = some (.loop (rec .ready none)) := by
  rw [← hW1]; have := World.alloc_heap_new (w.alloc (.deferred (some []))) (.loop (rec .ready none)); rwa [World.size_alloc] at this
 have hK1 : W1.heap[w.heap.size]? = some (.deferred (some [])) := by
  rw [← hW1]; exact (Below.heap_alloc _ _ _ (by simp)).trans (World.alloc_heap_new w _)
 have hI1 : I [] W1 := by rw [← hW1]; exact hI _ _ _ (hI _ _ _ h0 (MachKeep.alloc _ _ _ _)) (MachKeep.alloc _ _ _ _)
 have hz1 : W1.heap.size = w.heap.size + 2 := by rw [← hW1]; simp
 refine ⟨w.heap.size + 1, [{ target := .collected w.heap.size, args := #[] }], W1, { target := .fn (.func gf) lb, args := #[.func (.yield (w.heap.size + 1)) #[] #[]] }, W1, gf,
  #[.func (.yield (w.heap.size + 1)) #[] #[]] ++ lb, W1, ?_, ?_, ?_, ?_, fun h => (by cases h), ?_⟩
 ·rw [← hW1, hrec]; exact run_enterLoop_outer _ _ _ _ _
 ·simp only [resolve, hg]
  simp [go_sem]
 ·intro f' hf'; trivial
 ·simp [invoke, go_sem, eg]
 ·refine (hseq (w.heap.size + 1)
    (fun pre W => I pre W ∧ W.heap[w.heap.size + 1]? = some (.loop (rec .ready none)) ∧ W.heap[w.heap.size]? = some (.deferred (some [])))
    (fun pre W => ∃ c, Ix c pre W ∧ W.heap[w.heap.size + 1]? = some (.loop (rec .done (some c))) ∧ W.heap[w.heap.size]? = some (.deferred (some [])))
    W1
    (fun pre A B hs hk => by
     rw [hz1] at hk
     have h1 := (Array.getElem?_eq_some_iff.1 hs.2.1).1
     exact ⟨hI _ _ _ hs.1 (hk.wide (by omega) (by omega)), (hk.block _ h1 (by omega)).trans hs.2.1, (hk.block _ (by omega) (by omega)).trans hs.2.2⟩)
    (fun pre A hs => hCF _ _ hs.1)
    ?_ ⟨hI1, hL1, hK1⟩).mono ?_
  ·-- ONE ROUND
   rintro pre x W ⟨hi, hl, hk⟩ hxa hsz
   rw [hz1] at hsz
   have hlt : w.heap.size + 1 < W.heap.size := (Array.getElem?_eq_some_iff.1 hl).1
   have hy := run_yield (P := P) (args := encs x) hl (by rw [hrec]; exact hps x)
   rw [hrec] at hy
   refine ⟨fn, _, assign, body, hy, roundIn_of_wpIn hfn (hassign _ pre x W _ (by omega) hi ?_)⟩
   clear hy
   intro a' Wa hka hza hia hax
   have hl' := (hka _ (by omega) (by omega)).trans hl
   have hk' := (hka _ (by omega) (by omega)).trans hk
   refine ⟨_, run_beginRound hl' (by rw [hrec]), ?_⟩
   have hlta : w.heap.size + 1 < Wa.heap.size := (Array.getElem?_eq_some_iff.1 hl').1
   have hl2 : (Wa.putObj (w.heap.size + 1) (.loop { rec .ready none with state := .busy })).heap[w.heap.size + 1]? = some (.loop { rec .ready none with state := .busy }) := World.putObj_heap_same hlta
   have hk2 : (Wa.putObj (w.heap.size + 1) (.loop { rec .ready none with state := .busy })).heap[w.heap.size]? = some (.deferred (some [])) := (World.putObj_heap_other (by omega)).trans hk'
   have hm2 : MachKeep w.heap.size (N3 + 2) Wa (Wa.putObj (w.heap.size + 1) (.loop { rec .ready none with state := .busy })) := MachKeep.putObj _ _ (by omega) (by omega)
   have hz2 : (Wa.putObj (w.heap.size + 1) (.loop { rec .ready none with state := .busy })).heap.size = Wa.heap.size := by simp
   refine wpIn_mono (hbody _ pre x a' _ (by rw [hz2]; omega) hxa (hI _ _ _ hia hm2) (hAx _ _ _ _ _ hax hia hm2)) ?_
   have fin : ∀ (jump : Option Code) (W3 : World), KeepI w.heap.size (N3 + 2) (Wa.putObj (w.heap.size + 1) (.loop { rec .ready none with state := .busy })) W3 →
       (Instr.endRound (w.heap.size + 1) jump).run P W3 = .ok (.bool jump.isNone) (W3.putObj (w.heap.size + 1) (.loop (rec (if jump.isNone then .ready else .done) jump))) ∧
       MachKeep w.heap.size (N3 + 2) W3 (W3.putObj (w.heap.size + 1) (.loop (rec (if jump.isNone then .ready else .done) jump))) ∧
       (W3.putObj (w.heap.size + 1) (.loop (rec (if jump.isNone then .ready else .done) jump))).heap[w.heap.size + 1]? = some (.loop (rec (if jump.isNone then .ready else .done) jump)) ∧
       (W3.putObj (w.heap.size + 1) (.loop (rec (if jump.isNone then .ready else .done) jump))).heap[w.heap.size]? = some (.deferred (some [])) := fun jump W3 hk3 => by
    have hl3 := (hk3 _ (by omega) (by omega)).trans hl2
    have := run_endRound (P := P) jump hl3
    rw [hrec] at this ⊢
    exact ⟨this, MachKeep.putObj _ _ (by omega) (by omega), World.putObj_heap_same (Array.getElem?_eq_some_iff.1 hl3).1, (World.putObj_heap_other (by omega)).trans ((hk3 _ (by omega) (by omega)).trans hk2)⟩
   rintro e a3 W3 hp
   cases e with
   | normal =>
    obtain ⟨hk3, hi3⟩ := hp
    obtain ⟨hr, hm3, hl4, hk4⟩ := fin none W3 hk3
    refine ⟨_, _, hr, .inl ⟨rfl, ⟨hI _ _ _ hi3 hm3, hl4, hk4⟩, ?_⟩⟩
    rw [hz1]
    exact (((hka.narrow (by omega) (by omega)).trans (KeepI.putObj _ _ (by omega))).trans (hk3.narrow (by omega) (by omega))).trans (KeepI.putObj _ _ (by omega))
   | ret =>
    obtain ⟨hk3, hi3⟩ := hp
    obtain ⟨hr, hm3, hl4, hk4⟩ := fin (some .ret) W3 hk3
    exact ⟨_, _, hr, .inr ⟨rfl, .ret, hIx _ _ _ _ hi3 hm3, hl4, hk4⟩⟩
   | exit id =>
    obtain ⟨hk3, hi3⟩ := hp
    obtain ⟨hr, hm3, hl4, hk4⟩ := fin (some (.exit id)) W3 hk3
    exact ⟨_, _, hr, .inr ⟨rfl, .exit id, hIx _ _ _ _ hi3 hm3, hl4, hk4⟩⟩
   | goto t =>
    obtain ⟨hk3, hi3⟩ := hp
    obtain ⟨hr, hm3, hl4, hk4⟩ := fin (some (.goto t)) W3 hk3
    exact ⟨_, _, hr, .inr ⟨rfl, .goto t, hIx _ _ _ _ hi3 hm3, hl4, hk4⟩⟩
   | panic ch => exact hp.elim
   | outgrown => exact hp.elim
  ·-- BEHIND THE ITERATOR
   rintro e W2 ⟨⟨v, rfl⟩, (⟨hi, hl, hk⟩ | ⟨pre, hpre, c, hi, hl, hk⟩)⟩
   ·exact ⟨none, _, by have := run_endLoop (P := P) hl (by rw [hrec]; simp); rw [hrec] at this; exact this, hdone _ (hI _ _ _ hi (MachKeep.putObj _ _ (by omega) (by omega))) ((World.putObj_heap_other (by omega)).trans hk)⟩
   ·exact ⟨some c, _, by have := run_endLoop (P := P) hl (by rw [hrec]; simp); rw [hrec] at this; exact this, hstop c pre _ hpre (hIx _ _ _ _ hi (MachKeep.putObj _ _ (by omega) (by omega))) ((World.putObj_heap_other (by omega)).trans hk)⟩
end Go.Proofs.Ytdgkhoflajdidaa
/- All scenes, in the order in which they come. -/
namespace Go.Proofs.Ytdgkhoflajdidaa
open Go.RowKit Go.Proofs.YtdgkhoflajdidaaW.PrintWords Go.Proofs.YtdgkhoflajdidaaW.PrintMore Go.Proofs.YtdgkhoflajdidaaW.PrintLast Go.Proofs.Ytdgkhoflajdidaa.Print
set_option linter.unusedVariables false
set_option linter.unusedSimpArgs false
def Sc.setLoss (s : Sc) : Nat → Int → Sc
 | 0, v => { s with l0 := v }
 | 1, v => { s with l1 := v }
 | 2, v => { s with l2 := v }
 | 3, v => { s with l3 := v }
 | 4, v => { s with l4 := v }
 | _, _ => s
def Sc.arr (s : Sc) : Array Value := #[.int .i64 s.h, .int .i64 s.l0, .int .i64 s.l1, .int .i64 s.l2, .int .i64 s.l3, .int .i64 s.l4]
theorem Sc.setLoss_h (s : Sc) (k : Nat) (v : Int) : (s.setLoss k v).h = s.h := by
 match k with
 | 0 => rfl
 | 1 => rfl
 | 2 => rfl
 | 3 => rfl
 | 4 => rfl
 | _ + 5 => rfl
theorem Sc.setLoss_loss (s : Sc) (k j : Nat) (v : Int) (hk : k < 5) : (s.setLoss k v).loss j = if j = k then v else s.loss j := by
 match k, hk with
 | 0, _ => match j with
  | 0 | 1 | 2 | 3 | 4 => rfl
  | j + 5 => rw [if_neg (by omega)]; rfl
 | 1, _ => match j with
  | 0 | 1 | 2 | 3 | 4 => rfl
  | j + 5 => rw [if_neg (by omega)]; rfl
 | 2, _ => match j with
  | 0 | 1 | 2 | 3 | 4 => rfl
  | j + 5 => rw [if_neg (by omega)]; rfl
 | 3, _ => match j with
  | 0 | 1 | 2 | 3 | 4 => rfl
  | j + 5 => rw [if_neg (by omega)]; rfl
 | 4, _ => match j with
  | 0 | 1 | 2 | 3 | 4 => rfl
  | j + 5 => rw [if_neg (by omega)]; rfl
theorem Sc.setLoss_arr (s : Sc) (k : Nat) (v : Int) (hk : k < 5) : (s.setLoss k v).arr = s.arr.setIfInBounds (1 + k) (.int .i64 v) := by
 match k, hk with
 | 0, _ => rfl
 | 1, _ => rfl
 | 2, _ => rfl
 | 3, _ => rfl
 | 4, _ => rfl
theorem Sc.ext' {s t : Sc} (hh : s.h = t.h) (hl : ∀ k, k < 5 → s.loss k = t.loss k) : s = t := by
 cases s; cases t
 have h0 := hl 0 (by decide)
 have h1 := hl 1 (by decide)
 have h2 := hl 2 (by decide)
 have h3 := hl 3 (by decide)
 have h4 := hl 4 (by decide)
 simp only [Sc.loss] at *
 subst hh h0 h1 h2 h3 h4
 rfl
/-- The numbers from lo to hi. -/
def irange (lo hi : Int) : List Int := (List.range (hi - lo + 1).toNat).map fun (j : Nat) => lo + (j : Int)
theorem mem_irange {lo hi n : Int} : n ∈ irange lo hi ↔ lo ≤ n ∧ n ≤ hi := by
 simp only [irange, List.mem_map, List.mem_range]
 constructor
 ·rintro ⟨j, hj, rfl⟩; omega
 ·rintro ⟨h1, h2⟩; exact ⟨(n - lo).toNat, by omega, by omega⟩
/-- The scenes from an hour on (d hours are left). -/
def scFrom (x : S38) : Nat → Nat → Sc → List Sc
 | 0, _, s => [s]
 | d + 1, h, s => (irange (x.f8.getD h z35).f0 (x.f8.getD h z35).f1).flatMap fun n => scFrom x d (h + 1) (s.setLoss h n)
/-- The first j of them by this hour's number. -/
def scTo (x : S38) (d h : Nat) (s : Sc) (j : Nat) : List Sc := ((List.range j).map fun (i : Nat) => (x.f8.getD h z35).f0 + (i : Int)).flatMap fun n => scFrom x d (h + 1) (s.setLoss h n)
theorem scTo_succ (x : S38) (d h : Nat) (s : Sc) (j : Nat) : scTo x d h s (j + 1) = scTo x d h s j ++ scFrom x d (h + 1) (s.setLoss h ((x.f8.getD h z35).f0 + (j : Int))) := by
 unfold scTo
 rw [List.range_succ, List.map_append, List.flatMap_append]
 simp
theorem scTo_all (x : S38) (d h : Nat) (s : Sc) : scTo x d h s ((x.f8.getD h z35).f1 - (x.f8.getD h z35).f0 + 1).toNat = scFrom x (d + 1) h s := rfl
theorem scTo_prefix (x : S38) (d h : Nat) (s : Sc) {j : Nat} (hj : j ≤ ((x.f8.getD h z35).f1 - (x.f8.getD h z35).f0 + 1).toNat) : scTo x d h s j <+: scFrom x (d + 1) h s := by
 rw [← scTo_all]
 obtain ⟨m, hm⟩ : ∃ m, ((x.f8.getD h z35).f1 - (x.f8.getD h z35).f0 + 1).toNat = j + m := ⟨_, (Nat.add_sub_cancel' hj).symm⟩
 rw [hm]
 clear hm hj
 induction m with
 | zero => exact List.prefix_refl _
 | succ m ih =>
  rw [show j + (m + 1) = (j + m) + 1 from rfl, scTo_succ]
  exact ih.trans (List.prefix_append _ _)
/-- Alike but for d hours from h on. -/
def Agree (h d : Nat) (s t : Sc) : Prop := s.h = t.h ∧ ∀ k, k < 5 → ¬ (h ≤ k ∧ k < h + d) → s.loss k = t.loss k
theorem Agree.refl (h d : Nat) (s : Sc) : Agree h d s s := ⟨rfl, fun _ _ _ => rfl⟩
theorem Agree.trans {h d : Nat} {s t u : Sc} (a : Agree h d s t) (b : Agree h d t u) : Agree h d s u := ⟨a.1.trans b.1, fun k h5 hk => (a.2 k h5 hk).trans (b.2 k h5 hk)⟩
theorem Agree.wide {h d h' d' : Nat} {s t : Sc} (a : Agree h d s t) (h1 : h' ≤ h) (h2 : h + d ≤ h' + d') : Agree h' d' s t := ⟨a.1, fun k h5 hk => a.2 k h5 (fun e => hk ⟨by omega, by omega⟩)⟩
theorem Agree.set (h d : Nat) (s : Sc) (v : Int) (hh : h < 5) : Agree h (d + 1) s (s.setLoss h v) :=
 ⟨(Sc.setLoss_h s h v).symm, fun k h5 hk => by rw [Sc.setLoss_loss s h k v hh, if_neg (by omega)]⟩
theorem Agree.step {h d : Nat} {s t : Sc} (a : Agree h (d + 1) s t) (v : Int) (hh : h < 5) : Agree (h + 1) d (s.setLoss h v) (t.setLoss h v) :=
 ⟨by rw [Sc.setLoss_h, Sc.setLoss_h]; exact a.1, fun k h5 hk => by
  rw [Sc.setLoss_loss s h k v hh, Sc.setLoss_loss t h k v hh]
  by_cases e : k = h
  ·rw [if_pos e, if_pos e]
  ·rw [if_neg e, if_neg e]; exact a.2 k h5 (fun q => hk ⟨by omega, by omega⟩)⟩
theorem scFrom_agree (x : S38) : ∀ (d h : Nat) (s t : Sc), h + d ≤ 5 → Agree h d s t → scFrom x d h s = scFrom x d h t
 | 0, h, s, t, _, a => by
  have : s = t := Sc.ext' a.1 (fun k h5 => a.2 k h5 (by omega))
  rw [this]
 | d + 1, h, s, t, hd, a => by
  unfold scFrom
  exact congrArg (fun f => List.flatMap f (irange (x.f8.getD h z35).f0 (x.f8.getD h z35).f1)) (funext fun n => scFrom_agree x d (h + 1) _ _ (by omega) (a.step n (by omega)))
/-- A scene without losses. -/
def scHeat (n : Int) : Sc := ⟨n, 0, 0, 0, 0, 0⟩
/-- All scenes. -/
def allSc (x : S38) : List Sc := (irange x.f7.f0 x.f7.f1).flatMap fun n => scFrom x (x.f0 + 1).toNat 0 (scHeat n)
def allTo (x : S38) (j : Nat) : List Sc := ((List.range j).map fun (i : Nat) => x.f7.f0 + (i : Int)).flatMap fun n => scFrom x (x.f0 + 1).toNat 0 (scHeat n)
theorem allTo_succ (x : S38) (j : Nat) : allTo x (j + 1) = allTo x j ++ scFrom x (x.f0 + 1).toNat 0 (scHeat (x.f7.f0 + (j : Int))) := by
 unfold allTo
 rw [List.range_succ, List.map_append, List.flatMap_append]
 simp
theorem allTo_all (x : S38) : allTo x (x.f7.f1 - x.f7.f0 + 1).toNat = allSc x := rfl
theorem allTo_prefix (x : S38) {j : Nat} (hj : j ≤ (x.f7.f1 - x.f7.f0 + 1).toNat) : allTo x j <+: allSc x := by
 rw [← allTo_all]
 obtain ⟨m, hm⟩ : ∃ m, (x.f7.f1 - x.f7.f0 + 1).toNat = j + m := ⟨_, (Nat.add_sub_cancel' hj).symm⟩
 rw [hm]
 clear hm hj
 induction m with
 | zero => exact List.prefix_refl _
 | succ m ih =>
  rw [show j + (m + 1) = (j + m) + 1 from rfl, allTo_succ]
  exact ih.trans (List.prefix_append _ _)
theorem mem_scFrom (x : S38) : ∀ (d h : Nat) (s t : Sc), h + d ≤ 5 → (t ∈ scFrom x d h s ↔ Agree h d s t ∧ ∀ k, h ≤ k → k < h + d → (x.f8.getD k z35).f0 ≤ t.loss k ∧ t.loss k ≤ (x.f8.getD k z35).f1)
 | 0, h, s, t, _ => by
  simp only [scFrom, List.mem_singleton]
  constructor
  ·rintro rfl; exact ⟨Agree.refl _ _ _, fun k h1 h2 => by omega⟩
  ·rintro ⟨a, _⟩; exact (Sc.ext' a.1 (fun k h5 => a.2 k h5 (by omega))).symm
 | d + 1, h, s, t, hd => by
  simp only [scFrom, List.mem_flatMap, mem_irange]
  constructor
  ·rintro ⟨n, hn, ht⟩
   obtain ⟨a, hr⟩ := (mem_scFrom x d (h + 1) _ t (by omega)).1 ht
   have hl : t.loss h = n := by
    have := a.2 h (by omega) (by omega)
    rw [Sc.setLoss_loss s h h n (by omega), if_pos rfl] at this
    exact this.symm
   refine ⟨(Agree.set h d s n (by omega)).trans (a.wide (by omega) (by omega)), fun k h1 h2 => ?_⟩
   by_cases e : k = h
   ·subst e; rw [hl]; exact hn
   ·exact hr k (by omega) (by omega)
  ·rintro ⟨a, hr⟩
   refine ⟨t.loss h, hr h (by omega) (by omega), (mem_scFrom x d (h + 1) _ t (by omega)).2 ⟨⟨by rw [Sc.setLoss_h]; exact a.1, fun k h5 hk => ?_⟩, fun k h1 h2 => hr k (by omega) (by omega)⟩⟩
   rw [Sc.setLoss_loss s h k _ (by omega)]
   by_cases e : k = h
   ·rw [if_pos e, e]
   ·rw [if_neg e]; exact a.2 k h5 (by omega)
/-- What a scene of the coppers is. -/
structure InSc (x : S38) (t : Sc) : Prop where
 heat : x.f7.f0 ≤ t.h ∧ t.h ≤ x.f7.f1
 loss : ∀ k : Nat, (k : Int) ≤ x.f0 → (x.f8.getD k z35).f0 ≤ t.loss k ∧ t.loss k ≤ (x.f8.getD k z35).f1
 rest : ∀ k : Nat, x.f0 < (k : Int) → t.loss k = 0
theorem scHeat_loss (n : Int) (k : Nat) : (scHeat n).loss k = 0 := by
 match k with
 | 0 | 1 | 2 | 3 | 4 => rfl
 | _ + 5 => rfl
theorem Sc.loss_far (t : Sc) {k : Nat} (hk : 5 ≤ k) : t.loss k = 0 := by
 match k, hk with
 | k + 5, _ => rfl
theorem mem_allSc {x : S38} (hv : Valid x) {t : Sc} : t ∈ allSc x ↔ InSc x t := by
 have h0 := hv.last0
 have h1 := hv.last1
 simp only [allSc, List.mem_flatMap, mem_irange]
 constructor
 ·rintro ⟨n, hn, ht⟩
  obtain ⟨a, hr⟩ := (mem_scFrom x _ 0 _ t (by omega)).1 ht
  have ha : n = t.h := a.1
  refine ⟨by rw [← ha]; exact hn, fun k hk => hr k (by omega) (by omega), fun k hk => ?_⟩
  by_cases h5 : k < 5
  ·rw [← a.2 k h5 (by omega)]; exact scHeat_loss _ _
  ·exact Sc.loss_far t (by omega)
 ·rintro ⟨hh, hl, hz⟩
  exact ⟨t.h, hh, (mem_scFrom x _ 0 _ t (by omega)).2 ⟨⟨rfl, fun k h5 hk => by rw [scHeat_loss]; exact (hz k (by omega)).symm⟩, fun k h1 h2 => hl k (by omega)⟩⟩
theorem InSc.ok {x : S38} (hv : Valid x) {t : Sc} (h : InSc x t) : ScOk t := by
 have h0 := hv.heat0
 have h1 := hv.heat2
 refine ⟨by have := h.heat.1; omega, by have := h.heat.2; omega, fun k => ?_⟩
 by_cases hk : (k : Int) ≤ x.f0
 ·have h2 := h.loss k hk
  have hlt : k < x.f8.length := by have := hv.lossN; omega
  have h3 := hv.lossV x.f8[k] (List.getElem_mem hlt)
  rw [show x.f8.getD k z35 = x.f8[k] by simp [hlt]] at h2
  omega
 ·rw [h.rest k (by omega)]; omega
end Go.Proofs.Ytdgkhoflajdidaa
/- scenes: the iterator's contract. -/
namespace Go.Proofs.Ytdgkhoflajdidaa
open Go.RowKit Go.Proofs.YtdgkhoflajdidaaW.PrintWords Go.Proofs.YtdgkhoflajdidaaW.PrintMore Go.Proofs.YtdgkhoflajdidaaW.PrintLast Go.Proofs.Ytdgkhoflajdidaa.Print
set_option linter.unusedVariables false
set_option linter.unusedSimpArgs false
theorem wide_depth : Fence.wide.depth = none := rfl
theorem wide_fn (f : FuncId) : Fence.wide.fn f = True := rfl
attribute [local go_sem] wide_depth wide_fn
/-- The iterator's three blocks: yield, the scene, choose. -/
structure Own3 (m B l : Nat) (W : World) (s : Sc) : Prop where
 y : Blk W m #[.func (.yield l) #[] #[]] 162
 s : Blk W (m + 1) #[.int .i64 s.h, .int .i64 s.l0, .int .i64 s.l1, .int .i64 s.l2, .int .i64 s.l3, .int .i64 s.l4] 133
 c : Blk W (m + 2) #[.func (.func 135) #[] #[.pointer (some ⟨B, 0, none⟩), .pointer (some ⟨m, 0, none⟩), .pointer (some ⟨m + 1, 0, none⟩), .pointer (some ⟨m + 2, 0, none⟩)]] 123
theorem Own3.keep {m B l : Nat} {A W : World} {s : Sc} (h : Own3 m B l A s) (hk : KeepI m 3 A W) : Own3 m B l W s :=
 ⟨(hk m (by omega) (by omega)).trans h.y, (hk (m + 1) (by omega) (by omega)).trans h.s, (hk (m + 2) (by omega) (by omega)).trans h.c⟩
theorem Own3.set {m B l : Nat} {W : World} {s : Sc} (h : Own3 m B l W s) (k : Nat) (hk : k < 5) (v : Int) : Own3 m B l (W.setCell ⟨m + 1, 1 + k, none⟩ (.int .i64 v)) (s.setLoss k v) := by
 refine ⟨h.y.set_other (by show m ≠ m + 1; omega) _, ?_, h.c.set_other (by show m + 2 ≠ m + 1; omega) _⟩
 have := h.s.set (1 + k) (.int .i64 v)
 rw [show (#[Value.int .i64 s.h, .int .i64 s.l0, .int .i64 s.l1, .int .i64 s.l2, .int .i64 s.l3, .int .i64 s.l4] : Array Value).setIfInBounds (1 + k) (.int .i64 v) = (s.setLoss k v).arr from (Sc.setLoss_arr s k v hk).symm] at this
 exact this
theorem Own3.heat {m B l : Nat} {W : World} {s : Sc} (h : Own3 m B l W s) (v : Int) : Own3 m B l (W.setCell ⟨m + 1, 0, none⟩ (.int .i64 v)) { s with h := v } :=
 ⟨h.y.set_other (by show m ≠ m + 1; omega) _, h.s.set 0 (.int .i64 v), h.c.set_other (by show m + 2 ≠ m + 1; omega) _⟩
/-- The coppers' box, and their lists. -/
def CFx (x : S38) (cs : List Value) (B : Nat) (W : World) : Prop := Blk W B cs.toArray 38 ∧ k38.K W x cs
theorem CFx.row {x : S38} {cs : List Value} {B : Nat} {W : World} (h : CFx x cs B W) {A9 : Option Addr} {c9 : Nat} (h9 : cs[9]? = some (.slice A9 x.f8.length c9)) : Kd.C k35 W A9 x.f8.length x.f8 := by
 obtain ⟨_, _, _, _, B9, d9, _, _, hcs, _, _, _, _, _, g9, _⟩ := k38_open h.2
 rw [hcs] at h9
 have h10 : Value.slice B9 x.f8.length d9 = .slice A9 x.f8.length c9 := Option.some.inj h9
 simp only [Value.slice.injEq, true_and] at h10
 rw [← h10.1]
 exact g9
theorem CFx.cell {x : S38} {cs : List Value} {B : Nat} {W : World} (h : CFx x cs B W) (j : Nat) (v : Value) (hv : cs[j]? = some v) : W.cell? ⟨B, j, none⟩ = some v := h.1.cell j v (by simpa using hv)
set_option maxRecDepth 100000 in
set_option maxHeartbeats 4000000 in
theorem choose_calls (x : S38) (cs : List Value) (hV : Valid x) (B m l : Nat) (J Jx : List Sc → World → Prop) (hJ : ∀ pre A C, J pre A → MachKeep m 3 A C → J pre C) (hCF : ∀ pre A, J pre A → CFx x cs B A)
    (hY : ∀ pre y A, J pre A → pre ++ [y] <+: allSc x → m + 3 ≤ A.heap.size → YieldAt Fence.wide 0 Try.prog l #[.agg #[.int .i64 y.h, .int .i64 y.l0, .int .i64 y.l1, .int .i64 y.l2, .int .i64 y.l3, .int .i64 y.l4]] A fun e A' => (e = .returned (.bool true) ∧ J (pre ++ [y]) A' ∧ KeepI m 3 A A') ∨ (e = .returned (.bool false) ∧ Jx (pre ++ [y]) A')) :
    ∀ (d h : Nat), h + d = (x.f0 + 1).toNat → ∀ (pre : List Sc) (s : Sc) (W : World), pre ++ scFrom x d h s <+: allSc x → J pre W → Own3 m B l W s → m + 3 ≤ W.heap.size →
     CallsIn Fence.wide 0 Try.prog 135 #[.int .i64 h, .pointer (some ⟨B, 0, none⟩), .pointer (some ⟨m, 0, none⟩), .pointer (some ⟨m + 1, 0, none⟩), .pointer (some ⟨m + 2, 0, none⟩)] W fun e W' =>
      (e = .returned (.bool true) ∧ ∃ s', J (pre ++ scFrom x d h s) W' ∧ Own3 m B l W' s' ∧ Agree h d s s' ∧ m + 3 ≤ W'.heap.size) ∨ (e = .returned (.bool false) ∧ ∃ q, q <+: scFrom x d h s ∧ Jx (pre ++ q) W') := by
 intro d
 induction d with
 | zero =>
  intro h hh pre s W hall hj ho hz
  obtain ⟨A5, c5, A6, c6, A9, c9, A10, c10, hcs, l5, g5, l6, g6, l9, g9, l10, g10⟩ := k38_open (hCF _ _ hj).2
  have hB := (hCF _ _ hj).1
  subst hcs
  have kc0 := hB.cell 0 _ rfl
  have ky := ho.y.cell 0 _ rfl
  have ks0 := ho.s.cell 0 _ rfl
  have ks1 := ho.s.cell 1 _ rfl
  have ks2 := ho.s.cell 2 _ rfl
  have ks3 := ho.s.cell 3 _ rfl
  have ks4 := ho.s.cell 4 _ rfl
  have ks5 := ho.s.cell 5 _ rfl
  have hf0 := hV.last0
  have hf1 := hV.last1
  have hlt : x.f0 < (h : Int) := by omega
  obtain ⟨fn, tmps, assign, body, hy, hR⟩ := hY pre s W hj hall hz
  have hu := Try.underlying38
  have hu2 := Try.underlying133
  have HO := Aside0.mk ho
  clear hJ hCF hY g5 g6 g9 g10 l5 l6 l9 l10 ho hB hall
  refine callsIn_of_wp Try.func135 rfl trivial ?_ rfl
  simp only [Try.ntmps135, List.size_toArray, List.length_cons, List.length_nil, Nat.reduceAdd, Nat.reduceSub, Array.replicate_succ, Array.replicate_zero, List.push_toArray, List.append_toArray, List.nil_append, List.cons_append]
  gi_wp2
  refine hR.mono ?_
  rintro e W3 (⟨rfl, hJ3, hk3⟩ | ⟨rfl, hJx3⟩)
  ·have ho3 := HO.out.keep hk3
   have hz3 := ho3.c.lt
   have HR := Aside0.mk (show J (pre ++ scFrom x 0 h s) W3 ∧ Own3 m B l W3 s ∧ Agree h 0 s s ∧ m + 3 ≤ W3.heap.size from ⟨hJ3, ho3, Agree.refl _ _ _, hz3⟩)
   clear hJ3 ho3 hz3 hk3
   gi_wp2
   refine bodyPost_ret (by simp [results, Try.results135, go_sem]; rfl) rfl ?_
   exact .inl ⟨rfl, s, HR.out⟩
  ·have HR := Aside0.mk hJx3
   clear hJx3
   gi_wp2
   refine bodyPost_ret (by simp [results, Try.results135, go_sem]; rfl) rfl ?_
   exact .inr ⟨rfl, [s], List.prefix_refl _, HR.out⟩
 | succ d ih =>
  intro h hh pre s W hall hj ho hz
  have hf0 := hV.last0
  have hf1 := hV.last1
  have hn := hV.lossN
  have hlt : h < x.f8.length := by omega
  have hle : (h : Int) ≤ x.f0 := by omega
  have hxd : x.f8.getD h z35 = x.f8[h] := by simp [hlt]
  have hlv := hV.lossV x.f8[h] (List.getElem_mem hlt)
  have hall2 := hall
  rw [← hxd] at hlv
  obtain ⟨A5, c5, A6, c6, A9, c9, A10, c10, hcs, l5, g5, l6, g6, l9, g9, l10, g10⟩ := k38_open (hCF _ _ hj).2
  have hB := (hCF _ _ hj).1
  have kc0 : W.cell? ⟨B, 0, none⟩ = some (.int .i64 x.f0) := by rw [hcs] at hB; exact hB.cell 0 _ rfl
  have kc9 : W.cell? ⟨B, 9, none⟩ = some (.slice A9 x.f8.length c9) := by rw [hcs] at hB; exact hB.cell 9 _ rfl
  obtain ⟨ad, hA, hc0, hc1⟩ := row_at_rg g9 h hlt
  rw [← hxd] at hc0 hc1
  have HHX := Lib.hid hxd
  have HJ0 := Aside0.mk hj
  have HO := Aside0.mk ho
  have HCS := Aside0.mk hcs
  clear hB hcs g5 g6 g9 g10 l5 l6 l9 l10 ho hj hxd hall
  have hu := Try.underlying38
  have hu2 := Try.underlying133
  have hu3 := Try.underlying35
  have hu4 := Try.underlying131
  have hlz : (h : Int) < (x.f8.length : Int) := by omega
  have HALL := Aside0.mk hall2
  clear hall2
  obtain rfl := hA
  have hcnt : ∃ lo hi, x.f8.getD h z35 = ⟨lo, hi⟩ := ⟨_, _, rfl⟩
  obtain ⟨lo, hi, hr⟩ := hcnt
  rw [hr] at hlv hc0 hc1
  have HRR := Lib.hid hr
  obtain ⟨hlv0, hlv1, hlv2⟩ := hlv
  clear hr
  refine callsIn_of_wp Try.func135 rfl trivial ?_ rfl
  simp only [Try.ntmps135, List.size_toArray, List.length_cons, List.length_nil, Nat.reduceAdd, Nat.reduceSub, Array.replicate_succ, Array.replicate_zero, List.push_toArray, List.append_toArray, List.nil_append, List.cons_append]
  gi_wp2
  gi_loopw [7] (fun s7 wr => ∃ j : Nat, j ≤ (hi - lo + 1).toNat ∧ s7 = .int .i64 (lo + (j : Int)) ∧ ∃ sj, Aside0 (J (pre ++ scTo x d h s j) wr ∧ Own3 m B l wr sj ∧ Agree h (d + 1) s sj ∧ m + 3 ≤ wr.heap.size)) (fun s7 _ => (hi + 1 - intOf s7).toNat)
  case atStart => exact ⟨0, Nat.zero_le _, by simp, s, ⟨by simp [scTo]; exact HJ0.out, HO.out, Agree.refl _ _ _, hz⟩⟩
  case round =>
   obtain ⟨j, hj, rfl, sj, HS⟩ := hrel
   have h9 : cs[9]? = some (.slice (some ad) x.f8.length c9) := by rw [HCS.out]; rfl
   have hcf := hCF _ _ HS.out.1
   have kc9 := hcf.cell 9 _ h9
   obtain ⟨ad', hA', hc0', hc1'⟩ := row_at_rg (hcf.row h9) h hlt
   obtain rfl : ad = ad' := Option.some.inj hA'
   rw [← HHX.out, HRR.out] at hc0' hc1'
   by_cases hjc : j < (hi - lo + 1).toNat
   ·have hle2 : lo + (j : Int) ≤ hi := by omega
    have h5 : (h : Int) < 5 := by omega
    have h5n : h < 5 := by omega
    have ho2 := HS.out.2.1.set h h5n (lo + (j : Int))
    have hag : Agree (h + 1) d (s.setLoss h (lo + (j : Int))) (sj.setLoss h (lo + (j : Int))) := HS.out.2.2.1.step _ h5n
    have hsc : scFrom x d (h + 1) (sj.setLoss h (lo + (j : Int))) = scFrom x d (h + 1) (s.setLoss h (lo + (j : Int))) := (scFrom_agree x d (h + 1) _ _ (by omega) hag).symm
    have hsu : scTo x d h s (j + 1) = scTo x d h s j ++ scFrom x d (h + 1) (s.setLoss h (lo + (j : Int))) := by rw [scTo_succ, HRR.out]
    have hpre : scTo x d h s (j + 1) <+: scFrom x (d + 1) h s := scTo_prefix x d h s (by rw [HRR.out]; exact hjc)
    have hstep := ih (h + 1) (by omega) (pre ++ scTo x d h s j) (sj.setLoss h (lo + (j : Int))) (wr.setCell ⟨m + 1, 1 + h, none⟩ (.int .i64 (lo + (j : Int))))
     (by rw [hsc, List.append_assoc, ← hsu]; exact ((List.prefix_append_right_inj pre).2 hpre).trans HALL.out)
     (hJ _ _ _ HS.out.1 (MachKeep.setCell _ _ (by show m ≤ m + 1; omega) (by show m + 1 < m + 3; omega))) ho2 (by have := HS.out.2.2.2; simpa [World.setCell] using this)
    rw [show ((h + 1 : Nat) : Int) = (h : Int) + 1 by omega] at hstep
    have HST := Aside0.mk hstep
    have kcl := ho2.c.cell 0 _ rfl
    have hfz := HS.out.2.1.s.frozen (1 + h)
    have hsl := HS.out.2.1.s.cell (1 + h) _ (loss_cell sj h h5n)
    have HSC := Lib.hid hsc
    have HSU := Lib.hid hsu
    have HPRE := Aside0.mk hpre
    clear hstep ho2 hag hsc hsu hpre hcf hJ hCF ih hA' hY
    gi_wp2_with (gi_at_call 135; refine HST.out.mono ?_; rintro e W3 (⟨rfl, s', hJ3, ho3, ha3, hz3⟩ | ⟨rfl, q, hq, hJx3⟩))
    ·have HQ : Aside0 (J (pre ++ scTo x d h s (j + 1)) W3 ∧ Own3 m B l W3 s' ∧ Agree h (d + 1) s s' ∧ m + 3 ≤ W3.heap.size) := by
       refine ⟨?_, ho3, (HS.out.2.2.1.trans (Agree.set h d sj _ h5n)).trans (ha3.wide (by omega) (by omega)), hz3⟩
       rw [HSU.out, ← HSC.out, ← List.append_assoc]; exact hJ3
     clear hJ3 ho3 ha3 hz3 HS HST
     go_roundw
     case rel => exact ⟨j + 1, by omega, by go_num, s', HQ⟩
     case measure => simp [intOf]; omega
    ·have HQ : Aside0 (∃ q, q <+: scFrom x (d + 1) h s ∧ Jx (pre ++ q) W3) := by
       refine ⟨scTo x d h s j ++ q, ?_, by rw [← List.append_assoc]; exact hJx3⟩
       refine List.IsPrefix.trans ?_ HPRE.out
       rw [HSU.out, ← HSC.out]
       exact (List.prefix_append_right_inj _).2 hq
     clear hJx3 hq HS HST
     gi_wp2
     refine bodyPost_ret (by simp [results, Try.results135, go_sem]; rfl) rfl ?_
     exact .inr ⟨rfl, HQ.out⟩
   ·have hle2 : hi < lo + (j : Int) := by omega
    have hjn : j = (hi - lo + 1).toNat := by omega
    have HJF : Aside0 (J (pre ++ scFrom x (d + 1) h s) wr) := by
     have h1 := HS.out.1
     rw [← scTo_all, HRR.out, ← hjn]
     exact ⟨h1⟩
    clear hJ hCF ih hA' hY hcf
    gi_wp2
    refine bodyPost_ret (by simp [results, Try.results135, go_sem]; rfl) rfl ?_
    exact .inl ⟨rfl, by first | exact ⟨sj, HJF.out, HS.out.2.1, HS.out.2.2.1, HS.out.2.2.2⟩ | exact ⟨HJF.out, sj, HS.out.2.1, HS.out.2.2.1, HS.out.2.2.2⟩⟩
/-- The number in a block's first cell. -/
def cellInt (w : World) (g : Nat) : Int := match w.cell? ⟨g, 0, none⟩ with
 | some (.int _ n) => n
 | _ => 0
theorem cellInt_of {w : World} {g : Nat} {k : IntKind} {n : Int} (h : w.cell? ⟨g, 0, none⟩ = some (.int k n)) : cellInt w g = n := by unfold cellInt; rw [h]
set_option maxRecDepth 100000 in
set_option maxHeartbeats 4000000 in
theorem scenes1_calls (x : S38) (cs : List Value) (hV : Valid x) (B : Nat) :
    IterC Try.prog 134 #[.pointer (some ⟨B, 0, none⟩)] (fun y : Sc => #[.agg #[.int .i64 y.h, .int .i64 y.l0, .int .i64 y.l1, .int .i64 y.l2, .int .i64 y.l3, .int .i64 y.l4]]) 3 (CFx x cs B) (allSc x) := by
 intro l J Jx W hJ hCF hY h0
 have hf0 := hV.last0
 have hf1 := hV.last1
 have hv0 := hV.heat0
 have hv1 := hV.heat1
 have hv2 := hV.heat2
 have hcf0 := hCF _ _ h0
 obtain ⟨A5, c5, A6, c6, A9, c9, A10, c10, hcs, l5, g5, l6, g6, l9, g9, l10, g10⟩ := k38_open hcf0.2
 have kc7 : W.cell? ⟨B, 7, none⟩ = some (.int .i64 x.f7.f0) := hcf0.cell 7 _ (by rw [hcs]; rfl)
 have hBlt := hcf0.1.lt
 have hK : ∀ o1 o2 o3, MachKeep W.heap.size 3 W (((W.alloc o1).alloc o2).alloc o3) := fun _ _ _ => ((MachKeep.alloc _ _ _ _).trans (MachKeep.alloc _ _ _ _)).trans (MachKeep.alloc _ _ _ _)
 have hu := Try.underlying38
 have hu2 := Try.underlying133
 have hu3 := Try.underlying35
 have HCS := Aside0.mk hcs
 have HK := Aside0.mk hK
 clear hcs g5 g6 g9 g10 l5 l6 l9 l10 hcf0 hK
 have ko : Own3 W.heap.size B l (((W.alloc (.cells #[.func (.yield l) #[] #[]] 162)).alloc (.cells #[.int .i64 0, .int .i64 0, .int .i64 0, .int .i64 0, .int .i64 0, .int .i64 0] 133)).alloc (.cells #[(.func (.func 135) #[] #[.pointer (some ⟨B, 0, none⟩), .pointer (some ⟨W.heap.size, 0, none⟩), .pointer (some ⟨W.heap.size + 1, 0, none⟩), .pointer (some ⟨W.heap.size + 1 + 1, 0, none⟩)])] 123)) (scHeat 0) := ⟨((Blk.new _ _ _ _ rfl).alloc _).alloc _, (Blk.new _ _ _ _ (by simp)).alloc _, Blk.new _ _ _ _ (by simp)⟩
 have hjx := hJ _ _ _ h0 (HK.out (.cells #[.func (.yield l) #[] #[]] 162) (.cells #[.int .i64 0, .int .i64 0, .int .i64 0, .int .i64 0, .int .i64 0, .int .i64 0] 133) (.cells #[(.func (.func 135) #[] #[.pointer (some ⟨B, 0, none⟩), .pointer (some ⟨W.heap.size, 0, none⟩), .pointer (some ⟨W.heap.size + 1, 0, none⟩), .pointer (some ⟨W.heap.size + 1 + 1, 0, none⟩)])] 123))
 have kc7' := (hCF _ _ hjx).cell 7 (.int .i64 x.f7.f0) (by rw [HCS.out]; rfl)
 have ks0 := ko.s.cell 0 _ rfl
 have kf0 := ko.s.frozen 0
 have hzx := ko.c.lt
 have ko2 : Own3 W.heap.size B l (((W.alloc (.cells #[.func (.yield l) #[] #[]] 162)).alloc (.cells #[.int .i64 x.f7.f0, .int .i64 0, .int .i64 0, .int .i64 0, .int .i64 0, .int .i64 0] 133)).alloc (.cells #[(.func (.func 135) #[] #[.pointer (some ⟨B, 0, none⟩), .pointer (some ⟨W.heap.size, 0, none⟩), .pointer (some ⟨W.heap.size + 1, 0, none⟩), .pointer (some ⟨W.heap.size + 1 + 1, 0, none⟩)])] 123)) (scHeat x.f7.f0) := ⟨((Blk.new _ _ _ _ rfl).alloc _).alloc _, (Blk.new _ _ _ _ (by simp)).alloc _, Blk.new _ _ _ _ (by simp)⟩
 have hjy := hJ _ _ _ h0 (HK.out (.cells #[.func (.yield l) #[] #[]] 162) (.cells #[.int .i64 x.f7.f0, .int .i64 0, .int .i64 0, .int .i64 0, .int .i64 0, .int .i64 0] 133) (.cells #[(.func (.func 135) #[] #[.pointer (some ⟨B, 0, none⟩), .pointer (some ⟨W.heap.size, 0, none⟩), .pointer (some ⟨W.heap.size + 1, 0, none⟩), .pointer (some ⟨W.heap.size + 1 + 1, 0, none⟩)])] 123))
 have KO := Aside0.mk (And.intro ko2 (And.intro hjy hzx))
 clear ko ko2 hjx hjy hzx kc7 HK h0
 refine callsIn_of_wp Try.func134 rfl trivial ?_ rfl
 simp only [Try.ntmps134, List.size_toArray, List.length_cons, List.length_nil, Nat.reduceAdd, Nat.reduceSub, Array.replicate_succ, Array.replicate_zero, List.push_toArray, List.append_toArray, List.nil_append, List.cons_append]
 gi_wp2
 gi_loopw [18] (fun _ wr => ∃ j : Nat, j ≤ (x.f7.f1 - x.f7.f0 + 1).toNat ∧ ∃ s, s.h = x.f7.f0 + (j : Int) ∧ Aside0 (J (allTo x j) wr ∧ Own3 W.heap.size B l wr s ∧ Agree 0 (x.f0 + 1).toNat (scHeat (x.f7.f0 + (j : Int))) s ∧ W.heap.size + 3 ≤ wr.heap.size)) (fun _ wr => (x.f7.f1 + 1 - cellInt wr (W.heap.size + 1)).toNat)
 case atStart => exact ⟨0, Nat.zero_le _, scHeat x.f7.f0, by simp [scHeat], ⟨KO.out.2.1, KO.out.1, by simpa using Agree.refl _ _ _, by have := KO.out.2.2; have h2 := KO.out.1.c.lt; omega⟩⟩
 case round =>
  obtain ⟨j, hj, s, hsh, HS⟩ := hrel
  have hcf := hCF _ _ HS.out.1
  have kc8 : wr.cell? ⟨B, 8, none⟩ = some (.int .i64 x.f7.f1) := hcf.cell 8 _ (by rw [HCS.out]; rfl)
  have kh : wr.cell? ⟨W.heap.size + 1, 0, none⟩ = some (.int .i64 (x.f7.f0 + (j : Int))) := by rw [← hsh]; exact HS.out.2.1.s.cell 0 _ rfl
  have kcl := HS.out.2.1.c.cell 0 _ rfl
  by_cases hjc : j < (x.f7.f1 - x.f7.f0 + 1).toNat
  ·have hle2 : x.f7.f0 + (j : Int) ≤ x.f7.f1 := by omega
   have hsc : scFrom x (x.f0 + 1).toNat 0 s = scFrom x (x.f0 + 1).toNat 0 (scHeat (x.f7.f0 + (j : Int))) := (scFrom_agree x _ 0 _ _ (by omega) HS.out.2.2.1).symm
   have hsu := allTo_succ x j
   have hpre : allTo x (j + 1) <+: allSc x := allTo_prefix x hjc
   have hstep := choose_calls x cs hV B W.heap.size l J Jx hJ hCF hY (x.f0 + 1).toNat 0 (by omega) (allTo x j) s wr (by rw [hsc, ← hsu]; exact hpre) HS.out.1 HS.out.2.1 HS.out.2.2.2
   have HST := Aside0.mk hstep
   have HSC := Lib.hid hsc
   have HSU := Lib.hid hsu
   have HPRE := Aside0.mk hpre
   have HJ := Aside0.mk hJ
   clear hstep hsc hsu hpre hcf hJ hCF hY
   gi_wp2_with (gi_at_call 135; refine HST.out.mono ?_; rintro e W3 (⟨rfl, s', hJ3, ho3, ha3, hz3⟩ | ⟨rfl, q, hq, hJx3⟩); focus (have hh3 : s'.h = x.f7.f0 + (j : Int) := ha3.1.symm.trans hsh; have kh3 : W3.cell? ⟨W.heap.size + 1, 0, none⟩ = some (.int .i64 (x.f7.f0 + (j : Int))) := by { rw [← hh3]; exact ho3.s.cell 0 _ rfl }; have kf3 := ho3.s.frozen 0; have HQ := Aside0.mk (And.intro hJ3 (And.intro ho3 (And.intro ha3 hz3))); clear hJ3 ho3 ha3 hz3))
   ·have hn : Own3 W.heap.size B l (W3.setCell ⟨W.heap.size + 1, 0, none⟩ (.int .i64 (x.f7.f0 + (j : Int) + 1))) { s' with h := x.f7.f0 + (j : Int) + 1 } := HQ.out.2.1.heat _
    have hn1 : J (allTo x (j + 1)) (W3.setCell ⟨W.heap.size + 1, 0, none⟩ (.int .i64 (x.f7.f0 + (j : Int) + 1))) := by
     refine HJ.out _ _ _ ?_ (MachKeep.setCell _ _ (by show W.heap.size ≤ W.heap.size + 1; omega) (by show W.heap.size + 1 < W.heap.size + 3; omega))
     rw [HSU.out, ← HSC.out]
     exact HQ.out.1
    have hn2 : Agree 0 (x.f0 + 1).toNat (scHeat (x.f7.f0 + (j : Int) + 1)) { s' with h := x.f7.f0 + (j : Int) + 1 } :=
     ⟨rfl, fun k h5 hk => by
      have h1 := HQ.out.2.2.1.2 k h5 hk
      have h2 := HS.out.2.2.1.2 k h5 hk
      rw [scHeat_loss] at h2 ⊢
      exact h2.trans h1⟩
    have hn3 := hn.c.lt
    have kme := cellInt_of (hn.s.cell 0 _ rfl)
    have kme0 := cellInt_of kh
    have HN := Aside0.mk (And.intro hn1 (And.intro hn (And.intro hn2 hn3)))
    clear hn hn1 hn2 hn3 HQ
    go_roundw
    case rel =>
     refine ⟨j + 1, by omega, { s' with h := x.f7.f0 + (j : Int) + 1 }, by simp; omega, ?_⟩
     rw [show ((j + 1 : Nat) : Int) = (j : Int) + 1 by omega, ← Int.add_assoc]
     exact HN
    case measure => rw [kme, kme0]; simp; omega
   ·have HQ : Aside0 (∃ q, q <+: allSc x ∧ Jx q W3) := by
      refine ⟨allTo x j ++ q, ?_, hJx3⟩
      refine List.IsPrefix.trans ?_ HPRE.out
      rw [HSU.out, ← HSC.out]
      exact (List.prefix_append_right_inj _).2 hq
    clear hJx3 hq HS HST
    gi_wp2
    refine bodyPost_ret (by simp [results, Try.results134, go_sem]; rfl) rfl ?_
    exact ⟨⟨_, rfl⟩, .inr HQ.out⟩
  ·have hle2 : x.f7.f1 < x.f7.f0 + (j : Int) := by omega
   have hjn : j = (x.f7.f1 - x.f7.f0 + 1).toNat := by omega
   have HJF : Aside0 (J (allSc x) wr) := by
    have h1 := HS.out.1
    rw [← allTo_all, ← hjn]
    exact ⟨h1⟩
   clear hJ hCF hY hcf HS
   gi_wp2
   go_end0
   exact ⟨⟨_, rfl⟩, .inl HJF.out⟩
end Go.Proofs.Ytdgkhoflajdidaa
/- possible: is there a truth without some readings. -/
namespace Go.Proofs.Ytdgkhoflajdidaa
open Go.RowKit Go.Proofs.YtdgkhoflajdidaaW.PrintWords Go.Proofs.YtdgkhoflajdidaaW.PrintMore Go.Proofs.YtdgkhoflajdidaaW.PrintLast Go.Proofs.Ytdgkhoflajdidaa.Print
set_option linter.unusedVariables false
set_option linter.unusedSimpArgs false
attribute [local go_sem] wide_depth wide_fn Oper.semAt_some
set_option maxRecDepth 100000 in
set_option maxHeartbeats 1000000 in
theorem scenes_calls (x : S38) (cs : List Value) (w : World) (hx : k38.K w x cs) :
    Calls Try.prog 117 #[.agg cs.toArray] w fun e w' => e = .returned (.func (.func 134) #[] #[.pointer (some ⟨w.heap.size, 0, none⟩)]) ∧ w' = w.alloc (.cells cs.toArray 38) := by
 obtain ⟨A5, c5, A6, c6, A9, c9, A10, c10, rfl, _⟩ := k38_open hx
 clear hx
 have hu := Try.underlying38
 go_enter Try.func117, Try.ntmps117
 go_wp2
 go_ret
 exact ⟨rfl, rfl⟩
theorem KeepI.set {m n : Nat} (A : World) {p : Addr} (v : Value) (h : p.block < m ∨ m + n ≤ p.block) : KeepI m n A (A.setCell p v) := fun k h1 h2 => Below.heap_setCell A p v k (by omega)
set_option maxRecDepth 100000 in
set_option maxHeartbeats 4000000 in
theorem possible_calls (x : S38) (cs : List Value) (C : Option Addr) (c : Nat) (out : List Int) (w : World) (hx : k38.K w x cs) (hout : Kd.C (Kd.int .i64) w C out.length out) (hV : Valid x) :
    Calls Try.prog 89 #[.agg cs.toArray, .slice C out.length c] w fun e w' => e = .returned (.bool ((allSc x).any fun s => rightB x s out)) ∧ Below w.heap.size w w' := by
 obtain ⟨A5, c5, A6, c6, A9, c9, A10, c10, hcs, _⟩ := k38_open hx
 have HX := Aside0.mk hx
 have HO := Aside0.mk hout
 have HV := Aside0.mk hV
 subst hcs
 clear hx hout hV
 have hu := Try.underlying38
 have hu2 := Try.underlying133
 have hsc := fun W (hW : Below w.heap.size w W) => scenes_calls x _ W (k38.K_below hW HX.out)
 have hb3 : ∀ o1 o2 o3, Below w.heap.size w (((w.alloc o1).alloc o2).alloc o3) := fun o1 o2 o3 => below_alloc (below_alloc (below_alloc (Below.refl _ _) _) _) _
 refine (callsIn_wide (n := 0)).1 ?_
 refine callsIn_of_wp_marks Try.func89 rfl trivial ?_ rfl
 simp only [Try.ntmps89, List.size_toArray, List.length_cons, List.length_nil, Nat.reduceAdd, Nat.reduceSub, Array.replicate_succ, Array.replicate_zero, List.push_toArray, List.append_toArray, List.nil_append, List.cons_append]
 gi_wp2_with (gi_at_call 117; refine (callsIn_wide.2 (hsc _ (hb3 _ _ _))).mono ?_; rintro e w' ⟨rfl, rfl⟩)
 have hz : ((((w.alloc (.cells #[.int .i64 x.f0, .int .i64 x.f1, .int .i64 x.f2, .int .i64 x.f3, .int .i64 x.f4, .slice A5 x.f5.length c5, .slice A6 x.f6.length c6, .int .i64 x.f7.f0, .int .i64 x.f7.f1, .slice A9 x.f8.length c9, .slice A10 x.f9.length c10] 38)).alloc (.cells #[.slice C out.length c] 22)).alloc (.cells #[.bool false] 4)).alloc (.cells #[.int .i64 x.f0, .int .i64 x.f1, .int .i64 x.f2, .int .i64 x.f3, .int .i64 x.f4, .slice A5 x.f5.length c5, .slice A6 x.f6.length c6, .int .i64 x.f7.f0, .int .i64 x.f7.f1, .slice A9 x.f8.length c9, .slice A10 x.f9.length c10] 38)).heap.size = w.heap.size + 4 := by simp
 have h1 : Blk ((((w.alloc (.cells #[.int .i64 x.f0, .int .i64 x.f1, .int .i64 x.f2, .int .i64 x.f3, .int .i64 x.f4, .slice A5 x.f5.length c5, .slice A6 x.f6.length c6, .int .i64 x.f7.f0, .int .i64 x.f7.f1, .slice A9 x.f8.length c9, .slice A10 x.f9.length c10] 38)).alloc (.cells #[.slice C out.length c] 22)).alloc (.cells #[.bool false] 4)).alloc (.cells #[.int .i64 x.f0, .int .i64 x.f1, .int .i64 x.f2, .int .i64 x.f3, .int .i64 x.f4, .slice A5 x.f5.length c5, .slice A6 x.f6.length c6, .int .i64 x.f7.f0, .int .i64 x.f7.f1, .slice A9 x.f8.length c9, .slice A10 x.f9.length c10] 38)) w.heap.size #[.int .i64 x.f0, .int .i64 x.f1, .int .i64 x.f2, .int .i64 x.f3, .int .i64 x.f4, .slice A5 x.f5.length c5, .slice A6 x.f6.length c6, .int .i64 x.f7.f0, .int .i64 x.f7.f1, .slice A9 x.f8.length c9, .slice A10 x.f9.length c10] 38 := (((Blk.new _ _ _ _ rfl).alloc _).alloc _).alloc _
 have h2 : Blk ((((w.alloc (.cells #[.int .i64 x.f0, .int .i64 x.f1, .int .i64 x.f2, .int .i64 x.f3, .int .i64 x.f4, .slice A5 x.f5.length c5, .slice A6 x.f6.length c6, .int .i64 x.f7.f0, .int .i64 x.f7.f1, .slice A9 x.f8.length c9, .slice A10 x.f9.length c10] 38)).alloc (.cells #[.slice C out.length c] 22)).alloc (.cells #[.bool false] 4)).alloc (.cells #[.int .i64 x.f0, .int .i64 x.f1, .int .i64 x.f2, .int .i64 x.f3, .int .i64 x.f4, .slice A5 x.f5.length c5, .slice A6 x.f6.length c6, .int .i64 x.f7.f0, .int .i64 x.f7.f1, .slice A9 x.f8.length c9, .slice A10 x.f9.length c10] 38)) (w.heap.size + 1) #[.slice C out.length c] 22 := ((Blk.new _ _ _ _ (by simp)).alloc _).alloc _
 have h3 : Blk ((((w.alloc (.cells #[.int .i64 x.f0, .int .i64 x.f1, .int .i64 x.f2, .int .i64 x.f3, .int .i64 x.f4, .slice A5 x.f5.length c5, .slice A6 x.f6.length c6, .int .i64 x.f7.f0, .int .i64 x.f7.f1, .slice A9 x.f8.length c9, .slice A10 x.f9.length c10] 38)).alloc (.cells #[.slice C out.length c] 22)).alloc (.cells #[.bool false] 4)).alloc (.cells #[.int .i64 x.f0, .int .i64 x.f1, .int .i64 x.f2, .int .i64 x.f3, .int .i64 x.f4, .slice A5 x.f5.length c5, .slice A6 x.f6.length c6, .int .i64 x.f7.f0, .int .i64 x.f7.f1, .slice A9 x.f8.length c9, .slice A10 x.f9.length c10] 38)) (w.heap.size + 1 + 1) #[.bool false] 4 := (Blk.new _ _ _ _ (by simp)).alloc _
 have h4 : Blk ((((w.alloc (.cells #[.int .i64 x.f0, .int .i64 x.f1, .int .i64 x.f2, .int .i64 x.f3, .int .i64 x.f4, .slice A5 x.f5.length c5, .slice A6 x.f6.length c6, .int .i64 x.f7.f0, .int .i64 x.f7.f1, .slice A9 x.f8.length c9, .slice A10 x.f9.length c10] 38)).alloc (.cells #[.slice C out.length c] 22)).alloc (.cells #[.bool false] 4)).alloc (.cells #[.int .i64 x.f0, .int .i64 x.f1, .int .i64 x.f2, .int .i64 x.f3, .int .i64 x.f4, .slice A5 x.f5.length c5, .slice A6 x.f6.length c6, .int .i64 x.f7.f0, .int .i64 x.f7.f1, .slice A9 x.f8.length c9, .slice A10 x.f9.length c10] 38)) (w.heap.size + 1 + 1 + 1) #[.int .i64 x.f0, .int .i64 x.f1, .int .i64 x.f2, .int .i64 x.f3, .int .i64 x.f4, .slice A5 x.f5.length c5, .slice A6 x.f6.length c6, .int .i64 x.f7.f0, .int .i64 x.f7.f1, .slice A9 x.f8.length c9, .slice A10 x.f9.length c10] 38 := Blk.new _ _ _ _ (by simp)
 have h5 : Below w.heap.size w ((((w.alloc (.cells #[.int .i64 x.f0, .int .i64 x.f1, .int .i64 x.f2, .int .i64 x.f3, .int .i64 x.f4, .slice A5 x.f5.length c5, .slice A6 x.f6.length c6, .int .i64 x.f7.f0, .int .i64 x.f7.f1, .slice A9 x.f8.length c9, .slice A10 x.f9.length c10] 38)).alloc (.cells #[.slice C out.length c] 22)).alloc (.cells #[.bool false] 4)).alloc (.cells #[.int .i64 x.f0, .int .i64 x.f1, .int .i64 x.f2, .int .i64 x.f3, .int .i64 x.f4, .slice A5 x.f5.length c5, .slice A6 x.f6.length c6, .int .i64 x.f7.f0, .int .i64 x.f7.f1, .slice A9 x.f8.length c9, .slice A10 x.f9.length c10] 38)) := below_alloc (hb3 _ _ _) _
 generalize ((((w.alloc (.cells #[.int .i64 x.f0, .int .i64 x.f1, .int .i64 x.f2, .int .i64 x.f3, .int .i64 x.f4, .slice A5 x.f5.length c5, .slice A6 x.f6.length c6, .int .i64 x.f7.f0, .int .i64 x.f7.f1, .slice A9 x.f8.length c9, .slice A10 x.f9.length c10] 38)).alloc (.cells #[.slice C out.length c] 22)).alloc (.cells #[.bool false] 4)).alloc (.cells #[.int .i64 x.f0, .int .i64 x.f1, .int .i64 x.f2, .int .i64 x.f3, .int .i64 x.f4, .slice A5 x.f5.length c5, .slice A6 x.f6.length c6, .int .i64 x.f7.f0, .int .i64 x.f7.f1, .slice A9 x.f8.length c9, .slice A10 x.f9.length c10] 38)) = W0 at hz h1 h2 h3 h4 h5 ⊢
 have HI : ∀ {W : World}, Below w.heap.size w W → k38.K W x [.int .i64 x.f0, .int .i64 x.f1, .int .i64 x.f2, .int .i64 x.f3, .int .i64 x.f4, .slice A5 x.f5.length c5, .slice A6 x.f6.length c6, .int .i64 x.f7.f0, .int .i64 x.f7.f1, .slice A9 x.f8.length c9, .slice A10 x.f9.length c10] := fun hW => k38.K_below hW HX.out
 clear hsc hb3
 refine wpIn_rangeFunc_mine (gf := 134) (lb := #[.pointer (some ⟨w.heap.size + 1 + 1 + 1, 0, none⟩)]) rfl (enters_of Try.func134 (by kernel_rfl) rfl) (scenes1_calls x [.int .i64 x.f0, .int .i64 x.f1, .int .i64 x.f2, .int .i64 x.f3, .int .i64 x.f4, .slice A5 x.f5.length c5, .slice A6 x.f6.length c6, .int .i64 x.f7.f0, .int .i64 x.f7.f1, .slice A9 x.f8.length c9, .slice A10 x.f9.length c10] HV.out (w.heap.size + 1 + 1 + 1)) (fun _ => rfl)
  (fun pre W => Blk W w.heap.size #[.int .i64 x.f0, .int .i64 x.f1, .int .i64 x.f2, .int .i64 x.f3, .int .i64 x.f4, .slice A5 x.f5.length c5, .slice A6 x.f6.length c6, .int .i64 x.f7.f0, .int .i64 x.f7.f1, .slice A9 x.f8.length c9, .slice A10 x.f9.length c10] 38 ∧ Blk W (w.heap.size + 1) #[.slice C out.length c] 22 ∧ Blk W (w.heap.size + 1 + 1) #[.bool false] 4 ∧ Blk W (w.heap.size + 1 + 1 + 1) #[.int .i64 x.f0, .int .i64 x.f1, .int .i64 x.f2, .int .i64 x.f3, .int .i64 x.f4, .slice A5 x.f5.length c5, .slice A6 x.f6.length c6, .int .i64 x.f7.f0, .int .i64 x.f7.f1, .slice A9 x.f8.length c9, .slice A10 x.f9.length c10] 38 ∧ Below w.heap.size w W ∧ ∀ s ∈ pre, rightB x s out = false)
  (fun c' pre W => c' = .ret ∧ Blk W (w.heap.size + 1 + 1) #[.bool true] 4 ∧ Below w.heap.size w W ∧ ∃ s ∈ pre, rightB x s out = true)
  (fun pre A B h hk => by
   rw [hz] at hk
   exact ⟨h.1.mach hk (by omega), h.2.1.mach hk (by omega), h.2.2.1.mach hk (by omega), h.2.2.2.1.mach hk (by omega), hk.below h.2.2.2.2.1 (Nat.le_refl _) (by omega), h.2.2.2.2.2⟩)
  (fun c' pre A B h hk => by
   rw [hz] at hk
   exact ⟨h.1, h.2.1.mach hk (by omega), hk.below h.2.2.1 (Nat.le_refl _) (by omega), h.2.2.2⟩)
  (fun pre A h => ⟨h.2.2.2.1, HI h.2.2.2.2.1⟩)
  ⟨h1, h2, h3, h4, h5, fun s hs => by cases hs⟩
  (fun pre y a' W => ∃ Bx, w.heap.size + 9 ≤ Bx ∧ Blk W Bx #[.int .i64 y.h, .int .i64 y.l0, .int .i64 y.l1, .int .i64 y.l2, .int .i64 y.l3, .int .i64 y.l4] 133 ∧ a' = { tmps := #[.agg #[.int .i64 x.f0, .int .i64 x.f1, .int .i64 x.f2, .int .i64 x.f3, .int .i64 x.f4, .slice A5 x.f5.length c5, .slice A6 x.f6.length c6, .int .i64 x.f7.f0, .int .i64 x.f7.f1, .slice A9 x.f8.length c9, .slice A10 x.f9.length c10], .slice C out.length c, .pointer (some ⟨w.heap.size, 0, none⟩), .pointer (some ⟨w.heap.size + 1, 0, none⟩), .pointer (some ⟨w.heap.size + 1 + 1, 0, none⟩), .pointer (some ⟨Bx, 0, none⟩), .agg #[.int .i64 x.f0, .int .i64 x.f1, .int .i64 x.f2, .int .i64 x.f3, .int .i64 x.f4, .slice A5 x.f5.length c5, .slice A6 x.f6.length c6, .int .i64 x.f7.f0, .int .i64 x.f7.f1, .slice A9 x.f8.length c9, .slice A10 x.f9.length c10], .func (.func 134) #[] #[.pointer (some ⟨w.heap.size + 1 + 1 + 1, 0, none⟩)], .agg #[.int .i64 y.h, .int .i64 y.l0, .int .i64 y.l1, .int .i64 y.l2, .int .i64 y.l3, .int .i64 y.l4], undef, undef, undef, undef], defers := [] })
  (fun pre y a' A B h _ hk => by
   rw [hz] at hk
   obtain ⟨Bx, hB, hb, ha⟩ := h
   exact ⟨Bx, hB, hb.mach hk (by omega), ha⟩)
  ?assign ?body ?done ?stop
 case assign =>
  intro l pre y W K hsz hI hK
  have hK2 := hK { tmps := #[.agg #[.int .i64 x.f0, .int .i64 x.f1, .int .i64 x.f2, .int .i64 x.f3, .int .i64 x.f4, .slice A5 x.f5.length c5, .slice A6 x.f6.length c6, .int .i64 x.f7.f0, .int .i64 x.f7.f1, .slice A9 x.f8.length c9, .slice A10 x.f9.length c10], .slice C out.length c, .pointer (some ⟨w.heap.size, 0, none⟩), .pointer (some ⟨w.heap.size + 1, 0, none⟩), .pointer (some ⟨w.heap.size + 1 + 1, 0, none⟩), .pointer (some ⟨W.heap.size, 0, none⟩), .agg #[.int .i64 x.f0, .int .i64 x.f1, .int .i64 x.f2, .int .i64 x.f3, .int .i64 x.f4, .slice A5 x.f5.length c5, .slice A6 x.f6.length c6, .int .i64 x.f7.f0, .int .i64 x.f7.f1, .slice A9 x.f8.length c9, .slice A10 x.f9.length c10], .func (.func 134) #[] #[.pointer (some ⟨w.heap.size + 1 + 1 + 1, 0, none⟩)], .agg #[.int .i64 y.h, .int .i64 y.l0, .int .i64 y.l1, .int .i64 y.l2, .int .i64 y.l3, .int .i64 y.l4], undef, undef, undef, undef], defers := [] } (W.alloc (.cells #[.int .i64 y.h, .int .i64 y.l0, .int .i64 y.l1, .int .i64 y.l2, .int .i64 y.l3, .int .i64 y.l4] 133)) (KeepI.of_below (below_alloc (Below.refl _ _) _) hsz) (by simp)
   ⟨hI.1.alloc _, hI.2.1.alloc _, hI.2.2.1.alloc _, hI.2.2.2.1.alloc _, bel2 hI.2.2.2.2.1 (below_alloc (Below.refl _ _) _), hI.2.2.2.2.2⟩ ⟨W.heap.size, by rw [hz] at hsz; omega, Blk.new _ _ _ _ rfl, rfl⟩
  gi_wp2
  exact hK2
 case body =>
  rintro l pre y a' W hsz hy hI ⟨Bx, hB, hb, rfl⟩
  rw [hz] at hsz
  have hIn := (mem_allSc HV.out).1 (hy.subset (List.mem_append_right pre (List.mem_singleton_self y)))
  have hcall := right_calls x _ y C c out W (HI hI.2.2.2.2.1) (Kd.C_below HO.out hI.2.2.2.2.1) HV.out (hIn.ok HV.out)
  have k0 := hI.1.cell 0 _ rfl
  have k1 := hI.1.cell 1 _ rfl
  have k2 := hI.1.cell 2 _ rfl
  have k3 := hI.1.cell 3 _ rfl
  have k4 := hI.1.cell 4 _ rfl
  have k5 := hI.1.cell 5 _ rfl
  have k6 := hI.1.cell 6 _ rfl
  have k7 := hI.1.cell 7 _ rfl
  have k8 := hI.1.cell 8 _ rfl
  have k9 := hI.1.cell 9 _ rfl
  have k10 := hI.1.cell 10 _ rfl
  have kc := hI.2.1.cell 0 _ rfl
  have b0 := hb.cell 0 _ rfl
  have b1 := hb.cell 1 _ rfl
  have b2 := hb.cell 2 _ rfl
  have b3 := hb.cell 3 _ rfl
  have b4 := hb.cell 4 _ rfl
  have b5 := hb.cell 5 _ rfl
  have II := Aside0.mk hI
  clear hI hb hIn hy HI
  cases hr : rightB x y out with
  | true =>
   rw [hr] at hcall
   have HR := Lib.hid hr
   clear hr
   gi_wp2_with (gi_at_call 100; refine (CallsIn.inRound l (callsIn_wide.2 hcall)).mono ?_; rintro e W3 ⟨rfl, hb3⟩; focus (have h3 := II.out.2.2.1.below hb3; have h3c := h3.cell 0 _ rfl; have h3f := h3.frozen 0; have H3 := Aside0.mk (And.intro h3 hb3); clear h3 hb3))
   refine ⟨?_, rfl, ?_, ?_, y, by simp, HR.out⟩
   ·rw [hz]
    exact (KeepI.of_below H3.out.2 (by omega)).trans (KeepI.set _ _ (by left; show w.heap.size + 1 + 1 < _; omega))
   ·exact H3.out.1.set 0 _
   ·exact (bel2 II.out.2.2.2.2.1 H3.out.2).setCell (p := ⟨w.heap.size + 1 + 1, 0, none⟩) (by show w.heap.size ≤ w.heap.size + 1 + 1; omega) _
  | false =>
   rw [hr] at hcall
   have HR := Lib.hid hr
   clear hr
   gi_wp2_with (gi_at_call 100; refine (CallsIn.inRound l (callsIn_wide.2 hcall)).mono ?_; rintro e W3 ⟨rfl, hb3⟩; focus (have H3 := Aside0.mk hb3; clear hb3))
   have hb3 := H3.out
   have hI := II.out
   refine ⟨KeepI.of_below hb3 (by rw [hz]; omega), hI.1.below hb3, hI.2.1.below hb3, hI.2.2.1.below hb3, hI.2.2.2.1.below hb3, bel2 hI.2.2.2.2.1 hb3, ?_⟩
   intro t ht
   rcases List.mem_append.1 ht with h | h
   ·exact hI.2.2.2.2.2 t h
   ·rw [List.mem_singleton.1 h]; exact HR.out
 case done =>
  intro W hI hK
  have h3 := hI.2.2.1
  have h3c := h3.cell 0 _ rfl
  have h3f := h3.frozen 0
  have hfin : ((allSc x).any fun s => rightB x s out) = false := List.any_eq_false.2 (fun t ht => by simp [hI.2.2.2.2.2 t ht])
  have HF := Lib.hid hfin
  have II := Aside0.mk hI
  have HK := Aside0.mk hK
  clear hI hK hfin h3
  gi_wp2
  have hK2 := (Below.heap_setCell W ⟨w.heap.size + 1 + 1, 0, none⟩ (.bool false) W0.heap.size (by rw [hz]; show w.heap.size + 4 ≠ w.heap.size + 1 + 1; omega)).trans HK.out
  refine ⟨by simp, .inl ⟨_, _, rfl, run_takeDeferred hK2, ?_⟩⟩
  have h3' := ((II.out.2.2.1.set 0 (.bool false)).mach (MachKeep.putObj (m := w.heap.size + 4) (n := 1) _ (.deferred none) (l := W0.heap.size) (by omega) (by omega)) (by omega)).cell 0 _ rfl
  have hb3 : Below w.heap.size w ((W.setCell ⟨w.heap.size + 1 + 1, 0, none⟩ (.bool false)).putObj W0.heap.size (.deferred none)) := MachKeep.below (m := w.heap.size + 4) (n := 1) (MachKeep.putObj _ _ (by omega) (by omega)) (II.out.2.2.2.2.1.setCell (p := ⟨w.heap.size + 1 + 1, 0, none⟩) (by show w.heap.size ≤ w.heap.size + 1 + 1; omega) _) (Nat.le_refl _) (by omega)
  exact ⟨_, by simp [results, Try.results89, go_sem, h3']; rfl, by rw [HF.out], hb3⟩
 case stop =>
  rintro c' pre W hpre ⟨rfl, h3, hb, t, ht, hr⟩ hK
  have hfin : ((allSc x).any fun s => rightB x s out) = true := List.any_eq_true.2 ⟨t, hpre.subset ht, hr⟩
  have HF := Lib.hid hfin
  clear hfin hr ht hpre
  gi_wp2
  refine ⟨by simp, .inl ⟨_, _, rfl, run_takeDeferred hK, ?_⟩⟩
  have h3' := (h3.mach (MachKeep.putObj (m := w.heap.size + 4) (n := 1) _ (.deferred none) (l := W0.heap.size) (by omega) (by omega)) (by omega)).cell 0 _ rfl
  have hb3 : Below w.heap.size w (W.putObj W0.heap.size (.deferred none)) := MachKeep.below (m := w.heap.size + 4) (n := 1) (MachKeep.putObj _ _ (by omega) (by omega)) hb (Nat.le_refl _) (by omega)
  exact ⟨_, by simp [results, Try.results89, go_sem, h3']; rfl, by rw [HF.out], hb3⟩
end Go.Proofs.Ytdgkhoflajdidaa
