/- Lemmas for the laws' proofs: Md2, Me, Ra. -/
import Derived.Test.YtdgkhoflajdidaaCore15
import Derived.Test.YtdgkhoflajdidaaCore03
import Derived.WalkKit
import Derived.ProofKit
import Derived.OpenShut
import Derived.ShutString
import Derived.ChangeOld
import Derived.ChangeArms
import Derived.ChangeSlices
import Derived.Deep.Slices
import Derived.Carry
import Derived.Below
import Derived.SizedLaws
/- Fault: where the last tests fail, or none. -/
namespace Go.Proofs.Ytdgkhoflajdidaa
open Go.RowKit Go.Proofs.YtdgkhoflajdidaaW.PrintWords Go.Proofs.YtdgkhoflajdidaaW.PrintMore Go.Proofs.YtdgkhoflajdidaaW.PrintLast Go.Proofs.Ytdgkhoflajdidaa.Print
set_option linter.unusedVariables false
set_option linter.unusedSimpArgs false
set_option maxRecDepth 100000
set_option maxHeartbeats 4000000
theorem fault_8 (x : S38) (cs : List Value) (w : World) (hx : k38.K w x cs) (ha : x.f0 ≤ 4) (hr : x.f9.length ≤ 5) (h1 : 0 ≤ x.f0) (h2 : inR x.f2 0 999 = true) (h3 : inR x.f1 0 x.f2 = true) (h4 : inR x.f3 1 20 = true) (h5 : inR x.f4 0 3 = true) (h6 : forHours x.f0 x.f5 x.f4 = true) (h7 : forHours x.f0 x.f6 20 = true) (h8 : inside x.f7 99 = false) : Calls Try.prog 86 #[.agg cs.toArray] w fun e w' => e = .returned (.int .i64 1) ∧ Below w.heap.size w w' := by
 have HX := Aside0.mk hx
 obtain ⟨A5, c5, A6, c6, A9, c9, A10, c10, rfl, l5, g5, l6, g6, l9, g9, l10, g10⟩ := k38_open hx
 have G5 := Aside0.mk g5
 have G6 := Aside0.mk g6
 have G9 := Aside0.mk g9
 have G10 := Aside0.mk g10
 clear hx g5 g6 g9 g10 l5 l6 l9 l10
 have hu := Try.underlying28
 have hu3 := Try.underlying24
 have hu4 := Try.underlying96
 have HB := Aside0.mk (And.intro (below_alloc (Below.refl w.heap.size w) (.cells #[.int .i64 x.f0, .int .i64 x.f1, .int .i64 x.f2, .int .i64 x.f3, .int .i64 x.f4, .slice A5 x.f5.length c5, .slice A6 x.f6.length c6, .int .i64 x.f7.f0, .int .i64 x.f7.f1, .slice A9 x.f8.length c9, .slice A10 x.f9.length c10] 28)) (Blk.new w #[.int .i64 x.f0, .int .i64 x.f1, .int .i64 x.f2, .int .i64 x.f3, .int .i64 x.f4, .slice A5 x.f5.length c5, .slice A6 x.f6.length c6, .int .i64 x.f7.f0, .int .i64 x.f7.f1, .slice A9 x.f8.length c9, .slice A10 x.f9.length c10] 28 _ rfl))
 have hrz : (x.f9.length : Int) ≤ 5 := by omega
 go_enter Try.func86, Try.ntmps86
 go_wp2_with fail
 refine (rIn_calls x.f2 0 999 _).mono ?_
 rintro e w' ⟨rfl, rfl⟩
 rw [h2]
 go_wp2_with fail
 refine (rIn_calls x.f1 0 x.f2 _).mono ?_
 rintro e w' ⟨rfl, rfl⟩
 rw [h3]
 go_wp2_with fail
 refine (rIn_calls x.f3 1 20 _).mono ?_
 rintro e w' ⟨rfl, rfl⟩
 rw [h4]
 go_wp2_with fail
 refine (rIn_calls x.f4 0 3 _).mono ?_
 rintro e w' ⟨rfl, rfl⟩
 rw [h5]
 go_wp2_with fail
 refine (each_calls x _ A5 c5 x.f5 x.f4 _ (k38.K_below HB.out.1 HX.out) (Kd.C_below G5.out HB.out.1)).mono ?_
 rintro e w5 ⟨rfl, hb⟩
 rw [h6]
 have hb' := And.intro (bel2 HB.out.1 hb) (HB.out.2.below hb)
 clear HB hb
 have HB := Aside0.mk hb'
 clear hb'
 have k0 := HB.out.2.cell 0 _ rfl
 have k1 := HB.out.2.cell 1 _ rfl
 have k2 := HB.out.2.cell 2 _ rfl
 have k3 := HB.out.2.cell 3 _ rfl
 have k4 := HB.out.2.cell 4 _ rfl
 have k5 := HB.out.2.cell 5 _ rfl
 have k6 := HB.out.2.cell 6 _ rfl
 have k7 := HB.out.2.cell 7 _ rfl
 have k8 := HB.out.2.cell 8 _ rfl
 have k9 := HB.out.2.cell 9 _ rfl
 have k10 := HB.out.2.cell 10 _ rfl
 go_wp2_with fail
 refine (each_calls x _ A6 c6 x.f6 20 _ (k38.K_below HB.out.1 HX.out) (Kd.C_below G6.out HB.out.1)).mono ?_
 rintro e w6 ⟨rfl, hb⟩
 rw [h7]
 have hb' := And.intro (bel2 HB.out.1 hb) (HB.out.2.below hb)
 clear HB hb
 have HB := Aside0.mk hb'
 clear hb'
 have k0 := HB.out.2.cell 0 _ rfl
 have k1 := HB.out.2.cell 1 _ rfl
 have k2 := HB.out.2.cell 2 _ rfl
 have k3 := HB.out.2.cell 3 _ rfl
 have k4 := HB.out.2.cell 4 _ rfl
 have k5 := HB.out.2.cell 5 _ rfl
 have k6 := HB.out.2.cell 6 _ rfl
 have k7 := HB.out.2.cell 7 _ rfl
 have k8 := HB.out.2.cell 8 _ rfl
 have k9 := HB.out.2.cell 9 _ rfl
 have k10 := HB.out.2.cell 10 _ rfl
 go_wp2_with fail
 refine (rInside_calls x.f7 99 _).mono ?_
 rintro e w7 ⟨rfl, hb⟩
 rw [h8]
 have hb' := And.intro (bel2 HB.out.1 hb) (HB.out.2.below hb)
 clear HB hb
 have HB := Aside0.mk hb'
 clear hb'
 have k0 := HB.out.2.cell 0 _ rfl
 have k1 := HB.out.2.cell 1 _ rfl
 have k2 := HB.out.2.cell 2 _ rfl
 have k3 := HB.out.2.cell 3 _ rfl
 have k4 := HB.out.2.cell 4 _ rfl
 have k5 := HB.out.2.cell 5 _ rfl
 have k6 := HB.out.2.cell 6 _ rfl
 have k7 := HB.out.2.cell 7 _ rfl
 have k8 := HB.out.2.cell 8 _ rfl
 have k9 := HB.out.2.cell 9 _ rfl
 have k10 := HB.out.2.cell 10 _ rfl
 go_wp2
 go_ret
 exact ⟨rfl, HB.out.1⟩
theorem fault_9 (x : S38) (cs : List Value) (w : World) (hx : k38.K w x cs) (ha : x.f0 ≤ 4) (hr : x.f9.length ≤ 5) (h1 : 0 ≤ x.f0) (h2 : inR x.f2 0 999 = true) (h3 : inR x.f1 0 x.f2 = true) (h4 : inR x.f3 1 20 = true) (h5 : inR x.f4 0 3 = true) (h6 : forHours x.f0 x.f5 x.f4 = true) (h7 : forHours x.f0 x.f6 20 = true) (h8 : inside x.f7 99 = true) (h9 : ((x.f8.length : Int) == x.f0 + 1) = false) : Calls Try.prog 86 #[.agg cs.toArray] w fun e w' => e = .returned (.int .i64 1) ∧ Below w.heap.size w w' := by
 have HX := Aside0.mk hx
 obtain ⟨A5, c5, A6, c6, A9, c9, A10, c10, rfl, l5, g5, l6, g6, l9, g9, l10, g10⟩ := k38_open hx
 have G5 := Aside0.mk g5
 have G6 := Aside0.mk g6
 have G9 := Aside0.mk g9
 have G10 := Aside0.mk g10
 clear hx g5 g6 g9 g10 l5 l6 l9 l10
 have hu := Try.underlying28
 have hu3 := Try.underlying24
 have hu4 := Try.underlying96
 have HB := Aside0.mk (And.intro (below_alloc (Below.refl w.heap.size w) (.cells #[.int .i64 x.f0, .int .i64 x.f1, .int .i64 x.f2, .int .i64 x.f3, .int .i64 x.f4, .slice A5 x.f5.length c5, .slice A6 x.f6.length c6, .int .i64 x.f7.f0, .int .i64 x.f7.f1, .slice A9 x.f8.length c9, .slice A10 x.f9.length c10] 28)) (Blk.new w #[.int .i64 x.f0, .int .i64 x.f1, .int .i64 x.f2, .int .i64 x.f3, .int .i64 x.f4, .slice A5 x.f5.length c5, .slice A6 x.f6.length c6, .int .i64 x.f7.f0, .int .i64 x.f7.f1, .slice A9 x.f8.length c9, .slice A10 x.f9.length c10] 28 _ rfl))
 have hrz : (x.f9.length : Int) ≤ 5 := by omega
 go_enter Try.func86, Try.ntmps86
 go_wp2_with fail
 refine (rIn_calls x.f2 0 999 _).mono ?_
 rintro e w' ⟨rfl, rfl⟩
 rw [h2]
 go_wp2_with fail
 refine (rIn_calls x.f1 0 x.f2 _).mono ?_
 rintro e w' ⟨rfl, rfl⟩
 rw [h3]
 go_wp2_with fail
 refine (rIn_calls x.f3 1 20 _).mono ?_
 rintro e w' ⟨rfl, rfl⟩
 rw [h4]
 go_wp2_with fail
 refine (rIn_calls x.f4 0 3 _).mono ?_
 rintro e w' ⟨rfl, rfl⟩
 rw [h5]
 go_wp2_with fail
 refine (each_calls x _ A5 c5 x.f5 x.f4 _ (k38.K_below HB.out.1 HX.out) (Kd.C_below G5.out HB.out.1)).mono ?_
 rintro e w5 ⟨rfl, hb⟩
 rw [h6]
 have hb' := And.intro (bel2 HB.out.1 hb) (HB.out.2.below hb)
 clear HB hb
 have HB := Aside0.mk hb'
 clear hb'
 have k0 := HB.out.2.cell 0 _ rfl
 have k1 := HB.out.2.cell 1 _ rfl
 have k2 := HB.out.2.cell 2 _ rfl
 have k3 := HB.out.2.cell 3 _ rfl
 have k4 := HB.out.2.cell 4 _ rfl
 have k5 := HB.out.2.cell 5 _ rfl
 have k6 := HB.out.2.cell 6 _ rfl
 have k7 := HB.out.2.cell 7 _ rfl
 have k8 := HB.out.2.cell 8 _ rfl
 have k9 := HB.out.2.cell 9 _ rfl
 have k10 := HB.out.2.cell 10 _ rfl
 go_wp2_with fail
 refine (each_calls x _ A6 c6 x.f6 20 _ (k38.K_below HB.out.1 HX.out) (Kd.C_below G6.out HB.out.1)).mono ?_
 rintro e w6 ⟨rfl, hb⟩
 rw [h7]
 have hb' := And.intro (bel2 HB.out.1 hb) (HB.out.2.below hb)
 clear HB hb
 have HB := Aside0.mk hb'
 clear hb'
 have k0 := HB.out.2.cell 0 _ rfl
 have k1 := HB.out.2.cell 1 _ rfl
 have k2 := HB.out.2.cell 2 _ rfl
 have k3 := HB.out.2.cell 3 _ rfl
 have k4 := HB.out.2.cell 4 _ rfl
 have k5 := HB.out.2.cell 5 _ rfl
 have k6 := HB.out.2.cell 6 _ rfl
 have k7 := HB.out.2.cell 7 _ rfl
 have k8 := HB.out.2.cell 8 _ rfl
 have k9 := HB.out.2.cell 9 _ rfl
 have k10 := HB.out.2.cell 10 _ rfl
 go_wp2_with fail
 refine (rInside_calls x.f7 99 _).mono ?_
 rintro e w7 ⟨rfl, hb⟩
 rw [h8]
 have hb' := And.intro (bel2 HB.out.1 hb) (HB.out.2.below hb)
 clear HB hb
 have HB := Aside0.mk hb'
 clear hb'
 have k0 := HB.out.2.cell 0 _ rfl
 have k1 := HB.out.2.cell 1 _ rfl
 have k2 := HB.out.2.cell 2 _ rfl
 have k3 := HB.out.2.cell 3 _ rfl
 have k4 := HB.out.2.cell 4 _ rfl
 have k5 := HB.out.2.cell 5 _ rfl
 have k6 := HB.out.2.cell 6 _ rfl
 have k7 := HB.out.2.cell 7 _ rfl
 have k8 := HB.out.2.cell 8 _ rfl
 have k9 := HB.out.2.cell 9 _ rfl
 have k10 := HB.out.2.cell 10 _ rfl
 have h9m : ((x.f8.length : Int) != x.f0 + 1) = true := by simpa using h9
 clear h9
 go_wp2
 go_ret
 exact ⟨rfl, HB.out.1⟩
theorem fault_10 (x : S38) (cs : List Value) (w : World) (hx : k38.K w x cs) (ha : x.f0 ≤ 4) (hr : x.f9.length ≤ 5) (h1 : 0 ≤ x.f0) (h2 : inR x.f2 0 999 = true) (h3 : inR x.f1 0 x.f2 = true) (h4 : inR x.f3 1 20 = true) (h5 : inR x.f4 0 3 = true) (h6 : forHours x.f0 x.f5 x.f4 = true) (h7 : forHours x.f0 x.f6 20 = true) (h8 : inside x.f7 99 = true) (h9 : ((x.f8.length : Int) == x.f0 + 1) = true) : Calls Try.prog 86 #[.agg cs.toArray] w fun e w' => e = .returned (.int .i64 (faultC x)) ∧ Below w.heap.size w w' := by
 have HX := Aside0.mk hx
 obtain ⟨A5, c5, A6, c6, A9, c9, A10, c10, rfl, l5, g5, l6, g6, l9, g9, l10, g10⟩ := k38_open hx
 have G5 := Aside0.mk g5
 have G6 := Aside0.mk g6
 have G9 := Aside0.mk g9
 have G10 := Aside0.mk g10
 clear hx g5 g6 g9 g10 l5 l6 l9 l10
 have hu := Try.underlying28
 have hu3 := Try.underlying24
 have hu4 := Try.underlying96
 have HB := Aside0.mk (And.intro (below_alloc (Below.refl w.heap.size w) (.cells #[.int .i64 x.f0, .int .i64 x.f1, .int .i64 x.f2, .int .i64 x.f3, .int .i64 x.f4, .slice A5 x.f5.length c5, .slice A6 x.f6.length c6, .int .i64 x.f7.f0, .int .i64 x.f7.f1, .slice A9 x.f8.length c9, .slice A10 x.f9.length c10] 28)) (Blk.new w #[.int .i64 x.f0, .int .i64 x.f1, .int .i64 x.f2, .int .i64 x.f3, .int .i64 x.f4, .slice A5 x.f5.length c5, .slice A6 x.f6.length c6, .int .i64 x.f7.f0, .int .i64 x.f7.f1, .slice A9 x.f8.length c9, .slice A10 x.f9.length c10] 28 _ rfl))
 have hrz : (x.f9.length : Int) ≤ 5 := by omega
 have HF := Lib.hid (faultC_good ha hr h1 h2 h3 h4 h5 h6 h7 h8 h9)
 go_enter Try.func86, Try.ntmps86
 go_wp2_with fail
 refine (rIn_calls x.f2 0 999 _).mono ?_
 rintro e w' ⟨rfl, rfl⟩
 rw [h2]
 go_wp2_with fail
 refine (rIn_calls x.f1 0 x.f2 _).mono ?_
 rintro e w' ⟨rfl, rfl⟩
 rw [h3]
 go_wp2_with fail
 refine (rIn_calls x.f3 1 20 _).mono ?_
 rintro e w' ⟨rfl, rfl⟩
 rw [h4]
 go_wp2_with fail
 refine (rIn_calls x.f4 0 3 _).mono ?_
 rintro e w' ⟨rfl, rfl⟩
 rw [h5]
 go_wp2_with fail
 refine (each_calls x _ A5 c5 x.f5 x.f4 _ (k38.K_below HB.out.1 HX.out) (Kd.C_below G5.out HB.out.1)).mono ?_
 rintro e w5 ⟨rfl, hb⟩
 rw [h6]
 have hb' := And.intro (bel2 HB.out.1 hb) (HB.out.2.below hb)
 clear HB hb
 have HB := Aside0.mk hb'
 clear hb'
 have k0 := HB.out.2.cell 0 _ rfl
 have k1 := HB.out.2.cell 1 _ rfl
 have k2 := HB.out.2.cell 2 _ rfl
 have k3 := HB.out.2.cell 3 _ rfl
 have k4 := HB.out.2.cell 4 _ rfl
 have k5 := HB.out.2.cell 5 _ rfl
 have k6 := HB.out.2.cell 6 _ rfl
 have k7 := HB.out.2.cell 7 _ rfl
 have k8 := HB.out.2.cell 8 _ rfl
 have k9 := HB.out.2.cell 9 _ rfl
 have k10 := HB.out.2.cell 10 _ rfl
 go_wp2_with fail
 refine (each_calls x _ A6 c6 x.f6 20 _ (k38.K_below HB.out.1 HX.out) (Kd.C_below G6.out HB.out.1)).mono ?_
 rintro e w6 ⟨rfl, hb⟩
 rw [h7]
 have hb' := And.intro (bel2 HB.out.1 hb) (HB.out.2.below hb)
 clear HB hb
 have HB := Aside0.mk hb'
 clear hb'
 have k0 := HB.out.2.cell 0 _ rfl
 have k1 := HB.out.2.cell 1 _ rfl
 have k2 := HB.out.2.cell 2 _ rfl
 have k3 := HB.out.2.cell 3 _ rfl
 have k4 := HB.out.2.cell 4 _ rfl
 have k5 := HB.out.2.cell 5 _ rfl
 have k6 := HB.out.2.cell 6 _ rfl
 have k7 := HB.out.2.cell 7 _ rfl
 have k8 := HB.out.2.cell 8 _ rfl
 have k9 := HB.out.2.cell 9 _ rfl
 have k10 := HB.out.2.cell 10 _ rfl
 go_wp2_with fail
 refine (rInside_calls x.f7 99 _).mono ?_
 rintro e w7 ⟨rfl, hb⟩
 rw [h8]
 have hb' := And.intro (bel2 HB.out.1 hb) (HB.out.2.below hb)
 clear HB hb
 have HB := Aside0.mk hb'
 clear hb'
 have k0 := HB.out.2.cell 0 _ rfl
 have k1 := HB.out.2.cell 1 _ rfl
 have k2 := HB.out.2.cell 2 _ rfl
 have k3 := HB.out.2.cell 3 _ rfl
 have k4 := HB.out.2.cell 4 _ rfl
 have k5 := HB.out.2.cell 5 _ rfl
 have k6 := HB.out.2.cell 6 _ rfl
 have k7 := HB.out.2.cell 7 _ rfl
 have k8 := HB.out.2.cell 8 _ rfl
 have k9 := HB.out.2.cell 9 _ rfl
 have k10 := HB.out.2.cell 10 _ rfl
 have h9e : x.f0 + 1 = (x.f8.length : Int) := by have : (x.f8.length : Int) = x.f0 + 1 := (by simpa using h9); omega
 clear h9
 go_wp2
 clear h9e
 go_loopw [3] (fun s3 wr => ∃ k : Nat, k ≤ x.f8.length ∧ s3 = .int .i64 k ∧ Aside0 (Below w.heap.size w wr ∧ Blk wr w.heap.size #[.int .i64 x.f0, .int .i64 x.f1, .int .i64 x.f2, .int .i64 x.f3, .int .i64 x.f4, .slice A5 x.f5.length c5, .slice A6 x.f6.length c6, .int .i64 x.f7.f0, .int .i64 x.f7.f1, .slice A9 x.f8.length c9, .slice A10 x.f9.length c10] 28 ∧ (x.f8.take k).all (fun r => inside r 99) = true)) (fun s3 _ => x.f8.length - (intOf s3).toNat)
 case atStart => exact ⟨0, Nat.zero_le _, rfl, ⟨HB.out.1, HB.out.2, rfl⟩⟩
 case round =>
  obtain ⟨k, hk, rfl, HW⟩ := hrel
  have k9 := HW.out.2.1.cell 9 _ rfl
  by_cases hlt : k < x.f8.length
  ·have hltz : (k : Int) < (x.f8.length : Int) := by omega
   have hl8 : (x.f8.length : Int) ≤ 9223372036854775807 := by have := G9.out.2.1; omega
   obtain ⟨aA, rfl, q0, q1⟩ := row_at_rg (Kd.C_below G9.out HW.out.1) k hlt
   cases hq : inside x.f8[k] 99 with
   | true =>
    have HA2 := Lib.hid (show (x.f8.take (k + 1)).all (fun r => inside r 99) = true by rw [List.take_succ_eq_append_getElem hlt, List.all_append, HW.out.2.2, List.all_cons, hq]; rfl)
    generalize x.f8[k] = r at *
    go_wp2_with fail
    refine (rInside_calls r 99 _).mono ?_
    rintro e wn ⟨rfl, hb⟩
    rw [hq]
    have HV := Aside0.mk (And.intro (bel2 HW.out.1 hb) (And.intro (HW.out.2.1.below hb) HA2.out))
    clear hb hq
    go_wp2
    go_roundw
    case rel => exact ⟨k + 1, hlt, by go_num, HV⟩
    case measure => simp [intOf]; omega
   | false =>
    have HN := Lib.hid (show faultC x = 1 by
     rw [HF.out, if_neg]
     intro hh
     rw [Bool.and_eq_true] at hh
     have := List.all_eq_true.1 hh.1 _ (List.getElem_mem hlt)
     rw [hq] at this
     cases this)
    generalize x.f8[k] = r at *
    go_wp2_with fail
    refine (rInside_calls r 99 _).mono ?_
    rintro e wn ⟨rfl, hb⟩
    rw [hq]
    have HV := Aside0.mk (bel2 HW.out.1 hb)
    clear hb hq
    go_wp2
    go_ret
    exact ⟨ret_int HN.out.symm, HV.out⟩
  ·have hltz : ¬ (k : Int) < (x.f8.length : Int) := by omega
   have H8 := Lib.hid (show x.f8.all (fun r => inside r 99) = true by have := HW.out.2.2; rwa [List.take_of_length_le (by omega)] at this)
   go_wp2
   go_loopw [4] (fun s4 wq => ∃ k : Nat, k ≤ x.f9.length ∧ s4 = .int .i64 k ∧ Aside0 (Below w.heap.size w wq ∧ Blk wq w.heap.size #[.int .i64 x.f0, .int .i64 x.f1, .int .i64 x.f2, .int .i64 x.f3, .int .i64 x.f4, .slice A5 x.f5.length c5, .slice A6 x.f6.length c6, .int .i64 x.f7.f0, .int .i64 x.f7.f1, .slice A9 x.f8.length c9, .slice A10 x.f9.length c10] 28 ∧ (x.f9.take k).all (readingB x.f0) = true)) (fun s4 _ => x.f9.length - (intOf s4).toNat)
   case atStart => exact ⟨0, Nat.zero_le _, rfl, ⟨HW.out.1, HW.out.2.1, rfl⟩⟩
   case round =>
    obtain ⟨k, hk, rfl, HQ⟩ := hrel
    have k0 := HQ.out.2.1.cell 0 _ rfl
    have k1 := HQ.out.2.1.cell 1 _ rfl
    have k2 := HQ.out.2.1.cell 2 _ rfl
    have k3 := HQ.out.2.1.cell 3 _ rfl
    have k4 := HQ.out.2.1.cell 4 _ rfl
    have k5 := HQ.out.2.1.cell 5 _ rfl
    have k6 := HQ.out.2.1.cell 6 _ rfl
    have k7 := HQ.out.2.1.cell 7 _ rfl
    have k8 := HQ.out.2.1.cell 8 _ rfl
    have k9 := HQ.out.2.1.cell 9 _ rfl
    have k10 := HQ.out.2.1.cell 10 _ rfl
    by_cases hlt : k < x.f9.length
    ·have hltz : (k : Int) < (x.f9.length : Int) := by omega
     obtain ⟨aA, rfl, q0, q1, q2⟩ := row_at_rd (Kd.C_below G10.out HQ.out.1) k hlt
     have hrb : readingB x.f0 x.f9[k] = (inR x.f9[k].f0 0 x.f0 && inside x.f9[k].f1 999) := rfl
     have HTK := Lib.hid (show (x.f9.take (k + 1)).all (readingB x.f0) = ((x.f9.take k).all (readingB x.f0) && readingB x.f0 x.f9[k]) by rw [List.take_succ_eq_append_getElem hlt, List.all_append, List.all_cons, List.all_nil, Bool.and_true])
     have HNO := Aside0.mk (fun (hz : readingB x.f0 x.f9[k] = false) => show faultC x = 1 by
      rw [HF.out, if_neg]
      intro hh
      rw [Bool.and_eq_true] at hh
      have := List.all_eq_true.1 hh.2 _ (List.getElem_mem hlt)
      rw [hz] at this
      cases this)
     generalize x.f9[k] = r at *
     have HRB := Lib.hid hrb
     clear hrb
     have hin := fun W => rIn_calls r.f0 0 x.f0 W
     have hins := fun W => rInside_calls r.f1 999 W
     cases hq : inR r.f0 0 x.f0 with
     | false =>
      rw [hq] at hin
      have HN := Lib.hid (HNO.out (by rw [HRB.out, hq, Bool.false_and]))
      clear hq
      go_wp2
      refine start_ (n := 20) (S := fun w' => w'.cell? ⟨w.heap.size, 9, none⟩ = some (.slice A9 x.f8.length c9) ∧ w'.cell? ⟨w.heap.size, 10, none⟩ = some (.slice (some aA) x.f9.length c10) ∧ w'.cell? ⟨w.heap.size, 0, none⟩ = some (.int .i64 x.f0) ∧ w'.cell? (aA.add (k * 3)) = some (.int .i64 r.f0) ∧ w'.cell? ⟨(aA.add (k * 3)).block, (aA.add (k * 3)).off + 1, none⟩ = some (.int .i64 r.f1.f0) ∧ w'.cell? ⟨(aA.add (k * 3)).block, (aA.add (k * 3)).off + 2, none⟩ = some (.int .i64 r.f1.f1)) (ds := []) #[false, false, false, false, false, false, false, false, false, false, false, false, false, false, false, false, false, false, false, false] (by kernel_rfl) rfl rfl ⟨k9, k10, k0, q0, q1, q2⟩ (fun hHeld => ?_)
      refine pure_ (i := 0) (N := some 95) (v := ?_) (a' := ?_) (bs 20 1) rfl rfl (by kernel_rfl) (fun _ _ _ h => h) (Or.inl ⟨by rfl, ?_⟩) ?_ ?_
      rotate_left
      ·intro w'
       go_simp
       with_reducible rfl
      rotate_left
      ·simp only [Act.put, List.setIfInBounds_toArray, List.set_cons_zero, List.set_cons_succ, i64_w, i32_w]
       rfl
      refine pure_ (i := 2) (N := some 97) (v := ?_) (a' := ?_) (bs 20 5) rfl rfl (by kernel_rfl) (fun _ _ _ h => h) (Or.inl ⟨by rfl, ?_⟩) ?_ ?_
      rotate_left
      ·intro w'
       go_simp
       with_reducible rfl
      rotate_left
      ·simp only [Act.put, List.setIfInBounds_toArray, List.set_cons_zero, List.set_cons_succ, i64_w, i32_w]
       rfl
      refine pure_ (i := 6) (N := some 101) (v := ?_) (a' := ?_) (bs 20 69) rfl rfl (by kernel_rfl) (fun _ _ _ h => h) (Or.inl ⟨by rfl, ?_⟩) ?_ ?_
      rotate_left
      ·intro w'
       go_simp
       with_reducible rfl
      rotate_left
      ·simp only [Act.put, List.setIfInBounds_toArray, List.set_cons_zero, List.set_cons_succ, i64_w, i32_w]
       rfl
      refine take_ (i := 1) (N := some 96) (v := ?_) (a' := ?_) (bs 20 71) rfl rfl (by kernel_rfl) (fun _ _ _ h => h) (Or.inl ⟨by rfl, ?_⟩) hHeld ?_ ?_
      rotate_left
      ·rintro w' ⟨s0, s1, s2, s3, s4, s5⟩
       go_simp
       with_reducible rfl
      rotate_left
      ·simp only [Act.put, List.setIfInBounds_toArray, List.set_cons_zero, List.set_cons_succ, i64_w, i32_w]
       rfl
      refine pure_ (i := 3) (N := some 98) (v := ?_) (a' := ?_) (bs 20 79) rfl rfl (by kernel_rfl) (fun _ _ _ h => h) (Or.inl ⟨by rfl, ?_⟩) ?_ ?_
      rotate_left
      ·intro w'
       go_simp
       with_reducible rfl
      rotate_left
      ·simp only [Act.put, List.setIfInBounds_toArray, List.set_cons_zero, List.set_cons_succ, i64_w, i32_w]
       rfl
      refine pure_ (i := 4) (N := some 99) (v := ?_) (a' := ?_) (bs 20 95) rfl rfl (by kernel_rfl) (fun _ _ _ h => h) (Or.inl ⟨by rfl, ?_⟩) ?_ ?_
      rotate_left
      ·intro w'
       go_simp
       with_reducible rfl
      rotate_left
      ·simp only [Act.put, List.setIfInBounds_toArray, List.set_cons_zero, List.set_cons_succ, i64_w, i32_w]
       rfl
      refine take_ (i := 5) (N := some 100) (v := ?_) (a' := ?_) (bs 20 127) rfl rfl (by kernel_rfl) (fun _ _ _ h => h) (Or.inl ⟨by rfl, ?_⟩) hHeld ?_ ?_
      rotate_left
      ·rintro w' ⟨s0, s1, s2, s3, s4, s5⟩
       go_simp
       with_reducible rfl
      rotate_left
      ·simp only [Act.put, List.setIfInBounds_toArray, List.set_cons_zero, List.set_cons_succ, i64_w, i32_w]
       rfl
      refine take_ (i := 7) (N := some 102) (v := ?_) (a' := ?_) (bs 20 255) rfl rfl (by kernel_rfl) (fun _ _ _ h => h) (Or.inl ⟨by rfl, ?_⟩) hHeld ?_ ?_
      rotate_left
      ·rintro w' ⟨s0, s1, s2, s3, s4, s5⟩
       go_simp
       with_reducible rfl
      rotate_left
      ·simp only [Act.put, List.setIfInBounds_toArray, List.set_cons_zero, List.set_cons_succ, i64_w, i32_w]
       rfl
      refine one_ (i := 8) (N := some 103) (bs 20 511) rfl rfl (by kernel_rfl) (by decide) (fun K hK => ?_)
      refine goes_ Try.func31 (by kernel_rfl) rfl #[.int .i64 r.f0, .int .i64 0, .int .i64 x.f0] (by rfl) rfl rfl (by simp only [List.map_toArray, List.map_cons, List.map_nil]; rfl) ?_
      with_reducible refine (hin _).mono ?_
      rintro e w' ⟨rfl, rfl⟩
      refine ⟨_, rfl, ?_⟩
      refine hK.out _ _ ⟨hHeld.1, hHeld.2.1, hHeld.2.2.1, hHeld.2.2.2.1, hHeld.2.2.2.2.1, hHeld.2.2.2.2.2⟩ (fun hHeld => ?_)
      clear hK K
      refine norm_ (a' := ?_) ?_ ?_
      rotate_left
      ·show Act.put _ (some 103) _ = _
       simp only [Act.put, List.setIfInBounds_toArray, List.set_cons_zero, List.set_cons_succ, i64_w, i32_w]
       rfl
      refine pure_ (i := 9) (N := some 104) (v := ?_) (a' := ?_) (bs 20 1023) rfl rfl (by kernel_rfl) (fun _ _ _ h => h) (Or.inl ⟨by rfl, ?_⟩) ?_ ?_
      rotate_left
      ·intro w'
       go_simp
       with_reducible rfl
      rotate_left
      ·simp only [Act.put, List.setIfInBounds_toArray, List.set_cons_zero, List.set_cons_succ, i64_w, i32_w]
       rfl
      refine pure_ (i := 10) (N := some 105) (v := ?_) (a' := ?_) (bs 20 2047) rfl rfl (by kernel_rfl) (fun _ _ _ h => h) (Or.inl ⟨by rfl, ?_⟩) ?_ ?_
      rotate_left
      ·intro w'
       go_simp
       with_reducible rfl
      rotate_left
      ·simp only [Act.put, List.setIfInBounds_toArray, List.set_cons_zero, List.set_cons_succ, i64_w, i32_w]
       rfl
      refine pure_ (i := 11) (N := some 106) (v := undef) (a' := ?_) (bs 20 4095) rfl rfl (by kernel_rfl) (fun _ _ _ h => h) (Or.inr ⟨by rfl, rfl⟩) ?_ ?_
      rotate_left
      ·simp only [Act.put, List.setIfInBounds_toArray, List.set_cons_zero, List.set_cons_succ, i64_w, i32_w]
       rfl
      refine pure_ (i := 12) (N := some 107) (v := undef) (a' := ?_) (bs 20 8191) rfl rfl (by kernel_rfl) (fun _ _ _ h => h) (Or.inr ⟨by rfl, rfl⟩) ?_ ?_
      rotate_left
      ·simp only [Act.put, List.setIfInBounds_toArray, List.set_cons_zero, List.set_cons_succ, i64_w, i32_w]
       rfl
      refine pure_ (i := 13) (N := some 108) (v := undef) (a' := ?_) (bs 20 16383) rfl rfl (by kernel_rfl) (fun _ _ _ h => h) (Or.inr ⟨by rfl, rfl⟩) ?_ ?_
      rotate_left
      ·simp only [Act.put, List.setIfInBounds_toArray, List.set_cons_zero, List.set_cons_succ, i64_w, i32_w]
       rfl
      refine pure_ (i := 14) (N := some 109) (v := undef) (a' := ?_) (bs 20 32767) rfl rfl (by kernel_rfl) (fun _ _ _ h => h) (Or.inr ⟨by rfl, rfl⟩) ?_ ?_
      rotate_left
      ·simp only [Act.put, List.setIfInBounds_toArray, List.set_cons_zero, List.set_cons_succ, i64_w, i32_w]
       rfl
      refine pure_ (i := 15) (N := some 110) (v := undef) (a' := ?_) (bs 20 65535) rfl rfl (by kernel_rfl) (fun _ _ _ h => h) (Or.inr ⟨by rfl, rfl⟩) ?_ ?_
      rotate_left
      ·simp only [Act.put, List.setIfInBounds_toArray, List.set_cons_zero, List.set_cons_succ, i64_w, i32_w]
       rfl
      refine pure_ (i := 16) (N := some 111) (v := undef) (a' := ?_) (bs 20 131071) rfl rfl (by kernel_rfl) (fun _ _ _ h => h) (Or.inr ⟨by rfl, rfl⟩) ?_ ?_
      rotate_left
      ·simp only [Act.put, List.setIfInBounds_toArray, List.set_cons_zero, List.set_cons_succ, i64_w, i32_w]
       rfl
      refine pure_ (i := 17) (N := some 112) (v := undef) (a' := ?_) (bs 20 262143) rfl rfl (by kernel_rfl) (fun _ _ _ h => h) (Or.inr ⟨by rfl, rfl⟩) ?_ ?_
      rotate_left
      ·simp only [Act.put, List.setIfInBounds_toArray, List.set_cons_zero, List.set_cons_succ, i64_w, i32_w]
       rfl
      refine pure_ (i := 18) (N := some 113) (v := undef) (a' := ?_) (bs 20 524287) rfl rfl (by kernel_rfl) (fun _ _ _ h => h) (Or.inr ⟨by rfl, rfl⟩) ?_ ?_
      rotate_left
      ·simp only [Act.put, List.setIfInBounds_toArray, List.set_cons_zero, List.set_cons_succ, i64_w, i32_w]
       rfl
      refine pure_ (i := 19) (N := some 114) (v := ?_) (a' := ?_) (bs 20 1048575) rfl rfl (by kernel_rfl) (fun _ _ _ h => h) (Or.inl ⟨by rfl, ?_⟩) ?_ ?_
      rotate_left
      ·intro w'
       go_simp
       with_reducible rfl
      rotate_left
      ·simp only [Act.put, List.setIfInBounds_toArray, List.set_cons_zero, List.set_cons_succ, i64_w, i32_w]
       rfl
      refine done_ (by kernel_rfl) ?_
      clear hHeld
      go_wp2
      go_ret
      exact ⟨ret_int HN.out.symm, below_drew HQ.out.1⟩
     | true =>
      rw [hq] at hin
      cases hq2 : inside r.f1 999 with
      | false =>
       rw [hq2] at hins
       have HN := Lib.hid (HNO.out (by rw [HRB.out, hq2, Bool.and_false]))
       clear hq hq2
       go_wp2
       refine start_ (n := 20) (S := fun w' => w'.cell? ⟨w.heap.size, 9, none⟩ = some (.slice A9 x.f8.length c9) ∧ w'.cell? ⟨w.heap.size, 10, none⟩ = some (.slice (some aA) x.f9.length c10) ∧ w'.cell? ⟨w.heap.size, 0, none⟩ = some (.int .i64 x.f0) ∧ w'.cell? (aA.add (k * 3)) = some (.int .i64 r.f0) ∧ w'.cell? ⟨(aA.add (k * 3)).block, (aA.add (k * 3)).off + 1, none⟩ = some (.int .i64 r.f1.f0) ∧ w'.cell? ⟨(aA.add (k * 3)).block, (aA.add (k * 3)).off + 2, none⟩ = some (.int .i64 r.f1.f1)) (ds := []) #[false, false, false, false, false, false, false, false, false, false, false, false, false, false, false, false, false, false, false, false] (by kernel_rfl) rfl rfl ⟨k9, k10, k0, q0, q1, q2⟩ (fun hHeld => ?_)
       refine pure_ (i := 0) (N := some 95) (v := ?_) (a' := ?_) (bs 20 1) rfl rfl (by kernel_rfl) (fun _ _ _ h => h) (Or.inl ⟨by rfl, ?_⟩) ?_ ?_
       rotate_left
       ·intro w'
        go_simp
        with_reducible rfl
       rotate_left
       ·simp only [Act.put, List.setIfInBounds_toArray, List.set_cons_zero, List.set_cons_succ, i64_w, i32_w]
        rfl
       refine pure_ (i := 2) (N := some 97) (v := ?_) (a' := ?_) (bs 20 5) rfl rfl (by kernel_rfl) (fun _ _ _ h => h) (Or.inl ⟨by rfl, ?_⟩) ?_ ?_
       rotate_left
       ·intro w'
        go_simp
        with_reducible rfl
       rotate_left
       ·simp only [Act.put, List.setIfInBounds_toArray, List.set_cons_zero, List.set_cons_succ, i64_w, i32_w]
        rfl
       refine pure_ (i := 6) (N := some 101) (v := ?_) (a' := ?_) (bs 20 69) rfl rfl (by kernel_rfl) (fun _ _ _ h => h) (Or.inl ⟨by rfl, ?_⟩) ?_ ?_
       rotate_left
       ·intro w'
        go_simp
        with_reducible rfl
       rotate_left
       ·simp only [Act.put, List.setIfInBounds_toArray, List.set_cons_zero, List.set_cons_succ, i64_w, i32_w]
        rfl
       refine take_ (i := 1) (N := some 96) (v := ?_) (a' := ?_) (bs 20 71) rfl rfl (by kernel_rfl) (fun _ _ _ h => h) (Or.inl ⟨by rfl, ?_⟩) hHeld ?_ ?_
       rotate_left
       ·rintro w' ⟨s0, s1, s2, s3, s4, s5⟩
        go_simp
        with_reducible rfl
       rotate_left
       ·simp only [Act.put, List.setIfInBounds_toArray, List.set_cons_zero, List.set_cons_succ, i64_w, i32_w]
        rfl
       refine pure_ (i := 3) (N := some 98) (v := ?_) (a' := ?_) (bs 20 79) rfl rfl (by kernel_rfl) (fun _ _ _ h => h) (Or.inl ⟨by rfl, ?_⟩) ?_ ?_
       rotate_left
       ·intro w'
        go_simp
        with_reducible rfl
       rotate_left
       ·simp only [Act.put, List.setIfInBounds_toArray, List.set_cons_zero, List.set_cons_succ, i64_w, i32_w]
        rfl
       refine pure_ (i := 4) (N := some 99) (v := ?_) (a' := ?_) (bs 20 95) rfl rfl (by kernel_rfl) (fun _ _ _ h => h) (Or.inl ⟨by rfl, ?_⟩) ?_ ?_
       rotate_left
       ·intro w'
        go_simp
        with_reducible rfl
       rotate_left
       ·simp only [Act.put, List.setIfInBounds_toArray, List.set_cons_zero, List.set_cons_succ, i64_w, i32_w]
        rfl
       refine take_ (i := 5) (N := some 100) (v := ?_) (a' := ?_) (bs 20 127) rfl rfl (by kernel_rfl) (fun _ _ _ h => h) (Or.inl ⟨by rfl, ?_⟩) hHeld ?_ ?_
       rotate_left
       ·rintro w' ⟨s0, s1, s2, s3, s4, s5⟩
        go_simp
        with_reducible rfl
       rotate_left
       ·simp only [Act.put, List.setIfInBounds_toArray, List.set_cons_zero, List.set_cons_succ, i64_w, i32_w]
        rfl
       refine take_ (i := 7) (N := some 102) (v := ?_) (a' := ?_) (bs 20 255) rfl rfl (by kernel_rfl) (fun _ _ _ h => h) (Or.inl ⟨by rfl, ?_⟩) hHeld ?_ ?_
       rotate_left
       ·rintro w' ⟨s0, s1, s2, s3, s4, s5⟩
        go_simp
        with_reducible rfl
       rotate_left
       ·simp only [Act.put, List.setIfInBounds_toArray, List.set_cons_zero, List.set_cons_succ, i64_w, i32_w]
        rfl
       refine one_ (i := 8) (N := some 103) (bs 20 511) rfl rfl (by kernel_rfl) (by decide) (fun K hK => ?_)
       refine goes_ Try.func31 (by kernel_rfl) rfl #[.int .i64 r.f0, .int .i64 0, .int .i64 x.f0] (by rfl) rfl rfl (by simp only [List.map_toArray, List.map_cons, List.map_nil]; rfl) ?_
       with_reducible refine (hin _).mono ?_
       rintro e w' ⟨rfl, rfl⟩
       refine ⟨_, rfl, ?_⟩
       refine hK.out _ _ ⟨hHeld.1, hHeld.2.1, hHeld.2.2.1, hHeld.2.2.2.1, hHeld.2.2.2.2.1, hHeld.2.2.2.2.2⟩ (fun hHeld => ?_)
       clear hK K
       refine norm_ (a' := ?_) ?_ ?_
       rotate_left
       ·show Act.put _ (some 103) _ = _
        simp only [Act.put, List.setIfInBounds_toArray, List.set_cons_zero, List.set_cons_succ, i64_w, i32_w]
        rfl
       refine pure_ (i := 9) (N := some 104) (v := ?_) (a' := ?_) (bs 20 1023) rfl rfl (by kernel_rfl) (fun _ _ _ h => h) (Or.inl ⟨by rfl, ?_⟩) ?_ ?_
       rotate_left
       ·intro w'
        go_simp
        with_reducible rfl
       rotate_left
       ·simp only [Act.put, List.setIfInBounds_toArray, List.set_cons_zero, List.set_cons_succ, i64_w, i32_w]
        rfl
       refine pure_ (i := 10) (N := some 105) (v := ?_) (a' := ?_) (bs 20 2047) rfl rfl (by kernel_rfl) (fun _ _ _ h => h) (Or.inl ⟨by rfl, ?_⟩) ?_ ?_
       rotate_left
       ·intro w'
        go_simp
        with_reducible rfl
       rotate_left
       ·simp only [Act.put, List.setIfInBounds_toArray, List.set_cons_zero, List.set_cons_succ, i64_w, i32_w]
        rfl
       refine pure_ (i := 11) (N := some 106) (v := ?_) (a' := ?_) (bs 20 4095) rfl rfl (by kernel_rfl) (fun _ _ _ h => h) (Or.inl ⟨by rfl, ?_⟩) ?_ ?_
       rotate_left
       ·intro w'
        go_simp
        with_reducible rfl
       rotate_left
       ·simp only [Act.put, List.setIfInBounds_toArray, List.set_cons_zero, List.set_cons_succ, i64_w, i32_w]
        rfl
       refine pure_ (i := 13) (N := some 108) (v := ?_) (a' := ?_) (bs 20 12287) rfl rfl (by kernel_rfl) (fun _ _ _ h => h) (Or.inl ⟨by rfl, ?_⟩) ?_ ?_
       rotate_left
       ·intro w'
        go_simp
        with_reducible rfl
       rotate_left
       ·simp only [Act.put, List.setIfInBounds_toArray, List.set_cons_zero, List.set_cons_succ, i64_w, i32_w]
        rfl
       refine take_ (i := 12) (N := some 107) (v := ?_) (a' := ?_) (bs 20 16383) rfl rfl (by kernel_rfl) (fun _ _ _ h => h) (Or.inl ⟨by rfl, ?_⟩) hHeld ?_ ?_
       rotate_left
       ·rintro w' ⟨s0, s1, s2, s3, s4, s5⟩
        go_simp
        with_reducible rfl
       rotate_left
       ·simp only [Act.put, List.setIfInBounds_toArray, List.set_cons_zero, List.set_cons_succ, i64_w, i32_w]
        rfl
       refine pure_ (i := 14) (N := some 109) (v := ?_) (a' := ?_) (bs 20 32767) rfl rfl (by kernel_rfl) (fun _ _ _ h => h) (Or.inl ⟨by rfl, ?_⟩) ?_ ?_
       rotate_left
       ·intro w'
        go_simp
        with_reducible rfl
       rotate_left
       ·simp only [Act.put, List.setIfInBounds_toArray, List.set_cons_zero, List.set_cons_succ, i64_w, i32_w]
        rfl
       refine pure_ (i := 15) (N := some 110) (v := ?_) (a' := ?_) (bs 20 65535) rfl rfl (by kernel_rfl) (fun _ _ _ h => h) (Or.inl ⟨by rfl, ?_⟩) ?_ ?_
       rotate_left
       ·intro w'
        go_simp
        with_reducible rfl
       rotate_left
       ·simp only [Act.put, List.setIfInBounds_toArray, List.set_cons_zero, List.set_cons_succ, i64_w, i32_w]
        rfl
       refine take_ (i := 16) (N := some 111) (v := ?_) (a' := ?_) (bs 20 131071) rfl rfl (by kernel_rfl) (fun _ _ _ h => h) (Or.inl ⟨by rfl, ?_⟩) hHeld ?_ ?_
       rotate_left
       ·rintro w' ⟨s0, s1, s2, s3, s4, s5⟩
        go_simp
        with_reducible rfl
       rotate_left
       ·simp only [Act.put, List.setIfInBounds_toArray, List.set_cons_zero, List.set_cons_succ, i64_w, i32_w]
        rfl
       refine one_ (i := 17) (N := some 112) (bs 20 262143) rfl rfl (by kernel_rfl) (by decide) (fun K hK => ?_)
       refine goes_ Try.func122 (by kernel_rfl) rfl #[.agg #[.int .i64 r.f1.f0, .int .i64 r.f1.f1], .int .i64 999] (by rfl) rfl rfl (by simp only [List.map_toArray, List.map_cons, List.map_nil]; rfl) ?_
       with_reducible refine (hins _).mono ?_
       rintro e w5 ⟨rfl, hb5⟩
       refine ⟨_, rfl, ?_⟩
       refine hK.out _ _ ⟨pw_cell_below hb5 (hHeld.1), pw_cell_below hb5 (hHeld.2.1), pw_cell_below hb5 (hHeld.2.2.1), pw_cell_below hb5 (hHeld.2.2.2.1), pw_cell_below hb5 (hHeld.2.2.2.2.1), pw_cell_below hb5 (hHeld.2.2.2.2.2)⟩ (fun hHeld => ?_)
       clear hK K
       refine norm_ (a' := ?_) ?_ ?_
       rotate_left
       ·show Act.put _ (some 112) _ = _
        simp only [Act.put, List.setIfInBounds_toArray, List.set_cons_zero, List.set_cons_succ, i64_w, i32_w]
        rfl
       refine pure_ (i := 18) (N := some 113) (v := ?_) (a' := ?_) (bs 20 524287) rfl rfl (by kernel_rfl) (fun _ _ _ h => h) (Or.inl ⟨by rfl, ?_⟩) ?_ ?_
       rotate_left
       ·intro w'
        go_simp
        with_reducible rfl
       rotate_left
       ·simp only [Act.put, List.setIfInBounds_toArray, List.set_cons_zero, List.set_cons_succ, i64_w, i32_w]
        rfl
       refine pure_ (i := 19) (N := some 114) (v := ?_) (a' := ?_) (bs 20 1048575) rfl rfl (by kernel_rfl) (fun _ _ _ h => h) (Or.inl ⟨by rfl, ?_⟩) ?_ ?_
       rotate_left
       ·intro w'
        go_simp
        with_reducible rfl
       rotate_left
       ·simp only [Act.put, List.setIfInBounds_toArray, List.set_cons_zero, List.set_cons_succ, i64_w, i32_w]
        rfl
       refine done_ (by kernel_rfl) ?_
       have HV := Aside0.mk (bel2 (below_drew HQ.out.1) hb5)
       clear hHeld hb5
       go_wp2
       go_ret
       exact ⟨ret_int HN.out.symm, HV.out⟩
      | true =>
       rw [hq2] at hins
       have HN := Lib.hid (show (x.f9.take (k + 1)).all (readingB x.f0) = true by rw [HTK.out, HQ.out.2.2, HRB.out, hq, hq2]; rfl)
       clear hq hq2
       go_wp2
       refine start_ (n := 20) (S := fun w' => w'.cell? ⟨w.heap.size, 9, none⟩ = some (.slice A9 x.f8.length c9) ∧ w'.cell? ⟨w.heap.size, 10, none⟩ = some (.slice (some aA) x.f9.length c10) ∧ w'.cell? ⟨w.heap.size, 0, none⟩ = some (.int .i64 x.f0) ∧ w'.cell? (aA.add (k * 3)) = some (.int .i64 r.f0) ∧ w'.cell? ⟨(aA.add (k * 3)).block, (aA.add (k * 3)).off + 1, none⟩ = some (.int .i64 r.f1.f0) ∧ w'.cell? ⟨(aA.add (k * 3)).block, (aA.add (k * 3)).off + 2, none⟩ = some (.int .i64 r.f1.f1)) (ds := []) #[false, false, false, false, false, false, false, false, false, false, false, false, false, false, false, false, false, false, false, false] (by kernel_rfl) rfl rfl ⟨k9, k10, k0, q0, q1, q2⟩ (fun hHeld => ?_)
       refine pure_ (i := 0) (N := some 95) (v := ?_) (a' := ?_) (bs 20 1) rfl rfl (by kernel_rfl) (fun _ _ _ h => h) (Or.inl ⟨by rfl, ?_⟩) ?_ ?_
       rotate_left
       ·intro w'
        go_simp
        with_reducible rfl
       rotate_left
       ·simp only [Act.put, List.setIfInBounds_toArray, List.set_cons_zero, List.set_cons_succ, i64_w, i32_w]
        rfl
       refine pure_ (i := 2) (N := some 97) (v := ?_) (a' := ?_) (bs 20 5) rfl rfl (by kernel_rfl) (fun _ _ _ h => h) (Or.inl ⟨by rfl, ?_⟩) ?_ ?_
       rotate_left
       ·intro w'
        go_simp
        with_reducible rfl
       rotate_left
       ·simp only [Act.put, List.setIfInBounds_toArray, List.set_cons_zero, List.set_cons_succ, i64_w, i32_w]
        rfl
       refine pure_ (i := 6) (N := some 101) (v := ?_) (a' := ?_) (bs 20 69) rfl rfl (by kernel_rfl) (fun _ _ _ h => h) (Or.inl ⟨by rfl, ?_⟩) ?_ ?_
       rotate_left
       ·intro w'
        go_simp
        with_reducible rfl
       rotate_left
       ·simp only [Act.put, List.setIfInBounds_toArray, List.set_cons_zero, List.set_cons_succ, i64_w, i32_w]
        rfl
       refine take_ (i := 1) (N := some 96) (v := ?_) (a' := ?_) (bs 20 71) rfl rfl (by kernel_rfl) (fun _ _ _ h => h) (Or.inl ⟨by rfl, ?_⟩) hHeld ?_ ?_
       rotate_left
       ·rintro w' ⟨s0, s1, s2, s3, s4, s5⟩
        go_simp
        with_reducible rfl
       rotate_left
       ·simp only [Act.put, List.setIfInBounds_toArray, List.set_cons_zero, List.set_cons_succ, i64_w, i32_w]
        rfl
       refine pure_ (i := 3) (N := some 98) (v := ?_) (a' := ?_) (bs 20 79) rfl rfl (by kernel_rfl) (fun _ _ _ h => h) (Or.inl ⟨by rfl, ?_⟩) ?_ ?_
       rotate_left
       ·intro w'
        go_simp
        with_reducible rfl
       rotate_left
       ·simp only [Act.put, List.setIfInBounds_toArray, List.set_cons_zero, List.set_cons_succ, i64_w, i32_w]
        rfl
       refine pure_ (i := 4) (N := some 99) (v := ?_) (a' := ?_) (bs 20 95) rfl rfl (by kernel_rfl) (fun _ _ _ h => h) (Or.inl ⟨by rfl, ?_⟩) ?_ ?_
       rotate_left
       ·intro w'
        go_simp
        with_reducible rfl
       rotate_left
       ·simp only [Act.put, List.setIfInBounds_toArray, List.set_cons_zero, List.set_cons_succ, i64_w, i32_w]
        rfl
       refine take_ (i := 5) (N := some 100) (v := ?_) (a' := ?_) (bs 20 127) rfl rfl (by kernel_rfl) (fun _ _ _ h => h) (Or.inl ⟨by rfl, ?_⟩) hHeld ?_ ?_
       rotate_left
       ·rintro w' ⟨s0, s1, s2, s3, s4, s5⟩
        go_simp
        with_reducible rfl
       rotate_left
       ·simp only [Act.put, List.setIfInBounds_toArray, List.set_cons_zero, List.set_cons_succ, i64_w, i32_w]
        rfl
       refine take_ (i := 7) (N := some 102) (v := ?_) (a' := ?_) (bs 20 255) rfl rfl (by kernel_rfl) (fun _ _ _ h => h) (Or.inl ⟨by rfl, ?_⟩) hHeld ?_ ?_
       rotate_left
       ·rintro w' ⟨s0, s1, s2, s3, s4, s5⟩
        go_simp
        with_reducible rfl
       rotate_left
       ·simp only [Act.put, List.setIfInBounds_toArray, List.set_cons_zero, List.set_cons_succ, i64_w, i32_w]
        rfl
       refine one_ (i := 8) (N := some 103) (bs 20 511) rfl rfl (by kernel_rfl) (by decide) (fun K hK => ?_)
       refine goes_ Try.func31 (by kernel_rfl) rfl #[.int .i64 r.f0, .int .i64 0, .int .i64 x.f0] (by rfl) rfl rfl (by simp only [List.map_toArray, List.map_cons, List.map_nil]; rfl) ?_
       with_reducible refine (hin _).mono ?_
       rintro e w' ⟨rfl, rfl⟩
       refine ⟨_, rfl, ?_⟩
       refine hK.out _ _ ⟨hHeld.1, hHeld.2.1, hHeld.2.2.1, hHeld.2.2.2.1, hHeld.2.2.2.2.1, hHeld.2.2.2.2.2⟩ (fun hHeld => ?_)
       clear hK K
       refine norm_ (a' := ?_) ?_ ?_
       rotate_left
       ·show Act.put _ (some 103) _ = _
        simp only [Act.put, List.setIfInBounds_toArray, List.set_cons_zero, List.set_cons_succ, i64_w, i32_w]
        rfl
       refine pure_ (i := 9) (N := some 104) (v := ?_) (a' := ?_) (bs 20 1023) rfl rfl (by kernel_rfl) (fun _ _ _ h => h) (Or.inl ⟨by rfl, ?_⟩) ?_ ?_
       rotate_left
       ·intro w'
        go_simp
        with_reducible rfl
       rotate_left
       ·simp only [Act.put, List.setIfInBounds_toArray, List.set_cons_zero, List.set_cons_succ, i64_w, i32_w]
        rfl
       refine pure_ (i := 10) (N := some 105) (v := ?_) (a' := ?_) (bs 20 2047) rfl rfl (by kernel_rfl) (fun _ _ _ h => h) (Or.inl ⟨by rfl, ?_⟩) ?_ ?_
       rotate_left
       ·intro w'
        go_simp
        with_reducible rfl
       rotate_left
       ·simp only [Act.put, List.setIfInBounds_toArray, List.set_cons_zero, List.set_cons_succ, i64_w, i32_w]
        rfl
       refine pure_ (i := 11) (N := some 106) (v := ?_) (a' := ?_) (bs 20 4095) rfl rfl (by kernel_rfl) (fun _ _ _ h => h) (Or.inl ⟨by rfl, ?_⟩) ?_ ?_
       rotate_left
       ·intro w'
        go_simp
        with_reducible rfl
       rotate_left
       ·simp only [Act.put, List.setIfInBounds_toArray, List.set_cons_zero, List.set_cons_succ, i64_w, i32_w]
        rfl
       refine pure_ (i := 13) (N := some 108) (v := ?_) (a' := ?_) (bs 20 12287) rfl rfl (by kernel_rfl) (fun _ _ _ h => h) (Or.inl ⟨by rfl, ?_⟩) ?_ ?_
       rotate_left
       ·intro w'
        go_simp
        with_reducible rfl
       rotate_left
       ·simp only [Act.put, List.setIfInBounds_toArray, List.set_cons_zero, List.set_cons_succ, i64_w, i32_w]
        rfl
       refine take_ (i := 12) (N := some 107) (v := ?_) (a' := ?_) (bs 20 16383) rfl rfl (by kernel_rfl) (fun _ _ _ h => h) (Or.inl ⟨by rfl, ?_⟩) hHeld ?_ ?_
       rotate_left
       ·rintro w' ⟨s0, s1, s2, s3, s4, s5⟩
        go_simp
        with_reducible rfl
       rotate_left
       ·simp only [Act.put, List.setIfInBounds_toArray, List.set_cons_zero, List.set_cons_succ, i64_w, i32_w]
        rfl
       refine pure_ (i := 14) (N := some 109) (v := ?_) (a' := ?_) (bs 20 32767) rfl rfl (by kernel_rfl) (fun _ _ _ h => h) (Or.inl ⟨by rfl, ?_⟩) ?_ ?_
       rotate_left
       ·intro w'
        go_simp
        with_reducible rfl
       rotate_left
       ·simp only [Act.put, List.setIfInBounds_toArray, List.set_cons_zero, List.set_cons_succ, i64_w, i32_w]
        rfl
       refine pure_ (i := 15) (N := some 110) (v := ?_) (a' := ?_) (bs 20 65535) rfl rfl (by kernel_rfl) (fun _ _ _ h => h) (Or.inl ⟨by rfl, ?_⟩) ?_ ?_
       rotate_left
       ·intro w'
        go_simp
        with_reducible rfl
       rotate_left
       ·simp only [Act.put, List.setIfInBounds_toArray, List.set_cons_zero, List.set_cons_succ, i64_w, i32_w]
        rfl
       refine take_ (i := 16) (N := some 111) (v := ?_) (a' := ?_) (bs 20 131071) rfl rfl (by kernel_rfl) (fun _ _ _ h => h) (Or.inl ⟨by rfl, ?_⟩) hHeld ?_ ?_
       rotate_left
       ·rintro w' ⟨s0, s1, s2, s3, s4, s5⟩
        go_simp
        with_reducible rfl
       rotate_left
       ·simp only [Act.put, List.setIfInBounds_toArray, List.set_cons_zero, List.set_cons_succ, i64_w, i32_w]
        rfl
       refine one_ (i := 17) (N := some 112) (bs 20 262143) rfl rfl (by kernel_rfl) (by decide) (fun K hK => ?_)
       refine goes_ Try.func122 (by kernel_rfl) rfl #[.agg #[.int .i64 r.f1.f0, .int .i64 r.f1.f1], .int .i64 999] (by rfl) rfl rfl (by simp only [List.map_toArray, List.map_cons, List.map_nil]; rfl) ?_
       with_reducible refine (hins _).mono ?_
       rintro e w5 ⟨rfl, hb5⟩
       refine ⟨_, rfl, ?_⟩
       refine hK.out _ _ ⟨pw_cell_below hb5 (hHeld.1), pw_cell_below hb5 (hHeld.2.1), pw_cell_below hb5 (hHeld.2.2.1), pw_cell_below hb5 (hHeld.2.2.2.1), pw_cell_below hb5 (hHeld.2.2.2.2.1), pw_cell_below hb5 (hHeld.2.2.2.2.2)⟩ (fun hHeld => ?_)
       clear hK K
       refine norm_ (a' := ?_) ?_ ?_
       rotate_left
       ·show Act.put _ (some 112) _ = _
        simp only [Act.put, List.setIfInBounds_toArray, List.set_cons_zero, List.set_cons_succ, i64_w, i32_w]
        rfl
       refine pure_ (i := 18) (N := some 113) (v := ?_) (a' := ?_) (bs 20 524287) rfl rfl (by kernel_rfl) (fun _ _ _ h => h) (Or.inl ⟨by rfl, ?_⟩) ?_ ?_
       rotate_left
       ·intro w'
        go_simp
        with_reducible rfl
       rotate_left
       ·simp only [Act.put, List.setIfInBounds_toArray, List.set_cons_zero, List.set_cons_succ, i64_w, i32_w]
        rfl
       refine pure_ (i := 19) (N := some 114) (v := ?_) (a' := ?_) (bs 20 1048575) rfl rfl (by kernel_rfl) (fun _ _ _ h => h) (Or.inl ⟨by rfl, ?_⟩) ?_ ?_
       rotate_left
       ·intro w'
        go_simp
        with_reducible rfl
       rotate_left
       ·simp only [Act.put, List.setIfInBounds_toArray, List.set_cons_zero, List.set_cons_succ, i64_w, i32_w]
        rfl
       refine done_ (by kernel_rfl) ?_
       have HV := Aside0.mk (And.intro (bel2 (below_drew HQ.out.1) hb5) (And.intro (HQ.out.2.1.drew.below hb5) HN.out))
       clear hHeld hb5
       go_wp2
       go_roundw
       case rel => exact ⟨k + 1, hlt, by go_num, HV⟩
       case measure => simp [intOf]; omega
    ·have hltz : ¬ (k : Int) < (x.f9.length : Int) := by omega
     have H9 := Lib.hid (show x.f9.all (readingB x.f0) = true by have := HQ.out.2.2; rwa [List.take_of_length_le (by omega)] at this)
     have hms := manyX_sizes h8 H8.out
     have HFF := Lib.hid (show faultC x = overSize x by rw [HF.out, if_pos (by rw [H8.out, H9.out]; rfl)])
     have hmc := rMany_calls x _ _ (k38.K_below HQ.out.1 HX.out) h8 H8.out
     by_cases hov : 2000 < manyX x
     ·have HN := Lib.hid (show faultC x = 3 by rw [HFF.out]; unfold overSize; rw [if_pos (by omega)])
      clear hms
      generalize manyX x = mm at *
      go_wp2_with (go_at_call 46; refine hmc.mono ?_; clear hmc; rintro e wn ⟨rfl, hb⟩; have HV := Aside0.mk (bel2 HQ.out.1 hb); clear hb)
      go_ret
      exact ⟨ret_int HN.out.symm, HV.out⟩
     ·have HN := Lib.hid (show faultC x = 0 by rw [HFF.out]; unfold overSize; rw [if_neg (by omega)])
      clear hms
      generalize manyX x = mm at *
      go_wp2_with (go_at_call 46; refine hmc.mono ?_; clear hmc; rintro e wn ⟨rfl, hb⟩; have HV := Aside0.mk (bel2 HQ.out.1 hb); clear hb)
      go_ret
      exact ⟨ret_int HN.out.symm, HV.out⟩
end Go.Proofs.Ytdgkhoflajdidaa
/- Fault. -/
namespace Go.Proofs.Ytdgkhoflajdidaa
open Go.RowKit Go.Proofs.YtdgkhoflajdidaaW.PrintWords Go.Proofs.YtdgkhoflajdidaaW.PrintMore Go.Proofs.YtdgkhoflajdidaaW.PrintLast Go.Proofs.Ytdgkhoflajdidaa.Print
set_option linter.unusedVariables false
set_option linter.unusedSimpArgs false
set_option maxRecDepth 100000
set_option maxHeartbeats 4000000
theorem fault_a (x : S38) (cs : List Value) (w : World) (hx : k38.K w x cs) (h : 4 < x.f0 ∨ 5 < x.f9.length) : Calls Try.prog 86 #[.agg cs.toArray] w fun e w' => e = .returned (.int .i64 3) ∧ Below w.heap.size w w' := by
 obtain ⟨A5, c5, A6, c6, A9, c9, A10, c10, rfl, _⟩ := k38_open hx
 clear hx
 have hu := Try.underlying28
 by_cases h1 : 4 < x.f0
 ·go_enter Try.func86, Try.ntmps86
  go_wp2
  go_ret
  exact ⟨rfl, below_alloc (Below.refl _ _) _⟩
 ·have h2 : (5 : Int) < (x.f9.length : Int) := by omega
  go_enter Try.func86, Try.ntmps86
  go_wp2
  go_ret
  exact ⟨rfl, below_alloc (Below.refl _ _) _⟩
theorem rFault_calls (x : S38) (cs : List Value) (w : World) (hx : k38.K w x cs) : Calls Try.prog 86 #[.agg cs.toArray] w fun e w' => e = .returned (.int .i64 (faultC x)) ∧ Below w.heap.size w w' := by
 by_cases h : 4 < x.f0 ∨ 5 < x.f9.length
 ·rw [faultC_eq, if_pos h]
  exact fault_a x cs w hx h
 have ha : x.f0 ≤ 4 := by omega
 have hr : x.f9.length ≤ 5 := by omega
 have hn : ∀ p : Bool, p = false → (goodB x = true → p = true) → faultC x = 1 := fun p hp hg => by rw [faultC_eq, if_neg h, if_neg (fun q => by rw [hg q] at hp; cases hp)]
 have hg : goodB x = true → (decide (0 ≤ x.f0) = true ∧ inR x.f2 0 999 = true ∧ inR x.f1 0 x.f2 = true ∧ inR x.f3 1 20 = true ∧ inR x.f4 0 3 = true ∧ forHours x.f0 x.f5 x.f4 = true ∧ forHours x.f0 x.f6 20 = true ∧ inside x.f7 99 = true ∧ ((x.f8.length : Int) == x.f0 + 1) = true) := fun q => by
  simp only [goodB, Bool.and_eq_true] at q
  obtain ⟨⟨⟨⟨⟨⟨⟨⟨⟨⟨g1, g2⟩, g3⟩, g4⟩, g5⟩, g6⟩, g7⟩, g8⟩, g9⟩, _⟩, _⟩ := q
  exact ⟨g1, g2, g3, g4, g5, g6, g7, g8, g9⟩
 by_cases h1 : x.f0 < 0
 ·rw [hn _ (decide_eq_false (show ¬ 0 ≤ x.f0 by omega)) (fun q => (hg q).1)]
  exact fault_1 x cs w hx ha hr h1
 have h1 : 0 ≤ x.f0 := by omega
 cases h2 : inR x.f2 0 999 with
 | false => rw [hn _ h2 (fun q => (hg q).2.1)]; exact fault_2 x cs w hx ha hr h1 h2
 | true =>
 cases h3 : inR x.f1 0 x.f2 with
 | false => rw [hn _ h3 (fun q => (hg q).2.2.1)]; exact fault_3 x cs w hx ha hr h1 h2 h3
 | true =>
 cases h4 : inR x.f3 1 20 with
 | false => rw [hn _ h4 (fun q => (hg q).2.2.2.1)]; exact fault_4 x cs w hx ha hr h1 h2 h3 h4
 | true =>
 cases h5 : inR x.f4 0 3 with
 | false => rw [hn _ h5 (fun q => (hg q).2.2.2.2.1)]; exact fault_5 x cs w hx ha hr h1 h2 h3 h4 h5
 | true =>
 cases h6 : forHours x.f0 x.f5 x.f4 with
 | false => rw [hn _ h6 (fun q => (hg q).2.2.2.2.2.1)]; exact fault_6 x cs w hx ha hr h1 h2 h3 h4 h5 h6
 | true =>
 cases h7 : forHours x.f0 x.f6 20 with
 | false => rw [hn _ h7 (fun q => (hg q).2.2.2.2.2.2.1)]; exact fault_7 x cs w hx ha hr h1 h2 h3 h4 h5 h6 h7
 | true =>
 cases h8 : inside x.f7 99 with
 | false => rw [hn _ h8 (fun q => (hg q).2.2.2.2.2.2.2.1)]; exact fault_8 x cs w hx ha hr h1 h2 h3 h4 h5 h6 h7 h8
 | true =>
 cases h9 : ((x.f8.length : Int) == x.f0 + 1) with
 | false => rw [hn _ h9 (fun q => (hg q).2.2.2.2.2.2.2.2)]; exact fault_9 x cs w hx ha hr h1 h2 h3 h4 h5 h6 h7 h8 h9
 | true => exact fault_10 x cs w hx ha hr h1 h2 h3 h4 h5 h6 h7 h8 h9
theorem lfault_calls (x : S38) (cs : List Value) (w : World) (hx : k38.K w x cs) : Calls Try.prog 29 #[.agg cs.toArray] w fun e w' => e = .returned (.int .i64 (faultC x)) ∧ Below w.heap.size w w' := by
 have hb0 := fun o => below_alloc (Below.refl w.heap.size w) o
 have hf := fun o => rFault_calls x cs (w.alloc o) (k38.K_below (hb0 o) hx)
 obtain ⟨A5, c5, A6, c6, A9, c9, A10, c10, rfl, _⟩ := k38_open hx
 clear hx
 have hu := Try.underlying28
 generalize faultC x = ec at *
 go_enter Try.func29, Try.ntmps29
 go_wp2_with (go_at_call 86; refine (hf _).mono ?_; rintro e w1 ⟨rfl, hb⟩; have HB := Aside0.mk (bel2 (hb0 _) hb); clear hb)
 go_ret
 exact ⟨rfl, HB.out⟩
end Go.Proofs.Ytdgkhoflajdidaa
/- Arguments opened: coppers, truths, lists, readings. -/
namespace Go.Proofs.Ytdgkhoflajdidaa
open Go.RowKit Go.Proofs.YtdgkhoflajdidaaW.PrintWords Go.Proofs.YtdgkhoflajdidaaW.PrintMore Go.Proofs.YtdgkhoflajdidaaW.PrintLast Go.Proofs.Ytdgkhoflajdidaa.Print
open Go.ChangeShapes Go.WideShapes Go.ChangeAt
set_option linter.unusedVariables false
set_option linter.unusedSimpArgs false
set_option maxRecDepth 100000
set_option maxHeartbeats 4000000
section
variable {H : Type} {enc : TypeId × Value → H} {W : World}
/-- What a type's reading says of the cells. -/
def Opens (enc : TypeId × Value → H) (W : World) (t : TypeId) {α : Type} (d : Kd α) : Prop := ∀ (fuel : Nat) (cs : List Value) (x : DataW H × List MemPlace), DataW.trod enc Try.prog W 0 (fun _ => true) true fuel t cs = some x → ∃ v, d.K W v cs
theorem opens_int : Opens enc W 3 (Kd.int .i64) := fun fuel cs x h => by
 obtain ⟨n, hc, _⟩ := DataW.trod_int Try.underlying3 h
 exact ⟨n, hc⟩
theorem opens_slice {t e : TypeId} {α : Type} {d : Kd α} (z : α) (ht : Try.prog.underlying t = some (.slice e)) (he : Opens enc W e d) (hC : Try.prog.cellsOf e = d.sz) {fuel : Nat} {cs : List Value} {x : DataW H × List MemPlace} (h : DataW.trod enc Try.prog W 0 (fun _ => true) true fuel t cs = some x) :
    ∃ (A : Option Addr) (cap : Nat) (xs : List α), cs = [.slice A xs.length cap] ∧ xs.length ≤ cap ∧ Kd.C d W A xs.length xs := by
 rcases Deep.open_slice ht h with ⟨h0, _⟩ | ⟨a, len, cap, m, n, D, Pl, hcs, hb, hl, hm, hmm, hx, hi⟩
 ·exact ⟨none, 0, [], h0, Nat.le_refl _, rfl, by simp, fun h => absurd h (by simp)⟩
 ·have hm2 : m = cap := by simpa using hmm
  have key : ∀ i, ∃ v, i < len → ∃ c, c.length = d.sz ∧ d.K W v c ∧ ∀ j u, c[j]? = some u → W.cell? (a.add (i * d.sz + j)) = some u := by
   intro i
   by_cases hlt : i < len
   ·obtain ⟨cs', hcells, htr⟩ := hi i (by omega)
    obtain ⟨v, hv⟩ := he _ _ _ htr
    obtain ⟨_, hcl, hat⟩ := World.cells?_some hcells
    refine ⟨v, fun _ => ⟨cs', by rw [hcl, hC], hv, fun j u hj => ?_⟩⟩
    have hjl := (List.getElem?_eq_some_iff.1 hj).1
    have := hat j (by omega)
    rw [Deep.add_add, hC] at this
    rw [this, hj]
   ·exact ⟨z, fun h => absurd h hlt⟩
  obtain ⟨f, hf⟩ := Classical.skolem.1 key
  refine ⟨some a, cap, (List.range len).map f, by simpa using hcs, by simpa using hl, by simp, by simp; exact Nat.le_trans hl (Nat.le_trans hm (by decide)), fun _ => ⟨a, rfl, fun j p hj => ?_⟩⟩
  have hlt : j < len := by have := (List.getElem?_eq_some_iff.1 hj).1; simpa using this
  have hp : p = f j := by
   rw [List.getElem?_map, List.getElem?_range hlt] at hj
   exact (Option.some.inj hj).symm
  subst hp
  exact hf j hlt
theorem opens_range {t : TypeId} (ht : t = 24 ∨ t = 35) : Opens enc W t k35 := fun fuel cs x h => by
 have key : ∃ a b : Int, cs = [.int .i64 a, .int .i64 b] := by
  rcases ht with rfl | rfl
  ·obtain ⟨xs, n, _, _, hlen, hxl, hf⟩ := DataW.trod_struct Try.underlying24 h
   have hl : cs.length = 2 := hlen.trans (by kernel_rfl)
   have hx2 : xs.length = 2 := hxl
   match cs, hl with
   | [u, v], _ =>
    have h0 := hf 0 _ rfl
    have h1 := hf 1 _ rfl
    have c1 : Try.prog.cellsOf 3 = 1 := by kernel_rfl
    match xs, hx2 with
    | [x0, x1], _ =>
     obtain ⟨a, ha, _⟩ := DataW.trod_int Try.underlying3 (by simpa [c1] using h0)
     obtain ⟨b, hb, _⟩ := DataW.trod_int Try.underlying3 (by simpa [c1] using h1)
     simp only [List.cons.injEq, and_true] at ha hb
     exact ⟨a, b, by rw [ha, hb]⟩
  ·obtain ⟨xs, n, _, _, hlen, hxl, hf⟩ := DataW.trod_struct Try.underlying35 h
   have hl : cs.length = 2 := hlen.trans (by kernel_rfl)
   have hx2 : xs.length = 2 := hxl
   match cs, hl with
   | [u, v], _ =>
    have h0 := hf 0 _ rfl
    have h1 := hf 1 _ rfl
    have c1 : Try.prog.cellsOf 3 = 1 := by kernel_rfl
    match xs, hx2 with
    | [x0, x1], _ =>
     obtain ⟨a, ha, _⟩ := DataW.trod_int Try.underlying3 (by simpa [c1] using h0)
     obtain ⟨b, hb, _⟩ := DataW.trod_int Try.underlying3 (by simpa [c1] using h1)
     simp only [List.cons.injEq, and_true] at ha hb
     exact ⟨a, b, by rw [ha, hb]⟩
 obtain ⟨a, b, rfl⟩ := key
 exact ⟨⟨a, b⟩, k35_mk W ⟨a, b⟩⟩
theorem opens_reading : Opens enc W 96 k119 := fun fuel cs x h => by
 obtain ⟨xs, n, _, _, hlen, hxl, hf⟩ := DataW.trod_struct Try.underlying96 h
 have hl : cs.length = 3 := hlen.trans (by kernel_rfl)
 have hx2 : xs.length = 2 := hxl
 match cs, hl with
 | [u, v, r], _ =>
  have h0 := hf 0 _ rfl
  have h1 := hf 1 _ rfl
  have c1 : Try.prog.cellsOf 3 = 1 := by kernel_rfl
  have c2 : Try.prog.cellsOf 24 = 2 := by kernel_rfl
  match xs, hx2 with
  | [x0, x1], _ =>
   obtain ⟨a, ha, _⟩ := DataW.trod_int Try.underlying3 (by simpa [c1] using h0)
   obtain ⟨b, hb⟩ := opens_range (.inl rfl) _ _ _ (show DataW.trod enc Try.prog W 0 (fun _ => true) true n 24 [v, r] = some x1 by simpa [c2] using h1)
   have hb2 := k35_open hb
   simp only [List.cons.injEq, and_true] at ha hb2
   exact ⟨⟨a, b⟩, by rw [ha, hb2.1, hb2.2]; exact k119_mk W ⟨a, b⟩⟩
theorem opens_copper {fuel : Nat} {cs : List Value} {x : DataW H × List MemPlace} (h : DataW.trod enc Try.prog W 0 (fun _ => true) true fuel 28 cs = some x) : ∃ v, k38.K W v cs := by
 obtain ⟨xs, n, _, _, hlen, hxl, hf⟩ := DataW.trod_struct Try.underlying28 h
 have hl : cs.length = 11 := hlen.trans (by kernel_rfl)
 have hx2 : xs.length = 10 := hxl
 have c1 : Try.prog.cellsOf 3 = 1 := by kernel_rfl
 have c2 : Try.prog.cellsOf 24 = 2 := by kernel_rfl
 have c3 : Try.prog.cellsOf 22 = 1 := by kernel_rfl
 have c4 : Try.prog.cellsOf 25 = 1 := by kernel_rfl
 have c5 : Try.prog.cellsOf 26 = 1 := by kernel_rfl
 match cs, hl with
 | [v0, v1, v2, v3, v4, v5, v6, v7, v8, v9, v10], _ =>
  match xs, hx2 with
  | [x0, x1, x2, x3, x4, x5, x6, x7, x8, x9], _ =>
   have h0 := hf 0 _ rfl
   have h1 := hf 1 _ rfl
   have h2 := hf 2 _ rfl
   have h3 := hf 3 _ rfl
   have h4 := hf 4 _ rfl
   have h5 := hf 5 _ rfl
   have h6 := hf 6 _ rfl
   have h7 := hf 7 _ rfl
   have h8 := hf 8 _ rfl
   have h9 := hf 9 _ rfl
   obtain ⟨a0, e0, _⟩ := DataW.trod_int Try.underlying3 (by simpa [c1] using h0)
   obtain ⟨a1, e1, _⟩ := DataW.trod_int Try.underlying3 (by simpa [c1] using h1)
   obtain ⟨a2, e2, _⟩ := DataW.trod_int Try.underlying3 (by simpa [c1] using h2)
   obtain ⟨a3, e3, _⟩ := DataW.trod_int Try.underlying3 (by simpa [c1] using h3)
   obtain ⟨a4, e4, _⟩ := DataW.trod_int Try.underlying3 (by simpa [c1] using h4)
   obtain ⟨A5, p5, l5, e5, q5, g5⟩ := opens_slice (d := Kd.int .i64) (0 : Int) Try.underlying22 opens_int (by kernel_rfl) (show DataW.trod enc Try.prog W 0 (fun _ => true) true n 22 [v5] = some x5 by simpa [c3] using h5)
   obtain ⟨A6, p6, l6, e6, q6, g6⟩ := opens_slice (d := Kd.int .i64) (0 : Int) Try.underlying22 opens_int (by kernel_rfl) (show DataW.trod enc Try.prog W 0 (fun _ => true) true n 22 [v6] = some x6 by simpa [c3] using h6)
   obtain ⟨b, hb⟩ := opens_range (.inl rfl) _ _ _ (show DataW.trod enc Try.prog W 0 (fun _ => true) true n 24 [v7, v8] = some x7 by simpa [c2] using h7)
   have hb2 := k35_open hb
   obtain ⟨A9, p9, l9, e9, q9, g9⟩ := opens_slice (d := k35) z35 Try.underlying25 (opens_range (.inl rfl)) (by kernel_rfl) (show DataW.trod enc Try.prog W 0 (fun _ => true) true n 25 [v9] = some x8 by simpa [c4] using h8)
   obtain ⟨A10, p10, l10, e10, q10, g10⟩ := opens_slice (d := k119) z119 Try.underlying26 opens_reading (by kernel_rfl) (show DataW.trod enc Try.prog W 0 (fun _ => true) true n 26 [v10] = some x9 by simpa [c5] using h9)
   simp only [List.cons.injEq, and_true] at e0 e1 e2 e3 e4 e5 e6 hb2 e9 e10
   refine ⟨⟨a0, a1, a2, a3, a4, l5, l6, b, l9, l10⟩, ?_⟩
   rw [e0, e1, e2, e3, e4, e5, e6, hb2.1, hb2.2, e9, e10]
   exact k38_mk W ⟨a0, a1, a2, a3, a4, l5, l6, b, l9, l10⟩ q5 g5 q6 g6 q9 g9 q10 g10
theorem opens_truth {fuel : Nat} {cs : List Value} {x : DataW H × List MemPlace} (h : DataW.trod enc Try.prog W 0 (fun _ => true) true fuel 66 cs = some x) : ∃ v, k75.K W v cs := by
 obtain ⟨xs, n, _, _, hlen, hxl, hf⟩ := DataW.trod_struct Try.underlying66 h
 have hl : cs.length = 2 := hlen.trans (by kernel_rfl)
 have hx2 : xs.length = 2 := hxl
 have c1 : Try.prog.cellsOf 3 = 1 := by kernel_rfl
 have c3 : Try.prog.cellsOf 22 = 1 := by kernel_rfl
 match cs, hl with
 | [v0, v1], _ =>
  match xs, hx2 with
  | [x0, x1], _ =>
   have h0 := hf 0 _ rfl
   have h1 := hf 1 _ rfl
   obtain ⟨a0, e0, _⟩ := DataW.trod_int Try.underlying3 (by simpa [c1] using h0)
   obtain ⟨A5, p5, l5, e5, q5, g5⟩ := opens_slice (d := Kd.int .i64) (0 : Int) Try.underlying22 opens_int (by kernel_rfl) (show DataW.trod enc Try.prog W 0 (fun _ => true) true n 22 [v1] = some x1 by simpa [c3] using h1)
   simp only [List.cons.injEq, and_true] at e0 e5
   refine ⟨⟨a0, l5⟩, ?_⟩
   rw [e0, e5]
   exact k75_mk W ⟨a0, l5⟩ q5 g5
end
theorem row_own : ownKnob Try.prog.godebug = none := by kernel_rfl
theorem row_laid : laidOutB Try.prog = true := by kernel_rfl
end Go.Proofs.Ytdgkhoflajdidaa
