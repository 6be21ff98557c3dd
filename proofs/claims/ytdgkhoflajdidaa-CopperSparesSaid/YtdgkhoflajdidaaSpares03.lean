/- Lemmas for the law's proof: Sa, Pe, Sb, Ta, Q0. -/
import Derived.Test.YtdgkhoflajdidaaSpares02
import Derived.Test.YtdgkhoflajdidaaCore10
import Derived.Test.YtdgkhoflajdidaaCore11
import Derived.Test.YtdgkhoflajdidaaCore15
import Derived.Test.YtdgkhoflajdidaaCore14
/- Keeps, Whole, Wholes of the reference: truths are counted. -/
namespace Go.Proofs.Ytdgkhoflajdidaa
open Go.RowKit Go.Proofs.YtdgkhoflajdidaaW.PrintWords Go.Proofs.YtdgkhoflajdidaaW.PrintMore Go.Proofs.YtdgkhoflajdidaaW.PrintLast Go.Proofs.Ytdgkhoflajdidaa.Print
set_option linter.unusedVariables false
set_option linter.unusedSimpArgs false
set_option maxRecDepth 100000
set_option maxHeartbeats 4000000
def cnt (p : S75 → Bool) (L : List S75) : Nat := (L.filter p).length
theorem cnt_t {p : S75 → Bool} {L : List S75} {t : S75} (h : p t = true) : cnt p (L ++ [t]) = cnt p L + 1 := by simp [cnt, List.filter_append, h]
theorem cnt_f {p : S75 → Bool} {L : List S75} {t : S75} (h : p t = false) : cnt p (L ++ [t]) = cnt p L := by simp [cnt, List.filter_append, h]
theorem cnt_le (p : S75 → Bool) (L : List S75) : cnt p L ≤ L.length := List.length_filter_le ..
/-- What is handed to those that go through truths. -/
structure TrArgs (x : S38) (cs : List Value) (A C D : Option Addr) (L : List S75) (co wa : List Int) (w : World) : Prop where
 kx : k38.K w x cs
 kl : Kd.C k75 w A L.length L
 kc : Kd.C (Kd.int .i64) w C co.length co
 kw : Kd.C (Kd.int .i64) w D wa.length wa
 ok : ∀ t ∈ L, PlayOk x (toSc t) co wa ∧ (t.f1.length : Int) = x.f0 + 1
 len : L.length ≤ 3000
 l0 : 0 ≤ x.f0
 l1 : x.f0 ≤ 4
variable {x : S38} {cs ts : List Value} {A C D : Option Addr} {c d d' : Nat} {L : List S75} {t : S75} {co wa : List Int} {w V : World}
theorem TrArgs.below (h : TrArgs x cs A C D L co wa w) (hb : Below w.heap.size w V) : TrArgs x cs A C D L co wa V :=
 ⟨k38.K_below hb h.kx, Kd.C_below h.kl hb, Kd.C_below h.kc hb, Kd.C_below h.kw hb, h.ok, h.len, h.l0, h.l1⟩
theorem TrArgs.h (h : TrArgs x cs A C D L co wa w) {t : S75} (ht : t ∈ L) (hk : k75.K w t ts) : HArgs x cs t ts C D c d co wa w := ⟨h.kx, hk, h.kc, h.kw, (h.ok t ht).1, (h.ok t ht).2⟩
theorem k38_rows {A5 A6 A9 A10 : Option Addr} {c5 c6 c9 c10 : Nat} (h : k38.K w x [.int .i64 x.f0, .int .i64 x.f1, .int .i64 x.f2, .int .i64 x.f3, .int .i64 x.f4, .slice A5 x.f5.length c5, .slice A6 x.f6.length c6, .int .i64 x.f7.f0, .int .i64 x.f7.f1, .slice A9 x.f8.length c9, .slice A10 x.f9.length c10]) : Kd.C (Kd.int .i64) w A5 x.f5.length x.f5 ∧ Kd.C (Kd.int .i64) w A6 x.f6.length x.f6 := by
 obtain ⟨_, _, _, _, _, _, _, _, he, _, g5, _, g6, _⟩ := k38_open h
 simp only [List.cons.injEq, Value.slice.injEq, true_and, and_true] at he
 obtain ⟨⟨rfl, rfl⟩, ⟨rfl, rfl⟩, _⟩ := he
 exact ⟨g5, g6⟩
def wholeR (x : S38) (s : Sc) (co wa : List Int) : Bool := (List.range (x.f0 + 1).toNat).all (keptAt x s co wa)
theorem rWhole_calls (h : HArgs x cs t ts C D c d co wa w) (h0 : 0 ≤ x.f0) (h1 : x.f0 ≤ 4) :
    Calls Try.prog 87 #[.agg cs.toArray, .agg ts.toArray, .slice C co.length c, .slice D wa.length d] w fun e w' => e = .returned (.bool (wholeR x (toSc t) co wa)) ∧ Below w.heap.size w w' := by
 have HA := Aside0.mk h
 obtain ⟨A5, c5, A6, c6, A9, c9, A10, c10, rfl, _⟩ := k38_open h.kx
 obtain ⟨T1, d1, rfl, _, _⟩ := k75_open h.kt
 clear h
 have hu := Try.underlying28
 have hu2 := Try.underlying66
 have ZB := Aside0.mk (And.intro (below_alloc (below_alloc (Below.refl w.heap.size w) (.cells #[.int .i64 x.f0, .int .i64 x.f1, .int .i64 x.f2, .int .i64 x.f3, .int .i64 x.f4, .slice A5 x.f5.length c5, .slice A6 x.f6.length c6, .int .i64 x.f7.f0, .int .i64 x.f7.f1, .slice A9 x.f8.length c9, .slice A10 x.f9.length c10] 28)) (.cells #[.int .i64 t.f0, .slice T1 t.f1.length d1] 66)) (And.intro ((Blk.new w #[.int .i64 x.f0, .int .i64 x.f1, .int .i64 x.f2, .int .i64 x.f3, .int .i64 x.f4, .slice A5 x.f5.length c5, .slice A6 x.f6.length c6, .int .i64 x.f7.f0, .int .i64 x.f7.f1, .slice A9 x.f8.length c9, .slice A10 x.f9.length c10] 28 _ rfl).alloc (.cells #[.int .i64 t.f0, .slice T1 t.f1.length d1] 66)) (Blk.new (w.alloc (.cells #[.int .i64 x.f0, .int .i64 x.f1, .int .i64 x.f2, .int .i64 x.f3, .int .i64 x.f4, .slice A5 x.f5.length c5, .slice A6 x.f6.length c6, .int .i64 x.f7.f0, .int .i64 x.f7.f1, .slice A9 x.f8.length c9, .slice A10 x.f9.length c10] 28)) #[.int .i64 t.f0, .slice T1 t.f1.length d1] 66 (w.heap.size + 1) (by simp))))
 go_enter Try.func87, Try.ntmps87
 go_wp2
 generalize ((w.alloc (.cells #[.int .i64 x.f0, .int .i64 x.f1, .int .i64 x.f2, .int .i64 x.f3, .int .i64 x.f4, .slice A5 x.f5.length c5, .slice A6 x.f6.length c6, .int .i64 x.f7.f0, .int .i64 x.f7.f1, .slice A9 x.f8.length c9, .slice A10 x.f9.length c10] 28)).alloc (.cells #[.int .i64 t.f0, .slice T1 t.f1.length d1] 66)) = W at *
 go_loopw [9] (fun s9 wr => ∃ k : Nat, (k : Int) ≤ x.f0 + 1 ∧ s9 = .int .i64 k ∧ Aside0 ((Below w.heap.size w wr ∧ Blk wr w.heap.size #[.int .i64 x.f0, .int .i64 x.f1, .int .i64 x.f2, .int .i64 x.f3, .int .i64 x.f4, .slice A5 x.f5.length c5, .slice A6 x.f6.length c6, .int .i64 x.f7.f0, .int .i64 x.f7.f1, .slice A9 x.f8.length c9, .slice A10 x.f9.length c10] 28 ∧ Blk wr (w.heap.size + 1) #[.int .i64 t.f0, .slice T1 t.f1.length d1] 66) ∧ ∀ j, j < k → keptAt x (toSc t) co wa j = true)) (fun s9 _ => (x.f0 + 1).toNat - (intOf s9).toNat)
 case atStart => exact ⟨0, by omega, rfl, ⟨ZB.out, fun j hj => absurd hj (Nat.not_lt_zero _)⟩⟩
 case round =>
  obtain ⟨k, hk, rfl, HW⟩ := hrel
  have k0 := HW.out.1.2.1.cell 0 _ rfl
  by_cases hlt : (k : Int) ≤ x.f0
  ·have HK := fun V (hb : Below wr.heap.size wr V) => kept_calls k hlt (HA.out.below (bel2 HW.out.1.1 hb))
   have hkc := HK _ (Below.refl _ _)
   have k1 := HW.out.1.2.1.cell 1 _ rfl
   have k2 := HW.out.1.2.1.cell 2 _ rfl
   have k3 := HW.out.1.2.1.cell 3 _ rfl
   have k4 := HW.out.1.2.1.cell 4 _ rfl
   have k5 := HW.out.1.2.1.cell 5 _ rfl
   have k6 := HW.out.1.2.1.cell 6 _ rfl
   have k7 := HW.out.1.2.1.cell 7 _ rfl
   have k8 := HW.out.1.2.1.cell 8 _ rfl
   have k9 := HW.out.1.2.1.cell 9 _ rfl
   have k10 := HW.out.1.2.1.cell 10 _ rfl
   have t0 := HW.out.1.2.2.cell 0 _ rfl
   have t1 := HW.out.1.2.2.cell 1 _ rfl
   cases hq : keptAt x (toSc t) co wa k with
   | true =>
    rw [hq] at hkc
    have HQ := Lib.hid hq
    clear hq HK
    go_wp2_with fail
    refine hkc.mono ?_
    rintro e w5 ⟨rfl, hb⟩
    have HN := Aside0.mk (And.intro (And.intro (bel2 HW.out.1.1 hb) (And.intro (HW.out.1.2.1.below hb) (HW.out.1.2.2.below hb))) (show ∀ j, j < k + 1 → keptAt x (toSc t) co wa j = true from fun j hj => by
     by_cases e : j = k
     ·rw [e]; exact HQ.out
     ·exact HW.out.2 j (by omega)))
    clear hb k0 k1 k2 k3 k4 k5 k6 k7 k8 k9 k10 t0 t1
    go_wp2
    go_roundw
    case rel => exact ⟨k + 1, by omega, by go_num, HN⟩
    case measure => simp [intOf]; omega
   | false =>
    rw [hq] at hkc
    have HQ := Lib.hid (show wholeR x (toSc t) co wa = false by unfold wholeR; rw [List.all_eq_false]; exact ⟨k, List.mem_range.2 (by omega), by simp [hq]⟩)
    clear hq HK
    go_wp2_with fail
    refine hkc.mono ?_
    rintro e w5 ⟨rfl, hb⟩
    have HN := Aside0.mk (bel2 HW.out.1.1 hb)
    clear hb k0 k1 k2 k3 k4 k5 k6 k7 k8 k9 k10 t0 t1
    go_wp2
    go_ret
    exact ⟨ret_bool HQ.out.symm, HN.out⟩
  ·have HQ := Lib.hid (show wholeR x (toSc t) co wa = true by unfold wholeR; rw [List.all_eq_true]; exact fun j hj => HW.out.2 j (by have := List.mem_range.1 hj; omega))
   go_wp2
   go_ret
   exact ⟨ret_bool HQ.out.symm, HW.out.1.1⟩
theorem rWholes_calls (hA : TrArgs x cs A C D L co wa w) :
    Calls Try.prog 32 #[.agg cs.toArray, .slice A L.length c, .slice C co.length d, .slice D wa.length d'] w fun e w' => e = .returned (.int .i64 (verd (cnt (fun t => wholeR x (toSc t) co wa) L : Nat) L.length)) ∧ Below w.heap.size w w' := by
 obtain ⟨A5, c5, A6, c6, A9, c9, A10, c10, rfl, _⟩ := k38_open hA.kx
 have HA := Aside0.mk hA
 clear hA
 have hu := Try.underlying28
 have hu2 := Try.underlying66
 have ZB := Aside0.mk (And.intro (below_alloc (Below.refl w.heap.size w) (.cells #[.int .i64 x.f0, .int .i64 x.f1, .int .i64 x.f2, .int .i64 x.f3, .int .i64 x.f4, .slice A5 x.f5.length c5, .slice A6 x.f6.length c6, .int .i64 x.f7.f0, .int .i64 x.f7.f1, .slice A9 x.f8.length c9, .slice A10 x.f9.length c10] 28)) (Blk.new w #[.int .i64 x.f0, .int .i64 x.f1, .int .i64 x.f2, .int .i64 x.f3, .int .i64 x.f4, .slice A5 x.f5.length c5, .slice A6 x.f6.length c6, .int .i64 x.f7.f0, .int .i64 x.f7.f1, .slice A9 x.f8.length c9, .slice A10 x.f9.length c10] 28 _ rfl))
 have hle := HA.out.len
 go_enter Try.func32, Try.ntmps32
 go_wp2
 generalize (w.alloc (.cells #[.int .i64 x.f0, .int .i64 x.f1, .int .i64 x.f2, .int .i64 x.f3, .int .i64 x.f4, .slice A5 x.f5.length c5, .slice A6 x.f6.length c6, .int .i64 x.f7.f0, .int .i64 x.f7.f1, .slice A9 x.f8.length c9, .slice A10 x.f9.length c10] 28)) = W at *
 go_loopw [9, 10] (fun s7 s8 wr => ∃ k : Nat, k ≤ L.length ∧ s7 = .int .i64 (cnt (fun t => wholeR x (toSc t) co wa) (L.take k) : Nat) ∧ s8 = .int .i64 k ∧ Aside0 (Below w.heap.size w wr ∧ Blk wr w.heap.size #[.int .i64 x.f0, .int .i64 x.f1, .int .i64 x.f2, .int .i64 x.f3, .int .i64 x.f4, .slice A5 x.f5.length c5, .slice A6 x.f6.length c6, .int .i64 x.f7.f0, .int .i64 x.f7.f1, .slice A9 x.f8.length c9, .slice A10 x.f9.length c10] 28)) (fun _ s8 _ => L.length - (intOf s8).toNat)
 case atStart => exact ⟨0, Nat.zero_le _, rfl, rfl, ZB⟩
 case round =>
  obtain ⟨k, hk, rfl, rfl, HW⟩ := hrel
  by_cases hlt : k < L.length
  ·have hltz : (k : Int) < (L.length : Int) := by omega
   obtain ⟨aA, T1, d1, rfl, q0, q1, hkt⟩ := row_at_tr (HA.out.below HW.out.1).kl k hlt
   have hsn : L.take (k + 1) = L.take k ++ [L[k]] := List.take_succ_eq_append_getElem hlt
   have htm : L[k] ∈ L := List.getElem_mem hlt
   have HK := Aside0.mk (fun V (hb : Below wr.heap.size wr V) => rWhole_calls (c := d) (d := d') ((HA.out.below (bel2 HW.out.1 hb)).h htm (k75.K_below hb hkt)) HA.out.l0 HA.out.l1)
   have hcl := cnt_le (fun t => wholeR x (toSc t) co wa) (L.take k)
   rw [List.length_take] at hcl
   clear hkt htm
   generalize L[k] = t at *
   cases hq : wholeR x (toSc t) co wa with
   | true =>
    rw [hq] at HK
    have HSN := Lib.hid (show cnt (fun t => wholeR x (toSc t) co wa) (L.take (k + 1)) = cnt (fun t => wholeR x (toSc t) co wa) (L.take k) + 1 by rw [hsn]; exact cnt_t hq)
    clear hsn hq
    generalize cnt (fun t => wholeR x (toSc t) co wa) (L.take k) = n at *
    have k0 := HW.out.2.cell 0 _ rfl
    have k1 := HW.out.2.cell 1 _ rfl
    have k2 := HW.out.2.cell 2 _ rfl
    have k3 := HW.out.2.cell 3 _ rfl
    have k4 := HW.out.2.cell 4 _ rfl
    have k5 := HW.out.2.cell 5 _ rfl
    have k6 := HW.out.2.cell 6 _ rfl
    have k7 := HW.out.2.cell 7 _ rfl
    have k8 := HW.out.2.cell 8 _ rfl
    have k9 := HW.out.2.cell 9 _ rfl
    have k10 := HW.out.2.cell 10 _ rfl
    go_wp2
    refine start_ (n := 8) (S := fun w' => w'.cell? ⟨w.heap.size, 0, none⟩ = some (.int .i64 x.f0) ∧ w'.cell? ⟨w.heap.size, 1, none⟩ = some (.int .i64 x.f1) ∧ w'.cell? ⟨w.heap.size, 2, none⟩ = some (.int .i64 x.f2) ∧ w'.cell? ⟨w.heap.size, 3, none⟩ = some (.int .i64 x.f3) ∧ w'.cell? ⟨w.heap.size, 4, none⟩ = some (.int .i64 x.f4) ∧ w'.cell? ⟨w.heap.size, 5, none⟩ = some (.slice A5 x.f5.length c5) ∧ w'.cell? ⟨w.heap.size, 6, none⟩ = some (.slice A6 x.f6.length c6) ∧ w'.cell? ⟨w.heap.size, 7, none⟩ = some (.int .i64 x.f7.f0) ∧ w'.cell? ⟨w.heap.size, 8, none⟩ = some (.int .i64 x.f7.f1) ∧ w'.cell? ⟨w.heap.size, 9, none⟩ = some (.slice A9 x.f8.length c9) ∧ w'.cell? ⟨w.heap.size, 10, none⟩ = some (.slice A10 x.f9.length c10) ∧ w'.cell? (aA.add (k * 2)) = some (.int .i64 t.f0) ∧ w'.cell? ⟨(aA.add (k * 2)).block, (aA.add (k * 2)).off + 1, none⟩ = some (.slice T1 t.f1.length d1)) (ds := []) #[false, false, false, false, false, false, false, false] (by kernel_rfl) rfl rfl ⟨k0, k1, k2, k3, k4, k5, k6, k7, k8, k9, k10, q0, q1⟩ (fun hHeld => ?_)
    refine pure_ (i := 1) (N := some 18) (v := ?_) (a' := ?_) (bs 8 2) rfl rfl (by kernel_rfl) (fun _ _ _ h => h) (Or.inl ⟨by rfl, ?_⟩) ?_ ?_
    rotate_left
    ·intro w'
     go_simp
     with_reducible rfl
    rotate_left
    ·simp only [Act.put, List.setIfInBounds_toArray, List.set_cons_zero, List.set_cons_succ, i64_w, i32_w]
     rfl
    refine pure_ (i := 2) (N := some 19) (v := ?_) (a' := ?_) (bs 8 6) rfl rfl (by kernel_rfl) (fun _ _ _ h => h) (Or.inl ⟨by rfl, ?_⟩) ?_ ?_
    rotate_left
    ·intro w'
     go_simp
     with_reducible rfl
    rotate_left
    ·simp only [Act.put, List.setIfInBounds_toArray, List.set_cons_zero, List.set_cons_succ, i64_w, i32_w]
     rfl
    refine pure_ (i := 3) (N := some 20) (v := ?_) (a' := ?_) (bs 8 14) rfl rfl (by kernel_rfl) (fun _ _ _ h => h) (Or.inl ⟨by rfl, ?_⟩) ?_ ?_
    rotate_left
    ·intro w'
     go_simp
     with_reducible rfl
    rotate_left
    ·simp only [Act.put, List.setIfInBounds_toArray, List.set_cons_zero, List.set_cons_succ, i64_w, i32_w]
     rfl
    refine pure_ (i := 5) (N := some 22) (v := ?_) (a' := ?_) (bs 8 46) rfl rfl (by kernel_rfl) (fun _ _ _ h => h) (Or.inl ⟨by rfl, ?_⟩) ?_ ?_
    rotate_left
    ·intro w'
     go_simp
     with_reducible rfl
    rotate_left
    ·simp only [Act.put, List.setIfInBounds_toArray, List.set_cons_zero, List.set_cons_succ, i64_w, i32_w]
     rfl
    refine pure_ (i := 6) (N := some 23) (v := ?_) (a' := ?_) (bs 8 110) rfl rfl (by kernel_rfl) (fun _ _ _ h => h) (Or.inl ⟨by rfl, ?_⟩) ?_ ?_
    rotate_left
    ·intro w'
     go_simp
     with_reducible rfl
    rotate_left
    ·simp only [Act.put, List.setIfInBounds_toArray, List.set_cons_zero, List.set_cons_succ, i64_w, i32_w]
     rfl
    refine take_ (i := 0) (N := some 17) (v := ?_) (a' := ?_) (bs 8 111) rfl rfl (by kernel_rfl) (fun _ _ _ h => h) (Or.inl ⟨by rfl, ?_⟩) hHeld ?_ ?_
    rotate_left
    ·rintro w' ⟨s0, s1, s2, s3, s4, s5, s6, s7, s8, s9, s10, s11, s12⟩
     go_simp
     with_reducible rfl
    rotate_left
    ·simp only [Act.put, List.setIfInBounds_toArray, List.set_cons_zero, List.set_cons_succ, i64_w, i32_w]
     rfl
    refine take_ (i := 4) (N := some 21) (v := ?_) (a' := ?_) (bs 8 127) rfl rfl (by kernel_rfl) (fun _ _ _ h => h) (Or.inl ⟨by rfl, ?_⟩) hHeld ?_ ?_
    rotate_left
    ·rintro w' ⟨s0, s1, s2, s3, s4, s5, s6, s7, s8, s9, s10, s11, s12⟩
     go_simp
     with_reducible rfl
    rotate_left
    ·simp only [Act.put, List.setIfInBounds_toArray, List.set_cons_zero, List.set_cons_succ, i64_w, i32_w]
     rfl
    refine one_ (i := 7) (N := some 24) (bs 8 255) rfl rfl (by kernel_rfl) (by decide) (fun K hK => ?_)
    refine goes_ Try.func87 (by kernel_rfl) rfl #[.agg #[.int .i64 x.f0, .int .i64 x.f1, .int .i64 x.f2, .int .i64 x.f3, .int .i64 x.f4, .slice A5 x.f5.length c5, .slice A6 x.f6.length c6, .int .i64 x.f7.f0, .int .i64 x.f7.f1, .slice A9 x.f8.length c9, .slice A10 x.f9.length c10], .agg #[.int .i64 t.f0, .slice T1 t.f1.length d1], .slice C co.length d, .slice D wa.length d'] (by rfl) rfl rfl (by simp only [List.map_toArray, List.map_cons, List.map_nil]; rfl) ?_
    with_reducible refine (HK.out _ (below_drew (Below.refl wr.heap.size wr))).mono ?_
    rintro e w3 ⟨rfl, hb3⟩
    refine ⟨_, rfl, ?_⟩
    refine hK.out _ _ ⟨pw_cell_below hb3 (hHeld.1), pw_cell_below hb3 (hHeld.2.1), pw_cell_below hb3 (hHeld.2.2.1), pw_cell_below hb3 (hHeld.2.2.2.1), pw_cell_below hb3 (hHeld.2.2.2.2.1), pw_cell_below hb3 (hHeld.2.2.2.2.2.1), pw_cell_below hb3 (hHeld.2.2.2.2.2.2.1), pw_cell_below hb3 (hHeld.2.2.2.2.2.2.2.1), pw_cell_below hb3 (hHeld.2.2.2.2.2.2.2.2.1), pw_cell_below hb3 (hHeld.2.2.2.2.2.2.2.2.2.1), pw_cell_below hb3 (hHeld.2.2.2.2.2.2.2.2.2.2.1), pw_cell_below hb3 (hHeld.2.2.2.2.2.2.2.2.2.2.2.1), pw_cell_below hb3 (hHeld.2.2.2.2.2.2.2.2.2.2.2.2)⟩ (fun hHeld => ?_)
    clear hK K
    refine norm_ (a' := ?_) ?_ ?_
    rotate_left
    ·show Act.put _ (some 24) _ = _
     simp only [Act.put, List.setIfInBounds_toArray, List.set_cons_zero, List.set_cons_succ, i64_w, i32_w]
     rfl
    refine done_ (by kernel_rfl) ?_
    have HN := Aside0.mk (And.intro (bel2 HW.out.1 (bel2 (below_drew (Below.refl _ _)) hb3)) (HW.out.2.below (bel2 (below_drew (Below.refl _ _)) hb3)))
    clear hHeld hb3 q0 q1 k0 k1 k2 k3 k4 k5 k6 k7 k8 k9 k10
    go_wp2
    go_roundw
    case rel => exact ⟨k + 1, hlt, by rw [HSN.out]; go_num, by go_num, HN⟩
    case measure => simp [intOf]; omega
   | false =>
    rw [hq] at HK
    have HSN := Lib.hid (show cnt (fun t => wholeR x (toSc t) co wa) (L.take (k + 1)) = cnt (fun t => wholeR x (toSc t) co wa) (L.take k) by rw [hsn]; exact cnt_f hq)
    clear hsn hq
    generalize cnt (fun t => wholeR x (toSc t) co wa) (L.take k) = n at *
    have k0 := HW.out.2.cell 0 _ rfl
    have k1 := HW.out.2.cell 1 _ rfl
    have k2 := HW.out.2.cell 2 _ rfl
    have k3 := HW.out.2.cell 3 _ rfl
    have k4 := HW.out.2.cell 4 _ rfl
    have k5 := HW.out.2.cell 5 _ rfl
    have k6 := HW.out.2.cell 6 _ rfl
    have k7 := HW.out.2.cell 7 _ rfl
    have k8 := HW.out.2.cell 8 _ rfl
    have k9 := HW.out.2.cell 9 _ rfl
    have k10 := HW.out.2.cell 10 _ rfl
    go_wp2
    refine start_ (n := 8) (S := fun w' => w'.cell? ⟨w.heap.size, 0, none⟩ = some (.int .i64 x.f0) ∧ w'.cell? ⟨w.heap.size, 1, none⟩ = some (.int .i64 x.f1) ∧ w'.cell? ⟨w.heap.size, 2, none⟩ = some (.int .i64 x.f2) ∧ w'.cell? ⟨w.heap.size, 3, none⟩ = some (.int .i64 x.f3) ∧ w'.cell? ⟨w.heap.size, 4, none⟩ = some (.int .i64 x.f4) ∧ w'.cell? ⟨w.heap.size, 5, none⟩ = some (.slice A5 x.f5.length c5) ∧ w'.cell? ⟨w.heap.size, 6, none⟩ = some (.slice A6 x.f6.length c6) ∧ w'.cell? ⟨w.heap.size, 7, none⟩ = some (.int .i64 x.f7.f0) ∧ w'.cell? ⟨w.heap.size, 8, none⟩ = some (.int .i64 x.f7.f1) ∧ w'.cell? ⟨w.heap.size, 9, none⟩ = some (.slice A9 x.f8.length c9) ∧ w'.cell? ⟨w.heap.size, 10, none⟩ = some (.slice A10 x.f9.length c10) ∧ w'.cell? (aA.add (k * 2)) = some (.int .i64 t.f0) ∧ w'.cell? ⟨(aA.add (k * 2)).block, (aA.add (k * 2)).off + 1, none⟩ = some (.slice T1 t.f1.length d1)) (ds := []) #[false, false, false, false, false, false, false, false] (by kernel_rfl) rfl rfl ⟨k0, k1, k2, k3, k4, k5, k6, k7, k8, k9, k10, q0, q1⟩ (fun hHeld => ?_)
    refine pure_ (i := 1) (N := some 18) (v := ?_) (a' := ?_) (bs 8 2) rfl rfl (by kernel_rfl) (fun _ _ _ h => h) (Or.inl ⟨by rfl, ?_⟩) ?_ ?_
    rotate_left
    ·intro w'
     go_simp
     with_reducible rfl
    rotate_left
    ·simp only [Act.put, List.setIfInBounds_toArray, List.set_cons_zero, List.set_cons_succ, i64_w, i32_w]
     rfl
    refine pure_ (i := 2) (N := some 19) (v := ?_) (a' := ?_) (bs 8 6) rfl rfl (by kernel_rfl) (fun _ _ _ h => h) (Or.inl ⟨by rfl, ?_⟩) ?_ ?_
    rotate_left
    ·intro w'
     go_simp
     with_reducible rfl
    rotate_left
    ·simp only [Act.put, List.setIfInBounds_toArray, List.set_cons_zero, List.set_cons_succ, i64_w, i32_w]
     rfl
    refine pure_ (i := 3) (N := some 20) (v := ?_) (a' := ?_) (bs 8 14) rfl rfl (by kernel_rfl) (fun _ _ _ h => h) (Or.inl ⟨by rfl, ?_⟩) ?_ ?_
    rotate_left
    ·intro w'
     go_simp
     with_reducible rfl
    rotate_left
    ·simp only [Act.put, List.setIfInBounds_toArray, List.set_cons_zero, List.set_cons_succ, i64_w, i32_w]
     rfl
    refine pure_ (i := 5) (N := some 22) (v := ?_) (a' := ?_) (bs 8 46) rfl rfl (by kernel_rfl) (fun _ _ _ h => h) (Or.inl ⟨by rfl, ?_⟩) ?_ ?_
    rotate_left
    ·intro w'
     go_simp
     with_reducible rfl
    rotate_left
    ·simp only [Act.put, List.setIfInBounds_toArray, List.set_cons_zero, List.set_cons_succ, i64_w, i32_w]
     rfl
    refine pure_ (i := 6) (N := some 23) (v := ?_) (a' := ?_) (bs 8 110) rfl rfl (by kernel_rfl) (fun _ _ _ h => h) (Or.inl ⟨by rfl, ?_⟩) ?_ ?_
    rotate_left
    ·intro w'
     go_simp
     with_reducible rfl
    rotate_left
    ·simp only [Act.put, List.setIfInBounds_toArray, List.set_cons_zero, List.set_cons_succ, i64_w, i32_w]
     rfl
    refine take_ (i := 0) (N := some 17) (v := ?_) (a' := ?_) (bs 8 111) rfl rfl (by kernel_rfl) (fun _ _ _ h => h) (Or.inl ⟨by rfl, ?_⟩) hHeld ?_ ?_
    rotate_left
    ·rintro w' ⟨s0, s1, s2, s3, s4, s5, s6, s7, s8, s9, s10, s11, s12⟩
     go_simp
     with_reducible rfl
    rotate_left
    ·simp only [Act.put, List.setIfInBounds_toArray, List.set_cons_zero, List.set_cons_succ, i64_w, i32_w]
     rfl
    refine take_ (i := 4) (N := some 21) (v := ?_) (a' := ?_) (bs 8 127) rfl rfl (by kernel_rfl) (fun _ _ _ h => h) (Or.inl ⟨by rfl, ?_⟩) hHeld ?_ ?_
    rotate_left
    ·rintro w' ⟨s0, s1, s2, s3, s4, s5, s6, s7, s8, s9, s10, s11, s12⟩
     go_simp
     with_reducible rfl
    rotate_left
    ·simp only [Act.put, List.setIfInBounds_toArray, List.set_cons_zero, List.set_cons_succ, i64_w, i32_w]
     rfl
    refine one_ (i := 7) (N := some 24) (bs 8 255) rfl rfl (by kernel_rfl) (by decide) (fun K hK => ?_)
    refine goes_ Try.func87 (by kernel_rfl) rfl #[.agg #[.int .i64 x.f0, .int .i64 x.f1, .int .i64 x.f2, .int .i64 x.f3, .int .i64 x.f4, .slice A5 x.f5.length c5, .slice A6 x.f6.length c6, .int .i64 x.f7.f0, .int .i64 x.f7.f1, .slice A9 x.f8.length c9, .slice A10 x.f9.length c10], .agg #[.int .i64 t.f0, .slice T1 t.f1.length d1], .slice C co.length d, .slice D wa.length d'] (by rfl) rfl rfl (by simp only [List.map_toArray, List.map_cons, List.map_nil]; rfl) ?_
    with_reducible refine (HK.out _ (below_drew (Below.refl wr.heap.size wr))).mono ?_
    rintro e w3 ⟨rfl, hb3⟩
    refine ⟨_, rfl, ?_⟩
    refine hK.out _ _ ⟨pw_cell_below hb3 (hHeld.1), pw_cell_below hb3 (hHeld.2.1), pw_cell_below hb3 (hHeld.2.2.1), pw_cell_below hb3 (hHeld.2.2.2.1), pw_cell_below hb3 (hHeld.2.2.2.2.1), pw_cell_below hb3 (hHeld.2.2.2.2.2.1), pw_cell_below hb3 (hHeld.2.2.2.2.2.2.1), pw_cell_below hb3 (hHeld.2.2.2.2.2.2.2.1), pw_cell_below hb3 (hHeld.2.2.2.2.2.2.2.2.1), pw_cell_below hb3 (hHeld.2.2.2.2.2.2.2.2.2.1), pw_cell_below hb3 (hHeld.2.2.2.2.2.2.2.2.2.2.1), pw_cell_below hb3 (hHeld.2.2.2.2.2.2.2.2.2.2.2.1), pw_cell_below hb3 (hHeld.2.2.2.2.2.2.2.2.2.2.2.2)⟩ (fun hHeld => ?_)
    clear hK K
    refine norm_ (a' := ?_) ?_ ?_
    rotate_left
    ·show Act.put _ (some 24) _ = _
     simp only [Act.put, List.setIfInBounds_toArray, List.set_cons_zero, List.set_cons_succ, i64_w, i32_w]
     rfl
    refine done_ (by kernel_rfl) ?_
    have HN := Aside0.mk (And.intro (bel2 HW.out.1 (bel2 (below_drew (Below.refl _ _)) hb3)) (HW.out.2.below (bel2 (below_drew (Below.refl _ _)) hb3)))
    clear hHeld hb3 q0 q1 k0 k1 k2 k3 k4 k5 k6 k7 k8 k9 k10
    go_wp2
    go_roundw
    case rel => exact ⟨k + 1, hlt, by rw [HSN.out], by go_num, HN⟩
    case measure => simp [intOf]; omega
  ·obtain rfl : k = L.length := by omega
   have hltz : ¬ (L.length : Int) < (L.length : Int) := by omega
   rw [List.take_length]
   have hv := fun W => rVerdict_calls (cnt (fun t => wholeR x (toSc t) co wa) L : Nat) L.length W
   go_wp2_with fail
   refine (hv _).mono ?_
   rintro e w5 ⟨rfl, rfl⟩
   go_wp2
   go_ret
   exact ⟨rfl, HW.out.1⟩
end Go.Proofs.Ytdgkhoflajdidaa
/- The bounds of copper are those of the reference. -/
namespace Go.Proofs.Ytdgkhoflajdidaa
open Go.RowKit Go.Proofs.YtdgkhoflajdidaaW.PrintWords Go.Proofs.YtdgkhoflajdidaaW.PrintMore Go.Proofs.YtdgkhoflajdidaaW.PrintLast Go.Proofs.Ytdgkhoflajdidaa.Print
set_option linter.unusedVariables false
set_option linter.unusedSimpArgs false
theorem ask_spec {x : S38} (hne : truthL x ≠ []) (val : S114 → Int) (wa : List Int) : (∀ s ∈ truthL x, (askB x wa val).f0 ≤ val (pastOf x s x.f5 wa) ∧ val (pastOf x s x.f5 wa) ≤ (askB x wa val).f1) ∧ (∃ s ∈ truthL x, val (pastOf x s x.f5 wa) = (askB x wa val).f0) ∧ ∃ s ∈ truthL x, val (pastOf x s x.f5 wa) = (askB x wa val).f1 := by
 have hl : 0 < (truthL x).length := List.length_pos_iff.2 hne
 obtain ⟨h1, ⟨j1, hj1, e1⟩, ⟨j2, hj2, e2⟩⟩ := bnd_spec (fun k => val (pastOf x ((truthL x).getD k zSc) x.f5 wa)) (truthL x).length hl
 have hg : ∀ k (hk : k < (truthL x).length), (truthL x).getD k zSc = (truthL x)[k] := fun k hk => by simp [hk]
 change val (pastOf x ((truthL x).getD j1 zSc) x.f5 wa) = _ at e1
 change val (pastOf x ((truthL x).getD j2 zSc) x.f5 wa) = _ at e2
 rw [hg j1 hj1] at e1
 rw [hg j2 hj2] at e2
 unfold askB
 refine ⟨fun s hs => ?_, ⟨_, List.getElem_mem hj1, e1⟩, ⟨_, List.getElem_mem hj2, e2⟩⟩
 obtain ⟨k, hk, rfl⟩ := List.getElem_of_mem hs
 have := h1 k hk
 change _ ≤ val (pastOf x ((truthL x).getD k zSc) x.f5 wa) ∧ val (pastOf x ((truthL x).getD k zSc) x.f5 wa) ≤ _ at this
 rw [hg k hk] at this
 exact this
end Go.Proofs.Ytdgkhoflajdidaa
/- The verdicts of copper are those of the reference; Lacks of the reference. -/
namespace Go.Proofs.Ytdgkhoflajdidaa
open Go.RowKit Go.Proofs.YtdgkhoflajdidaaW.PrintWords Go.Proofs.YtdgkhoflajdidaaW.PrintMore Go.Proofs.YtdgkhoflajdidaaW.PrintLast Go.Proofs.Ytdgkhoflajdidaa.Print
set_option linter.unusedVariables false
set_option linter.unusedSimpArgs false
set_option maxRecDepth 100000
set_option maxHeartbeats 4000000
def vB (a n : Bool) : Int := if a = true then 1 else if n = true then 2 else 3
theorem verd_cnt (p : S75 → Bool) {L : List S75} (hne : L ≠ []) : verd (cnt p L : Nat) L.length = vB (L.all p) (L.all fun t => !p t) := by
 unfold verd vB
 have h1 : ((cnt p L : Nat) : Int) = (L.length : Int) ↔ L.all p = true := by
  rw [List.all_eq_true]
  unfold cnt
  constructor
  ·intro h t ht
   have h2 : (L.filter p).length = L.length := by omega
   exact List.length_filter_eq_length_iff.1 h2 t ht
  ·intro h
   rw [List.length_filter_eq_length_iff.2 h]
 have h2 : ((cnt p L : Nat) : Int) = 0 ↔ L.all (fun t => !p t) = true := by
  rw [List.all_eq_true]
  unfold cnt
  constructor
  ·intro h t ht
   have h2 : (L.filter p) = [] := List.length_eq_zero_iff.1 (by omega)
   have := List.filter_eq_nil_iff.1 h2 t ht
   simpa using this
  ·intro h
   rw [List.filter_eq_nil_iff.2 fun t ht => by have := h t ht; simpa using this]
   rfl
 by_cases c1 : L.all p = true
 ·rw [if_pos (h1.2 c1), if_pos c1]
 ·rw [if_neg (fun h => c1 (h1.1 h)), if_neg c1]
  by_cases c2 : L.all (fun t => !p t) = true
  ·rw [if_pos (h2.2 c2), if_pos c2]
  ·rw [if_neg (fun h => c2 (h2.1 h)), if_neg c2]
variable {x : S38}
theorem vdict_ask (hne : truthL x ≠ []) (val : S114 → Int) (wa : List Int) (p : Sc → Bool) (hval : ∀ s ∈ truthL x, val (pastOf x s x.f5 wa) = if p s = true then 1 else 0) : vdict (askB x wa val) = vB ((truthL x).all p) ((truthL x).all fun s => !p s) := by
 obtain ⟨h1, ⟨s1, hs1, e1⟩, ⟨s2, hs2, e2⟩⟩ := ask_spec hne val wa
 rw [hval s1 hs1] at e1
 rw [hval s2 hs2] at e2
 have hb : ∀ s ∈ truthL x, (askB x wa val).f0 ≤ (if p s = true then 1 else 0) ∧ (if p s = true then 1 else 0) ≤ (askB x wa val).f1 := fun s hs => by rw [← hval s hs]; exact h1 s hs
 generalize askB x wa val = r at *
 unfold vdict vB
 have c1 : 0 < r.f0 ↔ (truthL x).all p = true := by
  rw [List.all_eq_true]
  constructor
  ·intro h s hs
   have := (hb s hs).1
   by_cases hp : p s = true
   ·exact hp
   ·rw [if_neg hp] at this; omega
  ·intro h
   rw [if_pos (h s1 hs1)] at e1
   omega
 have c2 : r.f1 = 0 ↔ (truthL x).all (fun s => !p s) = true := by
  rw [List.all_eq_true]
  constructor
  ·intro h s hs
   have := (hb s hs).2
   by_cases hp : p s = true
   ·rw [if_pos hp] at this; omega
   ·simpa using hp
  ·intro h
   have := h s2 hs2
   rw [if_neg (by simpa using this)] at e2
   omega
 by_cases d1 : (truthL x).all p = true
 ·rw [if_pos (c1.2 d1), if_pos d1]
 ·rw [if_neg (fun h => d1 (c1.1 h)), if_neg d1]
  by_cases d2 : (truthL x).all (fun s => !p s) = true
  ·rw [if_pos (c2.2 d2), if_pos d2]
  ·rw [if_neg (fun h => d2 (c2.1 h)), if_neg d2]
theorem all_truthsX (hV : Valid x) (p : Sc → Bool) : (truthsX x).all (fun t => p (toSc t)) = (truthL x).all p := by
 rw [Bool.eq_iff_iff, List.all_eq_true, List.all_eq_true]
 constructor
 ·intro h s hs
  obtain ⟨t, ht, rfl⟩ := (mem_truthsX hV).1 hs
  exact h t ht
 ·intro h t ht
  exact h _ ((mem_truthsX hV).2 ⟨t, ht, rfl⟩)
theorem verd_ask (hV : Valid x) (hne : truthL x ≠ []) (val : S114 → Int) (wa : List Int) (p : Sc → Bool) (hval : ∀ s ∈ truthL x, val (pastOf x s x.f5 wa) = if p s = true then 1 else 0) : verd (cnt (fun t => p (toSc t)) (truthsX x) : Nat) (truthsX x).length = vdict (askB x wa val) := by
 rw [vdict_ask hne val wa p hval, verd_cnt _ (fun h => hne ((truthsX_nil hV).1 h)), all_truthsX hV p, all_truthsX hV fun s => !p s]
theorem whole_kepts (s : Sc) (co wa : List Int) : (kepts x s co wa (x.f0 + 1).toNat).all id = wholeR x s co wa := by simp [kepts, wholeR, List.all_map, Function.comp_def]
theorem whole_verd (hV : Valid x) (hne : truthL x ≠ []) (wa : List Int) : verd (cnt (fun t => wholeR x (toSc t) x.f5 wa) (truthsX x) : Nat) (truthsX x).length = vdict (askB x wa valWhole) :=
 verd_ask hV hne valWhole wa (fun s => wholeR x s x.f5 wa) fun s _ => by
  unfold valWhole
  rw [show (pastOf x s x.f5 wa).f2 = kepts x s x.f5 wa (x.f0 + 1).toNat from rfl, whole_kepts]
variable {cs : List Value} {A C D : Option Addr} {c : Nat} {L : List S75} {w : World}
end Go.Proofs.Ytdgkhoflajdidaa
/- Sum, Single, Spare of the reference. -/
namespace Go.Proofs.Ytdgkhoflajdidaa
open Go.RowKit Go.Proofs.YtdgkhoflajdidaaW.PrintWords Go.Proofs.YtdgkhoflajdidaaW.PrintMore Go.Proofs.YtdgkhoflajdidaaW.PrintLast Go.Proofs.Ytdgkhoflajdidaa.Print
set_option linter.unusedVariables false
set_option linter.unusedSimpArgs false
set_option maxRecDepth 100000
set_option maxHeartbeats 4000000
/-- The first k sums. -/
def sumTk (wa mo : List Int) (k : Nat) : List Int := (List.range k).map fun j => wa.getD j 0 + mo.getD j 0
theorem sumTk_snoc (wa mo : List Int) (k : Nat) : sumTk wa mo (k + 1) = sumTk wa mo k ++ [wa.getD k 0 + mo.getD k 0] := by simp [sumTk, List.range_succ]
theorem sumTk_all (wa mo : List Int) : sumTk wa mo wa.length = sumL wa mo := by
 unfold sumTk sumL addTo
 refine List.map_congr_left fun j hj => ?_
 rw [if_pos (List.mem_range.1 hj)]
/-- What a list of numbers is returned as. -/
def LiPost (l : List Int) (w : World) (e : Ending) (w' : World) : Prop := ∃ A c, e = .returned (.slice A l.length c) ∧ Kd.C (Kd.int .i64) w' A l.length l ∧ Below w.heap.size w w'
theorem rSum_calls (A B : Option Addr) (a b : Nat) (wa mo : List Int) (w : World) (hwa : Kd.C (Kd.int .i64) w A wa.length wa) (hmo : Kd.C (Kd.int .i64) w B mo.length mo) (hl : wa.length ≤ mo.length) (h30 : wa.length ≤ 1000) (h1 : ∀ n ∈ wa, 0 ≤ n ∧ n ≤ 1000) (h2 : ∀ n ∈ mo, 0 ≤ n ∧ n ≤ 1000) :
    Calls Try.prog 33 #[.slice A wa.length a, .slice B mo.length b] w (LiPost (sumL wa mo) w) := by
 have HA := Aside0.mk (And.intro hwa hmo)
 clear hwa hmo
 go_enter Try.func33, Try.ntmps33
 go_wp2
 go_loopw [5, 6] (fun s5 s6 wr => ∃ k : Nat, k ≤ wa.length ∧ s6 = .int .i64 k ∧ Aside0 (Below w.heap.size w wr ∧ wr.ownsRow w.heap.size 3 1 s5 k (nums .i64 (sumTk wa mo k)))) (fun _ s6 _ => wa.length - (intOf s6).toNat)
 case atStart => exact ⟨0, Nat.zero_le _, rfl, ⟨Below.refl _ _, own_nil _ _ _ _⟩⟩
 case round =>
  obtain ⟨k, hk, rfl, HW⟩ := hrel
  by_cases hlt : k < wa.length
  ·have hltz : (k : Int) < (wa.length : Int) := by omega
   have hlt2 : k < mo.length := by omega
   have hltz2 : (k : Int) < (mo.length : Int) := by omega
   obtain ⟨qa, rfl, qv⟩ := row_at_int (Kd.C_below HA.out.1 HW.out.1) k hlt
   obtain ⟨qb, rfl, qw⟩ := row_at_int (Kd.C_below HA.out.2 HW.out.1) k hlt2
   have b1 := h1 _ (List.getElem_mem hlt)
   have b2 := h2 _ (List.getElem_mem hlt2)
   have hsn : sumTk wa mo (k + 1) = sumTk wa mo k ++ [wa[k] + mo[k]] := by rw [sumTk_snoc]; simp [hlt, hlt2]
   generalize wa[k] = va at *
   generalize mo[k] = vb at *
   obtain ⟨rr, hrr⟩ : ∃ rr, wrap64 (va + vb) = rr := ⟨_, rfl⟩
   have hre : va + vb = rr := by rw [← hrr]; exact (IntWalk.wrap64_in _ (by omega)).symm
   rw [hre] at hsn
   have HSN := Lib.hid hsn
   have hll : (sumTk wa mo k).length = k := by simp [sumTk]
   clear hsn hre
   generalize sumTk wa mo k = ll at *
   go_wp2
   refine start_ (n := 13) (S := fun w' => w'.cell? (qa.add k) = some (.int .i64 va) ∧ w'.cell? (qb.add k) = some (.int .i64 vb)) (ds := [11]) #[false, false, false, false, false, false, false, false, false, false, false, false, false] (by kernel_rfl) rfl rfl ⟨qv, qw⟩ (fun hHeld => ?_)
   refine pure_ (i := 0) (N := some 13) (v := ?_) (a' := ?_) (bs 13 1) rfl rfl (by kernel_rfl) (fun _ _ _ h => h) (Or.inl ⟨by rfl, ?_⟩) ?_ ?_
   rotate_left
   ·intro w'
    go_simp
    with_reducible rfl
   rotate_left
   ·simp only [Act.put, List.setIfInBounds_toArray, List.set_cons_zero, List.set_cons_succ, i64_w, i32_w]
    rfl
   refine pure_ (i := 1) (N := some 14) (v := ?_) (a' := ?_) (bs 13 3) rfl rfl (by kernel_rfl) (fun _ _ _ h => h) (Or.inl ⟨by rfl, ?_⟩) ?_ ?_
   rotate_left
   ·intro w'
    go_simp
    with_reducible rfl
   rotate_left
   ·simp only [Act.put, List.setIfInBounds_toArray, List.set_cons_zero, List.set_cons_succ, i64_w, i32_w]
    rfl
   refine pure_ (i := 2) (N := some 15) (v := ?_) (a' := ?_) (bs 13 7) rfl rfl (by kernel_rfl) (fun _ _ _ h => h) (Or.inl ⟨by rfl, ?_⟩) ?_ ?_
   rotate_left
   ·intro w'
    go_simp
    with_reducible rfl
   rotate_left
   ·simp only [Act.put, List.setIfInBounds_toArray, List.set_cons_zero, List.set_cons_succ, i64_w, i32_w]
    rfl
   refine pure_ (i := 3) (N := some 16) (v := ?_) (a' := ?_) (bs 13 15) rfl rfl (by kernel_rfl) (fun _ _ _ h => h) (Or.inl ⟨by rfl, ?_⟩) ?_ ?_
   rotate_left
   ·intro w'
    go_simp
    with_reducible rfl
   rotate_left
   ·simp only [Act.put, List.setIfInBounds_toArray, List.set_cons_zero, List.set_cons_succ, i64_w, i32_w]
    rfl
   refine pure_ (i := 5) (N := some 18) (v := ?_) (a' := ?_) (bs 13 47) rfl rfl (by kernel_rfl) (fun _ _ _ h => h) (Or.inl ⟨by rfl, ?_⟩) ?_ ?_
   rotate_left
   ·intro w'
    go_simp
    with_reducible rfl
   rotate_left
   ·simp only [Act.put, List.setIfInBounds_toArray, List.set_cons_zero, List.set_cons_succ, i64_w, i32_w]
    rfl
   refine pure_ (i := 6) (N := some 19) (v := ?_) (a' := ?_) (bs 13 111) rfl rfl (by kernel_rfl) (fun _ _ _ h => h) (Or.inl ⟨by rfl, ?_⟩) ?_ ?_
   rotate_left
   ·intro w'
    go_simp
    with_reducible rfl
   rotate_left
   ·simp only [Act.put, List.setIfInBounds_toArray, List.set_cons_zero, List.set_cons_succ, i64_w, i32_w]
    rfl
   refine pure_ (i := 7) (N := some 20) (v := ?_) (a' := ?_) (bs 13 239) rfl rfl (by kernel_rfl) (fun _ _ _ h => h) (Or.inl ⟨by rfl, ?_⟩) ?_ ?_
   rotate_left
   ·intro w'
    go_simp
    with_reducible rfl
   rotate_left
   ·simp only [Act.put, List.setIfInBounds_toArray, List.set_cons_zero, List.set_cons_succ, i64_w, i32_w]
    rfl
   refine take_ (i := 4) (N := some 17) (v := ?_) (a' := ?_) (bs 13 255) rfl rfl (by kernel_rfl) (fun _ _ _ h => h) (Or.inl ⟨by rfl, ?_⟩) hHeld ?_ ?_
   rotate_left
   ·rintro w' ⟨s0, s1⟩
    go_simp
    with_reducible rfl
   rotate_left
   ·simp only [Act.put, List.setIfInBounds_toArray, List.set_cons_zero, List.set_cons_succ, i64_w, i32_w]
    rfl
   refine take_ (i := 8) (N := some 21) (v := ?_) (a' := ?_) (bs 13 511) rfl rfl (by kernel_rfl) (fun _ _ _ h => h) (Or.inl ⟨by rfl, ?_⟩) hHeld ?_ ?_
   rotate_left
   ·rintro w' ⟨s0, s1⟩
    go_simp
    with_reducible rfl
   rotate_left
   ·simp only [Act.put, List.setIfInBounds_toArray, List.set_cons_zero, List.set_cons_succ, i64_w, i32_w]
    rfl
   refine pure_ (i := 9) (N := some 22) (v := ?_) (a' := ?_) (bs 13 1023) rfl rfl (by kernel_rfl) (fun _ _ _ h => h) (Or.inl ⟨by rfl, ?_⟩) ?_ ?_
   rotate_left
   ·intro w'
    go_simp
    with_reducible rfl
   rotate_left
   ·simp only [Act.put, List.setIfInBounds_toArray, List.set_cons_zero, List.set_cons_succ, i64_w, i32_w]
    rfl
   refine one_ (i := 10) (N := some 23) (bs 13 2047) rfl rfl (by kernel_rfl) (by decide) (fun K hK => ?_)
   refine value_ (w1 := ?_) (v := ?_) (by rfl) rfl ?_ ?_
   rotate_left 2
   ·go_simp
    constructor
    ·rfl
    ·rfl
   refine hK.out _ _ ⟨cell_al _ (hHeld.1), cell_al _ (hHeld.2)⟩ (fun hHeld => ?_)
   clear hK K
   refine norm_ (a' := ?_) ?_ ?_
   rotate_left
   ·show Act.put _ (some 23) _ = _
    simp only [Act.put, List.setIfInBounds_toArray, List.set_cons_zero, List.set_cons_succ, i64_w, i32_w]
    rfl
   refine last_ (i := 11) (N := some 24) (bs 13 4095) rfl rfl (by kernel_rfl) (by decide) (fun K hK => ?_)
   refine append_op (w := wr.drew.alloc (.cells #[.int .i64 rr] 3)) (.tmp 13) (.tmp 23) 22 3 (.int .i64 0) 8 (by rfl) rfl Try.underlying22 info3 rfl (by decide) w.heap.size u5 (nums .i64 ll) (.int .i64 rr) wr.heap.size 1 rfl rfl (by simpa [nums, hll] using (own_bel HW.out.2 (below_alloc (below_drew (Below.refl wr.heap.size wr)) (.cells #[.int .i64 rr] 3)))) ((Blk.new wr.drew #[.int .i64 rr] 3 _ rfl).cell 0 _ rfl) rfl (by simp [nums]; omega) (by have := HW.out.1.size; simp; omega) ?_
   intro v5n w5 ho5 hg5 hat5
   obtain ⟨lz, hlz⟩ : ∃ z, (nums .i64 ll ++ [Value.int .i64 rr]).length = z := ⟨_, rfl⟩
   have HLZ := Lib.hid hlz
   rw [hlz] at ho5
   clear hlz
   obtain ⟨an, dn, rfl⟩ := own_form ho5
   refine hK.out _ _ ?_
   clear hK K
   refine norm_ (a' := ?_) ?_ ?_
   rotate_left
   ·show Act.put _ (some 24) _ = _
    simp only [Act.put, List.setIfInBounds_toArray, List.set_cons_zero, List.set_cons_succ, i64_w, i32_w]
    rfl
   refine pure_ (i := 12) (N := some 5) (v := ?_) (a' := ?_) (bs 13 8191) rfl rfl (by kernel_rfl) (fun _ _ _ h => h) (Or.inl ⟨by rfl, ?_⟩) ?_ ?_
   rotate_left
   ·intro w'
    go_simp
    with_reducible rfl
   rotate_left
   ·simp only [Act.put, List.setIfInBounds_toArray, List.set_cons_zero, List.set_cons_succ, i64_w, i32_w]
    rfl
   refine done_ (by kernel_rfl) ?_
   have HN := Aside0.mk (And.intro (((bel2 HW.out.1 (below_alloc (below_drew (Below.refl wr.heap.size wr)) (.cells #[.int .i64 rr] 3)))).grown hg5 (by have := HW.out.1.size; simp; omega) (own_base HW.out.2)) ho5)
   obtain rfl : lz = k + 1 := by have := HLZ.out; simpa [nums, hll] using this.symm
   clear hHeld ho5 hg5 hat5 qv qw
   go_wp2
   go_roundw
   case rel => exact ⟨k + 1, hlt, by go_num, ⟨HN.out.1, by rw [HSN.out]; simpa [nums] using HN.out.2⟩⟩
   case measure => simp [intOf]; omega
  ·obtain rfl : k = wa.length := by omega
   have hltz : ¬ (wa.length : Int) < (wa.length : Int) := by omega
   have HL := Lib.hid (sumTk_all wa mo)
   have hlen : (sumL wa mo).length = wa.length := by rw [← sumTk_all]; simp [sumTk]
   have hown := HW.out.2
   rw [sumTk_all] at hown
   obtain ⟨A', c', e5, _, g5⟩ := own_C (Kd.int .i64) (.int .i64) rfl (fun _ _ => rfl) (xs := sumL wa mo) rfl (by simp [nums, hlen]) hown
   clear hown
   subst e5
   rw [hlen] at g5
   have HE := Aside0.mk (And.intro g5 HW.out.1)
   clear g5
   go_wp2
   refine bodyPost_ret (results_tmp rfl _ _ _) rfl ?_
   unfold LiPost
   rw [hlen]
   exact ⟨A', c', rfl, HE.out.1, HE.out.2⟩
variable {x : S38} {cs : List Value} {A C D : Option Addr} {c : Nat} {L : List S75} {w : World}
theorem rSingle_calls (x : S38) (cs : List Value) (hour n : Int) (w : World) (hx : k38.K w x cs) (h0 : 0 ≤ hour) (h1 : hour ≤ x.f0) (h4 : x.f0 ≤ 4) : Calls Try.prog 72 #[.agg cs.toArray, .int .i64 hour, .int .i64 n] w (LiPost (singleL x hour n) w) := by
 obtain ⟨A5, c5, A6, c6, A9, c9, A10, c10, rfl, _⟩ := k38_open hx
 clear hx
 have hu := Try.underlying28
 obtain ⟨N, hN⟩ : ∃ N : Nat, x.f0 + 1 = (N : Int) := ⟨(x.f0 + 1).toNat, by omega⟩
 have hmk := print_make (P := Try.prog) 22 3 .i64 8 Try.underlying22 info3 (by decide) N (by omega)
 have hN2 : (x.f0 + 1).toNat = N := by omega
 have hsn : (singleL x hour n).length = N := by rw [singleL_len, hN2]
 generalize hw1 : w.alloc (.cells #[.int .i64 x.f0, .int .i64 x.f1, .int .i64 x.f2, .int .i64 x.f3, .int .i64 x.f4, .slice A5 x.f5.length c5, .slice A6 x.f6.length c6, .int .i64 x.f7.f0, .int .i64 x.f7.f1, .slice A9 x.f8.length c9, .slice A10 x.f9.length c10] 28) = w1
 have hb1 : Below w.heap.size w w1 := by rw [← hw1]; exact below_alloc (Below.refl _ _) _
 have k0 : w1.cell? ⟨w.heap.size, 0, none⟩ = some (.int .i64 x.f0) := by rw [← hw1]; exact (Blk.new w #[.int .i64 x.f0, .int .i64 x.f1, .int .i64 x.f2, .int .i64 x.f3, .int .i64 x.f4, .slice A5 x.f5.length c5, .slice A6 x.f6.length c6, .int .i64 x.f7.f0, .int .i64 x.f7.f1, .slice A9 x.f8.length c9, .slice A10 x.f9.length c10] 28 _ rfl).cell 0 _ rfl
 have hown0 := own_made w1 w.heap.size 3 .i64 N hb1.size (by omega)
 have hre : List.replicate N (0 : Int) = singleL x hour 0 := by
  unfold singleL
  rw [hN2]
  apply List.ext_getElem (by simp)
  intro i h1 h2
  simp [List.getElem_set]
 rw [hre] at hown0
 have hat := own_at hown0 hour h0 (by omega)
 have hst := own_store hown0 hour n
 rw [singleL_set] at hst
 obtain ⟨A', c', hv', _, hC⟩ := own_C (Kd.int .i64) (.int .i64) rfl (fun _ _ => rfl) (xs := singleL x hour n) rfl (by simp [nums, hsn]) hst.1
 rw [hsn] at hv'
 simp only [Value.slice.injEq, true_and] at hv'
 obtain ⟨e1, e2⟩ := hv'
 subst e1
 subst e2
 have hBn : Below w.heap.size w ((w1.alloc (.cells (madeCells #[.int .i64 0] N) 3)).setCell ⟨w1.heap.size, hour.toNat, none⟩ (.int .i64 n)) := (below_alloc hb1 _).setCell (p := ⟨w1.heap.size, hour.toNat, none⟩) hb1.size _
 have hwz : w1.heap.size = w.heap.size + 1 := by rw [← hw1]; simp
 rw [World.setCell_alloc_at _ _ _ _ _ rfl] at hC hBn
 rw [hwz] at hC hat
 have HE := Aside0.mk (And.intro hC hBn)
 have HS := Lib.hid hsn
 clear hst hC hBn hown0 hsn hb1 hwz
 subst hw1
 go_enter Try.func72, Try.ntmps72
 go_wp2
 refine bodyPost_ret (results_tmp rfl _ _ _) rfl ?_
 unfold LiPost
 rw [HS.out]
 refine ⟨_, _, rfl, ?_, HE.out.2⟩
 have := HE.out.1
 rw [HS.out] at this
 exact this
/-- So many more in an hour are kept always, as the reference counts them. -/
def spareR (x : S38) (L : List S75) (h : Int) (n : Nat) : Bool := decide (verd (cnt (fun t => wholeR x (toSc t) x.f5 (sumL x.f6 (singleL x h n))) L : Nat) L.length = 1)
def bestI : Option Nat → Int
 | some n => n
 | none => -1
theorem rSpare_calls (x : S38) (cs : List Value) (A C D : Option Addr) (c : Nat) (L : List S75) (h : Int) (w : World) (hA : TrArgs x cs A C D L x.f5 x.f6 w) (hC : ∀ A5 A6 A9 A10 c5 c6 c9 c10, cs = [.int .i64 x.f0, .int .i64 x.f1, .int .i64 x.f2, .int .i64 x.f3, .int .i64 x.f4, .slice A5 x.f5.length c5, .slice A6 x.f6.length c6, .int .i64 x.f7.f0, .int .i64 x.f7.f1, .slice A9 x.f8.length c9, .slice A10 x.f9.length c10] → A5 = C ∧ A6 = D) (h0 : 0 ≤ h) (h1 : h ≤ x.f0) (hwa : ∀ n ∈ x.f6, 0 ≤ n ∧ n ≤ 20) (hwn : (x.f6.length : Int) = x.f0 + 1) (hok : ∀ n : Nat, n ≤ 20 → ∀ t ∈ L, PlayOk x (toSc t) x.f5 (sumL x.f6 (singleL x h n))) :
    Calls Try.prog 34 #[.agg cs.toArray, .slice A L.length c, .int .i64 h] w fun e w' => e = .returned (.int .i64 (bestI (downF (spareR x L h) 21))) ∧ Below w.heap.size w w' := by
 have hl0 := hA.l0
 have hl1 := hA.l1
 have HSI := Aside0.mk (fun (k : Nat) V (hb : Below w.heap.size w V) => rSingle_calls x cs h k V (k38.K_below hb hA.kx) h0 h1 hl1)
 obtain ⟨A5, c5, A6, c6, A9, c9, A10, c10, rfl, _⟩ := k38_open hA.kx
 obtain ⟨rfl, rfl⟩ := hC _ _ _ _ _ _ _ _ rfl
 have HSU := Aside0.mk (fun (k : Nat) (hk : k ≤ 20) V (hb : Below w.heap.size w V) Aq aq (hc : Kd.C (Kd.int .i64) V Aq (singleL x h k).length (singleL x h k)) => rSum_calls A6 Aq c6 aq x.f6 (singleL x h k) V (hA.below hb).kw hc (by rw [singleL_len]; omega) (by omega) (fun n hn => by have := hwa n hn; omega) (fun n hn => by have := singleL_bd x h k (by omega) (by omega) n hn; omega))
 have HWH := Aside0.mk (fun (k : Nat) (hk : k ≤ 20) V (hb : Below w.heap.size w V) Au au (hc : Kd.C (Kd.int .i64) V Au (sumL x.f6 (singleL x h k)).length (sumL x.f6 (singleL x h k))) => rWholes_calls (x := x) (c := c) (d := c5) (d' := au) (L := L) (co := x.f5) (wa := sumL x.f6 (singleL x h k)) ⟨(hA.below hb).kx, (hA.below hb).kl, (hA.below hb).kc, hc, fun t ht => ⟨hok k hk t ht, (hA.ok t ht).2⟩, hA.len, hl0, hl1⟩)
 clear hA hC hok hwa hwn
 have hu := Try.underlying28
 have ZB := Aside0.mk (And.intro (below_alloc (Below.refl w.heap.size w) (.cells #[.int .i64 x.f0, .int .i64 x.f1, .int .i64 x.f2, .int .i64 x.f3, .int .i64 x.f4, .slice A5 x.f5.length c5, .slice A6 x.f6.length c6, .int .i64 x.f7.f0, .int .i64 x.f7.f1, .slice A9 x.f8.length c9, .slice A10 x.f9.length c10] 28)) (Blk.new w #[.int .i64 x.f0, .int .i64 x.f1, .int .i64 x.f2, .int .i64 x.f3, .int .i64 x.f4, .slice A5 x.f5.length c5, .slice A6 x.f6.length c6, .int .i64 x.f7.f0, .int .i64 x.f7.f1, .slice A9 x.f8.length c9, .slice A10 x.f9.length c10] 28 _ rfl))
 go_enter Try.func34, Try.ntmps34
 go_wp2
 generalize (w.alloc (.cells #[.int .i64 x.f0, .int .i64 x.f1, .int .i64 x.f2, .int .i64 x.f3, .int .i64 x.f4, .slice A5 x.f5.length c5, .slice A6 x.f6.length c6, .int .i64 x.f7.f0, .int .i64 x.f7.f1, .slice A9 x.f8.length c9, .slice A10 x.f9.length c10] 28)) = W at *
 go_loopw [7, 8] (fun s7 s8 wr => ∃ k : Nat, k ≤ 21 ∧ s7 = .int .i64 (bestI (downF (spareR x L h) k)) ∧ s8 = .int .i64 k ∧ Aside0 (Below w.heap.size w wr ∧ Blk wr w.heap.size #[.int .i64 x.f0, .int .i64 x.f1, .int .i64 x.f2, .int .i64 x.f3, .int .i64 x.f4, .slice A5 x.f5.length c5, .slice A6 x.f6.length c6, .int .i64 x.f7.f0, .int .i64 x.f7.f1, .slice A9 x.f8.length c9, .slice A10 x.f9.length c10] 28)) (fun _ s8 _ => 21 - (intOf s8).toNat)
 case atStart => exact ⟨0, Nat.zero_le _, rfl, rfl, ZB⟩
 case round =>
  obtain ⟨k, hk, rfl, rfl, HW⟩ := hrel
  by_cases hlt : k ≤ 20
  ·have hltz : (k : Int) ≤ 20 := by omega
   have HSIk := Aside0.mk (fun V (hb : Below wr.heap.size wr V) => HSI.out k V (bel2 HW.out.1 hb))
   have HSUk := Aside0.mk (fun V (hb : Below wr.heap.size wr V) => HSU.out k hlt V (bel2 HW.out.1 hb))
   have HWHk := fun V (hb : Below wr.heap.size wr V) => HWH.out k hlt V (bel2 HW.out.1 hb)
   have hdn : downF (spareR x L h) (k + 1) = if spareR x L h k = true then some k else downF (spareR x L h) k := rfl
   unfold spareR at hdn
   simp only [decide_eq_true_eq] at hdn
   change downF (spareR x L h) (k + 1) = if verd (cnt (fun t => wholeR x (toSc t) x.f5 (sumL x.f6 (singleL x h k))) L : Nat) L.length = 1 then some k else downF (spareR x L h) k at hdn
   by_cases hq : verd (cnt (fun t => wholeR x (toSc t) x.f5 (sumL x.f6 (singleL x h k))) L : Nat) L.length = 1
   ·rw [if_pos hq] at hdn
    rw [hq] at HWHk
    have HDN := Lib.hid hdn
    have HWHK := Aside0.mk HWHk
    clear hdn HWHk
    generalize bestI (downF (spareR x L h) k) = bi at *
    have k0 := HW.out.2.cell 0 _ rfl
    have k1 := HW.out.2.cell 1 _ rfl
    have k2 := HW.out.2.cell 2 _ rfl
    have k3 := HW.out.2.cell 3 _ rfl
    have k4 := HW.out.2.cell 4 _ rfl
    have k5 := HW.out.2.cell 5 _ rfl
    have k6 := HW.out.2.cell 6 _ rfl
    have k7 := HW.out.2.cell 7 _ rfl
    have k8 := HW.out.2.cell 8 _ rfl
    have k9 := HW.out.2.cell 9 _ rfl
    have k10 := HW.out.2.cell 10 _ rfl
    go_wp2
    refine start_ (n := 13) (S := fun w' => w'.cell? ⟨w.heap.size, 0, none⟩ = some (.int .i64 x.f0) ∧ w'.cell? ⟨w.heap.size, 1, none⟩ = some (.int .i64 x.f1) ∧ w'.cell? ⟨w.heap.size, 2, none⟩ = some (.int .i64 x.f2) ∧ w'.cell? ⟨w.heap.size, 3, none⟩ = some (.int .i64 x.f3) ∧ w'.cell? ⟨w.heap.size, 4, none⟩ = some (.int .i64 x.f4) ∧ w'.cell? ⟨w.heap.size, 5, none⟩ = some (.slice A5 x.f5.length c5) ∧ w'.cell? ⟨w.heap.size, 6, none⟩ = some (.slice A6 x.f6.length c6) ∧ w'.cell? ⟨w.heap.size, 7, none⟩ = some (.int .i64 x.f7.f0) ∧ w'.cell? ⟨w.heap.size, 8, none⟩ = some (.int .i64 x.f7.f1) ∧ w'.cell? ⟨w.heap.size, 9, none⟩ = some (.slice A9 x.f8.length c9) ∧ w'.cell? ⟨w.heap.size, 10, none⟩ = some (.slice A10 x.f9.length c10)) (ds := []) #[false, false, false, false, false, false, false, false, false, false, false, false, false] (by kernel_rfl) rfl rfl ⟨k0, k1, k2, k3, k4, k5, k6, k7, k8, k9, k10⟩ (fun hHeld => ?_)
    refine pure_ (i := 1) (N := some 14) (v := ?_) (a' := ?_) (bs 13 2) rfl rfl (by kernel_rfl) (fun _ _ _ h => h) (Or.inl ⟨by rfl, ?_⟩) ?_ ?_
    rotate_left
    ·intro w'
     go_simp
     with_reducible rfl
    rotate_left
    ·simp only [Act.put, List.setIfInBounds_toArray, List.set_cons_zero, List.set_cons_succ, i64_w, i32_w]
     rfl
    refine pure_ (i := 2) (N := some 15) (v := ?_) (a' := ?_) (bs 13 6) rfl rfl (by kernel_rfl) (fun _ _ _ h => h) (Or.inl ⟨by rfl, ?_⟩) ?_ ?_
    rotate_left
    ·intro w'
     go_simp
     with_reducible rfl
    rotate_left
    ·simp only [Act.put, List.setIfInBounds_toArray, List.set_cons_zero, List.set_cons_succ, i64_w, i32_w]
     rfl
    refine pure_ (i := 4) (N := some 17) (v := ?_) (a' := ?_) (bs 13 22) rfl rfl (by kernel_rfl) (fun _ _ _ h => h) (Or.inl ⟨by rfl, ?_⟩) ?_ ?_
    rotate_left
    ·intro w'
     go_simp
     with_reducible rfl
    rotate_left
    ·simp only [Act.put, List.setIfInBounds_toArray, List.set_cons_zero, List.set_cons_succ, i64_w, i32_w]
     rfl
    refine pure_ (i := 7) (N := some 20) (v := ?_) (a' := ?_) (bs 13 150) rfl rfl (by kernel_rfl) (fun _ _ _ h => h) (Or.inl ⟨by rfl, ?_⟩) ?_ ?_
    rotate_left
    ·intro w'
     go_simp
     with_reducible rfl
    rotate_left
    ·simp only [Act.put, List.setIfInBounds_toArray, List.set_cons_zero, List.set_cons_succ, i64_w, i32_w]
     rfl
    refine pure_ (i := 8) (N := some 21) (v := ?_) (a' := ?_) (bs 13 406) rfl rfl (by kernel_rfl) (fun _ _ _ h => h) (Or.inl ⟨by rfl, ?_⟩) ?_ ?_
    rotate_left
    ·intro w'
     go_simp
     with_reducible rfl
    rotate_left
    ·simp only [Act.put, List.setIfInBounds_toArray, List.set_cons_zero, List.set_cons_succ, i64_w, i32_w]
     rfl
    refine take_ (i := 0) (N := some 13) (v := ?_) (a' := ?_) (bs 13 407) rfl rfl (by kernel_rfl) (fun _ _ _ h => h) (Or.inl ⟨by rfl, ?_⟩) hHeld ?_ ?_
    rotate_left
    ·rintro w' ⟨s0, s1, s2, s3, s4, s5, s6, s7, s8, s9, s10⟩
     go_simp
     with_reducible rfl
    rotate_left
    ·simp only [Act.put, List.setIfInBounds_toArray, List.set_cons_zero, List.set_cons_succ, i64_w, i32_w]
     rfl
    refine take_ (i := 3) (N := some 16) (v := ?_) (a' := ?_) (bs 13 415) rfl rfl (by kernel_rfl) (fun _ _ _ h => h) (Or.inl ⟨by rfl, ?_⟩) hHeld ?_ ?_
    rotate_left
    ·rintro w' ⟨s0, s1, s2, s3, s4, s5, s6, s7, s8, s9, s10⟩
     go_simp
     with_reducible rfl
    rotate_left
    ·simp only [Act.put, List.setIfInBounds_toArray, List.set_cons_zero, List.set_cons_succ, i64_w, i32_w]
     rfl
    refine take_ (i := 5) (N := some 18) (v := ?_) (a' := ?_) (bs 13 447) rfl rfl (by kernel_rfl) (fun _ _ _ h => h) (Or.inl ⟨by rfl, ?_⟩) hHeld ?_ ?_
    rotate_left
    ·rintro w' ⟨s0, s1, s2, s3, s4, s5, s6, s7, s8, s9, s10⟩
     go_simp
     with_reducible rfl
    rotate_left
    ·simp only [Act.put, List.setIfInBounds_toArray, List.set_cons_zero, List.set_cons_succ, i64_w, i32_w]
     rfl
    refine take_ (i := 6) (N := some 19) (v := ?_) (a' := ?_) (bs 13 511) rfl rfl (by kernel_rfl) (fun _ _ _ h => h) (Or.inl ⟨by rfl, ?_⟩) hHeld ?_ ?_
    rotate_left
    ·rintro w' ⟨s0, s1, s2, s3, s4, s5, s6, s7, s8, s9, s10⟩
     go_simp
     with_reducible rfl
    rotate_left
    ·simp only [Act.put, List.setIfInBounds_toArray, List.set_cons_zero, List.set_cons_succ, i64_w, i32_w]
     rfl
    refine one_ (i := 9) (N := some 22) (bs 13 1023) rfl rfl (by kernel_rfl) (by decide) (fun K hK => ?_)
    refine goes_ Try.func72 (by kernel_rfl) rfl #[.agg #[.int .i64 x.f0, .int .i64 x.f1, .int .i64 x.f2, .int .i64 x.f3, .int .i64 x.f4, .slice A5 x.f5.length c5, .slice A6 x.f6.length c6, .int .i64 x.f7.f0, .int .i64 x.f7.f1, .slice A9 x.f8.length c9, .slice A10 x.f9.length c10], .int .i64 h, .int .i64 k] (by rfl) rfl rfl (by simp only [List.map_toArray, List.map_cons, List.map_nil]; rfl) ?_
    with_reducible refine (HSIk.out _ (below_drew (Below.refl wr.heap.size wr))).mono ?_
    rintro e w3 ⟨Aq, aq, rfl, hc3, hb3⟩
    refine ⟨_, rfl, ?_⟩
    refine hK.out _ _ ⟨pw_cell_below hb3 (hHeld.1), pw_cell_below hb3 (hHeld.2.1), pw_cell_below hb3 (hHeld.2.2.1), pw_cell_below hb3 (hHeld.2.2.2.1), pw_cell_below hb3 (hHeld.2.2.2.2.1), pw_cell_below hb3 (hHeld.2.2.2.2.2.1), pw_cell_below hb3 (hHeld.2.2.2.2.2.2.1), pw_cell_below hb3 (hHeld.2.2.2.2.2.2.2.1), pw_cell_below hb3 (hHeld.2.2.2.2.2.2.2.2.1), pw_cell_below hb3 (hHeld.2.2.2.2.2.2.2.2.2.1), pw_cell_below hb3 (hHeld.2.2.2.2.2.2.2.2.2.2)⟩ (fun hHeld => ?_)
    clear hK K
    refine norm_ (a' := ?_) ?_ ?_
    rotate_left
    ·show Act.put _ (some 22) _ = _
     simp only [Act.put, List.setIfInBounds_toArray, List.set_cons_zero, List.set_cons_succ, i64_w, i32_w]
     rfl
    refine one_ (i := 10) (N := some 23) (bs 13 2047) rfl rfl (by kernel_rfl) (by decide) (fun K hK => ?_)
    refine goes_ Try.func33 (by kernel_rfl) rfl #[.slice A6 x.f6.length c6, .slice Aq (singleL x h k).length aq] (by rfl) rfl rfl (by simp only [List.map_toArray, List.map_cons, List.map_nil]; rfl) ?_
    with_reducible refine (HSUk.out _ (bel2 (below_drew (Below.refl wr.heap.size wr)) hb3) Aq aq hc3).mono ?_
    rintro e w4 ⟨Au, au, rfl, hc4, hb4⟩
    refine ⟨_, rfl, ?_⟩
    refine hK.out _ _ ⟨pw_cell_below hb4 (hHeld.1), pw_cell_below hb4 (hHeld.2.1), pw_cell_below hb4 (hHeld.2.2.1), pw_cell_below hb4 (hHeld.2.2.2.1), pw_cell_below hb4 (hHeld.2.2.2.2.1), pw_cell_below hb4 (hHeld.2.2.2.2.2.1), pw_cell_below hb4 (hHeld.2.2.2.2.2.2.1), pw_cell_below hb4 (hHeld.2.2.2.2.2.2.2.1), pw_cell_below hb4 (hHeld.2.2.2.2.2.2.2.2.1), pw_cell_below hb4 (hHeld.2.2.2.2.2.2.2.2.2.1), pw_cell_below hb4 (hHeld.2.2.2.2.2.2.2.2.2.2)⟩ (fun hHeld => ?_)
    clear hK K
    refine norm_ (a' := ?_) ?_ ?_
    rotate_left
    ·show Act.put _ (some 23) _ = _
     simp only [Act.put, List.setIfInBounds_toArray, List.set_cons_zero, List.set_cons_succ, i64_w, i32_w]
     rfl
    refine one_ (i := 11) (N := some 24) (bs 13 4095) rfl rfl (by kernel_rfl) (by decide) (fun K hK => ?_)
    refine goes_ Try.func32 (by kernel_rfl) rfl #[.agg #[.int .i64 x.f0, .int .i64 x.f1, .int .i64 x.f2, .int .i64 x.f3, .int .i64 x.f4, .slice A5 x.f5.length c5, .slice A6 x.f6.length c6, .int .i64 x.f7.f0, .int .i64 x.f7.f1, .slice A9 x.f8.length c9, .slice A10 x.f9.length c10], .slice A L.length c, .slice A5 x.f5.length c5, .slice Au (sumL x.f6 (singleL x h k)).length au] (by rfl) rfl rfl (by simp only [List.map_toArray, List.map_cons, List.map_nil]; rfl) ?_
    with_reducible refine (HWHK.out _ (bel2 (bel2 (below_drew (Below.refl wr.heap.size wr)) hb3) hb4) Au au hc4).mono ?_
    rintro e w5 ⟨rfl, hb5⟩
    refine ⟨_, rfl, ?_⟩
    refine hK.out _ _ ⟨pw_cell_below hb5 (hHeld.1), pw_cell_below hb5 (hHeld.2.1), pw_cell_below hb5 (hHeld.2.2.1), pw_cell_below hb5 (hHeld.2.2.2.1), pw_cell_below hb5 (hHeld.2.2.2.2.1), pw_cell_below hb5 (hHeld.2.2.2.2.2.1), pw_cell_below hb5 (hHeld.2.2.2.2.2.2.1), pw_cell_below hb5 (hHeld.2.2.2.2.2.2.2.1), pw_cell_below hb5 (hHeld.2.2.2.2.2.2.2.2.1), pw_cell_below hb5 (hHeld.2.2.2.2.2.2.2.2.2.1), pw_cell_below hb5 (hHeld.2.2.2.2.2.2.2.2.2.2)⟩ (fun hHeld => ?_)
    clear hK K
    refine norm_ (a' := ?_) ?_ ?_
    rotate_left
    ·show Act.put _ (some 24) _ = _
     simp only [Act.put, List.setIfInBounds_toArray, List.set_cons_zero, List.set_cons_succ, i64_w, i32_w]
     rfl
    refine pure_ (i := 12) (N := some 25) (v := ?_) (a' := ?_) (bs 13 8191) rfl rfl (by kernel_rfl) (fun _ _ _ h => h) (Or.inl ⟨by rfl, ?_⟩) ?_ ?_
    rotate_left
    ·intro w'
     go_simp
     with_reducible rfl
    rotate_left
    ·simp only [Act.put, List.setIfInBounds_toArray, List.set_cons_zero, List.set_cons_succ, i64_w, i32_w]
     rfl
    refine done_ (by kernel_rfl) ?_
    have HN := Aside0.mk (And.intro (bel2 HW.out.1 (bel2 (bel2 (bel2 (below_drew (Below.refl _ _)) hb3) hb4) hb5)) (HW.out.2.below (bel2 (bel2 (bel2 (below_drew (Below.refl _ _)) hb3) hb4) hb5)))
    clear hHeld hb3 hb4 hb5 hc3 hc4 k0 k1 k2 k3 k4 k5 k6 k7 k8 k9 k10
    go_wp2
    go_roundw
    case rel => exact ⟨k + 1, by omega, by rw [HDN.out]; rfl, by go_num, HN⟩
    case measure => simp [intOf]; omega
   ·rw [if_neg hq] at hdn
    have HDN := Lib.hid hdn
    have HWHK := Aside0.mk HWHk
    clear hdn HWHk
    generalize verd (cnt (fun t => wholeR x (toSc t) x.f5 (sumL x.f6 (singleL x h k))) L : Nat) L.length = vv at *
    have hq2 : (vv == 1) = false := by simpa using hq
    generalize hbi : bestI (downF (spareR x L h) k) = bi at *
    have HBI := Lib.hid hbi
    clear hbi
    have k0 := HW.out.2.cell 0 _ rfl
    have k1 := HW.out.2.cell 1 _ rfl
    have k2 := HW.out.2.cell 2 _ rfl
    have k3 := HW.out.2.cell 3 _ rfl
    have k4 := HW.out.2.cell 4 _ rfl
    have k5 := HW.out.2.cell 5 _ rfl
    have k6 := HW.out.2.cell 6 _ rfl
    have k7 := HW.out.2.cell 7 _ rfl
    have k8 := HW.out.2.cell 8 _ rfl
    have k9 := HW.out.2.cell 9 _ rfl
    have k10 := HW.out.2.cell 10 _ rfl
    go_wp2
    refine start_ (n := 13) (S := fun w' => w'.cell? ⟨w.heap.size, 0, none⟩ = some (.int .i64 x.f0) ∧ w'.cell? ⟨w.heap.size, 1, none⟩ = some (.int .i64 x.f1) ∧ w'.cell? ⟨w.heap.size, 2, none⟩ = some (.int .i64 x.f2) ∧ w'.cell? ⟨w.heap.size, 3, none⟩ = some (.int .i64 x.f3) ∧ w'.cell? ⟨w.heap.size, 4, none⟩ = some (.int .i64 x.f4) ∧ w'.cell? ⟨w.heap.size, 5, none⟩ = some (.slice A5 x.f5.length c5) ∧ w'.cell? ⟨w.heap.size, 6, none⟩ = some (.slice A6 x.f6.length c6) ∧ w'.cell? ⟨w.heap.size, 7, none⟩ = some (.int .i64 x.f7.f0) ∧ w'.cell? ⟨w.heap.size, 8, none⟩ = some (.int .i64 x.f7.f1) ∧ w'.cell? ⟨w.heap.size, 9, none⟩ = some (.slice A9 x.f8.length c9) ∧ w'.cell? ⟨w.heap.size, 10, none⟩ = some (.slice A10 x.f9.length c10)) (ds := []) #[false, false, false, false, false, false, false, false, false, false, false, false, false] (by kernel_rfl) rfl rfl ⟨k0, k1, k2, k3, k4, k5, k6, k7, k8, k9, k10⟩ (fun hHeld => ?_)
    refine pure_ (i := 1) (N := some 14) (v := ?_) (a' := ?_) (bs 13 2) rfl rfl (by kernel_rfl) (fun _ _ _ h => h) (Or.inl ⟨by rfl, ?_⟩) ?_ ?_
    rotate_left
    ·intro w'
     go_simp
     with_reducible rfl
    rotate_left
    ·simp only [Act.put, List.setIfInBounds_toArray, List.set_cons_zero, List.set_cons_succ, i64_w, i32_w]
     rfl
    refine pure_ (i := 2) (N := some 15) (v := ?_) (a' := ?_) (bs 13 6) rfl rfl (by kernel_rfl) (fun _ _ _ h => h) (Or.inl ⟨by rfl, ?_⟩) ?_ ?_
    rotate_left
    ·intro w'
     go_simp
     with_reducible rfl
    rotate_left
    ·simp only [Act.put, List.setIfInBounds_toArray, List.set_cons_zero, List.set_cons_succ, i64_w, i32_w]
     rfl
    refine pure_ (i := 4) (N := some 17) (v := ?_) (a' := ?_) (bs 13 22) rfl rfl (by kernel_rfl) (fun _ _ _ h => h) (Or.inl ⟨by rfl, ?_⟩) ?_ ?_
    rotate_left
    ·intro w'
     go_simp
     with_reducible rfl
    rotate_left
    ·simp only [Act.put, List.setIfInBounds_toArray, List.set_cons_zero, List.set_cons_succ, i64_w, i32_w]
     rfl
    refine pure_ (i := 7) (N := some 20) (v := ?_) (a' := ?_) (bs 13 150) rfl rfl (by kernel_rfl) (fun _ _ _ h => h) (Or.inl ⟨by rfl, ?_⟩) ?_ ?_
    rotate_left
    ·intro w'
     go_simp
     with_reducible rfl
    rotate_left
    ·simp only [Act.put, List.setIfInBounds_toArray, List.set_cons_zero, List.set_cons_succ, i64_w, i32_w]
     rfl
    refine pure_ (i := 8) (N := some 21) (v := ?_) (a' := ?_) (bs 13 406) rfl rfl (by kernel_rfl) (fun _ _ _ h => h) (Or.inl ⟨by rfl, ?_⟩) ?_ ?_
    rotate_left
    ·intro w'
     go_simp
     with_reducible rfl
    rotate_left
    ·simp only [Act.put, List.setIfInBounds_toArray, List.set_cons_zero, List.set_cons_succ, i64_w, i32_w]
     rfl
    refine take_ (i := 0) (N := some 13) (v := ?_) (a' := ?_) (bs 13 407) rfl rfl (by kernel_rfl) (fun _ _ _ h => h) (Or.inl ⟨by rfl, ?_⟩) hHeld ?_ ?_
    rotate_left
    ·rintro w' ⟨s0, s1, s2, s3, s4, s5, s6, s7, s8, s9, s10⟩
     go_simp
     with_reducible rfl
    rotate_left
    ·simp only [Act.put, List.setIfInBounds_toArray, List.set_cons_zero, List.set_cons_succ, i64_w, i32_w]
     rfl
    refine take_ (i := 3) (N := some 16) (v := ?_) (a' := ?_) (bs 13 415) rfl rfl (by kernel_rfl) (fun _ _ _ h => h) (Or.inl ⟨by rfl, ?_⟩) hHeld ?_ ?_
    rotate_left
    ·rintro w' ⟨s0, s1, s2, s3, s4, s5, s6, s7, s8, s9, s10⟩
     go_simp
     with_reducible rfl
    rotate_left
    ·simp only [Act.put, List.setIfInBounds_toArray, List.set_cons_zero, List.set_cons_succ, i64_w, i32_w]
     rfl
    refine take_ (i := 5) (N := some 18) (v := ?_) (a' := ?_) (bs 13 447) rfl rfl (by kernel_rfl) (fun _ _ _ h => h) (Or.inl ⟨by rfl, ?_⟩) hHeld ?_ ?_
    rotate_left
    ·rintro w' ⟨s0, s1, s2, s3, s4, s5, s6, s7, s8, s9, s10⟩
     go_simp
     with_reducible rfl
    rotate_left
    ·simp only [Act.put, List.setIfInBounds_toArray, List.set_cons_zero, List.set_cons_succ, i64_w, i32_w]
     rfl
    refine take_ (i := 6) (N := some 19) (v := ?_) (a' := ?_) (bs 13 511) rfl rfl (by kernel_rfl) (fun _ _ _ h => h) (Or.inl ⟨by rfl, ?_⟩) hHeld ?_ ?_
    rotate_left
    ·rintro w' ⟨s0, s1, s2, s3, s4, s5, s6, s7, s8, s9, s10⟩
     go_simp
     with_reducible rfl
    rotate_left
    ·simp only [Act.put, List.setIfInBounds_toArray, List.set_cons_zero, List.set_cons_succ, i64_w, i32_w]
     rfl
    refine one_ (i := 9) (N := some 22) (bs 13 1023) rfl rfl (by kernel_rfl) (by decide) (fun K hK => ?_)
    refine goes_ Try.func72 (by kernel_rfl) rfl #[.agg #[.int .i64 x.f0, .int .i64 x.f1, .int .i64 x.f2, .int .i64 x.f3, .int .i64 x.f4, .slice A5 x.f5.length c5, .slice A6 x.f6.length c6, .int .i64 x.f7.f0, .int .i64 x.f7.f1, .slice A9 x.f8.length c9, .slice A10 x.f9.length c10], .int .i64 h, .int .i64 k] (by rfl) rfl rfl (by simp only [List.map_toArray, List.map_cons, List.map_nil]; rfl) ?_
    with_reducible refine (HSIk.out _ (below_drew (Below.refl wr.heap.size wr))).mono ?_
    rintro e w3 ⟨Aq, aq, rfl, hc3, hb3⟩
    refine ⟨_, rfl, ?_⟩
    refine hK.out _ _ ⟨pw_cell_below hb3 (hHeld.1), pw_cell_below hb3 (hHeld.2.1), pw_cell_below hb3 (hHeld.2.2.1), pw_cell_below hb3 (hHeld.2.2.2.1), pw_cell_below hb3 (hHeld.2.2.2.2.1), pw_cell_below hb3 (hHeld.2.2.2.2.2.1), pw_cell_below hb3 (hHeld.2.2.2.2.2.2.1), pw_cell_below hb3 (hHeld.2.2.2.2.2.2.2.1), pw_cell_below hb3 (hHeld.2.2.2.2.2.2.2.2.1), pw_cell_below hb3 (hHeld.2.2.2.2.2.2.2.2.2.1), pw_cell_below hb3 (hHeld.2.2.2.2.2.2.2.2.2.2)⟩ (fun hHeld => ?_)
    clear hK K
    refine norm_ (a' := ?_) ?_ ?_
    rotate_left
    ·show Act.put _ (some 22) _ = _
     simp only [Act.put, List.setIfInBounds_toArray, List.set_cons_zero, List.set_cons_succ, i64_w, i32_w]
     rfl
    refine one_ (i := 10) (N := some 23) (bs 13 2047) rfl rfl (by kernel_rfl) (by decide) (fun K hK => ?_)
    refine goes_ Try.func33 (by kernel_rfl) rfl #[.slice A6 x.f6.length c6, .slice Aq (singleL x h k).length aq] (by rfl) rfl rfl (by simp only [List.map_toArray, List.map_cons, List.map_nil]; rfl) ?_
    with_reducible refine (HSUk.out _ (bel2 (below_drew (Below.refl wr.heap.size wr)) hb3) Aq aq hc3).mono ?_
    rintro e w4 ⟨Au, au, rfl, hc4, hb4⟩
    refine ⟨_, rfl, ?_⟩
    refine hK.out _ _ ⟨pw_cell_below hb4 (hHeld.1), pw_cell_below hb4 (hHeld.2.1), pw_cell_below hb4 (hHeld.2.2.1), pw_cell_below hb4 (hHeld.2.2.2.1), pw_cell_below hb4 (hHeld.2.2.2.2.1), pw_cell_below hb4 (hHeld.2.2.2.2.2.1), pw_cell_below hb4 (hHeld.2.2.2.2.2.2.1), pw_cell_below hb4 (hHeld.2.2.2.2.2.2.2.1), pw_cell_below hb4 (hHeld.2.2.2.2.2.2.2.2.1), pw_cell_below hb4 (hHeld.2.2.2.2.2.2.2.2.2.1), pw_cell_below hb4 (hHeld.2.2.2.2.2.2.2.2.2.2)⟩ (fun hHeld => ?_)
    clear hK K
    refine norm_ (a' := ?_) ?_ ?_
    rotate_left
    ·show Act.put _ (some 23) _ = _
     simp only [Act.put, List.setIfInBounds_toArray, List.set_cons_zero, List.set_cons_succ, i64_w, i32_w]
     rfl
    refine one_ (i := 11) (N := some 24) (bs 13 4095) rfl rfl (by kernel_rfl) (by decide) (fun K hK => ?_)
    refine goes_ Try.func32 (by kernel_rfl) rfl #[.agg #[.int .i64 x.f0, .int .i64 x.f1, .int .i64 x.f2, .int .i64 x.f3, .int .i64 x.f4, .slice A5 x.f5.length c5, .slice A6 x.f6.length c6, .int .i64 x.f7.f0, .int .i64 x.f7.f1, .slice A9 x.f8.length c9, .slice A10 x.f9.length c10], .slice A L.length c, .slice A5 x.f5.length c5, .slice Au (sumL x.f6 (singleL x h k)).length au] (by rfl) rfl rfl (by simp only [List.map_toArray, List.map_cons, List.map_nil]; rfl) ?_
    with_reducible refine (HWHK.out _ (bel2 (bel2 (below_drew (Below.refl wr.heap.size wr)) hb3) hb4) Au au hc4).mono ?_
    rintro e w5 ⟨rfl, hb5⟩
    refine ⟨_, rfl, ?_⟩
    refine hK.out _ _ ⟨pw_cell_below hb5 (hHeld.1), pw_cell_below hb5 (hHeld.2.1), pw_cell_below hb5 (hHeld.2.2.1), pw_cell_below hb5 (hHeld.2.2.2.1), pw_cell_below hb5 (hHeld.2.2.2.2.1), pw_cell_below hb5 (hHeld.2.2.2.2.2.1), pw_cell_below hb5 (hHeld.2.2.2.2.2.2.1), pw_cell_below hb5 (hHeld.2.2.2.2.2.2.2.1), pw_cell_below hb5 (hHeld.2.2.2.2.2.2.2.2.1), pw_cell_below hb5 (hHeld.2.2.2.2.2.2.2.2.2.1), pw_cell_below hb5 (hHeld.2.2.2.2.2.2.2.2.2.2)⟩ (fun hHeld => ?_)
    clear hK K
    refine norm_ (a' := ?_) ?_ ?_
    rotate_left
    ·show Act.put _ (some 24) _ = _
     simp only [Act.put, List.setIfInBounds_toArray, List.set_cons_zero, List.set_cons_succ, i64_w, i32_w]
     rfl
    refine pure_ (i := 12) (N := some 25) (v := ?_) (a' := ?_) (bs 13 8191) rfl rfl (by kernel_rfl) (fun _ _ _ h => h) (Or.inl ⟨by rfl, ?_⟩) ?_ ?_
    rotate_left
    ·intro w'
     go_simp
     with_reducible rfl
    rotate_left
    ·simp only [Act.put, List.setIfInBounds_toArray, List.set_cons_zero, List.set_cons_succ, i64_w, i32_w]
     rfl
    refine done_ (by kernel_rfl) ?_
    have HN := Aside0.mk (And.intro (bel2 HW.out.1 (bel2 (bel2 (bel2 (below_drew (Below.refl _ _)) hb3) hb4) hb5)) (HW.out.2.below (bel2 (bel2 (bel2 (below_drew (Below.refl _ _)) hb3) hb4) hb5)))
    clear hHeld hb3 hb4 hb5 hc3 hc4 k0 k1 k2 k3 k4 k5 k6 k7 k8 k9 k10
    go_wp2
    go_roundw
    case rel => exact ⟨k + 1, by omega, by rw [HDN.out, HBI.out], by go_num, HN⟩
    case measure => simp [intOf]; omega
  ·obtain rfl : k = 21 := by omega
   have hltz : ¬ ((21 : Nat) : Int) ≤ 20 := by omega
   generalize hbi : bestI (downF (spareR x L h) 21) = bi at *
   have HBI := Lib.hid hbi
   clear hbi
   go_wp2
   go_ret
   exact ⟨ret_int HBI.out.symm, HW.out.1⟩
end Go.Proofs.Ytdgkhoflajdidaa
/- What a law keeps. -/
namespace Go.Proofs.Ytdgkhoflajdidaa
open Go.RowKit Go.Proofs.YtdgkhoflajdidaaW.PrintWords Go.Proofs.YtdgkhoflajdidaaW.PrintMore Go.Proofs.YtdgkhoflajdidaaW.PrintLast Go.Proofs.Ytdgkhoflajdidaa.Print
/-- What a law keeps: the box of the coppers, and what was returned. -/
structure LwSt (w : World) (B : Array Value) (P : World → Prop) (W : World) : Prop where
 bel : Below w.heap.size w W
 box : Blk W w.heap.size B 28
 rows : P W
theorem LwSt.step {w : World} {B : Array Value} {P : World → Prop} {W V : World} (h : LwSt w B P W) (hP : ∀ W V, P W → Below W.heap.size W V → P V) (hb : Below W.heap.size W V) : LwSt w B P V :=
 ⟨bel2 h.bel hb, h.box.below hb, hP _ _ h.rows hb⟩
end Go.Proofs.Ytdgkhoflajdidaa
