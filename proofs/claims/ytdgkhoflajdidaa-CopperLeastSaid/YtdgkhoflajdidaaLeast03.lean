/- Lemmas for the law's proof: Sa, Sb, Wc, Ta, Q0, Wd, We. -/
import Derived.Test.YtdgkhoflajdidaaLeast02
import Derived.Test.YtdgkhoflajdidaaCore10
import Derived.Test.YtdgkhoflajdidaaCore12
import Derived.Test.YtdgkhoflajdidaaCore11
import Derived.Test.YtdgkhoflajdidaaCore15
import Derived.Test.YtdgkhoflajdidaaCore14
/- Keeps, Whole, Wholes of the reference: truths are counted. -/
namespace Go.Proofs.Ytdgkhoflajdidaa
open Go.RowKit Go.Proofs.YtdgkhoflajdidaaW.PrintWords Go.Proofs.YtdgkhoflajdidaaW.PrintMore Go.Proofs.YtdgkhoflajdidaaW.PrintLast Go.Proofs.Ytdgkhoflajdidaa.Print
set_option linter.unusedVariables false
set_option linter.unusedSimpArgs false
set_option maxRecDepth 100000
set_option maxHeartbeats 4000000
def cnt (p : S75 → Bool) (L : List S75) : Nat := (L.filter p).length
theorem cnt_t {p : S75 → Bool} {L : List S75} {t : S75} (h : p t = true) : cnt p (L ++ [t]) = cnt p L + 1 := by simp [cnt, List.filter_append, h]
theorem cnt_f {p : S75 → Bool} {L : List S75} {t : S75} (h : p t = false) : cnt p (L ++ [t]) = cnt p L := by simp [cnt, List.filter_append, h]
theorem cnt_le (p : S75 → Bool) (L : List S75) : cnt p L ≤ L.length := List.length_filter_le ..
/-- What is handed to those that go through truths. -/
structure TrArgs (x : S38) (cs : List Value) (A C D : Option Addr) (L : List S75) (co wa : List Int) (w : World) : Prop where
 kx : k38.K w x cs
 kl : Kd.C k75 w A L.length L
 kc : Kd.C (Kd.int .i64) w C co.length co
 kw : Kd.C (Kd.int .i64) w D wa.length wa
 ok : ∀ t ∈ L, PlayOk x (toSc t) co wa ∧ (t.f1.length : Int) = x.f0 + 1
 len : L.length ≤ 3000
 l0 : 0 ≤ x.f0
 l1 : x.f0 ≤ 4
variable {x : S38} {cs ts : List Value} {A C D : Option Addr} {c d d' : Nat} {L : List S75} {t : S75} {co wa : List Int} {w V : World}
theorem TrArgs.below (h : TrArgs x cs A C D L co wa w) (hb : Below w.heap.size w V) : TrArgs x cs A C D L co wa V :=
 ⟨k38.K_below hb h.kx, Kd.C_below h.kl hb, Kd.C_below h.kc hb, Kd.C_below h.kw hb, h.ok, h.len, h.l0, h.l1⟩
theorem TrArgs.h (h : TrArgs x cs A C D L co wa w) {t : S75} (ht : t ∈ L) (hk : k75.K w t ts) : HArgs x cs t ts C D c d co wa w := ⟨h.kx, hk, h.kc, h.kw, (h.ok t ht).1, (h.ok t ht).2⟩
theorem k38_rows {A5 A6 A9 A10 : Option Addr} {c5 c6 c9 c10 : Nat} (h : k38.K w x [.int .i64 x.f0, .int .i64 x.f1, .int .i64 x.f2, .int .i64 x.f3, .int .i64 x.f4, .slice A5 x.f5.length c5, .slice A6 x.f6.length c6, .int .i64 x.f7.f0, .int .i64 x.f7.f1, .slice A9 x.f8.length c9, .slice A10 x.f9.length c10]) : Kd.C (Kd.int .i64) w A5 x.f5.length x.f5 ∧ Kd.C (Kd.int .i64) w A6 x.f6.length x.f6 := by
 obtain ⟨_, _, _, _, _, _, _, _, he, _, g5, _, g6, _⟩ := k38_open h
 simp only [List.cons.injEq, Value.slice.injEq, true_and, and_true] at he
 obtain ⟨⟨rfl, rfl⟩, ⟨rfl, rfl⟩, _⟩ := he
 exact ⟨g5, g6⟩
def wholeR (x : S38) (s : Sc) (co wa : List Int) : Bool := (List.range (x.f0 + 1).toNat).all (keptAt x s co wa)
theorem rWhole_calls (h : HArgs x cs t ts C D c d co wa w) (h0 : 0 ≤ x.f0) (h1 : x.f0 ≤ 4) :
    Calls Try.prog 87 #[.agg cs.toArray, .agg ts.toArray, .slice C co.length c, .slice D wa.length d] w fun e w' => e = .returned (.bool (wholeR x (toSc t) co wa)) ∧ Below w.heap.size w w' := by
 have HA := Aside0.mk h
 obtain ⟨A5, c5, A6, c6, A9, c9, A10, c10, rfl, _⟩ := k38_open h.kx
 obtain ⟨T1, d1, rfl, _, _⟩ := k75_open h.kt
 clear h
 have hu := Try.underlying28
 have hu2 := Try.underlying66
 have ZB := Aside0.mk (And.intro (below_alloc (below_alloc (Below.refl w.heap.size w) (.cells #[.int .i64 x.f0, .int .i64 x.f1, .int .i64 x.f2, .int .i64 x.f3, .int .i64 x.f4, .slice A5 x.f5.length c5, .slice A6 x.f6.length c6, .int .i64 x.f7.f0, .int .i64 x.f7.f1, .slice A9 x.f8.length c9, .slice A10 x.f9.length c10] 28)) (.cells #[.int .i64 t.f0, .slice T1 t.f1.length d1] 66)) (And.intro ((Blk.new w #[.int .i64 x.f0, .int .i64 x.f1, .int .i64 x.f2, .int .i64 x.f3, .int .i64 x.f4, .slice A5 x.f5.length c5, .slice A6 x.f6.length c6, .int .i64 x.f7.f0, .int .i64 x.f7.f1, .slice A9 x.f8.length c9, .slice A10 x.f9.length c10] 28 _ rfl).alloc (.cells #[.int .i64 t.f0, .slice T1 t.f1.length d1] 66)) (Blk.new (w.alloc (.cells #[.int .i64 x.f0, .int .i64 x.f1, .int .i64 x.f2, .int .i64 x.f3, .int .i64 x.f4, .slice A5 x.f5.length c5, .slice A6 x.f6.length c6, .int .i64 x.f7.f0, .int .i64 x.f7.f1, .slice A9 x.f8.length c9, .slice A10 x.f9.length c10] 28)) #[.int .i64 t.f0, .slice T1 t.f1.length d1] 66 (w.heap.size + 1) (by simp))))
 go_enter Try.func87, Try.ntmps87
 go_wp2
 generalize ((w.alloc (.cells #[.int .i64 x.f0, .int .i64 x.f1, .int .i64 x.f2, .int .i64 x.f3, .int .i64 x.f4, .slice A5 x.f5.length c5, .slice A6 x.f6.length c6, .int .i64 x.f7.f0, .int .i64 x.f7.f1, .slice A9 x.f8.length c9, .slice A10 x.f9.length c10] 28)).alloc (.cells #[.int .i64 t.f0, .slice T1 t.f1.length d1] 66)) = W at *
 go_loopw [9] (fun s9 wr => ∃ k : Nat, (k : Int) ≤ x.f0 + 1 ∧ s9 = .int .i64 k ∧ Aside0 ((Below w.heap.size w wr ∧ Blk wr w.heap.size #[.int .i64 x.f0, .int .i64 x.f1, .int .i64 x.f2, .int .i64 x.f3, .int .i64 x.f4, .slice A5 x.f5.length c5, .slice A6 x.f6.length c6, .int .i64 x.f7.f0, .int .i64 x.f7.f1, .slice A9 x.f8.length c9, .slice A10 x.f9.length c10] 28 ∧ Blk wr (w.heap.size + 1) #[.int .i64 t.f0, .slice T1 t.f1.length d1] 66) ∧ ∀ j, j < k → keptAt x (toSc t) co wa j = true)) (fun s9 _ => (x.f0 + 1).toNat - (intOf s9).toNat)
 case atStart => exact ⟨0, by omega, rfl, ⟨ZB.out, fun j hj => absurd hj (Nat.not_lt_zero _)⟩⟩
 case round =>
  obtain ⟨k, hk, rfl, HW⟩ := hrel
  have k0 := HW.out.1.2.1.cell 0 _ rfl
  by_cases hlt : (k : Int) ≤ x.f0
  ·have HK := fun V (hb : Below wr.heap.size wr V) => kept_calls k hlt (HA.out.below (bel2 HW.out.1.1 hb))
   have hkc := HK _ (Below.refl _ _)
   have k1 := HW.out.1.2.1.cell 1 _ rfl
   have k2 := HW.out.1.2.1.cell 2 _ rfl
   have k3 := HW.out.1.2.1.cell 3 _ rfl
   have k4 := HW.out.1.2.1.cell 4 _ rfl
   have k5 := HW.out.1.2.1.cell 5 _ rfl
   have k6 := HW.out.1.2.1.cell 6 _ rfl
   have k7 := HW.out.1.2.1.cell 7 _ rfl
   have k8 := HW.out.1.2.1.cell 8 _ rfl
   have k9 := HW.out.1.2.1.cell 9 _ rfl
   have k10 := HW.out.1.2.1.cell 10 _ rfl
   have t0 := HW.out.1.2.2.cell 0 _ rfl
   have t1 := HW.out.1.2.2.cell 1 _ rfl
   cases hq : keptAt x (toSc t) co wa k with
   | true =>
    rw [hq] at hkc
    have HQ := Lib.hid hq
    clear hq HK
    go_wp2_with fail
    refine hkc.mono ?_
    rintro e w5 ⟨rfl, hb⟩
    have HN := Aside0.mk (And.intro (And.intro (bel2 HW.out.1.1 hb) (And.intro (HW.out.1.2.1.below hb) (HW.out.1.2.2.below hb))) (show ∀ j, j < k + 1 → keptAt x (toSc t) co wa j = true from fun j hj => by
     by_cases e : j = k
     ·rw [e]; exact HQ.out
     ·exact HW.out.2 j (by omega)))
    clear hb k0 k1 k2 k3 k4 k5 k6 k7 k8 k9 k10 t0 t1
    go_wp2
    go_roundw
    case rel => exact ⟨k + 1, by omega, by go_num, HN⟩
    case measure => simp [intOf]; omega
   | false =>
    rw [hq] at hkc
    have HQ := Lib.hid (show wholeR x (toSc t) co wa = false by unfold wholeR; rw [List.all_eq_false]; exact ⟨k, List.mem_range.2 (by omega), by simp [hq]⟩)
    clear hq HK
    go_wp2_with fail
    refine hkc.mono ?_
    rintro e w5 ⟨rfl, hb⟩
    have HN := Aside0.mk (bel2 HW.out.1.1 hb)
    clear hb k0 k1 k2 k3 k4 k5 k6 k7 k8 k9 k10 t0 t1
    go_wp2
    go_ret
    exact ⟨ret_bool HQ.out.symm, HN.out⟩
  ·have HQ := Lib.hid (show wholeR x (toSc t) co wa = true by unfold wholeR; rw [List.all_eq_true]; exact fun j hj => HW.out.2 j (by have := List.mem_range.1 hj; omega))
   go_wp2
   go_ret
   exact ⟨ret_bool HQ.out.symm, HW.out.1.1⟩
theorem rWholes_calls (hA : TrArgs x cs A C D L co wa w) :
    Calls Try.prog 32 #[.agg cs.toArray, .slice A L.length c, .slice C co.length d, .slice D wa.length d'] w fun e w' => e = .returned (.int .i64 (verd (cnt (fun t => wholeR x (toSc t) co wa) L : Nat) L.length)) ∧ Below w.heap.size w w' := by
 obtain ⟨A5, c5, A6, c6, A9, c9, A10, c10, rfl, _⟩ := k38_open hA.kx
 have HA := Aside0.mk hA
 clear hA
 have hu := Try.underlying28
 have hu2 := Try.underlying66
 have ZB := Aside0.mk (And.intro (below_alloc (Below.refl w.heap.size w) (.cells #[.int .i64 x.f0, .int .i64 x.f1, .int .i64 x.f2, .int .i64 x.f3, .int .i64 x.f4, .slice A5 x.f5.length c5, .slice A6 x.f6.length c6, .int .i64 x.f7.f0, .int .i64 x.f7.f1, .slice A9 x.f8.length c9, .slice A10 x.f9.length c10] 28)) (Blk.new w #[.int .i64 x.f0, .int .i64 x.f1, .int .i64 x.f2, .int .i64 x.f3, .int .i64 x.f4, .slice A5 x.f5.length c5, .slice A6 x.f6.length c6, .int .i64 x.f7.f0, .int .i64 x.f7.f1, .slice A9 x.f8.length c9, .slice A10 x.f9.length c10] 28 _ rfl))
 have hle := HA.out.len
 go_enter Try.func32, Try.ntmps32
 go_wp2
 generalize (w.alloc (.cells #[.int .i64 x.f0, .int .i64 x.f1, .int .i64 x.f2, .int .i64 x.f3, .int .i64 x.f4, .slice A5 x.f5.length c5, .slice A6 x.f6.length c6, .int .i64 x.f7.f0, .int .i64 x.f7.f1, .slice A9 x.f8.length c9, .slice A10 x.f9.length c10] 28)) = W at *
 go_loopw [9, 10] (fun s7 s8 wr => ∃ k : Nat, k ≤ L.length ∧ s7 = .int .i64 (cnt (fun t => wholeR x (toSc t) co wa) (L.take k) : Nat) ∧ s8 = .int .i64 k ∧ Aside0 (Below w.heap.size w wr ∧ Blk wr w.heap.size #[.int .i64 x.f0, .int .i64 x.f1, .int .i64 x.f2, .int .i64 x.f3, .int .i64 x.f4, .slice A5 x.f5.length c5, .slice A6 x.f6.length c6, .int .i64 x.f7.f0, .int .i64 x.f7.f1, .slice A9 x.f8.length c9, .slice A10 x.f9.length c10] 28)) (fun _ s8 _ => L.length - (intOf s8).toNat)
 case atStart => exact ⟨0, Nat.zero_le _, rfl, rfl, ZB⟩
 case round =>
  obtain ⟨k, hk, rfl, rfl, HW⟩ := hrel
  by_cases hlt : k < L.length
  ·have hltz : (k : Int) < (L.length : Int) := by omega
   obtain ⟨aA, T1, d1, rfl, q0, q1, hkt⟩ := row_at_tr (HA.out.below HW.out.1).kl k hlt
   have hsn : L.take (k + 1) = L.take k ++ [L[k]] := List.take_succ_eq_append_getElem hlt
   have htm : L[k] ∈ L := List.getElem_mem hlt
   have HK := Aside0.mk (fun V (hb : Below wr.heap.size wr V) => rWhole_calls (c := d) (d := d') ((HA.out.below (bel2 HW.out.1 hb)).h htm (k75.K_below hb hkt)) HA.out.l0 HA.out.l1)
   have hcl := cnt_le (fun t => wholeR x (toSc t) co wa) (L.take k)
   rw [List.length_take] at hcl
   clear hkt htm
   generalize L[k] = t at *
   cases hq : wholeR x (toSc t) co wa with
   | true =>
    rw [hq] at HK
    have HSN := Lib.hid (show cnt (fun t => wholeR x (toSc t) co wa) (L.take (k + 1)) = cnt (fun t => wholeR x (toSc t) co wa) (L.take k) + 1 by rw [hsn]; exact cnt_t hq)
    clear hsn hq
    generalize cnt (fun t => wholeR x (toSc t) co wa) (L.take k) = n at *
    have k0 := HW.out.2.cell 0 _ rfl
    have k1 := HW.out.2.cell 1 _ rfl
    have k2 := HW.out.2.cell 2 _ rfl
    have k3 := HW.out.2.cell 3 _ rfl
    have k4 := HW.out.2.cell 4 _ rfl
    have k5 := HW.out.2.cell 5 _ rfl
    have k6 := HW.out.2.cell 6 _ rfl
    have k7 := HW.out.2.cell 7 _ rfl
    have k8 := HW.out.2.cell 8 _ rfl
    have k9 := HW.out.2.cell 9 _ rfl
    have k10 := HW.out.2.cell 10 _ rfl
    go_wp2
    refine start_ (n := 8) (S := fun w' => w'.cell? ⟨w.heap.size, 0, none⟩ = some (.int .i64 x.f0) ∧ w'.cell? ⟨w.heap.size, 1, none⟩ = some (.int .i64 x.f1) ∧ w'.cell? ⟨w.heap.size, 2, none⟩ = some (.int .i64 x.f2) ∧ w'.cell? ⟨w.heap.size, 3, none⟩ = some (.int .i64 x.f3) ∧ w'.cell? ⟨w.heap.size, 4, none⟩ = some (.int .i64 x.f4) ∧ w'.cell? ⟨w.heap.size, 5, none⟩ = some (.slice A5 x.f5.length c5) ∧ w'.cell? ⟨w.heap.size, 6, none⟩ = some (.slice A6 x.f6.length c6) ∧ w'.cell? ⟨w.heap.size, 7, none⟩ = some (.int .i64 x.f7.f0) ∧ w'.cell? ⟨w.heap.size, 8, none⟩ = some (.int .i64 x.f7.f1) ∧ w'.cell? ⟨w.heap.size, 9, none⟩ = some (.slice A9 x.f8.length c9) ∧ w'.cell? ⟨w.heap.size, 10, none⟩ = some (.slice A10 x.f9.length c10) ∧ w'.cell? (aA.add (k * 2)) = some (.int .i64 t.f0) ∧ w'.cell? ⟨(aA.add (k * 2)).block, (aA.add (k * 2)).off + 1, none⟩ = some (.slice T1 t.f1.length d1)) (ds := []) #[false, false, false, false, false, false, false, false] (by kernel_rfl) rfl rfl ⟨k0, k1, k2, k3, k4, k5, k6, k7, k8, k9, k10, q0, q1⟩ (fun hHeld => ?_)
    refine pure_ (i := 1) (N := some 18) (v := ?_) (a' := ?_) (bs 8 2) rfl rfl (by kernel_rfl) (fun _ _ _ h => h) (Or.inl ⟨by rfl, ?_⟩) ?_ ?_
    rotate_left
    ·intro w'
     go_simp
     with_reducible rfl
    rotate_left
    ·simp only [Act.put, List.setIfInBounds_toArray, List.set_cons_zero, List.set_cons_succ, i64_w, i32_w]
     rfl
    refine pure_ (i := 2) (N := some 19) (v := ?_) (a' := ?_) (bs 8 6) rfl rfl (by kernel_rfl) (fun _ _ _ h => h) (Or.inl ⟨by rfl, ?_⟩) ?_ ?_
    rotate_left
    ·intro w'
     go_simp
     with_reducible rfl
    rotate_left
    ·simp only [Act.put, List.setIfInBounds_toArray, List.set_cons_zero, List.set_cons_succ, i64_w, i32_w]
     rfl
    refine pure_ (i := 3) (N := some 20) (v := ?_) (a' := ?_) (bs 8 14) rfl rfl (by kernel_rfl) (fun _ _ _ h => h) (Or.inl ⟨by rfl, ?_⟩) ?_ ?_
    rotate_left
    ·intro w'
     go_simp
     with_reducible rfl
    rotate_left
    ·simp only [Act.put, List.setIfInBounds_toArray, List.set_cons_zero, List.set_cons_succ, i64_w, i32_w]
     rfl
    refine pure_ (i := 5) (N := some 22) (v := ?_) (a' := ?_) (bs 8 46) rfl rfl (by kernel_rfl) (fun _ _ _ h => h) (Or.inl ⟨by rfl, ?_⟩) ?_ ?_
    rotate_left
    ·intro w'
     go_simp
     with_reducible rfl
    rotate_left
    ·simp only [Act.put, List.setIfInBounds_toArray, List.set_cons_zero, List.set_cons_succ, i64_w, i32_w]
     rfl
    refine pure_ (i := 6) (N := some 23) (v := ?_) (a' := ?_) (bs 8 110) rfl rfl (by kernel_rfl) (fun _ _ _ h => h) (Or.inl ⟨by rfl, ?_⟩) ?_ ?_
    rotate_left
    ·intro w'
     go_simp
     with_reducible rfl
    rotate_left
    ·simp only [Act.put, List.setIfInBounds_toArray, List.set_cons_zero, List.set_cons_succ, i64_w, i32_w]
     rfl
    refine take_ (i := 0) (N := some 17) (v := ?_) (a' := ?_) (bs 8 111) rfl rfl (by kernel_rfl) (fun _ _ _ h => h) (Or.inl ⟨by rfl, ?_⟩) hHeld ?_ ?_
    rotate_left
    ·rintro w' ⟨s0, s1, s2, s3, s4, s5, s6, s7, s8, s9, s10, s11, s12⟩
     go_simp
     with_reducible rfl
    rotate_left
    ·simp only [Act.put, List.setIfInBounds_toArray, List.set_cons_zero, List.set_cons_succ, i64_w, i32_w]
     rfl
    refine take_ (i := 4) (N := some 21) (v := ?_) (a' := ?_) (bs 8 127) rfl rfl (by kernel_rfl) (fun _ _ _ h => h) (Or.inl ⟨by rfl, ?_⟩) hHeld ?_ ?_
    rotate_left
    ·rintro w' ⟨s0, s1, s2, s3, s4, s5, s6, s7, s8, s9, s10, s11, s12⟩
     go_simp
     with_reducible rfl
    rotate_left
    ·simp only [Act.put, List.setIfInBounds_toArray, List.set_cons_zero, List.set_cons_succ, i64_w, i32_w]
     rfl
    refine one_ (i := 7) (N := some 24) (bs 8 255) rfl rfl (by kernel_rfl) (by decide) (fun K hK => ?_)
    refine goes_ Try.func87 (by kernel_rfl) rfl #[.agg #[.int .i64 x.f0, .int .i64 x.f1, .int .i64 x.f2, .int .i64 x.f3, .int .i64 x.f4, .slice A5 x.f5.length c5, .slice A6 x.f6.length c6, .int .i64 x.f7.f0, .int .i64 x.f7.f1, .slice A9 x.f8.length c9, .slice A10 x.f9.length c10], .agg #[.int .i64 t.f0, .slice T1 t.f1.length d1], .slice C co.length d, .slice D wa.length d'] (by rfl) rfl rfl (by simp only [List.map_toArray, List.map_cons, List.map_nil]; rfl) ?_
    with_reducible refine (HK.out _ (below_drew (Below.refl wr.heap.size wr))).mono ?_
    rintro e w3 ⟨rfl, hb3⟩
    refine ⟨_, rfl, ?_⟩
    refine hK.out _ _ ⟨pw_cell_below hb3 (hHeld.1), pw_cell_below hb3 (hHeld.2.1), pw_cell_below hb3 (hHeld.2.2.1), pw_cell_below hb3 (hHeld.2.2.2.1), pw_cell_below hb3 (hHeld.2.2.2.2.1), pw_cell_below hb3 (hHeld.2.2.2.2.2.1), pw_cell_below hb3 (hHeld.2.2.2.2.2.2.1), pw_cell_below hb3 (hHeld.2.2.2.2.2.2.2.1), pw_cell_below hb3 (hHeld.2.2.2.2.2.2.2.2.1), pw_cell_below hb3 (hHeld.2.2.2.2.2.2.2.2.2.1), pw_cell_below hb3 (hHeld.2.2.2.2.2.2.2.2.2.2.1), pw_cell_below hb3 (hHeld.2.2.2.2.2.2.2.2.2.2.2.1), pw_cell_below hb3 (hHeld.2.2.2.2.2.2.2.2.2.2.2.2)⟩ (fun hHeld => ?_)
    clear hK K
    refine norm_ (a' := ?_) ?_ ?_
    rotate_left
    ·show Act.put _ (some 24) _ = _
     simp only [Act.put, List.setIfInBounds_toArray, List.set_cons_zero, List.set_cons_succ, i64_w, i32_w]
     rfl
    refine done_ (by kernel_rfl) ?_
    have HN := Aside0.mk (And.intro (bel2 HW.out.1 (bel2 (below_drew (Below.refl _ _)) hb3)) (HW.out.2.below (bel2 (below_drew (Below.refl _ _)) hb3)))
    clear hHeld hb3 q0 q1 k0 k1 k2 k3 k4 k5 k6 k7 k8 k9 k10
    go_wp2
    go_roundw
    case rel => exact ⟨k + 1, hlt, by rw [HSN.out]; go_num, by go_num, HN⟩
    case measure => simp [intOf]; omega
   | false =>
    rw [hq] at HK
    have HSN := Lib.hid (show cnt (fun t => wholeR x (toSc t) co wa) (L.take (k + 1)) = cnt (fun t => wholeR x (toSc t) co wa) (L.take k) by rw [hsn]; exact cnt_f hq)
    clear hsn hq
    generalize cnt (fun t => wholeR x (toSc t) co wa) (L.take k) = n at *
    have k0 := HW.out.2.cell 0 _ rfl
    have k1 := HW.out.2.cell 1 _ rfl
    have k2 := HW.out.2.cell 2 _ rfl
    have k3 := HW.out.2.cell 3 _ rfl
    have k4 := HW.out.2.cell 4 _ rfl
    have k5 := HW.out.2.cell 5 _ rfl
    have k6 := HW.out.2.cell 6 _ rfl
    have k7 := HW.out.2.cell 7 _ rfl
    have k8 := HW.out.2.cell 8 _ rfl
    have k9 := HW.out.2.cell 9 _ rfl
    have k10 := HW.out.2.cell 10 _ rfl
    go_wp2
    refine start_ (n := 8) (S := fun w' => w'.cell? ⟨w.heap.size, 0, none⟩ = some (.int .i64 x.f0) ∧ w'.cell? ⟨w.heap.size, 1, none⟩ = some (.int .i64 x.f1) ∧ w'.cell? ⟨w.heap.size, 2, none⟩ = some (.int .i64 x.f2) ∧ w'.cell? ⟨w.heap.size, 3, none⟩ = some (.int .i64 x.f3) ∧ w'.cell? ⟨w.heap.size, 4, none⟩ = some (.int .i64 x.f4) ∧ w'.cell? ⟨w.heap.size, 5, none⟩ = some (.slice A5 x.f5.length c5) ∧ w'.cell? ⟨w.heap.size, 6, none⟩ = some (.slice A6 x.f6.length c6) ∧ w'.cell? ⟨w.heap.size, 7, none⟩ = some (.int .i64 x.f7.f0) ∧ w'.cell? ⟨w.heap.size, 8, none⟩ = some (.int .i64 x.f7.f1) ∧ w'.cell? ⟨w.heap.size, 9, none⟩ = some (.slice A9 x.f8.length c9) ∧ w'.cell? ⟨w.heap.size, 10, none⟩ = some (.slice A10 x.f9.length c10) ∧ w'.cell? (aA.add (k * 2)) = some (.int .i64 t.f0) ∧ w'.cell? ⟨(aA.add (k * 2)).block, (aA.add (k * 2)).off + 1, none⟩ = some (.slice T1 t.f1.length d1)) (ds := []) #[false, false, false, false, false, false, false, false] (by kernel_rfl) rfl rfl ⟨k0, k1, k2, k3, k4, k5, k6, k7, k8, k9, k10, q0, q1⟩ (fun hHeld => ?_)
    refine pure_ (i := 1) (N := some 18) (v := ?_) (a' := ?_) (bs 8 2) rfl rfl (by kernel_rfl) (fun _ _ _ h => h) (Or.inl ⟨by rfl, ?_⟩) ?_ ?_
    rotate_left
    ·intro w'
     go_simp
     with_reducible rfl
    rotate_left
    ·simp only [Act.put, List.setIfInBounds_toArray, List.set_cons_zero, List.set_cons_succ, i64_w, i32_w]
     rfl
    refine pure_ (i := 2) (N := some 19) (v := ?_) (a' := ?_) (bs 8 6) rfl rfl (by kernel_rfl) (fun _ _ _ h => h) (Or.inl ⟨by rfl, ?_⟩) ?_ ?_
    rotate_left
    ·intro w'
     go_simp
     with_reducible rfl
    rotate_left
    ·simp only [Act.put, List.setIfInBounds_toArray, List.set_cons_zero, List.set_cons_succ, i64_w, i32_w]
     rfl
    refine pure_ (i := 3) (N := some 20) (v := ?_) (a' := ?_) (bs 8 14) rfl rfl (by kernel_rfl) (fun _ _ _ h => h) (Or.inl ⟨by rfl, ?_⟩) ?_ ?_
    rotate_left
    ·intro w'
     go_simp
     with_reducible rfl
    rotate_left
    ·simp only [Act.put, List.setIfInBounds_toArray, List.set_cons_zero, List.set_cons_succ, i64_w, i32_w]
     rfl
    refine pure_ (i := 5) (N := some 22) (v := ?_) (a' := ?_) (bs 8 46) rfl rfl (by kernel_rfl) (fun _ _ _ h => h) (Or.inl ⟨by rfl, ?_⟩) ?_ ?_
    rotate_left
    ·intro w'
     go_simp
     with_reducible rfl
    rotate_left
    ·simp only [Act.put, List.setIfInBounds_toArray, List.set_cons_zero, List.set_cons_succ, i64_w, i32_w]
     rfl
    refine pure_ (i := 6) (N := some 23) (v := ?_) (a' := ?_) (bs 8 110) rfl rfl (by kernel_rfl) (fun _ _ _ h => h) (Or.inl ⟨by rfl, ?_⟩) ?_ ?_
    rotate_left
    ·intro w'
     go_simp
     with_reducible rfl
    rotate_left
    ·simp only [Act.put, List.setIfInBounds_toArray, List.set_cons_zero, List.set_cons_succ, i64_w, i32_w]
     rfl
    refine take_ (i := 0) (N := some 17) (v := ?_) (a' := ?_) (bs 8 111) rfl rfl (by kernel_rfl) (fun _ _ _ h => h) (Or.inl ⟨by rfl, ?_⟩) hHeld ?_ ?_
    rotate_left
    ·rintro w' ⟨s0, s1, s2, s3, s4, s5, s6, s7, s8, s9, s10, s11, s12⟩
     go_simp
     with_reducible rfl
    rotate_left
    ·simp only [Act.put, List.setIfInBounds_toArray, List.set_cons_zero, List.set_cons_succ, i64_w, i32_w]
     rfl
    refine take_ (i := 4) (N := some 21) (v := ?_) (a' := ?_) (bs 8 127) rfl rfl (by kernel_rfl) (fun _ _ _ h => h) (Or.inl ⟨by rfl, ?_⟩) hHeld ?_ ?_
    rotate_left
    ·rintro w' ⟨s0, s1, s2, s3, s4, s5, s6, s7, s8, s9, s10, s11, s12⟩
     go_simp
     with_reducible rfl
    rotate_left
    ·simp only [Act.put, List.setIfInBounds_toArray, List.set_cons_zero, List.set_cons_succ, i64_w, i32_w]
     rfl
    refine one_ (i := 7) (N := some 24) (bs 8 255) rfl rfl (by kernel_rfl) (by decide) (fun K hK => ?_)
    refine goes_ Try.func87 (by kernel_rfl) rfl #[.agg #[.int .i64 x.f0, .int .i64 x.f1, .int .i64 x.f2, .int .i64 x.f3, .int .i64 x.f4, .slice A5 x.f5.length c5, .slice A6 x.f6.length c6, .int .i64 x.f7.f0, .int .i64 x.f7.f1, .slice A9 x.f8.length c9, .slice A10 x.f9.length c10], .agg #[.int .i64 t.f0, .slice T1 t.f1.length d1], .slice C co.length d, .slice D wa.length d'] (by rfl) rfl rfl (by simp only [List.map_toArray, List.map_cons, List.map_nil]; rfl) ?_
    with_reducible refine (HK.out _ (below_drew (Below.refl wr.heap.size wr))).mono ?_
    rintro e w3 ⟨rfl, hb3⟩
    refine ⟨_, rfl, ?_⟩
    refine hK.out _ _ ⟨pw_cell_below hb3 (hHeld.1), pw_cell_below hb3 (hHeld.2.1), pw_cell_below hb3 (hHeld.2.2.1), pw_cell_below hb3 (hHeld.2.2.2.1), pw_cell_below hb3 (hHeld.2.2.2.2.1), pw_cell_below hb3 (hHeld.2.2.2.2.2.1), pw_cell_below hb3 (hHeld.2.2.2.2.2.2.1), pw_cell_below hb3 (hHeld.2.2.2.2.2.2.2.1), pw_cell_below hb3 (hHeld.2.2.2.2.2.2.2.2.1), pw_cell_below hb3 (hHeld.2.2.2.2.2.2.2.2.2.1), pw_cell_below hb3 (hHeld.2.2.2.2.2.2.2.2.2.2.1), pw_cell_below hb3 (hHeld.2.2.2.2.2.2.2.2.2.2.2.1), pw_cell_below hb3 (hHeld.2.2.2.2.2.2.2.2.2.2.2.2)⟩ (fun hHeld => ?_)
    clear hK K
    refine norm_ (a' := ?_) ?_ ?_
    rotate_left
    ·show Act.put _ (some 24) _ = _
     simp only [Act.put, List.setIfInBounds_toArray, List.set_cons_zero, List.set_cons_succ, i64_w, i32_w]
     rfl
    refine done_ (by kernel_rfl) ?_
    have HN := Aside0.mk (And.intro (bel2 HW.out.1 (bel2 (below_drew (Below.refl _ _)) hb3)) (HW.out.2.below (bel2 (below_drew (Below.refl _ _)) hb3)))
    clear hHeld hb3 q0 q1 k0 k1 k2 k3 k4 k5 k6 k7 k8 k9 k10
    go_wp2
    go_roundw
    case rel => exact ⟨k + 1, hlt, by rw [HSN.out], by go_num, HN⟩
    case measure => simp [intOf]; omega
  ·obtain rfl : k = L.length := by omega
   have hltz : ¬ (L.length : Int) < (L.length : Int) := by omega
   rw [List.take_length]
   have hv := fun W => rVerdict_calls (cnt (fun t => wholeR x (toSc t) co wa) L : Nat) L.length W
   go_wp2_with fail
   refine (hv _).mono ?_
   rintro e w5 ⟨rfl, rfl⟩
   go_wp2
   go_ret
   exact ⟨rfl, HW.out.1⟩
end Go.Proofs.Ytdgkhoflajdidaa
/- The verdicts of copper are those of the reference; Lacks of the reference. -/
namespace Go.Proofs.Ytdgkhoflajdidaa
open Go.RowKit Go.Proofs.YtdgkhoflajdidaaW.PrintWords Go.Proofs.YtdgkhoflajdidaaW.PrintMore Go.Proofs.YtdgkhoflajdidaaW.PrintLast Go.Proofs.Ytdgkhoflajdidaa.Print
set_option linter.unusedVariables false
set_option linter.unusedSimpArgs false
set_option maxRecDepth 100000
set_option maxHeartbeats 4000000
def vB (a n : Bool) : Int := if a = true then 1 else if n = true then 2 else 3
theorem verd_cnt (p : S75 → Bool) {L : List S75} (hne : L ≠ []) : verd (cnt p L : Nat) L.length = vB (L.all p) (L.all fun t => !p t) := by
 unfold verd vB
 have h1 : ((cnt p L : Nat) : Int) = (L.length : Int) ↔ L.all p = true := by
  rw [List.all_eq_true]
  unfold cnt
  constructor
  ·intro h t ht
   have h2 : (L.filter p).length = L.length := by omega
   exact List.length_filter_eq_length_iff.1 h2 t ht
  ·intro h
   rw [List.length_filter_eq_length_iff.2 h]
 have h2 : ((cnt p L : Nat) : Int) = 0 ↔ L.all (fun t => !p t) = true := by
  rw [List.all_eq_true]
  unfold cnt
  constructor
  ·intro h t ht
   have h2 : (L.filter p) = [] := List.length_eq_zero_iff.1 (by omega)
   have := List.filter_eq_nil_iff.1 h2 t ht
   simpa using this
  ·intro h
   rw [List.filter_eq_nil_iff.2 fun t ht => by have := h t ht; simpa using this]
   rfl
 by_cases c1 : L.all p = true
 ·rw [if_pos (h1.2 c1), if_pos c1]
 ·rw [if_neg (fun h => c1 (h1.1 h)), if_neg c1]
  by_cases c2 : L.all (fun t => !p t) = true
  ·rw [if_pos (h2.2 c2), if_pos c2]
  ·rw [if_neg (fun h => c2 (h2.1 h)), if_neg c2]
variable {x : S38}
theorem all_truthsX (hV : Valid x) (p : Sc → Bool) : (truthsX x).all (fun t => p (toSc t)) = (truthL x).all p := by
 rw [Bool.eq_iff_iff, List.all_eq_true, List.all_eq_true]
 constructor
 ·intro h s hs
  obtain ⟨t, ht, rfl⟩ := (mem_truthsX hV).1 hs
  exact h t ht
 ·intro h t ht
  exact h _ ((mem_truthsX hV).2 ⟨t, ht, rfl⟩)
theorem whole_kepts (s : Sc) (co wa : List Int) : (kepts x s co wa (x.f0 + 1).toNat).all id = wholeR x s co wa := by simp [kepts, wholeR, List.all_map, Function.comp_def]
variable {cs : List Value} {A C D : Option Addr} {c : Nat} {L : List S75} {w : World}
end Go.Proofs.Ytdgkhoflajdidaa
/- Least, without the program: all coal, in lexicographic order. -/
namespace Go.Proofs.Ytdgkhoflajdidaa
open Go.RowKit Go.Proofs.YtdgkhoflajdidaaW.PrintWords Go.Proofs.YtdgkhoflajdidaaW.PrintMore Go.Proofs.YtdgkhoflajdidaaW.PrintLast Go.Proofs.Ytdgkhoflajdidaa.Print
set_option linter.unusedVariables false
set_option linter.unusedSimpArgs false
set_option maxRecDepth 100000
/-- The coal with a number: d digits to the base b. -/
def coalX (b d n : Nat) : List Int := (List.range d).map fun i => ((n / b ^ (d - 1 - i) % b : Nat) : Int)
theorem coalX_len (b d n : Nat) : (coalX b d n).length = d := by simp [coalX]
theorem coalX_val {b d n : Nat} (hb : 0 < b) : ∀ v ∈ coalX b d n, 0 ≤ v ∧ v ≤ (b : Int) - 1 := fun v hv => by
 obtain ⟨i, _, rfl⟩ := List.mem_map.1 hv
 have := Nat.mod_lt (n / b ^ (d - 1 - i)) hb
 omega
theorem coalX_succ (b d n : Nat) : coalX b (d + 1) n = ((n / b ^ d % b : Nat) : Int) :: coalX b d n := by
 unfold coalX
 rw [List.range_succ_eq_map, List.map_cons, List.map_map]
 refine congrArg (List.cons _) (List.map_congr_left fun i hi => ?_)
 show ((n / b ^ (d + 1 - 1 - (i + 1)) % b : Nat) : Int) = _
 rw [show d + 1 - 1 - (i + 1) = d - 1 - i by omega]
theorem coalX_mod (b d n q : Nat) : coalX b d (q * b ^ d + n) = coalX b d n := by
 unfold coalX
 refine List.map_congr_left fun i hi => ?_
 have hi := List.mem_range.1 hi
 have e : q * b ^ d + n = b ^ (d - 1 - i) * (q * b ^ i * b) + n := by
  congr 1
  have h1 : d = (d - 1 - i) + i + 1 := by omega
  rw [show q * b ^ d = q * b ^ ((d - 1 - i) + i + 1) by rw [← h1], Nat.pow_succ, Nat.pow_add]
  simp only [Nat.mul_assoc, Nat.mul_left_comm, Nat.mul_comm]
 by_cases hp : 0 < b ^ (d - 1 - i)
 ·rw [e, Nat.mul_add_div hp, Nat.mul_comm (q * b ^ i) b, Nat.mul_add_mod]
 ·have h0 : b ^ (d - 1 - i) = 0 := by omega
  simp [h0]
def allC (b d : Nat) : List (List Int) := (List.range (b ^ d)).map (coalX b d)
theorem range_mul (b m : Nat) : List.range (b * m) = (List.range b).flatMap fun q => (List.range m).map (q * m + ·) := by
 induction b with
 | zero => simp
 | succ b ih => rw [Nat.succ_mul, List.range_add, ih, List.range_succ, List.flatMap_append]; simp
theorem allC_succ {b d : Nat} (hb : 0 < b) : allC b (d + 1) = (List.range b).flatMap fun (q : Nat) => (allC b d).map ((q : Int) :: ·) := by
 unfold allC
 rw [Nat.pow_succ, Nat.mul_comm, range_mul, List.map_flatMap]
 have h0 : 0 < b ^ d := Nat.pow_pos hb
 rw [List.flatMap_def, List.flatMap_def]
 refine congrArg List.flatten (List.map_congr_left fun q hq => ?_)
 have hq := List.mem_range.1 hq
 rw [List.map_map, List.map_map]
 refine List.map_congr_left fun r hr => ?_
 have hr := List.mem_range.1 hr
 show coalX b (d + 1) (q * b ^ d + r) = (q : Int) :: coalX b d r
 rw [coalX_succ, coalX_mod, Nat.mul_comm q, Nat.mul_add_div h0, Nat.div_eq_of_lt hr, Nat.add_zero, Nat.mod_eq_of_lt hq]
theorem sumTo_take (l : List Int) : ∀ k, k ≤ l.length → sumTo l k = (l.take k).sum
 | 0, _ => by simp [sumTo]
 | k + 1, hk => by
  have e : l.getD k 0 = l[k] := by simp [show k < l.length by omega]
  rw [sumTo, sumTo_take l k (by omega), List.take_succ_eq_append_getElem (show k < l.length by omega), List.sum_append, e]
  simp
/-- The shovels of coal. -/
theorem sumTo_sum (l : List Int) : sumTo l l.length = l.sum := by rw [sumTo_take l _ (Nat.le_refl _), List.take_length]
theorem sum_nonneg {l : List Int} (h : ∀ v ∈ l, 0 ≤ v) : 0 ≤ l.sum := by
 induction l with
 | nil => simp
 | cons a l ih =>
  have h1 := h a (List.mem_cons_self ..)
  have h2 := ih fun v hv => h v (List.mem_cons_of_mem _ hv)
  rw [List.sum_cons]; omega
theorem allC_nonneg {b d : Nat} (hb : 0 < b) {t : List Int} (h : t ∈ allC b d) : 0 ≤ t.sum := by
 obtain ⟨n, _, rfl⟩ := List.mem_map.1 h
 exact sum_nonneg fun v hv => (coalX_val hb v hv).1
theorem pays_filter (sh : Nat) : ∀ d m, pays sh d m = (allC (sh + 1) d).filter fun t => decide (t.sum = (m : Int))
 | 0, m => by
  have e : allC (sh + 1) 0 = [[]] := by simp [allC, coalX]
  rw [e]
  show (if m = 0 then [[]] else []) = _
  by_cases h : m = 0
  ·subst h; rfl
  ·rw [if_neg h]
   have : decide (([] : List Int).sum = (m : Int)) = false := decide_eq_false (by simp; omega)
   rw [List.filter_cons, this]
   rfl
 | d + 1, m => by
  rw [allC_succ (show 0 < sh + 1 from Nat.succ_pos sh), List.filter_flatMap]
  show (List.range (min sh m + 1)).flatMap (fun n => (pays sh d (m - n)).map ((n : Int) :: ·)) = _
  have hin : ∀ n, n ≤ m → ((allC (sh + 1) d).map ((n : Int) :: ·)).filter (fun t => decide (t.sum = (m : Int))) = (pays sh d (m - n)).map ((n : Int) :: ·) := fun n hn => by
   rw [pays_filter sh d (m - n), List.filter_map]
   refine congrArg _ (List.filter_congr fun t ht => ?_)
   show decide (((n : Int) :: t).sum = (m : Int)) = _
   rw [List.sum_cons, Bool.eq_iff_iff, decide_eq_true_eq, decide_eq_true_eq]
   omega
  have hout : ∀ n, m < n → ((allC (sh + 1) d).map ((n : Int) :: ·)).filter (fun t => decide (t.sum = (m : Int))) = [] := fun n hn => by
   rw [List.filter_eq_nil_iff]
   intro t ht
   obtain ⟨u, hu, rfl⟩ := List.mem_map.1 ht
   have := allC_nonneg (Nat.succ_pos sh) hu
   rw [decide_eq_true_eq, List.sum_cons]
   omega
  obtain ⟨q, hq⟩ : ∃ q, sh + 1 = (min sh m + 1) + q := ⟨sh - min sh m, by omega⟩
  rw [show List.range (sh + 1) = List.range (min sh m + 1) ++ (List.range q).map (min sh m + 1 + ·) by rw [hq, List.range_add], List.flatMap_append]
  have e1 : (List.map (fun x => min sh m + 1 + x) (List.range q)).flatMap (fun (a : Nat) => List.filter (fun t => decide (t.sum = (m : Int))) (List.map ((a : Int) :: ·) (allC (sh + 1) d))) = [] := by
   rw [List.flatMap_eq_nil_iff]
   intro n hn
   obtain ⟨j, hj, rfl⟩ := List.mem_map.1 hn
   have hj := List.mem_range.1 hj
   exact hout _ (by omega)
  rw [e1, List.append_nil, List.flatMap_def, List.flatMap_def]
  refine congrArg _ (List.map_congr_left fun n hn => ?_)
  have hn := List.mem_range.1 hn
  exact (hin n (by omega)).symm
/-- What the reference's Least does with one coal more. -/
def stepC (p : List Int → Bool) (best : Option (List Int)) (t : List Int) : Option (List Int) := if ((match best with | none => true | some b => decide (t.sum < b.sum)) && p t) = true then some t else best
def leastTo (p : List Int → Bool) (b d : Nat) : Nat → Option (List Int)
 | 0 => none
 | k + 1 => stepC p (leastTo p b d k) (coalX b d k)
def preC (b d k : Nat) : List (List Int) := (List.range k).map (coalX b d)
theorem preC_succ (b d k : Nat) : preC b d (k + 1) = preC b d k ++ [coalX b d k] := by simp [preC, List.range_succ]
theorem leastTo_inv (p : List Int → Bool) (b d : Nat) : ∀ k, match leastTo p b d k with
    | none => ∀ t ∈ preC b d k, p t = false
    | some u => (preC b d k).find? (fun t => decide (t.sum = u.sum) && p t) = some u ∧ ∀ t ∈ preC b d k, p t = true → u.sum ≤ t.sum
 | 0 => fun t ht => by cases ht
 | k + 1 => by
  have ih := leastTo_inv p b d k
  show match stepC p (leastTo p b d k) (coalX b d k) with
   | none => _
   | some u => _
  rw [preC_succ]
  generalize preC b d k = l at *
  generalize coalX b d k = t at *
  cases hb : leastTo p b d k with
  | none =>
   rw [hb] at ih
   unfold stepC
   cases hp : p t with
   | false =>
    simp only [Bool.true_and, Bool.false_eq_true, if_false]
    intro u hu
    rcases List.mem_append.1 hu with h | h
    ·exact ih u h
    ·rw [List.mem_singleton.1 h]; exact hp
   | true =>
    simp only [Bool.true_and, if_true]
    refine ⟨?_, fun u hu hpu => ?_⟩
    ·rw [List.find?_append, List.find?_eq_none.2 fun u hu => by simp [ih u hu]]
     simp [hp]
    ·rcases List.mem_append.1 hu with h | h
     ·rw [ih u h] at hpu; cases hpu
     ·rw [List.mem_singleton.1 h]; exact Int.le_refl _
  | some v =>
   rw [hb] at ih
   obtain ⟨h1, h2⟩ := ih
   unfold stepC
   by_cases hc : (decide (t.sum < v.sum) && p t) = true
   ·simp only [hc, if_true]
    rw [Bool.and_eq_true, decide_eq_true_eq] at hc
    refine ⟨?_, fun u hu hpu => ?_⟩
    ·rw [List.find?_append, List.find?_eq_none.2 fun u hu => ?_]
     ·simp [hc.2]
     ·rw [Bool.and_eq_true, decide_eq_true_eq]
      rintro ⟨e, hpu⟩
      have := h2 u hu hpu
      omega
    ·rcases List.mem_append.1 hu with h | h
     ·have := h2 u h hpu
      omega
     ·rw [List.mem_singleton.1 h]; exact Int.le_refl _
   ·simp only [hc, if_false]
    refine ⟨?_, fun u hu hpu => ?_⟩
    ·show (l ++ [t]).find? _ = some v
     rw [List.find?_append, h1]
     rfl
    ·rcases List.mem_append.1 hu with h | h
     ·exact h2 u h hpu
     ·rw [List.mem_singleton.1 h] at hpu ⊢
      rw [Bool.and_eq_true, decide_eq_true_eq] at hc
      exact Int.not_lt.1 fun e => hc ⟨e, hpu⟩
theorem preC_all (b d : Nat) : preC b d (b ^ d) = allC b d := rfl
theorem sum_le {l : List Int} {m : Int} (h : ∀ v ∈ l, v ≤ m) : l.sum ≤ m * l.length := by
 induction l with
 | nil => simp
 | cons a l ih =>
  have h1 := h a (List.mem_cons_self ..)
  have h2 := ih fun v hv => h v (List.mem_cons_of_mem _ hv)
  rw [List.sum_cons, List.length_cons]
  have e : m * ((l.length + 1 : Nat) : Int) = m * (l.length : Int) + m := by rw [Int.natCast_add, Int.mul_add]; simp
  omega
theorem leastL_ref {x : S38} (hV : Valid x) : leastL x = leastTo (sureB x) (x.f4.toNat + 1) (x.f0 + 1).toNat ((x.f4.toNat + 1) ^ (x.f0 + 1).toNat) := by
 have hinv := leastTo_inv (sureB x) (x.f4.toNat + 1) (x.f0 + 1).toNat ((x.f4.toNat + 1) ^ (x.f0 + 1).toNat)
 rw [preC_all] at hinv
 have hf : ∀ m, findC x [] (x.f0 + 1).toNat m = (allC (x.f4.toNat + 1) (x.f0 + 1).toNat).find? fun t => decide (t.sum = (m : Int)) && sureB x t := fun m => by
  unfold findC
  rw [pays_filter, List.find?_filter]
  refine congrArg (fun q => List.find? q _) (funext fun t => ?_)
  rw [Bool.eq_iff_iff, decide_eq_true_eq, Bool.and_eq_true]
  rfl
 unfold leastL
 cases hb : leastTo (sureB x) (x.f4.toNat + 1) (x.f0 + 1).toNat ((x.f4.toNat + 1) ^ (x.f0 + 1).toNat) with
 | none =>
  rw [hb] at hinv
  rw [List.findSome?_eq_none_iff]
  intro m hm
  rw [hf, List.find?_eq_none]
  intro t ht
  simp [hinv t ht]
 | some u =>
  rw [hb] at hinv
  obtain ⟨h1, h2⟩ := hinv
  have hu := List.mem_of_find?_eq_some h1
  have hu0 := allC_nonneg (Nat.succ_pos _) hu
  have hum : u.sum ≤ (mostC x : Int) := by
   obtain ⟨n, _, rfl⟩ := List.mem_map.1 hu
   have := sum_le (l := coalX (x.f4.toNat + 1) (x.f0 + 1).toNat n) (m := (x.f4.toNat : Int)) fun v hv => by have := (coalX_val (b := x.f4.toNat + 1) (Nat.succ_pos _) v hv).2; omega
   rw [coalX_len] at this
   unfold mostC
   rw [Int.natCast_mul]
   exact this
  rw [List.findSome?_eq_some_iff]
  refine ⟨List.range u.sum.toNat, u.sum.toNat, List.range' (u.sum.toNat + 1) (mostC x - u.sum.toNat), ?_, ?_, fun j hj => ?_⟩
  ·rw [List.range_eq_range', List.range_eq_range', show mostC x + 1 = u.sum.toNat + (1 + (mostC x - u.sum.toNat)) by omega, ← List.range'_append_1, ← List.range'_append_1]
   simp
  ·rw [hf, show ((u.sum.toNat : Nat) : Int) = u.sum by omega]
   exact h1
  ·have hj := List.mem_range.1 hj
   rw [hf, List.find?_eq_none]
   intro t ht
   rw [Bool.and_eq_true, decide_eq_true_eq]
   rintro ⟨e, hp⟩
   have := h2 t ht hp
   omega
theorem sure_verd {x : S38} (hV : Valid x) (hne : truthL x ≠ []) (co : List Int) : (verd (cnt (fun t => wholeR x (toSc t) co x.f6) (truthsX x) : Nat) (truthsX x).length == 1) = sureB x co := by
 rw [verd_cnt _ (fun h => hne ((truthsX_nil hV).1 h))]
 have e : ((truthsX x).all fun t => wholeR x (toSc t) co x.f6) = sureB x co := by
  rw [all_truthsX hV fun s => wholeR x s co x.f6]
  unfold sureB
  refine congrArg _ (funext fun s => ?_)
  rw [← whole_kepts]
  rfl
 rw [e]
 cases sureB x co with
 | true => rfl
 | false => unfold vB; simp only [Bool.false_eq_true, if_false]; split <;> rfl
end Go.Proofs.Ytdgkhoflajdidaa
/- Sum, Single, Spare of the reference. -/
namespace Go.Proofs.Ytdgkhoflajdidaa
open Go.RowKit Go.Proofs.YtdgkhoflajdidaaW.PrintWords Go.Proofs.YtdgkhoflajdidaaW.PrintMore Go.Proofs.YtdgkhoflajdidaaW.PrintLast Go.Proofs.Ytdgkhoflajdidaa.Print
set_option linter.unusedVariables false
set_option linter.unusedSimpArgs false
set_option maxRecDepth 100000
set_option maxHeartbeats 4000000
/-- What a list of numbers is returned as. -/
def LiPost (l : List Int) (w : World) (e : Ending) (w' : World) : Prop := ∃ A c, e = .returned (.slice A l.length c) ∧ Kd.C (Kd.int .i64) w' A l.length l ∧ Below w.heap.size w w'
variable {x : S38} {cs : List Value} {A C D : Option Addr} {c : Nat} {L : List S75} {w : World}
end Go.Proofs.Ytdgkhoflajdidaa
/- What a law keeps. -/
namespace Go.Proofs.Ytdgkhoflajdidaa
open Go.RowKit Go.Proofs.YtdgkhoflajdidaaW.PrintWords Go.Proofs.YtdgkhoflajdidaaW.PrintMore Go.Proofs.YtdgkhoflajdidaaW.PrintLast Go.Proofs.Ytdgkhoflajdidaa.Print
/-- What a law keeps: the box of the coppers, and what was returned. -/
structure LwSt (w : World) (B : Array Value) (P : World → Prop) (W : World) : Prop where
 bel : Below w.heap.size w W
 box : Blk W w.heap.size B 28
 rows : P W
theorem LwSt.step {w : World} {B : Array Value} {P : World → Prop} {W V : World} (h : LwSt w B P W) (hP : ∀ W V, P W → Below W.heap.size W V → P V) (hb : Below W.heap.size W V) : LwSt w B P V :=
 ⟨bel2 h.bel hb, h.box.below hb, hP _ _ h.rows hb⟩
end Go.Proofs.Ytdgkhoflajdidaa
/- Coal, Coals, Shovels, Least of the reference. -/
namespace Go.Proofs.Ytdgkhoflajdidaa
open Go.RowKit Go.Proofs.YtdgkhoflajdidaaW.PrintWords Go.Proofs.YtdgkhoflajdidaaW.PrintMore Go.Proofs.YtdgkhoflajdidaaW.PrintLast Go.Proofs.Ytdgkhoflajdidaa.Print
set_option linter.unusedVariables false
set_option linter.unusedSimpArgs false
set_option maxRecDepth 100000
set_option maxHeartbeats 4000000
/-- The last m digits. -/
def coalTo (b d n m : Nat) : List Int := (List.range d).map fun i => if d - m ≤ i then ((n / b ^ (d - 1 - i) % b : Nat) : Int) else 0
theorem coalTo_zero (b d n : Nat) : coalTo b d n 0 = List.replicate d 0 := by
 unfold coalTo
 apply List.ext_getElem (by simp)
 intro i h1 h2
 have : i < d := by simpa using h2
 simp [show ¬ d ≤ i by omega]
theorem coalTo_all (b d n : Nat) : coalTo b d n d = coalX b d n := by
 unfold coalTo coalX
 exact List.map_congr_left fun i hi => by rw [if_pos (by omega)]
theorem coalTo_set {b d n m q : Nat} (hq : d = m + (q + 1)) : (coalTo b d n m).set q ((n / b ^ m % b : Nat) : Int) = coalTo b d n (m + 1) := by
 unfold coalTo
 apply List.ext_getElem (by simp)
 intro i h1 h2
 have hi : i < d := by simpa using h2
 rw [List.getElem_set]
 simp only [List.getElem_map, List.getElem_range]
 by_cases h : q = i
 ·subst h
  rw [if_pos rfl, if_pos (by omega), show d - 1 - q = m by omega]
 ·rw [if_neg h]
  by_cases h3 : d - m ≤ i
  ·rw [if_pos h3, if_pos (by omega)]
  ·rw [if_neg h3, if_neg (by omega)]
/-- What a list made anew is returned as: it is the caller's own. -/
def OwPost (l : List Int) (w : World) (e : Ending) (w' : World) : Prop := ∃ A c, e = .returned (.slice A l.length c) ∧ Below w.heap.size w w' ∧ w'.ownsRow w.heap.size 3 1 (.slice A l.length c) l.length (nums .i64 l)
theorem OwPost.li {l : List Int} {w : World} {e : Ending} {w' : World} (h : OwPost l w e w') : LiPost l w e w' := by
 obtain ⟨A, c, e1, hb, ho⟩ := h
 obtain ⟨A', c', e5, _, g5⟩ := own_C (Kd.int .i64) (.int .i64) rfl (fun _ _ => rfl) (xs := l) rfl (by simp [nums]) ho
 simp only [Value.slice.injEq, true_and] at e5
 exact ⟨A, c, e1, by rw [e5.1]; exact g5, hb⟩
theorem rCoal_calls (x : S38) (cs : List Value) (n : Nat) (w : World) (hx : k38.K w x cs) (h0 : 0 ≤ x.f0) (h1 : x.f0 ≤ 4) (h2 : 0 ≤ x.f4) (h3 : x.f4 ≤ 3) (hn : n ≤ 100000) : Calls Try.prog 49 #[.agg cs.toArray, .int .i64 n] w (OwPost (coalX (x.f4.toNat + 1) (x.f0 + 1).toNat n) w) := by
 obtain ⟨A5, c5, A6, c6, A9, c9, A10, c10, rfl, _⟩ := k38_open hx
 clear hx
 have hu := Try.underlying28
 obtain ⟨d, hd⟩ : ∃ d : Nat, x.f0 + 1 = (d : Int) := ⟨(x.f0 + 1).toNat, by omega⟩
 obtain ⟨b, hb⟩ : ∃ b : Nat, x.f4 + 1 = (b : Int) := ⟨(x.f4 + 1).toNat, by omega⟩
 have hd2 : (x.f0 + 1).toNat = d := by omega
 have hb2 : x.f4.toNat + 1 = b := by omega
 rw [hd2, hb2]
 have hmk := print_make (P := Try.prog) 22 3 .i64 8 Try.underlying22 info3 (by decide) d (by omega)
 generalize hw1 : w.alloc (.cells #[.int .i64 x.f0, .int .i64 x.f1, .int .i64 x.f2, .int .i64 x.f3, .int .i64 x.f4, .slice A5 x.f5.length c5, .slice A6 x.f6.length c6, .int .i64 x.f7.f0, .int .i64 x.f7.f1, .slice A9 x.f8.length c9, .slice A10 x.f9.length c10] 28) = w1
 have hb1 : Below w.heap.size w w1 := by rw [← hw1]; exact below_alloc (Below.refl _ _) _
 have hbx : Blk w1 w.heap.size #[.int .i64 x.f0, .int .i64 x.f1, .int .i64 x.f2, .int .i64 x.f3, .int .i64 x.f4, .slice A5 x.f5.length c5, .slice A6 x.f6.length c6, .int .i64 x.f7.f0, .int .i64 x.f7.f1, .slice A9 x.f8.length c9, .slice A10 x.f9.length c10] 28 := by rw [← hw1]; exact Blk.new w #[.int .i64 x.f0, .int .i64 x.f1, .int .i64 x.f2, .int .i64 x.f3, .int .i64 x.f4, .slice A5 x.f5.length c5, .slice A6 x.f6.length c6, .int .i64 x.f7.f0, .int .i64 x.f7.f1, .slice A9 x.f8.length c9, .slice A10 x.f9.length c10] 28 _ rfl
 have hown0 := own_made w1 w.heap.size 3 .i64 d hb1.size (by omega)
 have hwz : w1.heap.size = w.heap.size + 1 := by rw [← hw1]; simp
 rw [hwz, ← coalTo_zero b d n] at hown0
 have HS := Aside0.mk (And.intro (below_alloc hb1 (.cells (madeCells #[.int .i64 0] d) 3)) (And.intro (hbx.alloc (.cells (madeCells #[.int .i64 0] d) 3)) hown0))
 have k0 := HS.out.2.1.cell 0 _ rfl
 have k0' := hbx.cell 0 _ rfl
 clear hb1 hbx hown0 hd2 hb2
 subst hw1
 go_enter Try.func49, Try.ntmps49
 go_wp2
 generalize ((w.alloc (.cells #[.int .i64 x.f0, .int .i64 x.f1, .int .i64 x.f2, .int .i64 x.f3, .int .i64 x.f4, .slice A5 x.f5.length c5, .slice A6 x.f6.length c6, .int .i64 x.f7.f0, .int .i64 x.f7.f1, .slice A9 x.f8.length c9, .slice A10 x.f9.length c10] 28)).alloc (.cells (madeCells #[.int .i64 0] d) 3)) = W at *
 clear k0 k0' hmk hwz
 have hx0 : x.f0 = (d : Int) - 1 := by omega
 have hx0r : 0 + x.f0 = (d : Int) - 1 := by omega
 have hb4 : (b : Int) ≤ 4 := by omega
 have hb0 : (1 : Int) ≤ b := by omega
 have hd5 : (d : Int) ≤ 5 := by omega
 clear hd h0 h1 h2 h3
 rw [hx0]
 clear hx0 hx0r
 go_loopw [1, 6] (fun s1 s6 wr => ∃ m q : Nat, d = m + q ∧ s1 = .int .i64 ((n / b ^ m : Nat) : Int) ∧ s6 = .int .i64 ((q : Int) - 1) ∧ Aside0 (Below w.heap.size w wr ∧ Blk wr w.heap.size #[.int .i64 x.f0, .int .i64 x.f1, .int .i64 x.f2, .int .i64 x.f3, .int .i64 x.f4, .slice A5 x.f5.length c5, .slice A6 x.f6.length c6, .int .i64 x.f7.f0, .int .i64 x.f7.f1, .slice A9 x.f8.length c9, .slice A10 x.f9.length c10] 28 ∧ wr.ownsRow w.heap.size 3 1 (.slice (some ⟨w.heap.size + 1, 0, none⟩) d d) d (nums .i64 (coalTo b d n m)))) (fun _ s6 _ => (intOf s6 + 1).toNat)
 case atStart => exact ⟨0, d, by omega, by simp, rfl, HS⟩
 case round =>
  obtain ⟨m, q, hmq, rfl, rfl, HW⟩ := hrel
  cases q with
  | zero =>
   obtain rfl : m = d := by omega
   have hneg : ¬ (0 : Int) ≤ ((0 : Nat) : Int) - 1 := by omega
   have hown := HW.out.2.2
   rw [coalTo_all] at hown
   have hl := coalX_len b m n
   have HE := Aside0.mk (And.intro HW.out.1 hown)
   have HL := Lib.hid hl
   clear hown hl hmq
   go_wp2
   refine bodyPost_ret (results_tmp rfl _ _ _) rfl ?_
   unfold OwPost
   rw [HL.out]
   exact ⟨_, _, rfl, HE.out⟩
  | succ q =>
   have e1 : ((q + 1 : Nat) : Int) - 1 = (q : Int) := by omega
   rw [e1]
   have hq0 : (0 : Int) ≤ (q : Int) := by omega
   have hqd : (q : Int) < (d : Int) := by omega
   have k4 := HW.out.2.1.cell 4 _ rfl
   have hat := own_at (own_bel HW.out.2.2 (below_drew (Below.refl wr.heap.size wr))) (q : Int) hq0 hqd
   have hmod := tmod_nat (n / b ^ m) b
   have hdiv := tdiv_nat (n / b ^ m) b
   have hnn : n / b ^ m ≤ 100000 := Nat.le_trans (Nat.div_le_self _ _) hn
   have hst := coalTo_set (b := b) (n := n) hmq
   have hsw := own_store (own_bel HW.out.2.2 (below_drew (Below.refl wr.heap.size wr))) (q : Int) ((n / b ^ m % b : Nat) : Int)
   rw [Int.toNat_natCast, hst] at hsw
   rw [Int.toNat_natCast] at hat
   have hdd : n / b ^ (m + 1) = n / b ^ m / b := by rw [Nat.pow_succ, Nat.div_div_eq_div_mul]
   have HDD := Lib.hid hdd
   have HSW := Aside0.mk hsw.1
   have HB2 := Aside0.mk (And.intro ((bel2 HW.out.1 (below_drew (Below.refl wr.heap.size wr))).setCell (p := ⟨w.heap.size + 1, q, none⟩) (by show w.heap.size ≤ w.heap.size + 1; omega) (.int .i64 ((n / b ^ m % b : Nat) : Int))) ((HW.out.2.1.below (below_drew (Below.refl wr.heap.size wr))).set_other (p := ⟨w.heap.size + 1, q, none⟩) (by show w.heap.size ≠ w.heap.size + 1; omega) (.int .i64 ((n / b ^ m % b : Nat) : Int))))
   obtain ⟨z1, y1⟩ := hat
   generalize rd (coalTo b d n m) q = old at *
   clear hst hsw hdd e1
   generalize hmm : n / b ^ m % b = mm at *
   generalize hnd : n / b ^ m = nn at *
   generalize hqq : nn / b = qq at *
   have hnz : (nn : Int) ≤ 100000 := by omega
   have hbn : ¬ b = 0 := by omega
   have hbz : ((b : Int) == 0) = false := by simp; omega
   have hwb : wrap64 (b : Int) = (b : Int) := IntWalk.wrap64_in _ (by omega)
   have hqn : qq ≤ nn := by rw [← hqq]; exact Nat.div_le_self _ _
   have hdq : (nn : Int) / (b : Int) = (qq : Int) := by rw [← hqq]; simp
   have hwq : wrap64 (qq : Int) = (qq : Int) := IntWalk.wrap64_in _ (by omega)
   have hwq2 : IntKind.i64.wrap (qq : Int) = (qq : Int) := (i64_w _).trans hwq
   have HMQ := Lib.hid hmq
   clear hmq hqn hqq hnd hmm
   go_wp2
   refine start_ (n := 15) (S := fun w' => w'.cell? ⟨w.heap.size, 4, none⟩ = some (.int .i64 x.f4)) (ds := []) #[false, false, false, false, false, false, false, false, false, false, false, false, false, false, false] (by kernel_rfl) rfl rfl (k4) (fun hHeld => ?_)
   refine pure_ (i := 0) (N := some 17) (v := ?_) (a' := ?_) (bs 15 1) rfl rfl (by kernel_rfl) (fun _ _ _ h => h) (Or.inl ⟨by rfl, ?_⟩) ?_ ?_
   rotate_left
   ·intro w'
    go_simp
    with_reducible rfl
   rotate_left
   ·simp only [Act.put, List.setIfInBounds_toArray, List.set_cons_zero, List.set_cons_succ, i64_w, i32_w]
    rfl
   refine pure_ (i := 1) (N := some 18) (v := ?_) (a' := ?_) (bs 15 3) rfl rfl (by kernel_rfl) (fun _ _ _ h => h) (Or.inl ⟨by rfl, ?_⟩) ?_ ?_
   rotate_left
   ·intro w'
    go_simp
    with_reducible rfl
   rotate_left
   ·simp only [Act.put, List.setIfInBounds_toArray, List.set_cons_zero, List.set_cons_succ, i64_w, i32_w]
    rfl
   refine pure_ (i := 2) (N := some 19) (v := ?_) (a' := ?_) (bs 15 7) rfl rfl (by kernel_rfl) (fun _ _ _ h => h) (Or.inl ⟨by rfl, ?_⟩) ?_ ?_
   rotate_left
   ·intro w'
    go_simp
    with_reducible rfl
   rotate_left
   ·simp only [Act.put, List.setIfInBounds_toArray, List.set_cons_zero, List.set_cons_succ, i64_w, i32_w]
    rfl
   refine pure_ (i := 3) (N := some 20) (v := ?_) (a' := ?_) (bs 15 15) rfl rfl (by kernel_rfl) (fun _ _ _ h => h) (Or.inl ⟨by rfl, ?_⟩) ?_ ?_
   rotate_left
   ·intro w'
    go_simp
    with_reducible rfl
   rotate_left
   ·simp only [Act.put, List.setIfInBounds_toArray, List.set_cons_zero, List.set_cons_succ, i64_w, i32_w]
    rfl
   refine pure_ (i := 7) (N := some 24) (v := ?_) (a' := ?_) (bs 15 143) rfl rfl (by kernel_rfl) (fun _ _ _ h => h) (Or.inl ⟨by rfl, ?_⟩) ?_ ?_
   rotate_left
   ·intro w'
    go_simp
    with_reducible rfl
   rotate_left
   ·simp only [Act.put, List.setIfInBounds_toArray, List.set_cons_zero, List.set_cons_succ, i64_w, i32_w]
    rfl
   refine pure_ (i := 8) (N := some 25) (v := ?_) (a' := ?_) (bs 15 399) rfl rfl (by kernel_rfl) (fun _ _ _ h => h) (Or.inl ⟨by rfl, ?_⟩) ?_ ?_
   rotate_left
   ·intro w'
    go_simp
    with_reducible rfl
   rotate_left
   ·simp only [Act.put, List.setIfInBounds_toArray, List.set_cons_zero, List.set_cons_succ, i64_w, i32_w]
    rfl
   refine take_ (i := 4) (N := some 21) (v := ?_) (a' := ?_) (bs 15 415) rfl rfl (by kernel_rfl) (fun _ _ _ h => h) (Or.inl ⟨by rfl, ?_⟩) hHeld ?_ ?_
   rotate_left
   ·intro w' s0
    go_simp
    with_reducible rfl
   rotate_left
   ·simp only [Act.put, List.setIfInBounds_toArray, List.set_cons_zero, List.set_cons_succ, i64_w, i32_w]
    rfl
   refine pure_ (i := 5) (N := some 22) (v := ?_) (a' := ?_) (bs 15 447) rfl rfl (by kernel_rfl) (fun _ _ _ h => h) (Or.inl ⟨by rfl, ?_⟩) ?_ ?_
   rotate_left
   ·intro w'
    go_simp
    with_reducible rfl
   rotate_left
   ·simp only [Act.put, List.setIfInBounds_toArray, List.set_cons_zero, List.set_cons_succ, i64_w, i32_w]
    rfl
   refine pure_ (i := 6) (N := some 23) (v := ?_) (a' := ?_) (bs 15 511) rfl rfl (by kernel_rfl) (fun _ _ _ h => h) (Or.inl ⟨by rfl, ?_⟩) ?_ ?_
   rotate_left
   ·intro w'
    go_simp
    with_reducible rfl
   rotate_left
   ·simp only [Act.put, List.setIfInBounds_toArray, List.set_cons_zero, List.set_cons_succ, i64_w, i32_w]
    rfl
   refine pure_ (i := 12) (N := some 29) (v := ?_) (a' := ?_) (bs 15 4607) rfl rfl (by kernel_rfl) (fun _ _ _ h => h) (Or.inl ⟨by rfl, ?_⟩) ?_ ?_
   rotate_left
   ·intro w'
    go_simp
    with_reducible rfl
   rotate_left
   ·simp only [Act.put, List.setIfInBounds_toArray, List.set_cons_zero, List.set_cons_succ, i64_w, i32_w]
    rfl
   refine take_ (i := 9) (N := some 26) (v := ?_) (a' := ?_) (bs 15 5119) rfl rfl (by kernel_rfl) (fun _ _ _ h => h) (Or.inl ⟨by rfl, ?_⟩) hHeld ?_ ?_
   rotate_left
   ·intro w' s0
    go_simp
    with_reducible rfl
   rotate_left
   ·simp only [Act.put, List.setIfInBounds_toArray, List.set_cons_zero, List.set_cons_succ, i64_w, i32_w]
    rfl
   refine pure_ (i := 10) (N := some 27) (v := ?_) (a' := ?_) (bs 15 6143) rfl rfl (by kernel_rfl) (fun _ _ _ h => h) (Or.inl ⟨by rfl, ?_⟩) ?_ ?_
   rotate_left
   ·intro w'
    go_simp
    with_reducible rfl
   rotate_left
   ·simp only [Act.put, List.setIfInBounds_toArray, List.set_cons_zero, List.set_cons_succ, i64_w, i32_w]
    rfl
   refine pure_ (i := 11) (N := some 28) (v := ?_) (a' := ?_) (bs 15 8191) rfl rfl (by kernel_rfl) (fun _ _ _ h => h) (Or.inl ⟨by rfl, ?_⟩) ?_ ?_
   rotate_left
   ·intro w'
    go_simp
    with_reducible rfl
   rotate_left
   ·simp only [Act.put, List.setIfInBounds_toArray, List.set_cons_zero, List.set_cons_succ, i64_w, i32_w]
    rfl
   refine one_ (i := 13) (N := none) (bs 15 16383) rfl rfl (by kernel_rfl) (by decide) (fun K hK => ?_)
   refine skip_ (w1 := ?_) (by rfl) rfl ?_ ?_
   rotate_left
   ·go_simp
    rfl
   refine hK.out _ _ ((cell_far (p := ⟨w.heap.size + 1, q, none⟩) (a := ⟨w.heap.size, 4, none⟩) (by show w.heap.size ≠ w.heap.size + 1; omega) _).trans hHeld) (fun hHeld => ?_)
   clear hK K
   refine pure_ (i := 14) (N := some 1) (v := ?_) (a' := ?_) (bs 15 32767) rfl rfl (by kernel_rfl) (fun _ _ _ h => h) (Or.inl ⟨by rfl, ?_⟩) ?_ ?_
   rotate_left
   ·intro w'
    go_simp
    with_reducible rfl
   rotate_left
   ·simp only [Act.put, List.setIfInBounds_toArray, List.set_cons_zero, List.set_cons_succ, i64_w, i32_w]
    rfl
   refine done_ (by kernel_rfl) ?_
   have HN := Aside0.mk (And.intro HB2.out.1 (And.intro HB2.out.2 HSW.out))
   clear hHeld z1 y1 k4
   go_wp2
   go_roundw
   case rel => exact ⟨m + 1, q, by have := HMQ.out; omega, by rw [HDD.out], rfl, HN⟩
   case measure => simp [intOf]
theorem rCoals_calls (x : S38) (cs : List Value) (w : World) (hx : k38.K w x cs) (h0 : 0 ≤ x.f0) (h1 : x.f0 ≤ 4) (h2 : 0 ≤ x.f4) (h3 : x.f4 ≤ 3) : Calls Try.prog 50 #[.agg cs.toArray] w fun e w' => e = .returned (.int .i64 (((x.f4.toNat + 1) ^ (x.f0 + 1).toNat : Nat) : Int)) ∧ Below w.heap.size w w' := by
 obtain ⟨A5, c5, A6, c6, A9, c9, A10, c10, rfl, _⟩ := k38_open hx
 clear hx
 have hu := Try.underlying28
 obtain ⟨d, hd⟩ : ∃ d : Nat, x.f0 = (d : Int) := ⟨x.f0.toNat, by omega⟩
 obtain ⟨b, hb⟩ : ∃ b : Nat, x.f4 + 1 = (b : Int) := ⟨(x.f4 + 1).toNat, by omega⟩
 have hd2 : (x.f0 + 1).toNat = d + 1 := by omega
 have hb2 : x.f4.toNat + 1 = b := by omega
 have HPW := Aside0.mk (show ∀ k, k ≤ 5 → b ^ k ≤ 1024 from fun k hk => Nat.le_trans (Nat.pow_le_pow_left (show b ≤ 4 by omega) k) (Nat.le_trans (Nat.pow_le_pow_right (by decide) hk) (by decide)))
 rw [hd2, hb2]
 have ZB := Aside0.mk (And.intro (below_alloc (Below.refl w.heap.size w) (.cells #[.int .i64 x.f0, .int .i64 x.f1, .int .i64 x.f2, .int .i64 x.f3, .int .i64 x.f4, .slice A5 x.f5.length c5, .slice A6 x.f6.length c6, .int .i64 x.f7.f0, .int .i64 x.f7.f1, .slice A9 x.f8.length c9, .slice A10 x.f9.length c10] 28)) (Blk.new w #[.int .i64 x.f0, .int .i64 x.f1, .int .i64 x.f2, .int .i64 x.f3, .int .i64 x.f4, .slice A5 x.f5.length c5, .slice A6 x.f6.length c6, .int .i64 x.f7.f0, .int .i64 x.f7.f1, .slice A9 x.f8.length c9, .slice A10 x.f9.length c10] 28 _ rfl))
 have HD := Lib.hid hd
 have hb4 : (b : Int) ≤ 4 := by omega
 have hd4 : (d : Int) ≤ 4 := by omega
 clear hd2 hb2 hd h1 h2 h3 h0
 go_enter Try.func50, Try.ntmps50
 go_wp2
 generalize (w.alloc (.cells #[.int .i64 x.f0, .int .i64 x.f1, .int .i64 x.f2, .int .i64 x.f3, .int .i64 x.f4, .slice A5 x.f5.length c5, .slice A6 x.f6.length c6, .int .i64 x.f7.f0, .int .i64 x.f7.f1, .slice A9 x.f8.length c9, .slice A10 x.f9.length c10] 28)) = W at *
 go_loopw [3, 4] (fun s3 s4 wr => ∃ k : Nat, k ≤ d + 1 ∧ s3 = .int .i64 ((b ^ k : Nat) : Int) ∧ s4 = .int .i64 k ∧ Aside0 (Below w.heap.size w wr ∧ Blk wr w.heap.size #[.int .i64 x.f0, .int .i64 x.f1, .int .i64 x.f2, .int .i64 x.f3, .int .i64 x.f4, .slice A5 x.f5.length c5, .slice A6 x.f6.length c6, .int .i64 x.f7.f0, .int .i64 x.f7.f1, .slice A9 x.f8.length c9, .slice A10 x.f9.length c10] 28)) (fun _ s4 _ => d + 1 - (intOf s4).toNat)
 case atStart => exact ⟨0, Nat.zero_le _, rfl, rfl, ZB⟩
 case round =>
  obtain ⟨k, hk, rfl, rfl, HW⟩ := hrel
  have k0 := HW.out.2.cell 0 _ rfl
  rw [HD.out] at k0
  have k4 := HW.out.2.cell 4 _ rfl
  by_cases hlt : k < d + 1
  ·have hkz : (k : Int) ≤ (d : Int) := by omega
   have hp := HPW.out k (by omega)
   have HPS := Lib.hid (Nat.pow_succ (n := b) (m := k))
   generalize b ^ k = q at *
   have hbd : (q : Int) * (b : Int) ≤ 4096 ∧ 0 ≤ (q : Int) * (b : Int) := by
    have h1 : q * b ≤ 1024 * 4 := Nat.mul_le_mul hp (by omega)
    refine ⟨by exact_mod_cast h1, by exact_mod_cast Nat.zero_le _⟩
   have hmul : wrap64 ((q : Int) * (b : Int)) = (q : Int) * (b : Int) := IntWalk.wrap64_in _ (by omega)
   go_wp2
   go_roundw
   case rel => exact ⟨k + 1, by omega, by rw [HPS.out]; simp [hmul], by go_num, HW⟩
   case measure => simp [intOf]; omega
  ·obtain rfl : k = d + 1 := by omega
   have hkz : ¬ ((d + 1 : Nat) : Int) ≤ (d : Int) := by omega
   go_wp2
   go_ret
   exact ⟨rfl, HW.out.1⟩
theorem rShovels_calls (A : Option Addr) (c : Nat) (l : List Int) (w : World) (hr : Kd.C (Kd.int .i64) w A l.length l) (h : ∀ n ∈ l, 0 ≤ n ∧ n ≤ 3) (hl : l.length ≤ 5) :
    Calls Try.prog 65 #[.slice A l.length c] w fun e w' => e = .returned (.int .i64 l.sum) ∧ w = w' := by
 have HR := Aside0.mk hr
 have HB := Aside0.mk (sumTo_bd h)
 have HV := Aside0.mk h
 have HE := Lib.hid (sumTo_sum l)
 clear hr h
 go_enter Try.func65, Try.ntmps65
 go_wp2
 go_loop [3, 4] (fun s3 s4 => ∃ kk : Nat, kk ≤ l.length ∧ s4 = .int .i64 kk ∧ s3 = .int .i64 (sumTo l kk)) (fun _ i => l.length - (intOf i).toNat)
 case atStart => exact ⟨0, Nat.zero_le _, rfl, rfl⟩
 case round =>
  obtain ⟨kk, hkk, rfl, rfl⟩ := hrel
  by_cases hlt : kk < l.length
  ·have hltz : (kk : Int) < (l.length : Int) := by omega
   obtain ⟨ad, hA, hc0⟩ := row_at_int HR.out kk hlt
   obtain rfl := hA
   have h1 := HB.out kk hkk
   have h2 := HV.out l[kk] (List.getElem_mem hlt)
   have hs : sumTo l (kk + 1) = sumTo l kk + l[kk] := by simp [sumTo, hlt]
   generalize sumTo l kk = s at *
   generalize l[kk] = n at *
   have HS := Lib.hid hs
   obtain ⟨h10, h11⟩ := h1
   obtain ⟨h20, h21⟩ := h2
   clear hs
   go_wp2
   go_round
   case rel => exact ⟨kk + 1, by omega, by go_num, by rw [HS.out]⟩
   case measure => simp [intOf]; omega
  ·have hltz : ¬ (kk : Int) < (l.length : Int) := by omega
   obtain rfl : kk = l.length := by omega
   rw [HE.out]
   go_wp2
   go_ret
   exact ⟨rfl, rfl⟩
end Go.Proofs.Ytdgkhoflajdidaa
/- Least of the reference. -/
namespace Go.Proofs.Ytdgkhoflajdidaa
open Go.RowKit Go.Proofs.YtdgkhoflajdidaaW.PrintWords Go.Proofs.YtdgkhoflajdidaaW.PrintMore Go.Proofs.YtdgkhoflajdidaaW.PrintLast Go.Proofs.Ytdgkhoflajdidaa.Print
set_option linter.unusedVariables false
set_option linter.unusedSimpArgs false
set_option maxRecDepth 100000
set_option maxHeartbeats 4000000
/-- Are all promises kept always with coal, as the reference counts it. -/
def pLeast (x : S38) (L : List S75) (co : List Int) : Bool := verd (cnt (fun t => wholeR x (toSc t) co x.f6) L : Nat) L.length == 1
def LeR (best : Option (List Int)) (w : World) (e : Ending) (w' : World) : Prop := ∃ A c, e = .returned (.tuple #[.slice A (best.getD []).length c, .bool best.isSome]) ∧ Kd.C (Kd.int .i64) w' A (best.getD []).length (best.getD []) ∧ Below w.heap.size w w'
theorem coal_play {x : S38} {s : Sc} {co : List Int} (hV : Valid x) (hs : ScOk s) (hn : (co.length : Int) = x.f0 + 1) (h : ∀ v ∈ co, 0 ≤ v ∧ v ≤ 3) : PlayOk x s co x.f6 :=
 hV.play hs hn h hV.wantN (fun n hn => ⟨(hV.wantV n hn).1, by have := (hV.wantV n hn).2; omega⟩)
theorem coalX_ok {x : S38} (hV : Valid x) (n : Nat) : (((coalX (x.f4.toNat + 1) (x.f0 + 1).toNat n).length : Nat) : Int) = x.f0 + 1 ∧ ∀ v ∈ coalX (x.f4.toNat + 1) (x.f0 + 1).toNat n, 0 ≤ v ∧ v ≤ x.f4 := by
 have h0 := hV.last0
 have h1 := hV.sh0
 refine ⟨by rw [coalX_len]; omega, fun v hv => ?_⟩
 have := coalX_val (Nat.succ_pos _) v hv
 omega
/-- The state of Least's loop. -/
structure LeSt (w : World) (B : Array Value) (best : Option (List Int)) (v6 v7 : Value) (W : World) : Prop where
 bel : Below w.heap.size w W
 box : Blk W w.heap.size B 28
 row : ∃ A c, v6 = .slice A (best.getD []).length c ∧ Kd.C (Kd.int .i64) W A (best.getD []).length (best.getD [])
 is : v7 = .bool best.isSome
 ok : ∀ l, best = some l → l.length ≤ 5 ∧ ∀ v ∈ l, 0 ≤ v ∧ v ≤ 3
theorem LeSt.below {w : World} {B : Array Value} {best : Option (List Int)} {v6 v7 : Value} {W V : World} (h : LeSt w B best v6 v7 W) (hb : Below W.heap.size W V) : LeSt w B best v6 v7 V :=
 ⟨bel2 h.bel hb, h.box.below hb, by obtain ⟨A, c, e, g⟩ := h.row; exact ⟨A, c, e, Kd.C_below g hb⟩, h.is, h.ok⟩
theorem rLeast_calls (x : S38) (cs : List Value) (A : Option Addr) (c : Nat) (L : List S75) (w : World) (hx : k38.K w x cs) (hV : Valid x) (hL : Kd.C k75 w A L.length L) (hin : ∀ t ∈ L, InSc x (toSc t) ∧ t.f1.length = x.f8.length) (hn : L.length ≤ 3000) :
    Calls Try.prog 66 #[.agg cs.toArray, .slice A L.length c] w (LeR (leastTo (pLeast x L) (x.f4.toNat + 1) (x.f0 + 1).toNat ((x.f4.toNat + 1) ^ (x.f0 + 1).toNat)) w) := by
 have HCO := Aside0.mk (fun n (hn : n ≤ 100000) V (hb : Below w.heap.size w V) => rCoal_calls x cs n V (k38.K_below hb hx) hV.last0 hV.last1 hV.sh0 hV.sh1 hn)
 have HCS := Aside0.mk (fun V (hb : Below w.heap.size w V) => rCoals_calls x cs V (k38.K_below hb hx) hV.last0 hV.last1 hV.sh0 hV.sh1)
 have HX := Aside0.mk hx
 obtain ⟨A5, c5, A6, c6, A9, c9, A10, c10, rfl, _⟩ := k38_open hx
 have HWH := Aside0.mk (fun (co : List Int) (hcn : (co.length : Int) = x.f0 + 1) (hcv : ∀ v ∈ co, 0 ≤ v ∧ v ≤ 3) V (hb : Below w.heap.size w V) C d (hC : Kd.C (Kd.int .i64) V C co.length co) => rWholes_calls (x := x) (c := c) (d := d) (d' := c6) (L := L) (co := co) (wa := x.f6) ⟨k38.K_below hb hx, Kd.C_below hL hb, hC, (k38_rows (k38.K_below hb hx)).2, fun t ht => ⟨coal_play hV ((hin t ht).1.ok hV) hcn hcv, by have := (hin t ht).2; have := hV.lossN; omega⟩, hn, hV.last0, hV.last1⟩)
 clear hx hL
 have hu := Try.underlying28
 have HOK := Aside0.mk (fun n => coalX_ok hV n)
 have hf0 := hV.last0
 have hf1 := hV.last1
 have hs0 := hV.sh0
 have hs1 := hV.sh1
 obtain ⟨b, hb⟩ : ∃ b, x.f4.toNat + 1 = b := ⟨_, rfl⟩
 obtain ⟨d, hd⟩ : ∃ d, (x.f0 + 1).toNat = d := ⟨_, rfl⟩
 have hpw : b ^ d ≤ 1024 := Nat.le_trans (Nat.pow_le_pow_left (show b ≤ 4 by omega) d) (Nat.le_trans (Nat.pow_le_pow_right (by decide) (show d ≤ 5 by omega)) (by decide))
 have HSH := Lib.hid hs1
 have HF1 := Lib.hid hf1
 rw [hb, hd] at HCO HCS HOK
 rw [hb, hd]
 clear hb hd hf0 hf1 hs0 hs1 hV hin hn
 have HST := Aside0.mk (show ∀ k, leastTo (pLeast x L) b d (k + 1) = stepC (pLeast x L) (leastTo (pLeast x L) b d k) (coalX b d k) from fun k => rfl)
 have HPL := Aside0.mk (show ∀ co, pLeast x L co = (verd (cnt (fun t => wholeR x (toSc t) co x.f6) L : Nat) L.length == 1) from fun co => rfl)
 have HS0 := Lib.hid (show leastTo (pLeast x L) b d 0 = none from rfl)
 generalize leastTo (pLeast x L) b d = lt at *
 generalize b ^ d = M at *
 have ZB : LeSt w #[.int .i64 x.f0, .int .i64 x.f1, .int .i64 x.f2, .int .i64 x.f3, .int .i64 x.f4, .slice A5 x.f5.length c5, .slice A6 x.f6.length c6, .int .i64 x.f7.f0, .int .i64 x.f7.f1, .slice A9 x.f8.length c9, .slice A10 x.f9.length c10] (lt 0) (.slice none 0 0) (.bool false) (w.alloc (.cells #[.int .i64 x.f0, .int .i64 x.f1, .int .i64 x.f2, .int .i64 x.f3, .int .i64 x.f4, .slice A5 x.f5.length c5, .slice A6 x.f6.length c6, .int .i64 x.f7.f0, .int .i64 x.f7.f1, .slice A9 x.f8.length c9, .slice A10 x.f9.length c10] 28)) := ⟨below_alloc (Below.refl _ _) _, Blk.new w #[.int .i64 x.f0, .int .i64 x.f1, .int .i64 x.f2, .int .i64 x.f3, .int .i64 x.f4, .slice A5 x.f5.length c5, .slice A6 x.f6.length c6, .int .i64 x.f7.f0, .int .i64 x.f7.f1, .slice A9 x.f8.length c9, .slice A10 x.f9.length c10] 28 _ rfl, by rw [HS0.out]; exact ⟨none, 0, rfl, nil_int _⟩, by rw [HS0.out]; rfl, fun l h => by rw [HS0.out] at h; cases h⟩
 have ZB := Aside0.mk ZB
 go_enter Try.func66, Try.ntmps66
 go_wp2
 generalize (w.alloc (.cells #[.int .i64 x.f0, .int .i64 x.f1, .int .i64 x.f2, .int .i64 x.f3, .int .i64 x.f4, .slice A5 x.f5.length c5, .slice A6 x.f6.length c6, .int .i64 x.f7.f0, .int .i64 x.f7.f1, .slice A9 x.f8.length c9, .slice A10 x.f9.length c10] 28)) = W at *
 go_loopw [6, 7, 8] (fun s6 s7 s8 wr => ∃ k : Nat, k ≤ M ∧ s8 = .int .i64 k ∧ Aside0 (LeSt w #[.int .i64 x.f0, .int .i64 x.f1, .int .i64 x.f2, .int .i64 x.f3, .int .i64 x.f4, .slice A5 x.f5.length c5, .slice A6 x.f6.length c6, .int .i64 x.f7.f0, .int .i64 x.f7.f1, .slice A9 x.f8.length c9, .slice A10 x.f9.length c10] (lt k) s6 s7 wr)) (fun _ _ s8 _ => M - (intOf s8).toNat)
 case atStart => exact ⟨0, Nat.zero_le _, rfl, ZB⟩
 case round =>
  obtain ⟨k, hk, rfl, HW⟩ := hrel
  clear ZB
  have k0 := HW.out.box.cell 0 _ rfl
  have k1 := HW.out.box.cell 1 _ rfl
  have k2 := HW.out.box.cell 2 _ rfl
  have k3 := HW.out.box.cell 3 _ rfl
  have k4 := HW.out.box.cell 4 _ rfl
  have k5 := HW.out.box.cell 5 _ rfl
  have k6 := HW.out.box.cell 6 _ rfl
  have k7 := HW.out.box.cell 7 _ rfl
  have k8 := HW.out.box.cell 8 _ rfl
  have k9 := HW.out.box.cell 9 _ rfl
  have k10 := HW.out.box.cell 10 _ rfl
  go_wp2_with fail
  refine (HCS.out _ HW.out.bel).mono ?_
  rintro e w1 ⟨rfl, hb⟩
  have H1 := Aside0.mk (HW.out.below hb)
  clear hb HW k0 k1 k2 k3 k4 k5 k6 k7 k8 k9 k10
  by_cases hlt : k < M
  ·have hltz : (k : Int) < (M : Int) := by omega
   have k0 := H1.out.box.cell 0 _ rfl
   have k1 := H1.out.box.cell 1 _ rfl
   have k2 := H1.out.box.cell 2 _ rfl
   have k3 := H1.out.box.cell 3 _ rfl
   have k4 := H1.out.box.cell 4 _ rfl
   have k5 := H1.out.box.cell 5 _ rfl
   have k6 := H1.out.box.cell 6 _ rfl
   have k7 := H1.out.box.cell 7 _ rfl
   have k8 := H1.out.box.cell 8 _ rfl
   have k9 := H1.out.box.cell 9 _ rfl
   have k10 := H1.out.box.cell 10 _ rfl
   go_wp2_with fail
   refine (HCO.out k (by omega) _ H1.out.bel).mono ?_
   intro e w2 hco
   obtain ⟨D, dc, rfl, hC, hb⟩ := hco.li
   have H2 := Aside0.mk (H1.out.below hb)
   have HC2 := Aside0.mk hC
   clear hco hC hb H1 k0 k1 k2 k3 k4 k5 k6 k7 k8 k9 k10
   have hst := HST.out k
   have hok := HOK.out k
   have hcl := coalX_len b d k
   generalize coalX b d k = co at *
   have hcv : ∀ v ∈ co, 0 ≤ v ∧ v ≤ 3 := fun v hv => ⟨(hok.2 v hv).1, by have := (hok.2 v hv).2; have := HSH.out; omega⟩
   have hc5 : co.length ≤ 5 := by have := hok.1; have := HF1.out; omega
   have hwh := HWH.out co hok.1 hcv
   have hpl := HPL.out co
   have HCV := Aside0.mk (And.intro hc5 hcv)
   obtain ⟨is, his⟩ : ∃ is, (lt k).isSome = is := ⟨_, rfl⟩
   generalize verd (cnt (fun t => wholeR x (toSc t) co x.f6) L : Nat) L.length = vd at *
   cases hbk : lt k with
   | none =>
    rw [hbk] at hst H2
    have e7 := H2.out.is
    obtain ⟨D6, d6, e6, _⟩ := H2.out.row
    subst e6
    subst e7
    have hst2 : lt (k + 1) = if (vd == 1) = true then some co else none := by rw [hst]; unfold stepC; rw [Bool.true_and, hpl]
    have HS2 := Lib.hid hst2
    have HWW := Aside0.mk hwh
    have k0 := H2.out.box.cell 0 _ rfl
    have k1 := H2.out.box.cell 1 _ rfl
    have k2 := H2.out.box.cell 2 _ rfl
    have k3 := H2.out.box.cell 3 _ rfl
    have k4 := H2.out.box.cell 4 _ rfl
    have k5 := H2.out.box.cell 5 _ rfl
    have k6 := H2.out.box.cell 6 _ rfl
    have k7 := H2.out.box.cell 7 _ rfl
    have k8 := H2.out.box.cell 8 _ rfl
    have k9 := H2.out.box.cell 9 _ rfl
    have k10 := H2.out.box.cell 10 _ rfl
    clear hst hst2 hpl hbk hok hcl hc5 hcv his hwh
    go_wp2_with fail
    refine (HWW.out _ H2.out.bel D dc HC2.out).mono ?_
    rintro e w3 ⟨rfl, hb⟩
    have H3 := Aside0.mk (H2.out.below hb)
    have HC3 := Aside0.mk (Kd.C_below HC2.out hb)
    clear hb k0 k1 k2 k3 k4 k5 k6 k7 k8 k9 k10
    cases hv : (vd == 1) with
    | true =>
     have HS3 := Lib.hid (show lt (k + 1) = some co by rw [HS2.out, if_pos hv])
     go_wp2
     go_roundw
     case rel => exact ⟨k + 1, by omega, by go_num, ⟨⟨H3.out.bel, H3.out.box, by rw [HS3.out]; exact ⟨D, dc, rfl, HC3.out⟩, by rw [HS3.out]; rfl, fun l h => by rw [HS3.out] at h; cases h; exact HCV.out⟩⟩⟩
     case measure => simp [intOf]; omega
    | false =>
     have HS3 := Lib.hid (show lt (k + 1) = none by rw [HS2.out, if_neg (by rw [hv]; decide)])
     go_wp2
     go_roundw
     case rel => exact ⟨k + 1, by omega, by go_num, ⟨by rw [HS3.out]; exact H3.out⟩⟩
     case measure => simp [intOf]; omega
   | some u =>
    rw [hbk] at hst H2
    have e7 := H2.out.is
    obtain ⟨D6, d6, e6, hC6⟩ := H2.out.row
    subst e6
    subst e7
    have hu2 := H2.out.ok u rfl
    have hst2 : lt (k + 1) = if (decide (co.sum < u.sum) && (vd == 1)) = true then some co else some u := by rw [hst]; unfold stepC; rw [hpl]
    have HS2 := Lib.hid hst2
    have HWW := Aside0.mk hwh
    have HC6 := Aside0.mk hC6
    have hsh1 := rShovels_calls D dc co w2 HC2.out hcv hc5
    have hsh2 := rShovels_calls D6 d6 u w2 HC6.out hu2.2 hu2.1
    have k0 := H2.out.box.cell 0 _ rfl
    have k1 := H2.out.box.cell 1 _ rfl
    have k2 := H2.out.box.cell 2 _ rfl
    have k3 := H2.out.box.cell 3 _ rfl
    have k4 := H2.out.box.cell 4 _ rfl
    have k5 := H2.out.box.cell 5 _ rfl
    have k6 := H2.out.box.cell 6 _ rfl
    have k7 := H2.out.box.cell 7 _ rfl
    have k8 := H2.out.box.cell 8 _ rfl
    have k9 := H2.out.box.cell 9 _ rfl
    have k10 := H2.out.box.cell 10 _ rfl
    clear hst hst2 hpl hbk hok hcl hc5 hcv his hwh hC6 hu2
    generalize co.sum = cs1 at *
    generalize u.sum = cs2 at *
    go_wp2_with fail
    refine hsh1.mono ?_
    rintro e w3 ⟨rfl, rfl⟩
    go_wp2_with fail
    refine hsh2.mono ?_
    rintro e w3 ⟨rfl, rfl⟩
    clear hsh1 hsh2
    by_cases hlt2 : cs1 < cs2
    ·have HL2 := Lib.hid (show decide (cs1 < cs2) = true from decide_eq_true hlt2)
     go_wp2_with fail
     refine (HWW.out _ H2.out.bel D dc HC2.out).mono ?_
     rintro e w3 ⟨rfl, hb⟩
     have H3 := Aside0.mk (H2.out.below hb)
     have HC3 := Aside0.mk (Kd.C_below HC2.out hb)
     clear hb k0 k1 k2 k3 k4 k5 k6 k7 k8 k9 k10
     cases hv : (vd == 1) with
     | true =>
      have HS3 := Lib.hid (show lt (k + 1) = some co by rw [HS2.out, if_pos (by rw [HL2.out, hv]; rfl)])
      go_wp2
      go_roundw
      case rel => exact ⟨k + 1, by omega, by go_num, ⟨⟨H3.out.bel, H3.out.box, by rw [HS3.out]; exact ⟨D, dc, rfl, HC3.out⟩, by rw [HS3.out]; rfl, fun l h => by rw [HS3.out] at h; cases h; exact HCV.out⟩⟩⟩
      case measure => simp [intOf]; omega
     | false =>
      have HS3 := Lib.hid (show lt (k + 1) = some u by rw [HS2.out, if_neg (by rw [hv, Bool.and_false]; decide)])
      go_wp2
      go_roundw
      case rel => exact ⟨k + 1, by omega, by go_num, ⟨by rw [HS3.out]; exact H3.out⟩⟩
      case measure => simp [intOf]; omega
    ·have HS3 := Lib.hid (show lt (k + 1) = some u by rw [HS2.out, if_neg (by rw [decide_eq_false hlt2, Bool.false_and]; decide)])
     clear k0 k1 k2 k3 k4 k5 k6 k7 k8 k9 k10
     go_wp2
     go_roundw
     case rel => exact ⟨k + 1, by omega, by go_num, ⟨by rw [HS3.out]; exact H2.out⟩⟩
     case measure => simp [intOf]; omega
  ·obtain rfl : k = M := by omega
   have hltz : ¬ (k : Int) < (k : Int) := by omega
   obtain ⟨D6, d6, e6, hC6⟩ := H1.out.row
   have e7 := H1.out.is
   subst e6
   subst e7
   have HE := Aside0.mk (And.intro hC6 H1.out.bel)
   clear hC6
   go_wp2
   refine bodyPost_ret (results_tmp2 rfl _ _ _) rfl ?_
   exact ⟨D6, d6, rfl, HE.out.1, HE.out.2⟩
end Go.Proofs.Ytdgkhoflajdidaa
