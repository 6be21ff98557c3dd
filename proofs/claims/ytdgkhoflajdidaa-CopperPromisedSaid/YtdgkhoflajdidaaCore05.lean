/- Lemmas for the laws' proofs: Dc, Dd. -/
import Derived.Test.YtdgkhoflajdidaaCore04
import Derived.BigQuiet
/- play: what is played in a scene. -/
namespace Go.Proofs.Ytdgkhoflajdidaa
open Go.RowKit Go.Proofs.YtdgkhoflajdidaaW.PrintWords Go.Proofs.YtdgkhoflajdidaaW.PrintMore Go.Proofs.YtdgkhoflajdidaaW.PrintLast Go.Proofs.Ytdgkhoflajdidaa.Print
attribute [local go_sem] max2_int min2_int max_two min_two max_three min_three max_four min_four
set_option linter.unusedVariables false
set_option linter.unusedSimpArgs false
theorem info4 : (Try.prog.info? 4).map (fun i => (i.zero, i.size, i.bytes)) = some (some (.bool false), 1, 1) := by kernel_rfl
/-- The past's three rows at the head of round kk. -/
def PastAt (x : S38) (s : Sc) (co wa : List Int) (base g : Nat) (W0 w : World) (kk : Nat) : Prop :=
 ∃ u0 u1 u2, PSt base g 114 W0 w (sel3 3 3 4) (sel3 u0 u1 u2) (sel3 (nums .i64 (hots x s co wa kk)) (nums .i64 (lefts x s co wa kk)) ((kepts x s co wa kk).map .bool)) #[u0, u1, u2] (sel3 none none none)
theorem PSt.drew {base g : Nat} {t : TypeId} {W w : World} {e : Nat → TypeId} {r : Nat → Value} {xs : Nat → List Value} {gc : Array Value} {lit : Nat → Option (Nat × Value)} (h : PSt base g t W w e r xs gc lit) : PSt base g t W w.drew e r xs gc lit := h.below (below_drew (Below.refl _ _))
theorem past_step {x : S38} {s : Sc} {co wa : List Int} {base g : Nat} {W0 w : World} {kk : Nat} {u0 u1 u2 v0 v1 v2 : Value} {X0 X1 X2 : List Value} {hot lf : Int} {kp : Bool} {p0 p1 p2 : Nat}
    (h : PSb base g W0 w u0 u1 u2 v0 v1 v2 X0 X1 X2 (.int .i64 hot) (.int .i64 lf) (.bool kp) p0 p1 p2 true true true true true true true true true) (h0 : X0 = nums .i64 (hots x s co wa kk)) (h1 : X1 = nums .i64 (lefts x s co wa kk)) (h2 : X2 = (kepts x s co wa kk).map .bool)
    (e0 : hotAt x s co wa kk = hot) (e1 : heatAt x s co wa (kk + 1) = lf) (e2 : keptAt x s co wa kk = kp) : PastAt x s co wa base g W0 w (kk + 1) := by
 subst h0 h1 h2 e0 e1 e2
 refine ⟨v0, v1, v2, (PSt.nolit h).same (fun _ _ => rfl) (fun j hj => ?_) (fun _ _ => rfl)⟩
 match j, hj with
 | 0, _ => show nums .i64 (hots x s co wa kk) ++ [_] = nums .i64 (hots x s co wa (kk + 1)); rw [hots_snoc]; simp [nums]
 | 1, _ => show nums .i64 (lefts x s co wa kk) ++ [_] = nums .i64 (lefts x s co wa (kk + 1)); rw [lefts_snoc]; simp [nums]
 | 2, _ => show (kepts x s co wa kk).map Value.bool ++ [_] = (kepts x s co wa (kk + 1)).map Value.bool; rw [kepts_snoc]; simp
theorem past_done {x : S38} {s : Sc} {co wa : List Int} {base g : Nat} {W0 w : World} {u0 u1 u2 : Value} (hn : (co.length : Int) = x.f0 + 1)
    (h : PSt base g 114 W0 w (sel3 3 3 4) (sel3 u0 u1 u2) (sel3 (nums .i64 (hots x s co wa co.length)) (nums .i64 (lefts x s co wa co.length)) ((kepts x s co wa co.length).map .bool)) #[u0, u1, u2] (sel3 none none none)) :
    k114.K w (pastOf x s co wa) [u0, u1, u2] := by
 have e : (x.f0 + 1).toNat = co.length := by omega
 obtain ⟨A0, c0, h0, l0, g0⟩ := own_C (Kd.int .i64) (.int .i64) rfl (fun _ _ => rfl) (xs := hots x s co wa co.length) rfl rfl (h.own 0 (by decide))
 obtain ⟨A1, c1, h1, l1, g1⟩ := own_C (Kd.int .i64) (.int .i64) rfl (fun _ _ => rfl) (xs := lefts x s co wa co.length) rfl rfl (h.own 1 (by decide))
 obtain ⟨A2, c2, h2, l2, g2⟩ := own_C Kd.bool .bool rfl (fun _ _ => rfl) (xs := kepts x s co wa co.length) rfl rfl (h.own 2 (by decide))
 replace h0 : u0 = _ := h0
 replace h1 : u1 = _ := h1
 replace h2 : u2 = _ := h2
 subst h0 h1 h2
 unfold pastOf
 rw [e]
 exact k114_mk w ⟨_, _, _⟩ l0 g0 l1 g1 l2 g2
theorem past_start (W : World) (base g : Nat) (hb : Blk W g #[.slice none 0 0, .slice none 0 0, .slice none 0 0] 114) (hbase : base ≤ W.heap.size) (hg : g < base) :
    PSt base g 114 W W (sel3 3 3 4) (sel3 (.slice none 0 0) (.slice none 0 0) (.slice none 0 0)) (sel3 [] [] []) #[.slice none 0 0, .slice none 0 0, .slice none 0 0] (sel3 none none none) where
 keep := KeepX.refl _ _ _
 le := hbase
 gb := hg
 own := fun i hi => match i, hi with
  | 0, _ => own_nil _ _ _ _
  | 1, _ => own_nil _ _ _ _
  | 2, _ => own_nil _ _ _ _
 ap := fun i j hi hj hij => match i, hi with
  | 0, _ => .inl rfl
  | 1, _ => .inl rfl
  | 2, _ => .inl rfl
 blk := hb
 lits := fun i p y hi hl => by
  match i, hi with
  | 0, _ => cases hl
  | 1, _ => cases hl
  | 2, _ => cases hl
set_option maxRecDepth 100000 in
set_option maxHeartbeats 4000000 in
theorem play_calls (x : S38) (cs : List Value) (s : Sc) (A B : Option Addr) (c d : Nat) (co wa : List Int) (w : World) (hx : k38.K w x cs) (hco : Kd.C (Kd.int .i64) w A co.length co) (hwa : Kd.C (Kd.int .i64) w B wa.length wa) (hP : PlayOk x s co wa) :
    Calls Try.prog 97 #[.agg cs.toArray, .agg #[.int .i64 s.h, .int .i64 s.l0, .int .i64 s.l1, .int .i64 s.l2, .int .i64 s.l3, .int .i64 s.l4], .slice A co.length c, .slice B wa.length d] w
     fun e w' => ∃ v0 v1 v2, e = .returned (.agg #[v0, v1, v2]) ∧ k114.K w' (pastOf x s co wa) [v0, v1, v2] ∧ Below w.heap.size w w' := by
 obtain ⟨A5, c5, A6, c6, A9, c9, A10, c10, hcs, l5, g5, l6, g6, l9, g9, l10, g10⟩ := k38_open hx
 subst hcs
 have HC := Aside0.mk hco
 have HWA := Aside0.mk hwa
 have HP := Aside0.mk hP
 have hlc := hco.2.1
 have hlw := hwa.2.1
 have hcn := hP.coalN
 have hwn := hP.wantN
 have hf0 := hP.last0
 have hf1 := hP.last1
 have hm0 := hP.most
 have hper0 := hP.per0
 have hper1 := hP.per1
 have hh0 := hP.heat0
 have hh1 := hP.heat1
 clear hx g5 g6 g9 g10 l5 l6 l9 l10 hco hwa hP
 have hu := Try.underlying38
 have hu2 := Try.underlying133
 have hu3 := Try.underlying114
 have hu4 := Try.underlying131
 go_enter Try.func97, Try.ntmps97
 go_wp2
 have hb0 : ∀ o1 o2 o3, Below w.heap.size w (((w.alloc o1).alloc o2).alloc o3) := fun o1 o2 o3 => below_alloc (below_alloc (below_alloc (Below.refl _ _) _) _) _
 generalize hW0 : ((w.alloc (.cells #[.int .i64 x.f0, .int .i64 x.f1, .int .i64 x.f2, .int .i64 x.f3, .int .i64 x.f4, .slice A5 x.f5.length c5, .slice A6 x.f6.length c6, .int .i64 x.f7.f0, .int .i64 x.f7.f1, .slice A9 x.f8.length c9, .slice A10 x.f9.length c10] 38)).alloc (.cells #[.int .i64 s.h, .int .i64 s.l0, .int .i64 s.l1, .int .i64 s.l2, .int .i64 s.l3, .int .i64 s.l4] 133)).alloc (.cells #[.slice none 0 0, .slice none 0 0, .slice none 0 0] 114) = W0
 have hbW : Below w.heap.size w W0 := by rw [← hW0]; exact hb0 _ _ _
 have BC : Blk W0 w.heap.size #[.int .i64 x.f0, .int .i64 x.f1, .int .i64 x.f2, .int .i64 x.f3, .int .i64 x.f4, .slice A5 x.f5.length c5, .slice A6 x.f6.length c6, .int .i64 x.f7.f0, .int .i64 x.f7.f1, .slice A9 x.f8.length c9, .slice A10 x.f9.length c10] 38 := by rw [← hW0]; exact ((Blk.new w _ 38 _ rfl).alloc _).alloc _
 have BS : Blk W0 (w.heap.size + 1) #[.int .i64 s.h, .int .i64 s.l0, .int .i64 s.l1, .int .i64 s.l2, .int .i64 s.l3, .int .i64 s.l4] 133 := by rw [← hW0]; exact (Blk.new _ _ 133 _ (by simp)).alloc _
 have BG : Blk W0 (w.heap.size + 2) #[.slice none 0 0, .slice none 0 0, .slice none 0 0] 114 := by rw [← hW0]; exact Blk.new _ _ 114 _ (by simp)
 have hz : W0.heap.size = w.heap.size + 3 := by rw [← hW0]; simp
 have HB := Aside0.mk hbW
 have HBC := Aside0.mk BC
 have HBS := Aside0.mk BS
 have HP0 : Aside0 (PSt (w.heap.size + 3) (w.heap.size + 2) 114 W0 W0 (sel3 3 3 4) (sel3 (.slice none 0 0) (.slice none 0 0) (.slice none 0 0)) (sel3 [] [] []) #[.slice none 0 0, .slice none 0 0, .slice none 0 0] (sel3 none none none)) := ⟨past_start W0 _ _ BG (by omega) (by omega)⟩
 clear hbW BC BS BG hb0 hW0
 have kc0 := HBC.out.cell 0 _ rfl
 have kc1 := HBC.out.cell 1 _ rfl
 go_wp2
 clear kc0 kc1
 go_loopw [9, 18] (fun s9 s18 wr => ∃ kk : Nat, kk ≤ co.length ∧ s18 = .int .i64 kk ∧ s9 = .int .i64 (heatAt x s co wa kk) ∧ Aside0 (PastAt x s co wa (w.heap.size + 3) (w.heap.size + 2) W0 wr kk)) (fun _ s18 _ => co.length - (intOf s18).toNat)
 case atStart => exact ⟨0, Nat.zero_le _, rfl, rfl, ⟨⟨_, _, _, HP0.out⟩⟩⟩
 case round =>
  obtain ⟨kk, hkk, rfl, rfl, HPW⟩ := hrel
  by_cases hlt : kk < co.length
  ·have hltz : (kk : Int) < x.f0 + 1 := by omega
   have hk5 : kk < 5 := by omega
   have hk5z : (kk : Int) < 5 := by omega
   have hbd := heatAt_bd HP.out kk
   have hpb := preH_bd HP.out (heatAt x s co wa kk) kk
   have hcb := HP.out.coalG kk
   have hwb := HP.out.wantG kk
   have hlb := HP.out.loss kk
   have HSN := Lib.hid (show preAt x s co wa kk = mx2 0 (mn2 x.f2 (heatAt x s co wa kk + co.getD kk 0 * s.h) - s.loss kk) from rfl)
   generalize hh : heatAt x s co wa kk = h at hbd hpb HSN ⊢
   obtain ⟨u0, u1, u2, hps⟩ := HPW.out
   have HPS := Aside0.mk hps
   have hKB : Below w.heap.size w wr := hps.keep.below HB.out (by omega) (by omega)
   have HKB := Aside0.mk hKB
   have BC := hps.keep.blk HBC.out (by omega) (by omega)
   have BS := hps.keep.blk HBS.out (by omega) (by omega)
   have hlz : w.heap.size + 3 ≤ wr.heap.size := hps.le
   obtain ⟨ad, hA, hc0⟩ := row_at_int (Kd.C_below HC.out hKB) kk hlt
   obtain ⟨adw, hAw, hcw⟩ := row_at_int (Kd.C_below HWA.out hKB) kk (by omega)
   obtain rfl := hA
   obtain rfl := hAw
   have hgc : co.getD kk 0 = co[kk] := by simp [hlt]
   have hgw : wa.getD kk 0 = wa[kk]'(by omega) := by simp [show kk < wa.length by omega]
   rw [← hgc] at hc0
   rw [← hgw] at hcw
   generalize hgc2 : co.getD kk 0 = ck at hc0 hcb HSN
   generalize hgw2 : wa.getD kk 0 = wk at hcw hwb
   have HGW := Lib.hid hgw2
   have kc2 := BC.cell 2 _ rfl
   have ks0 := BS.cell 0 _ rfl
   have ks1 := BS.cell (1 + kk) _ (loss_cell s kk hk5)
   generalize hlk : s.loss kk = lk at ks1 hlb HSN
   have hp0 : 0 ≤ ck * s.h := Int.mul_nonneg hcb.1 hh0
   have hp1 : ck * s.h ≤ 3 * 99 := Int.mul_le_mul hcb.2 hh1 hh0 (by omega)
   generalize hpr : ck * s.h = pr at hp0 hp1 HSN
   clear hgc hgw hgc2 hgw2 hps hKB HPW
   have hb0 := hbd.1
   have hb1 := hbd.2
   have hl0 := hlb.1
   have hl1 := hlb.2
   have hw0 := hwb.1
   have hw1 := hwb.2
   clear hbd hlb hwb
   have hnz : x.f3 ≠ 0 := by omega
   have hx0 := HP.out.start0
   have hx1 := HP.out.start1
   have hcall := fun W h0 h1 => minimum_calls wr.heap.size 2 x.f2 (h + pr) W h0 h1
   have hmb : 0 ≤ mn2 x.f2 (h + pr) ∧ mn2 x.f2 (h + pr) ≤ x.f2 := by rw [mn2_eq]; omega
   generalize hmm : mn2 x.f2 (h + pr) = m at hcall hmb HSN
   have hmb0 := hmb.1
   have hmb1 := hmb.2
   clear hmb
   have hwp1 : wrap64 pr = pr := IntWalk.wrap64_in _ (by omega)
   have hwp2 : wrap64 (h + pr) = h + pr := IntWalk.wrap64_in _ (by omega)
   go_wp2
   refine start_ (n := 20) (S := fun w' => w'.cell? ⟨w.heap.size, 2, none⟩ = some (.int .i64 x.f2) ∧ w'.cell? (ad.add kk) = some (.int .i64 ck) ∧ w'.cell? ⟨w.heap.size + 1, 0, none⟩ = some (.int .i64 s.h) ∧ w'.cell? ⟨w.heap.size + 1, 1 + kk, none⟩ = some (.int .i64 lk)) (ds := []) #[false, false, false, false, false, false, false, false, false, false, false, false, false, false, false, false, false, false, false, false] (by kernel_rfl) rfl rfl ⟨kc2, hc0, ks0, ks1⟩ (fun hHeld => ?_)
   refine pure_ (i := 0) (N := some 21) (v := ?_) (a' := ?_) (bs 20 1) rfl rfl (by kernel_rfl) (fun _ _ _ h => h) (Or.inl ⟨by rfl, ?_⟩) ?_ ?_
   rotate_left
   ·intro w'
    go_simp
    with_reducible rfl
   rotate_left
   ·simp only [Act.put, List.setIfInBounds_toArray, List.set_cons_zero, List.set_cons_succ, i64_w, i32_w]
    rfl
   refine pure_ (i := 2) (N := some 23) (v := ?_) (a' := ?_) (bs 20 5) rfl rfl (by kernel_rfl) (fun _ _ _ h => h) (Or.inl ⟨by rfl, ?_⟩) ?_ ?_
   rotate_left
   ·intro w'
    go_simp
    with_reducible rfl
   rotate_left
   ·simp only [Act.put, List.setIfInBounds_toArray, List.set_cons_zero, List.set_cons_succ, i64_w, i32_w]
    rfl
   refine pure_ (i := 3) (N := some 24) (v := ?_) (a' := ?_) (bs 20 13) rfl rfl (by kernel_rfl) (fun _ _ _ h => h) (Or.inl ⟨by rfl, ?_⟩) ?_ ?_
   rotate_left
   ·intro w'
    go_simp
    with_reducible rfl
   rotate_left
   ·simp only [Act.put, List.setIfInBounds_toArray, List.set_cons_zero, List.set_cons_succ, i64_w, i32_w]
    rfl
   refine pure_ (i := 4) (N := some 25) (v := ?_) (a' := ?_) (bs 20 29) rfl rfl (by kernel_rfl) (fun _ _ _ h => h) (Or.inl ⟨by rfl, ?_⟩) ?_ ?_
   rotate_left
   ·intro w'
    go_simp
    with_reducible rfl
   rotate_left
   ·simp only [Act.put, List.setIfInBounds_toArray, List.set_cons_zero, List.set_cons_succ, i64_w, i32_w]
    rfl
   refine pure_ (i := 5) (N := some 26) (v := ?_) (a' := ?_) (bs 20 61) rfl rfl (by kernel_rfl) (fun _ _ _ h => h) (Or.inl ⟨by rfl, ?_⟩) ?_ ?_
   rotate_left
   ·intro w'
    go_simp
    with_reducible rfl
   rotate_left
   ·simp only [Act.put, List.setIfInBounds_toArray, List.set_cons_zero, List.set_cons_succ, i64_w, i32_w]
    rfl
   refine pure_ (i := 7) (N := some 28) (v := ?_) (a' := ?_) (bs 20 189) rfl rfl (by kernel_rfl) (fun _ _ _ h => h) (Or.inl ⟨by rfl, ?_⟩) ?_ ?_
   rotate_left
   ·intro w'
    go_simp
    with_reducible rfl
   rotate_left
   ·simp only [Act.put, List.setIfInBounds_toArray, List.set_cons_zero, List.set_cons_succ, i64_w, i32_w]
    rfl
   refine pure_ (i := 13) (N := some 34) (v := ?_) (a' := ?_) (bs 20 8381) rfl rfl (by kernel_rfl) (fun _ _ _ h => h) (Or.inl ⟨by rfl, ?_⟩) ?_ ?_
   rotate_left
   ·intro w'
    go_simp
    with_reducible rfl
   rotate_left
   ·simp only [Act.put, List.setIfInBounds_toArray, List.set_cons_zero, List.set_cons_succ, i64_w, i32_w]
    rfl
   refine pure_ (i := 14) (N := some 35) (v := ?_) (a' := ?_) (bs 20 24765) rfl rfl (by kernel_rfl) (fun _ _ _ h => h) (Or.inl ⟨by rfl, ?_⟩) ?_ ?_
   rotate_left
   ·intro w'
    go_simp
    with_reducible rfl
   rotate_left
   ·simp only [Act.put, List.setIfInBounds_toArray, List.set_cons_zero, List.set_cons_succ, i64_w, i32_w]
    rfl
   refine pure_ (i := 15) (N := some 36) (v := ?_) (a' := ?_) (bs 20 57533) rfl rfl (by kernel_rfl) (fun _ _ _ h => h) (Or.inl ⟨by rfl, ?_⟩) ?_ ?_
   rotate_left
   ·intro w'
    go_simp
    with_reducible rfl
   rotate_left
   ·simp only [Act.put, List.setIfInBounds_toArray, List.set_cons_zero, List.set_cons_succ, i64_w, i32_w]
    rfl
   refine take_ (i := 1) (N := some 22) (v := ?_) (a' := ?_) (bs 20 57535) rfl rfl (by kernel_rfl) (fun _ _ _ h => h) (Or.inl ⟨by rfl, ?_⟩) hHeld ?_ ?_
   rotate_left
   ·rintro w' ⟨s0, s1, s2, s3⟩
    go_simp
    with_reducible rfl
   rotate_left
   ·simp only [Act.put, List.setIfInBounds_toArray, List.set_cons_zero, List.set_cons_succ, i64_w, i32_w]
    rfl
   refine take_ (i := 6) (N := some 27) (v := ?_) (a' := ?_) (bs 20 57599) rfl rfl (by kernel_rfl) (fun _ _ _ h => h) (Or.inl ⟨by rfl, ?_⟩) hHeld ?_ ?_
   rotate_left
   ·rintro w' ⟨s0, s1, s2, s3⟩
    go_simp
    with_reducible rfl
   rotate_left
   ·simp only [Act.put, List.setIfInBounds_toArray, List.set_cons_zero, List.set_cons_succ, i64_w, i32_w]
    rfl
   refine take_ (i := 8) (N := some 29) (v := ?_) (a' := ?_) (bs 20 57855) rfl rfl (by kernel_rfl) (fun _ _ _ h => h) (Or.inl ⟨by rfl, ?_⟩) hHeld ?_ ?_
   rotate_left
   ·rintro w' ⟨s0, s1, s2, s3⟩
    go_simp
    with_reducible rfl
   rotate_left
   ·simp only [Act.put, List.setIfInBounds_toArray, List.set_cons_zero, List.set_cons_succ, i64_w, i32_w]
    rfl
   refine pure_ (i := 9) (N := some 30) (v := ?_) (a' := ?_) (bs 20 58367) rfl rfl (by kernel_rfl) (fun _ _ _ h => h) (Or.inl ⟨by rfl, ?_⟩) ?_ ?_
   rotate_left
   ·intro w'
    go_simp
    with_reducible rfl
   rotate_left
   ·simp only [Act.put, List.setIfInBounds_toArray, List.set_cons_zero, List.set_cons_succ, i64_w, i32_w]
    rfl
   refine pure_ (i := 10) (N := some 31) (v := ?_) (a' := ?_) (bs 20 59391) rfl rfl (by kernel_rfl) (fun _ _ _ h => h) (Or.inl ⟨by rfl, ?_⟩) ?_ ?_
   rotate_left
   ·intro w'
    go_simp
    with_reducible rfl
   rotate_left
   ·simp only [Act.put, List.setIfInBounds_toArray, List.set_cons_zero, List.set_cons_succ, i64_w, i32_w]
    rfl
   refine take_ (i := 16) (N := some 37) (v := ?_) (a' := ?_) (bs 20 124927) rfl rfl (by kernel_rfl) (fun _ _ _ h => h) (Or.inl ⟨by rfl, ?_⟩) hHeld ?_ ?_
   rotate_left
   ·rintro w' ⟨s0, s1, s2, s3⟩
    go_simp
    with_reducible rfl
   rotate_left
   ·simp only [Act.put, List.setIfInBounds_toArray, List.set_cons_zero, List.set_cons_succ, i64_w, i32_w]
    rfl
   refine one_ (i := 11) (N := some 32) (bs 20 126975) rfl rfl (by kernel_rfl) (by decide) (fun K hK => ?_)
   refine value_ (w1 := ?_) (v := ?_) (by rfl) rfl ?_ ?_
   rotate_left 2
   ·go_simp
    constructor
    ·rfl
    ·rfl
   refine hK.out _ _ ⟨(cell_al _ hHeld.1), (cell_al _ hHeld.2.1), (cell_al _ hHeld.2.2.1), (cell_al _ hHeld.2.2.2)⟩ (fun hHeld => ?_)
   clear hK K
   refine norm_ (a' := ?_) ?_ ?_
   rotate_left
   ·show Act.put _ (some 32) _ = _
    simp only [Act.put, List.setIfInBounds_toArray, List.set_cons_zero, List.set_cons_succ, i64_w, i32_w]
    rfl
   refine one_ (i := 12) (N := some 33) (bs 20 131071) rfl rfl (by kernel_rfl) (by decide) (fun K hK => ?_)
   refine goes_ Try.func109 (by kernel_rfl) rfl #[.slice (some ⟨wr.heap.size, 0, none⟩) 2 2] (by rfl) rfl rfl (by simp only [List.map_toArray, List.map_cons, List.map_nil]; rfl) ?_
   with_reducible refine (hcall _ (cell_lastD _ _ _ _ rfl 0 _ rfl) (cell_lastD _ _ _ _ rfl 1 _ (by simp [hwp1, hwp2]))).mono ?_
   rintro e w3 ⟨rfl, rfl⟩
   refine ⟨_, rfl, ?_⟩
   refine hK.out _ _ ⟨hHeld.1, hHeld.2.1, hHeld.2.2.1, hHeld.2.2.2⟩ (fun hHeld => ?_)
   clear hK K
   refine norm_ (a' := ?_) ?_ ?_
   rotate_left
   ·show Act.put _ (some 33) _ = _
    simp only [Act.put, List.setIfInBounds_toArray, List.set_cons_zero, List.set_cons_succ, i64_w, i32_w]
    rfl
   refine pure_ (i := 17) (N := some 38) (v := ?_) (a' := ?_) (bs 20 262143) rfl rfl (by kernel_rfl) (fun _ _ _ h => h) (Or.inl ⟨by rfl, ?_⟩) ?_ ?_
   rotate_left
   ·intro w'
    go_simp
    with_reducible rfl
   rotate_left
   ·simp only [Act.put, List.setIfInBounds_toArray, List.set_cons_zero, List.set_cons_succ, i64_w, i32_w]
    rfl
   refine pure_ (i := 18) (N := some 39) (v := ?_) (a' := ?_) (bs 20 524287) rfl rfl (by kernel_rfl) (fun _ _ _ h => h) (Or.inl ⟨by rfl, ?_⟩) ?_ ?_
   rotate_left
   ·intro w'
    go_simp
    with_reducible rfl
   rotate_left
   ·simp only [Act.put, List.setIfInBounds_toArray, List.set_cons_zero, List.set_cons_succ, i64_w, i32_w]
    rfl
   refine pure_ (i := 19) (N := some 9) (v := ?_) (a' := ?_) (bs 20 1048575) rfl rfl (by kernel_rfl) (fun _ _ _ h => h) (Or.inl ⟨by rfl, ?_⟩) ?_ ?_
   rotate_left
   ·intro w'
    go_simp
    with_reducible rfl
   rotate_left
   ·simp only [Act.put, List.setIfInBounds_toArray, List.set_cons_zero, List.set_cons_succ, i64_w, i32_w]
    rfl
   refine done_ (by kernel_rfl) ?_
   clear hHeld
   generalize hpp : (if 0 < wrap64 (m - lk) then wrap64 (m - lk) else 0) = p
   rw [IntWalk.wrap64_in (m - lk) (by omega)] at hpp
   have HPE := Lib.hid (HSN.out.trans hpp)
   have hpq : 0 ≤ p ∧ p ≤ x.f2 := by rw [← hpp]; split <;> omega
   have hp2 := hpq.1
   have hp3 := hpq.2
   have hbw := below_drew (below_alloc (Below.refl wr.heap.size wr) (.cells #[.int .i64 x.f2, .int .i64 (h + pr)] 3))
   generalize hw5 : (wr.alloc (.cells #[.int .i64 x.f2, .int .i64 (h + pr)] 3)).drew = W5 at hbw ⊢
   have kc3 := (BC.below hbw).cell 3 _ rfl
   have hcw5 := pw_cell_below hbw hcw
   have HPS5 := Aside0.mk (PSt.below HPS.out hbw)
   have hwz : (kk : Int) < (wa.length : Int) := by omega
   clear hw5 hpp HPS BC BS hc0 hcw kc2 ks0 ks1 hpq hmm hmb0 hmb1 hcall hwp1 hwp2 hpb hp0 hp1 hl0 hl1 hlk hpr hcb HSN
   have htd : p.tdiv x.f3 = p / x.f3 := Int.tdiv_eq_ediv_of_nonneg hp2
   have hd0 : 0 ≤ p / x.f3 := Int.ediv_nonneg hp2 (by omega)
   have hd1 : p / x.f3 ≤ p := Int.ediv_le_self _ hp2
   have HHOT : Hid (hotAt x s co wa kk = p / x.f3) := by unfold hotAt; rw [HPE.out]; exact Lib.hid rfl
   have HKP : Hid (keptAt x s co wa kk = decide (wk ≤ p / x.f3)) := by unfold keptAt keptH; rw [HPE.out, HGW.out]; exact Lib.hid rfl
   obtain ⟨X0, hX0⟩ : ∃ X, X = nums .i64 (hots x s co wa kk) := ⟨_, rfl⟩
   obtain ⟨X1, hX1⟩ : ∃ X, X = nums .i64 (lefts x s co wa kk) := ⟨_, rfl⟩
   obtain ⟨X2, hX2⟩ : ∃ X : List Value, X = (kepts x s co wa kk).map .bool := ⟨_, rfl⟩
   have HX0 := Lib.hid hX0
   have HX1 := Lib.hid hX1
   have HX2 := Lib.hid hX2
   have hn0 : X0.length = kk := by rw [hX0]; simp [nums, hots]
   have hn1 : X1.length = kk := by rw [hX1]; simp [nums, lefts]
   have hn2 : X2.length = kk := by rw [hX2]; simp [kepts]
   have hPS5 := HPS5.out
   rw [← hX0, ← hX1, ← hX2] at hPS5
   have HPX := Aside0.mk hPS5
   clear hPS5 HPS5 hX0 hX1 hX2
   by_cases hkp : wk ≤ p / x.f3
   ·have hml : wk * x.f3 ≤ p := (Int.le_ediv_iff_mul_le (by omega)).1 hkp
    have hm00 : 0 ≤ wk * x.f3 := Int.mul_nonneg hw0 (by omega)
    have HLF := Lib.hid (show heatAt x s co wa (kk + 1) = p - wk * x.f3 by
     show leftH x wa (preAt x s co wa kk) kk = _
     rw [HPE.out]; unfold leftH keptH; rw [HGW.out]; exact if_pos (by simpa using hkp))
    have HKT := Lib.hid (show keptAt x s co wa kk = true by rw [HKP.out]; simpa using hkp)
    generalize hq : p / x.f3 = hot at *
    generalize hmu : wk * x.f3 = mu at *
    go_wp2
    refine start_ (n := 10) (S := fun w' => w'.cell? ⟨w.heap.size, 3, none⟩ = some (.int .i64 x.f3) ∧ w'.cell? (adw.add kk) = some (.int .i64 wk)) (ds := []) #[false, false, false, false, false, false, false, false, false, false] (by kernel_rfl) rfl rfl ⟨kc3, hcw5⟩ (fun hHeld => ?_)
    refine pure_ (i := 0) (N := some 51) (v := ?_) (a' := ?_) (bs 10 1) rfl rfl (by kernel_rfl) (fun _ _ _ h => h) (Or.inl ⟨by rfl, ?_⟩) ?_ ?_
    rotate_left
    ·intro w'
     go_simp
     with_reducible rfl
    rotate_left
    ·simp only [Act.put, List.setIfInBounds_toArray, List.set_cons_zero, List.set_cons_succ, i64_w, i32_w]
     rfl
    refine pure_ (i := 1) (N := some 52) (v := ?_) (a' := ?_) (bs 10 3) rfl rfl (by kernel_rfl) (fun _ _ _ h => h) (Or.inl ⟨by rfl, ?_⟩) ?_ ?_
    rotate_left
    ·intro w'
     go_simp
     with_reducible rfl
    rotate_left
    ·simp only [Act.put, List.setIfInBounds_toArray, List.set_cons_zero, List.set_cons_succ, i64_w, i32_w]
     rfl
    refine pure_ (i := 2) (N := some 53) (v := ?_) (a' := ?_) (bs 10 7) rfl rfl (by kernel_rfl) (fun _ _ _ h => h) (Or.inl ⟨by rfl, ?_⟩) ?_ ?_
    rotate_left
    ·intro w'
     go_simp
     with_reducible rfl
    rotate_left
    ·simp only [Act.put, List.setIfInBounds_toArray, List.set_cons_zero, List.set_cons_succ, i64_w, i32_w]
     rfl
    refine pure_ (i := 3) (N := some 54) (v := ?_) (a' := ?_) (bs 10 15) rfl rfl (by kernel_rfl) (fun _ _ _ h => h) (Or.inl ⟨by rfl, ?_⟩) ?_ ?_
    rotate_left
    ·intro w'
     go_simp
     with_reducible rfl
    rotate_left
    ·simp only [Act.put, List.setIfInBounds_toArray, List.set_cons_zero, List.set_cons_succ, i64_w, i32_w]
     rfl
    refine pure_ (i := 5) (N := some 56) (v := ?_) (a' := ?_) (bs 10 47) rfl rfl (by kernel_rfl) (fun _ _ _ h => h) (Or.inl ⟨by rfl, ?_⟩) ?_ ?_
    rotate_left
    ·intro w'
     go_simp
     with_reducible rfl
    rotate_left
    ·simp only [Act.put, List.setIfInBounds_toArray, List.set_cons_zero, List.set_cons_succ, i64_w, i32_w]
     rfl
    refine take_ (i := 4) (N := some 55) (v := ?_) (a' := ?_) (bs 10 63) rfl rfl (by kernel_rfl) (fun _ _ _ h => h) (Or.inl ⟨by rfl, ?_⟩) hHeld ?_ ?_
    rotate_left
    ·rintro w' ⟨s0, s1⟩
     go_simp
     with_reducible rfl
    rotate_left
    ·simp only [Act.put, List.setIfInBounds_toArray, List.set_cons_zero, List.set_cons_succ, i64_w, i32_w]
     rfl
    refine take_ (i := 6) (N := some 57) (v := ?_) (a' := ?_) (bs 10 127) rfl rfl (by kernel_rfl) (fun _ _ _ h => h) (Or.inl ⟨by rfl, ?_⟩) hHeld ?_ ?_
    rotate_left
    ·rintro w' ⟨s0, s1⟩
     go_simp
     with_reducible rfl
    rotate_left
    ·simp only [Act.put, List.setIfInBounds_toArray, List.set_cons_zero, List.set_cons_succ, i64_w, i32_w]
     rfl
    refine pure_ (i := 7) (N := some 58) (v := ?_) (a' := ?_) (bs 10 255) rfl rfl (by kernel_rfl) (fun _ _ _ h => h) (Or.inl ⟨by rfl, ?_⟩) ?_ ?_
    rotate_left
    ·intro w'
     go_simp
     with_reducible rfl
    rotate_left
    ·simp only [Act.put, List.setIfInBounds_toArray, List.set_cons_zero, List.set_cons_succ, i64_w, i32_w]
     rfl
    refine pure_ (i := 8) (N := some 59) (v := ?_) (a' := ?_) (bs 10 511) rfl rfl (by kernel_rfl) (fun _ _ _ h => h) (Or.inl ⟨by rfl, ?_⟩) ?_ ?_
    rotate_left
    ·intro w'
     go_simp
     with_reducible rfl
    rotate_left
    ·simp only [Act.put, List.setIfInBounds_toArray, List.set_cons_zero, List.set_cons_succ, i64_w, i32_w]
     rfl
    refine pure_ (i := 9) (N := some 9) (v := ?_) (a' := ?_) (bs 10 1023) rfl rfl (by kernel_rfl) (fun _ _ _ h => h) (Or.inl ⟨by rfl, ?_⟩) ?_ ?_
    rotate_left
    ·intro w'
     go_simp
     with_reducible rfl
    rotate_left
    ·simp only [Act.put, List.setIfInBounds_toArray, List.set_cons_zero, List.set_cons_succ, i64_w, i32_w]
     rfl
    refine done_ (by kernel_rfl) ?_
    clear hHeld
    rw [IntWalk.wrap64_in mu (by omega), IntWalk.wrap64_in (p - mu) (by omega)]
    generalize hlf : p - mu = lf at *
    go_wp2
    have hPS := HPX.out
    replace hPS : PSb (w.heap.size + 3) (w.heap.size + 2) W0 W5.drew.drew u0 u1 u2 undef undef undef X0 X1 X2 (.int .i64 hot) (.int .i64 lf) (.bool true) 0 0 0 false false false false false false false false false := PSt.drew (PSt.drew hPS)
    refine start_ (n := 21) (S := fun w' => True) (ds := []) #[false, false, false, false, false, false, false, false, false, false, false, false, false, false, false, false, false, false, false, false, false] (by kernel_rfl) rfl rfl trivial (fun hHeld => ?_)
    refine pure_ (i := 0) (N := some 60) (v := ?_) (a' := ?_) (bs 21 1) rfl rfl (by kernel_rfl) (fun _ _ _ h => h) (Or.inl ⟨by rfl, ?_⟩) ?_ ?_
    rotate_left
    ·intro w'
     go_simp
     with_reducible rfl
    rotate_left
    ·simp only [Act.put, List.setIfInBounds_toArray, List.set_cons_zero, List.set_cons_succ, i64_w, i32_w]
     rfl
    refine pure_ (i := 2) (N := some 62) (v := ?_) (a' := ?_) (bs 21 5) rfl rfl (by kernel_rfl) (fun _ _ _ h => h) (Or.inl ⟨by rfl, ?_⟩) ?_ ?_
    rotate_left
    ·intro w'
     go_simp
     with_reducible rfl
    rotate_left
    ·simp only [Act.put, List.setIfInBounds_toArray, List.set_cons_zero, List.set_cons_succ, i64_w, i32_w]
     rfl
    refine pure_ (i := 5) (N := some 65) (v := ?_) (a' := ?_) (bs 21 37) rfl rfl (by kernel_rfl) (fun _ _ _ h => h) (Or.inl ⟨by rfl, ?_⟩) ?_ ?_
    rotate_left
    ·intro w'
     go_simp
     with_reducible rfl
    rotate_left
    ·simp only [Act.put, List.setIfInBounds_toArray, List.set_cons_zero, List.set_cons_succ, i64_w, i32_w]
     rfl
    refine pure_ (i := 7) (N := some 67) (v := ?_) (a' := ?_) (bs 21 165) rfl rfl (by kernel_rfl) (fun _ _ _ h => h) (Or.inl ⟨by rfl, ?_⟩) ?_ ?_
    rotate_left
    ·intro w'
     go_simp
     with_reducible rfl
    rotate_left
    ·simp only [Act.put, List.setIfInBounds_toArray, List.set_cons_zero, List.set_cons_succ, i64_w, i32_w]
     rfl
    refine pure_ (i := 10) (N := some 70) (v := ?_) (a' := ?_) (bs 21 1189) rfl rfl (by kernel_rfl) (fun _ _ _ h => h) (Or.inl ⟨by rfl, ?_⟩) ?_ ?_
    rotate_left
    ·intro w'
     go_simp
     with_reducible rfl
    rotate_left
    ·simp only [Act.put, List.setIfInBounds_toArray, List.set_cons_zero, List.set_cons_succ, i64_w, i32_w]
     rfl
    refine pure_ (i := 12) (N := some 72) (v := ?_) (a' := ?_) (bs 21 5285) rfl rfl (by kernel_rfl) (fun _ _ _ h => h) (Or.inl ⟨by rfl, ?_⟩) ?_ ?_
    rotate_left
    ·intro w'
     go_simp
     with_reducible rfl
    rotate_left
    ·simp only [Act.put, List.setIfInBounds_toArray, List.set_cons_zero, List.set_cons_succ, i64_w, i32_w]
     rfl
    clear hHeld
    refine inv_at (T := rtab .any _) (B := [0, 1, 0, 4, 15, 0, 32, 0, 128, 511, 0, 1024, 0, 4096, 16383, 3199, 65535, 131071, 262143, 524287, 1048575]) [1, 3, 4, 6, 8, 9, 11, 13, 14, 15, 16, 17, 18, 19, 20] (fun a0_ b a w' => ∃ (p3 p8 p13 : Nat) (v4 v9 v14 : Value), a = putSel a0_ b [(1, 61, u0), (3, 63, .slice (some ⟨p3, 0, none⟩) 1 1), (4, 64, v4), (6, 66, u1), (8, 68, .slice (some ⟨p8, 0, none⟩) 1 1), (9, 69, v9), (11, 71, u2), (13, 73, .slice (some ⟨p13, 0, none⟩) 1 1), (14, 74, v14), (15, 75, .pointer (some ⟨w.heap.size + 2, 0, none⟩)), (17, 76, .pointer (some ⟨w.heap.size + 2, 1, none⟩)), (19, 77, .pointer (some ⟨w.heap.size + 2, 2, none⟩))] ∧ PSb (w.heap.size + 3) (w.heap.size + 2) W0 w' u0 u1 u2 v4 v9 v14 X0 X1 X2 (.int .i64 hot) (.int .i64 lf) (.bool true) p3 p8 p13 (b 4) (b 9) (b 14) (b 16) (b 18) (b 20) (b 3) (b 8) (b 13)) rfl (by kernel_rfl) (by kernel_rfl) (by kernel_rfl) ?_ ?_ ?_
    ·exact ⟨0, 0, 0, undef, undef, undef, by simp only [putSel, Bool.false_eq_true, if_false], hPS⟩
    ·clear hPS
     refine steps_cons ?_ ?_
     ·rintro b a w' ⟨p3, p8, p13, v4, v9, v14, ha, hps⟩ hb_ hon hoff
      refine ⟨_, rfl, fun K hK => ?_⟩
      have e60 : a.tmps[60]? = some (.pointer (some ⟨w.heap.size + 1 + 1, 0, none⟩)) := by rw [ha]; exact (putSel_off rfl).trans rfl
      replace ha := Aside0.mk ha
      have b4 : b 4 = false := hoff 4 (by kernel_rfl)
      have b9 : b 9 = false := hoff 9 (by kernel_rfl)
      have b14 : b 14 = false := hoff 14 (by kernel_rfl)
      have b16 : b 16 = false := hoff 16 (by kernel_rfl)
      have b18 : b 18 = false := hoff 18 (by kernel_rfl)
      have b20 : b 20 = false := hoff 20 (by kernel_rfl)
      rw [b4, b9, b14, b16, b18, b20] at hps
      have hc_ : w'.cell? ⟨w.heap.size + 1 + 1, 0, none⟩ = some u0 := hps.blk.cell 0 _ rfl
      refine value_ (w1 := w') (v := u0) (by rfl) rfl ?_ ?_
      ·go_simp
       try rfl
      refine hK.out _ _ ⟨p3, p8, p13, v4, v9, v14, by rw [ha.out]; exact putSel_upk 0 hb_ rfl rfl rfl, ?_⟩
      show PSb _ _ _ _ _ _ _ _ _ _ _ _ _ _ _ _ _ _ _ (b 4) (b 9) (b 14) (b 16) (b 18) (b 20) (b 3) (b 8) (b 13)
      rw [b4, b9, b14, b16, b18, b20]
      exact hps
     refine steps_cons ?_ ?_
     ·rintro b a w' ⟨p3, p8, p13, v4, v9, v14, ha, hps⟩ hb_ hon hoff
      refine ⟨_, rfl, fun K hK => ?_⟩
      have e62 : a.tmps[62]? = some (.int .i64 hot) := by rw [ha]; exact (putSel_off rfl).trans rfl
      replace ha := Aside0.mk ha
      have b4 : b 4 = false := hoff 4 (by kernel_rfl)
      have b9 : b 9 = false := hoff 9 (by kernel_rfl)
      have b14 : b 14 = false := hoff 14 (by kernel_rfl)
      have b16 : b 16 = false := hoff 16 (by kernel_rfl)
      have b18 : b 18 = false := hoff 18 (by kernel_rfl)
      have b20 : b 20 = false := hoff 20 (by kernel_rfl)
      have b3 : b 3 = false := hb_
      rw [b4, b9, b14, b16, b18, b20, b3] at hps
      refine value_ (w1 := w'.alloc (.cells #[(.int .i64 hot)] 3)) (v := .slice (some ⟨w'.heap.size, 0, none⟩) 1 1) (by rfl) rfl ?_ ?_
      ·go_simp
       first | done | rfl | (constructor <;> rfl)
      refine hK.out _ _ ⟨w'.heap.size, p8, p13, v4, v9, v14, by rw [ha.out]; exact putSel_upk 1 hb_ rfl rfl rfl, ?_⟩
      show PSb _ _ _ _ _ _ _ _ _ _ _ _ _ _ _ _ _ _ _ (b 4) (b 9) (b 14) (b 16) (b 18) (b 20) true (b 8) (b 13)
      rw [b4, b9, b14, b16, b18, b20]
      exact hps.lit0
     refine steps_cons ?_ ?_
     ·rintro b a w' ⟨p3, p8, p13, v4, v9, v14, ha, hps⟩ hb_ hon hoff
      refine ⟨_, rfl, fun K hK => ?_⟩
      have e61 : a.tmps[61]? = some (u0) := by rw [ha]; exact putSel_on (e := (1, 61, u0)) 0 rfl rfl (hon 1 (by kernel_rfl)) rfl
      have e63 : a.tmps[63]? = some (.slice (some ⟨p3, 0, none⟩) 1 1) := by rw [ha]; exact putSel_on (e := (3, 63, .slice (some ⟨p3, 0, none⟩) 1 1)) 1 rfl rfl (hon 3 (by kernel_rfl)) rfl
      replace ha := Aside0.mk ha
      have b4 : b 4 = false := hb_
      have b9 : b 9 = false := hoff 9 (by kernel_rfl)
      have b14 : b 14 = false := hoff 14 (by kernel_rfl)
      have b16 : b 16 = false := hoff 16 (by kernel_rfl)
      have b18 : b 18 = false := hoff 18 (by kernel_rfl)
      have b20 : b 20 = false := hoff 20 (by kernel_rfl)
      have b3 : b 3 = true := hon 3 (by kernel_rfl)
      rw [b4, b9, b14, b16, b18, b20, b3] at hps
      have hl_ := hps.lits 0 p3 (.int .i64 hot) (by decide) rfl
      have ho_ := hps.own 0 (by decide)
      refine append_op (w := w') (.tmp 61) (.tmp 63) 22 3 (.int .i64 0) 8 rfl rfl rfl info3 rfl (by decide) (w.heap.size + 3) u0 X0 (.int .i64 hot) p3 1 (eval_of e61) (eval_of e63) ho_ (hl_.1.cell 0 _ rfl) rfl (by have := hn0; omega) hps.le ?_
      intro v1 w1 ho1 hg1 hat1
      refine hK.out _ _ ⟨p3, p8, p13, v1, v9, v14, by rw [ha.out]; exact putSel_upk 2 hb_ rfl rfl rfl, ?_⟩
      show PSb _ _ _ _ _ _ _ _ _ _ _ _ _ _ _ _ _ _ _ true (b 9) (b 14) (b 16) (b 18) (b 20) (b 3) (b 8) (b 13)
      rw [b9, b14, b16, b18, b20, b3]
      exact hps.app0 ho1 hg1 hat1
     refine steps_cons ?_ ?_
     ·rintro b a w' ⟨p3, p8, p13, v4, v9, v14, ha, hps⟩ hb_ hon hoff
      refine ⟨_, rfl, fun K hK => ?_⟩
      have e65 : a.tmps[65]? = some (.pointer (some ⟨w.heap.size + 1 + 1, 1, none⟩)) := by rw [ha]; exact (putSel_off rfl).trans rfl
      replace ha := Aside0.mk ha
      have b9 : b 9 = false := hoff 9 (by kernel_rfl)
      have b14 : b 14 = false := hoff 14 (by kernel_rfl)
      have b16 : b 16 = false := hoff 16 (by kernel_rfl)
      have b18 : b 18 = false := hoff 18 (by kernel_rfl)
      have b20 : b 20 = false := hoff 20 (by kernel_rfl)
      rw [b9, b14, b16, b18, b20] at hps
      have hc_ : w'.cell? ⟨w.heap.size + 1 + 1, 1, none⟩ = some u1 := hps.blk.cell 1 _ rfl
      refine value_ (w1 := w') (v := u1) (by rfl) rfl ?_ ?_
      ·go_simp
       try rfl
      refine hK.out _ _ ⟨p3, p8, p13, v4, v9, v14, by rw [ha.out]; exact putSel_upk 3 hb_ rfl rfl rfl, ?_⟩
      show PSb _ _ _ _ _ _ _ _ _ _ _ _ _ _ _ _ _ _ _ (b 4) (b 9) (b 14) (b 16) (b 18) (b 20) (b 3) (b 8) (b 13)
      rw [b9, b14, b16, b18, b20]
      exact hps
     refine steps_cons ?_ ?_
     ·rintro b a w' ⟨p3, p8, p13, v4, v9, v14, ha, hps⟩ hb_ hon hoff
      refine ⟨_, rfl, fun K hK => ?_⟩
      have e67 : a.tmps[67]? = some (.int .i64 lf) := by rw [ha]; exact (putSel_off rfl).trans rfl
      replace ha := Aside0.mk ha
      have b9 : b 9 = false := hoff 9 (by kernel_rfl)
      have b14 : b 14 = false := hoff 14 (by kernel_rfl)
      have b16 : b 16 = false := hoff 16 (by kernel_rfl)
      have b18 : b 18 = false := hoff 18 (by kernel_rfl)
      have b20 : b 20 = false := hoff 20 (by kernel_rfl)
      have b8 : b 8 = false := hb_
      rw [b9, b14, b16, b18, b20, b8] at hps
      refine value_ (w1 := w'.alloc (.cells #[(.int .i64 lf)] 3)) (v := .slice (some ⟨w'.heap.size, 0, none⟩) 1 1) (by rfl) rfl ?_ ?_
      ·go_simp
       first | done | rfl | (constructor <;> rfl)
      refine hK.out _ _ ⟨p3, w'.heap.size, p13, v4, v9, v14, by rw [ha.out]; exact putSel_upk 4 hb_ rfl rfl rfl, ?_⟩
      show PSb _ _ _ _ _ _ _ _ _ _ _ _ _ _ _ _ _ _ _ (b 4) (b 9) (b 14) (b 16) (b 18) (b 20) (b 3) true (b 13)
      rw [b9, b14, b16, b18, b20]
      exact hps.lit1
     refine steps_cons ?_ ?_
     ·rintro b a w' ⟨p3, p8, p13, v4, v9, v14, ha, hps⟩ hb_ hon hoff
      refine ⟨_, rfl, fun K hK => ?_⟩
      have e66 : a.tmps[66]? = some (u1) := by rw [ha]; exact putSel_on (e := (6, 66, u1)) 3 rfl rfl (hon 6 (by kernel_rfl)) rfl
      have e68 : a.tmps[68]? = some (.slice (some ⟨p8, 0, none⟩) 1 1) := by rw [ha]; exact putSel_on (e := (8, 68, .slice (some ⟨p8, 0, none⟩) 1 1)) 4 rfl rfl (hon 8 (by kernel_rfl)) rfl
      replace ha := Aside0.mk ha
      have b4 : b 4 = true := hon 4 (by kernel_rfl)
      have b9 : b 9 = false := hb_
      have b14 : b 14 = false := hoff 14 (by kernel_rfl)
      have b16 : b 16 = false := hoff 16 (by kernel_rfl)
      have b18 : b 18 = false := hoff 18 (by kernel_rfl)
      have b20 : b 20 = false := hoff 20 (by kernel_rfl)
      have b3 : b 3 = true := hon 3 (by kernel_rfl)
      have b8 : b 8 = true := hon 8 (by kernel_rfl)
      rw [b4, b9, b14, b16, b18, b20, b3, b8] at hps
      have hl_ := hps.lits 1 p8 (.int .i64 lf) (by decide) rfl
      have ho_ := hps.own 1 (by decide)
      refine append_op (w := w') (.tmp 66) (.tmp 68) 22 3 (.int .i64 0) 8 rfl rfl rfl info3 rfl (by decide) (w.heap.size + 3) u1 X1 (.int .i64 lf) p8 1 (eval_of e66) (eval_of e68) ho_ (hl_.1.cell 0 _ rfl) rfl (by have := hn1; omega) hps.le ?_
      intro v1 w1 ho1 hg1 hat1
      refine hK.out _ _ ⟨p3, p8, p13, v4, v1, v14, by rw [ha.out]; exact putSel_upk 5 hb_ rfl rfl rfl, ?_⟩
      show PSb _ _ _ _ _ _ _ _ _ _ _ _ _ _ _ _ _ _ _ (b 4) true (b 14) (b 16) (b 18) (b 20) (b 3) (b 8) (b 13)
      rw [b4, b14, b16, b18, b20, b3, b8]
      exact hps.app1 ho1 hg1 hat1
     refine steps_cons ?_ ?_
     ·rintro b a w' ⟨p3, p8, p13, v4, v9, v14, ha, hps⟩ hb_ hon hoff
      refine ⟨_, rfl, fun K hK => ?_⟩
      have e70 : a.tmps[70]? = some (.pointer (some ⟨w.heap.size + 1 + 1, 2, none⟩)) := by rw [ha]; exact (putSel_off rfl).trans rfl
      replace ha := Aside0.mk ha
      have b14 : b 14 = false := hoff 14 (by kernel_rfl)
      have b16 : b 16 = false := hoff 16 (by kernel_rfl)
      have b18 : b 18 = false := hoff 18 (by kernel_rfl)
      have b20 : b 20 = false := hoff 20 (by kernel_rfl)
      rw [b14, b16, b18, b20] at hps
      have hc_ : w'.cell? ⟨w.heap.size + 1 + 1, 2, none⟩ = some u2 := hps.blk.cell 2 _ rfl
      refine value_ (w1 := w') (v := u2) (by rfl) rfl ?_ ?_
      ·go_simp
       try rfl
      refine hK.out _ _ ⟨p3, p8, p13, v4, v9, v14, by rw [ha.out]; exact putSel_upk 6 hb_ rfl rfl rfl, ?_⟩
      show PSb _ _ _ _ _ _ _ _ _ _ _ _ _ _ _ _ _ _ _ (b 4) (b 9) (b 14) (b 16) (b 18) (b 20) (b 3) (b 8) (b 13)
      rw [b14, b16, b18, b20]
      exact hps
     refine steps_cons ?_ ?_
     ·rintro b a w' ⟨p3, p8, p13, v4, v9, v14, ha, hps⟩ hb_ hon hoff
      refine ⟨_, rfl, fun K hK => ?_⟩
      have e72 : a.tmps[72]? = some (.bool true) := by rw [ha]; exact (putSel_off rfl).trans rfl
      replace ha := Aside0.mk ha
      have b14 : b 14 = false := hoff 14 (by kernel_rfl)
      have b16 : b 16 = false := hoff 16 (by kernel_rfl)
      have b18 : b 18 = false := hoff 18 (by kernel_rfl)
      have b20 : b 20 = false := hoff 20 (by kernel_rfl)
      have b13 : b 13 = false := hb_
      rw [b14, b16, b18, b20, b13] at hps
      refine value_ (w1 := w'.alloc (.cells #[(.bool true)] 4)) (v := .slice (some ⟨w'.heap.size, 0, none⟩) 1 1) (by rfl) rfl ?_ ?_
      ·go_simp
       first | done | rfl | (constructor <;> rfl)
      refine hK.out _ _ ⟨p3, p8, w'.heap.size, v4, v9, v14, by rw [ha.out]; exact putSel_upk 7 hb_ rfl rfl rfl, ?_⟩
      show PSb _ _ _ _ _ _ _ _ _ _ _ _ _ _ _ _ _ _ _ (b 4) (b 9) (b 14) (b 16) (b 18) (b 20) (b 3) (b 8) true
      rw [b14, b16, b18, b20]
      exact hps.lit2
     refine steps_cons ?_ ?_
     ·rintro b a w' ⟨p3, p8, p13, v4, v9, v14, ha, hps⟩ hb_ hon hoff
      refine ⟨_, rfl, fun K hK => ?_⟩
      have e71 : a.tmps[71]? = some (u2) := by rw [ha]; exact putSel_on (e := (11, 71, u2)) 6 rfl rfl (hon 11 (by kernel_rfl)) rfl
      have e73 : a.tmps[73]? = some (.slice (some ⟨p13, 0, none⟩) 1 1) := by rw [ha]; exact putSel_on (e := (13, 73, .slice (some ⟨p13, 0, none⟩) 1 1)) 7 rfl rfl (hon 13 (by kernel_rfl)) rfl
      replace ha := Aside0.mk ha
      have b4 : b 4 = true := hon 4 (by kernel_rfl)
      have b9 : b 9 = true := hon 9 (by kernel_rfl)
      have b14 : b 14 = false := hb_
      have b16 : b 16 = false := hoff 16 (by kernel_rfl)
      have b18 : b 18 = false := hoff 18 (by kernel_rfl)
      have b20 : b 20 = false := hoff 20 (by kernel_rfl)
      have b3 : b 3 = true := hon 3 (by kernel_rfl)
      have b8 : b 8 = true := hon 8 (by kernel_rfl)
      have b13 : b 13 = true := hon 13 (by kernel_rfl)
      rw [b4, b9, b14, b16, b18, b20, b3, b8, b13] at hps
      have hl_ := hps.lits 2 p13 (.bool true) (by decide) rfl
      have ho_ := hps.own 2 (by decide)
      refine append_op (w := w') (.tmp 71) (.tmp 73) 112 4 (.bool false) 1 rfl rfl rfl info4 rfl (by decide) (w.heap.size + 3) u2 X2 (.bool true) p13 1 (eval_of e71) (eval_of e73) ho_ (hl_.1.cell 0 _ rfl) rfl (by have := hn2; omega) hps.le ?_
      intro v1 w1 ho1 hg1 hat1
      refine hK.out _ _ ⟨p3, p8, p13, v4, v9, v1, by rw [ha.out]; exact putSel_upk 8 hb_ rfl rfl rfl, ?_⟩
      show PSb _ _ _ _ _ _ _ _ _ _ _ _ _ _ _ _ _ _ _ (b 4) (b 9) true (b 16) (b 18) (b 20) (b 3) (b 8) (b 13)
      rw [b4, b9, b16, b18, b20, b3, b8, b13]
      exact hps.app2 ho1 hg1 hat1
     refine steps_cons ?_ ?_
     ·rintro b a w' ⟨p3, p8, p13, v4, v9, v14, ha, hps⟩ hb_ hon hoff
      refine ⟨_, rfl, fun K hK => ?_⟩
      have e8 : a.tmps[8]? = some (.pointer (some ⟨w.heap.size + 2, 0, none⟩)) := by rw [ha]; exact (putSel_off rfl).trans rfl
      replace ha := Aside0.mk ha
      have b4 : b 4 = true := hon 4 (by kernel_rfl)
      have b16 : b 16 = false := hoff 16 (by kernel_rfl)
      have b18 : b 18 = false := hoff 18 (by kernel_rfl)
      have b20 : b 20 = false := hoff 20 (by kernel_rfl)
      have b3 : b 3 = true := hon 3 (by kernel_rfl)
      rw [b4, b16, b18, b20, b3] at hps
      refine value_ (w1 := w') (v := .pointer (some ⟨w.heap.size + 2, 0, none⟩)) (by rfl) rfl ?_ ?_
      ·go_simp
       try rfl
      refine hK.out _ _ ⟨p3, p8, p13, v4, v9, v14, by rw [ha.out]; exact putSel_upk 9 hb_ rfl rfl rfl, ?_⟩
      show PSb _ _ _ _ _ _ _ _ _ _ _ _ _ _ _ _ _ _ _ (b 4) (b 9) (b 14) (b 16) (b 18) (b 20) (b 3) (b 8) (b 13)
      rw [b4, b16, b18, b20, b3]
      exact hps
     refine steps_cons ?_ ?_
     ·rintro b a w' ⟨p3, p8, p13, v4, v9, v14, ha, hps⟩ hb_ hon hoff
      refine ⟨_, rfl, fun K hK => ?_⟩
      have e75 : a.tmps[75]? = some (.pointer (some ⟨w.heap.size + 2, 0, none⟩)) := by rw [ha]; exact putSel_on (e := (15, 75, .pointer (some ⟨w.heap.size + 2, 0, none⟩))) 9 rfl rfl (hon 15 (by kernel_rfl)) rfl
      have e64 : a.tmps[64]? = some (v4) := by rw [ha]; exact putSel_on (e := (4, 64, v4)) 2 rfl rfl (hon 4 (by kernel_rfl)) rfl
      replace ha := Aside0.mk ha
      have b4 : b 4 = true := hon 4 (by kernel_rfl)
      have b9 : b 9 = true := hon 9 (by kernel_rfl)
      have b14 : b 14 = true := hon 14 (by kernel_rfl)
      have b16 : b 16 = false := hb_
      have b18 : b 18 = false := hoff 18 (by kernel_rfl)
      have b20 : b 20 = false := hoff 20 (by kernel_rfl)
      have b3 : b 3 = true := hon 3 (by kernel_rfl)
      have b8 : b 8 = true := hon 8 (by kernel_rfl)
      have b13 : b 13 = true := hon 13 (by kernel_rfl)
      rw [b4, b9, b14, b16, b18, b20, b3, b8, b13] at hps
      have hc_ := hps.blk.cell 0 _ rfl
      have hf_ := hps.blk.frozen 0
      obtain ⟨A_, n_, hv_⟩ := own_slice (hps.own 0 (by decide))
      replace hv_ : v4 = .slice A_ _ n_ := hv_
      refine skip_ (w1 := w'.setCell ⟨w.heap.size + 2, 0, none⟩ v4) (by rfl) rfl ?_ ?_
      ·go_simp
      refine hK.out _ _ ⟨p3, p8, p13, v4, v9, v14, by rw [ha.out]; exact putSel_none (v := undef) rfl, ?_⟩
      show PSb _ _ _ _ _ _ _ _ _ _ _ _ _ _ _ _ _ _ _ (b 4) (b 9) (b 14) true (b 18) (b 20) (b 3) (b 8) (b 13)
      rw [b4, b9, b14, b18, b20, b3, b8, b13]
      exact hps.store0
     refine steps_cons ?_ ?_
     ·rintro b a w' ⟨p3, p8, p13, v4, v9, v14, ha, hps⟩ hb_ hon hoff
      refine ⟨_, rfl, fun K hK => ?_⟩
      have e8 : a.tmps[8]? = some (.pointer (some ⟨w.heap.size + 2, 0, none⟩)) := by rw [ha]; exact (putSel_off rfl).trans rfl
      replace ha := Aside0.mk ha
      have b4 : b 4 = true := hon 4 (by kernel_rfl)
      have b9 : b 9 = true := hon 9 (by kernel_rfl)
      have b14 : b 14 = true := hon 14 (by kernel_rfl)
      have b16 : b 16 = true := hon 16 (by kernel_rfl)
      have b18 : b 18 = false := hoff 18 (by kernel_rfl)
      have b20 : b 20 = false := hoff 20 (by kernel_rfl)
      have b3 : b 3 = true := hon 3 (by kernel_rfl)
      have b8 : b 8 = true := hon 8 (by kernel_rfl)
      have b13 : b 13 = true := hon 13 (by kernel_rfl)
      rw [b4, b9, b14, b16, b18, b20, b3, b8, b13] at hps
      refine value_ (w1 := w') (v := .pointer (some ⟨w.heap.size + 2, 1, none⟩)) (by rfl) rfl ?_ ?_
      ·go_simp
       try rfl
      refine hK.out _ _ ⟨p3, p8, p13, v4, v9, v14, by rw [ha.out]; exact putSel_upk 10 hb_ rfl rfl rfl, ?_⟩
      show PSb _ _ _ _ _ _ _ _ _ _ _ _ _ _ _ _ _ _ _ (b 4) (b 9) (b 14) (b 16) (b 18) (b 20) (b 3) (b 8) (b 13)
      rw [b4, b9, b14, b16, b18, b20, b3, b8, b13]
      exact hps
     refine steps_cons ?_ ?_
     ·rintro b a w' ⟨p3, p8, p13, v4, v9, v14, ha, hps⟩ hb_ hon hoff
      refine ⟨_, rfl, fun K hK => ?_⟩
      have e76 : a.tmps[76]? = some (.pointer (some ⟨w.heap.size + 2, 1, none⟩)) := by rw [ha]; exact putSel_on (e := (17, 76, .pointer (some ⟨w.heap.size + 2, 1, none⟩))) 10 rfl rfl (hon 17 (by kernel_rfl)) rfl
      have e69 : a.tmps[69]? = some (v9) := by rw [ha]; exact putSel_on (e := (9, 69, v9)) 5 rfl rfl (hon 9 (by kernel_rfl)) rfl
      replace ha := Aside0.mk ha
      have b4 : b 4 = true := hon 4 (by kernel_rfl)
      have b9 : b 9 = true := hon 9 (by kernel_rfl)
      have b14 : b 14 = true := hon 14 (by kernel_rfl)
      have b16 : b 16 = true := hon 16 (by kernel_rfl)
      have b18 : b 18 = false := hb_
      have b20 : b 20 = false := hoff 20 (by kernel_rfl)
      have b3 : b 3 = true := hon 3 (by kernel_rfl)
      have b8 : b 8 = true := hon 8 (by kernel_rfl)
      have b13 : b 13 = true := hon 13 (by kernel_rfl)
      rw [b4, b9, b14, b16, b18, b20, b3, b8, b13] at hps
      have hc_ := hps.blk.cell 1 _ rfl
      have hf_ := hps.blk.frozen 1
      obtain ⟨A_, n_, hv_⟩ := own_slice (hps.own 1 (by decide))
      replace hv_ : v9 = .slice A_ _ n_ := hv_
      refine skip_ (w1 := w'.setCell ⟨w.heap.size + 2, 1, none⟩ v9) (by rfl) rfl ?_ ?_
      ·go_simp
      refine hK.out _ _ ⟨p3, p8, p13, v4, v9, v14, by rw [ha.out]; exact putSel_none (v := undef) rfl, ?_⟩
      show PSb _ _ _ _ _ _ _ _ _ _ _ _ _ _ _ _ _ _ _ (b 4) (b 9) (b 14) (b 16) true (b 20) (b 3) (b 8) (b 13)
      rw [b4, b9, b14, b16, b20, b3, b8, b13]
      exact hps.store1
     refine steps_cons ?_ ?_
     ·rintro b a w' ⟨p3, p8, p13, v4, v9, v14, ha, hps⟩ hb_ hon hoff
      refine ⟨_, rfl, fun K hK => ?_⟩
      have e8 : a.tmps[8]? = some (.pointer (some ⟨w.heap.size + 2, 0, none⟩)) := by rw [ha]; exact (putSel_off rfl).trans rfl
      replace ha := Aside0.mk ha
      have b4 : b 4 = true := hon 4 (by kernel_rfl)
      have b9 : b 9 = true := hon 9 (by kernel_rfl)
      have b14 : b 14 = true := hon 14 (by kernel_rfl)
      have b16 : b 16 = true := hon 16 (by kernel_rfl)
      have b18 : b 18 = true := hon 18 (by kernel_rfl)
      have b20 : b 20 = false := hoff 20 (by kernel_rfl)
      have b3 : b 3 = true := hon 3 (by kernel_rfl)
      have b8 : b 8 = true := hon 8 (by kernel_rfl)
      have b13 : b 13 = true := hon 13 (by kernel_rfl)
      rw [b4, b9, b14, b16, b18, b20, b3, b8, b13] at hps
      refine value_ (w1 := w') (v := .pointer (some ⟨w.heap.size + 2, 2, none⟩)) (by rfl) rfl ?_ ?_
      ·go_simp
       try rfl
      refine hK.out _ _ ⟨p3, p8, p13, v4, v9, v14, by rw [ha.out]; exact putSel_upk 11 hb_ rfl rfl rfl, ?_⟩
      show PSb _ _ _ _ _ _ _ _ _ _ _ _ _ _ _ _ _ _ _ (b 4) (b 9) (b 14) (b 16) (b 18) (b 20) (b 3) (b 8) (b 13)
      rw [b4, b9, b14, b16, b18, b20, b3, b8, b13]
      exact hps
     refine steps_cons ?_ ?_
     ·rintro b a w' ⟨p3, p8, p13, v4, v9, v14, ha, hps⟩ hb_ hon hoff
      refine ⟨_, rfl, fun K hK => ?_⟩
      have e77 : a.tmps[77]? = some (.pointer (some ⟨w.heap.size + 2, 2, none⟩)) := by rw [ha]; exact putSel_on (e := (19, 77, .pointer (some ⟨w.heap.size + 2, 2, none⟩))) 11 rfl rfl (hon 19 (by kernel_rfl)) rfl
      have e74 : a.tmps[74]? = some (v14) := by rw [ha]; exact putSel_on (e := (14, 74, v14)) 8 rfl rfl (hon 14 (by kernel_rfl)) rfl
      replace ha := Aside0.mk ha
      have b4 : b 4 = true := hon 4 (by kernel_rfl)
      have b9 : b 9 = true := hon 9 (by kernel_rfl)
      have b14 : b 14 = true := hon 14 (by kernel_rfl)
      have b16 : b 16 = true := hon 16 (by kernel_rfl)
      have b18 : b 18 = true := hon 18 (by kernel_rfl)
      have b20 : b 20 = false := hb_
      have b3 : b 3 = true := hon 3 (by kernel_rfl)
      have b8 : b 8 = true := hon 8 (by kernel_rfl)
      have b13 : b 13 = true := hon 13 (by kernel_rfl)
      rw [b4, b9, b14, b16, b18, b20, b3, b8, b13] at hps
      have hc_ := hps.blk.cell 2 _ rfl
      have hf_ := hps.blk.frozen 2
      obtain ⟨A_, n_, hv_⟩ := own_slice (hps.own 2 (by decide))
      replace hv_ : v14 = .slice A_ _ n_ := hv_
      refine skip_ (w1 := w'.setCell ⟨w.heap.size + 2, 2, none⟩ v14) (by rfl) rfl ?_ ?_
      ·go_simp
      refine hK.out _ _ ⟨p3, p8, p13, v4, v9, v14, by rw [ha.out]; exact putSel_none (v := undef) rfl, ?_⟩
      show PSb _ _ _ _ _ _ _ _ _ _ _ _ _ _ _ _ _ _ _ (b 4) (b 9) (b 14) (b 16) (b 18) true (b 3) (b 8) (b 13)
      rw [b4, b9, b14, b16, b18, b3, b8, b13]
      exact hps.store2
     exact steps_nil
    rintro b a w' hall ⟨p3, p8, p13, v4, v9, v14, ha, hps⟩
    rw [hall 4 (by kernel_rfl), hall 9 (by kernel_rfl), hall 14 (by kernel_rfl), hall 16 (by kernel_rfl), hall 18 (by kernel_rfl), hall 20 (by kernel_rfl), hall 3 (by kernel_rfl), hall 8 (by kernel_rfl), hall 13 (by kernel_rfl)] at hps
    have hb1_ := hall 1 (by kernel_rfl)
    have hb3_ := hall 3 (by kernel_rfl)
    have hb4_ := hall 4 (by kernel_rfl)
    have hb6_ := hall 6 (by kernel_rfl)
    have hb8_ := hall 8 (by kernel_rfl)
    have hb9_ := hall 9 (by kernel_rfl)
    have hb11_ := hall 11 (by kernel_rfl)
    have hb13_ := hall 13 (by kernel_rfl)
    have hb14_ := hall 14 (by kernel_rfl)
    have hb15_ := hall 15 (by kernel_rfl)
    have hb16_ := hall 16 (by kernel_rfl)
    have hb17_ := hall 17 (by kernel_rfl)
    have hb18_ := hall 18 (by kernel_rfl)
    have hb19_ := hall 19 (by kernel_rfl)
    have hb20_ := hall 20 (by kernel_rfl)
    subst ha
    simp only [putSel, hb1_, hb3_, hb4_, hb6_, hb8_, hb9_, hb11_, hb13_, hb14_, hb15_, hb16_, hb17_, hb18_, hb19_, hb20_, if_true, Act.put, List.setIfInBounds_toArray, List.set_cons_zero, List.set_cons_succ]
    clear hall hb1_ hb3_ hb4_ hb6_ hb8_ hb9_ hb11_ hb13_ hb14_ hb15_ hb16_ hb17_ hb18_ hb19_ hb20_
    have hstep : PastAt x s co wa (w.heap.size + 3) (w.heap.size + 2) W0 w' (kk + 1) := past_step hps HX0.out HX1.out HX2.out HHOT.out HLF.out HKT.out
    have HST := Aside0.mk hstep
    clear hps hstep
    go_wp2
    go_roundw
    case rel => exact ⟨kk + 1, by omega, by go_num, by rw [HLF.out], HST⟩
    case measure => simp [intOf]; omega
   ·have hkp' : p / x.f3 < wk := by omega
    have HLF := Lib.hid (show heatAt x s co wa (kk + 1) = 0 by
     show leftH x wa (preAt x s co wa kk) kk = _
     rw [HPE.out]; unfold leftH keptH; rw [HGW.out]; exact if_neg (by simpa using hkp))
    have HKT := Lib.hid (show keptAt x s co wa kk = false by rw [HKP.out]; simpa using hkp)
    generalize hq : p / x.f3 = hot at *
    go_wp2
    have hPS := HPX.out
    replace hPS : PSb (w.heap.size + 3) (w.heap.size + 2) W0 W5.drew u0 u1 u2 undef undef undef X0 X1 X2 (.int .i64 hot) (.int .i64 0) (.bool false) 0 0 0 false false false false false false false false false := PSt.drew hPS
    refine start_ (n := 21) (S := fun w' => True) (ds := []) #[false, false, false, false, false, false, false, false, false, false, false, false, false, false, false, false, false, false, false, false, false] (by kernel_rfl) rfl rfl trivial (fun hHeld => ?_)
    refine pure_ (i := 0) (N := some 60) (v := ?_) (a' := ?_) (bs 21 1) rfl rfl (by kernel_rfl) (fun _ _ _ h => h) (Or.inl ⟨by rfl, ?_⟩) ?_ ?_
    rotate_left
    ·intro w'
     go_simp
     with_reducible rfl
    rotate_left
    ·simp only [Act.put, List.setIfInBounds_toArray, List.set_cons_zero, List.set_cons_succ, i64_w, i32_w]
     rfl
    refine pure_ (i := 2) (N := some 62) (v := ?_) (a' := ?_) (bs 21 5) rfl rfl (by kernel_rfl) (fun _ _ _ h => h) (Or.inl ⟨by rfl, ?_⟩) ?_ ?_
    rotate_left
    ·intro w'
     go_simp
     with_reducible rfl
    rotate_left
    ·simp only [Act.put, List.setIfInBounds_toArray, List.set_cons_zero, List.set_cons_succ, i64_w, i32_w]
     rfl
    refine pure_ (i := 5) (N := some 65) (v := ?_) (a' := ?_) (bs 21 37) rfl rfl (by kernel_rfl) (fun _ _ _ h => h) (Or.inl ⟨by rfl, ?_⟩) ?_ ?_
    rotate_left
    ·intro w'
     go_simp
     with_reducible rfl
    rotate_left
    ·simp only [Act.put, List.setIfInBounds_toArray, List.set_cons_zero, List.set_cons_succ, i64_w, i32_w]
     rfl
    refine pure_ (i := 7) (N := some 67) (v := ?_) (a' := ?_) (bs 21 165) rfl rfl (by kernel_rfl) (fun _ _ _ h => h) (Or.inl ⟨by rfl, ?_⟩) ?_ ?_
    rotate_left
    ·intro w'
     go_simp
     with_reducible rfl
    rotate_left
    ·simp only [Act.put, List.setIfInBounds_toArray, List.set_cons_zero, List.set_cons_succ, i64_w, i32_w]
     rfl
    refine pure_ (i := 10) (N := some 70) (v := ?_) (a' := ?_) (bs 21 1189) rfl rfl (by kernel_rfl) (fun _ _ _ h => h) (Or.inl ⟨by rfl, ?_⟩) ?_ ?_
    rotate_left
    ·intro w'
     go_simp
     with_reducible rfl
    rotate_left
    ·simp only [Act.put, List.setIfInBounds_toArray, List.set_cons_zero, List.set_cons_succ, i64_w, i32_w]
     rfl
    refine pure_ (i := 12) (N := some 72) (v := ?_) (a' := ?_) (bs 21 5285) rfl rfl (by kernel_rfl) (fun _ _ _ h => h) (Or.inl ⟨by rfl, ?_⟩) ?_ ?_
    rotate_left
    ·intro w'
     go_simp
     with_reducible rfl
    rotate_left
    ·simp only [Act.put, List.setIfInBounds_toArray, List.set_cons_zero, List.set_cons_succ, i64_w, i32_w]
     rfl
    clear hHeld
    refine inv_at (T := rtab .any _) (B := [0, 1, 0, 4, 15, 0, 32, 0, 128, 511, 0, 1024, 0, 4096, 16383, 3199, 65535, 131071, 262143, 524287, 1048575]) [1, 3, 4, 6, 8, 9, 11, 13, 14, 15, 16, 17, 18, 19, 20] (fun a0_ b a w' => ∃ (p3 p8 p13 : Nat) (v4 v9 v14 : Value), a = putSel a0_ b [(1, 61, u0), (3, 63, .slice (some ⟨p3, 0, none⟩) 1 1), (4, 64, v4), (6, 66, u1), (8, 68, .slice (some ⟨p8, 0, none⟩) 1 1), (9, 69, v9), (11, 71, u2), (13, 73, .slice (some ⟨p13, 0, none⟩) 1 1), (14, 74, v14), (15, 75, .pointer (some ⟨w.heap.size + 2, 0, none⟩)), (17, 76, .pointer (some ⟨w.heap.size + 2, 1, none⟩)), (19, 77, .pointer (some ⟨w.heap.size + 2, 2, none⟩))] ∧ PSb (w.heap.size + 3) (w.heap.size + 2) W0 w' u0 u1 u2 v4 v9 v14 X0 X1 X2 (.int .i64 hot) (.int .i64 0) (.bool false) p3 p8 p13 (b 4) (b 9) (b 14) (b 16) (b 18) (b 20) (b 3) (b 8) (b 13)) rfl (by kernel_rfl) (by kernel_rfl) (by kernel_rfl) ?_ ?_ ?_
    ·exact ⟨0, 0, 0, undef, undef, undef, by simp only [putSel, Bool.false_eq_true, if_false], hPS⟩
    ·clear hPS
     refine steps_cons ?_ ?_
     ·rintro b a w' ⟨p3, p8, p13, v4, v9, v14, ha, hps⟩ hb_ hon hoff
      refine ⟨_, rfl, fun K hK => ?_⟩
      have e60 : a.tmps[60]? = some (.pointer (some ⟨w.heap.size + 1 + 1, 0, none⟩)) := by rw [ha]; exact (putSel_off rfl).trans rfl
      replace ha := Aside0.mk ha
      have b4 : b 4 = false := hoff 4 (by kernel_rfl)
      have b9 : b 9 = false := hoff 9 (by kernel_rfl)
      have b14 : b 14 = false := hoff 14 (by kernel_rfl)
      have b16 : b 16 = false := hoff 16 (by kernel_rfl)
      have b18 : b 18 = false := hoff 18 (by kernel_rfl)
      have b20 : b 20 = false := hoff 20 (by kernel_rfl)
      rw [b4, b9, b14, b16, b18, b20] at hps
      have hc_ : w'.cell? ⟨w.heap.size + 1 + 1, 0, none⟩ = some u0 := hps.blk.cell 0 _ rfl
      refine value_ (w1 := w') (v := u0) (by rfl) rfl ?_ ?_
      ·go_simp
       try rfl
      refine hK.out _ _ ⟨p3, p8, p13, v4, v9, v14, by rw [ha.out]; exact putSel_upk 0 hb_ rfl rfl rfl, ?_⟩
      show PSb _ _ _ _ _ _ _ _ _ _ _ _ _ _ _ _ _ _ _ (b 4) (b 9) (b 14) (b 16) (b 18) (b 20) (b 3) (b 8) (b 13)
      rw [b4, b9, b14, b16, b18, b20]
      exact hps
     refine steps_cons ?_ ?_
     ·rintro b a w' ⟨p3, p8, p13, v4, v9, v14, ha, hps⟩ hb_ hon hoff
      refine ⟨_, rfl, fun K hK => ?_⟩
      have e62 : a.tmps[62]? = some (.int .i64 hot) := by rw [ha]; exact (putSel_off rfl).trans rfl
      replace ha := Aside0.mk ha
      have b4 : b 4 = false := hoff 4 (by kernel_rfl)
      have b9 : b 9 = false := hoff 9 (by kernel_rfl)
      have b14 : b 14 = false := hoff 14 (by kernel_rfl)
      have b16 : b 16 = false := hoff 16 (by kernel_rfl)
      have b18 : b 18 = false := hoff 18 (by kernel_rfl)
      have b20 : b 20 = false := hoff 20 (by kernel_rfl)
      have b3 : b 3 = false := hb_
      rw [b4, b9, b14, b16, b18, b20, b3] at hps
      refine value_ (w1 := w'.alloc (.cells #[(.int .i64 hot)] 3)) (v := .slice (some ⟨w'.heap.size, 0, none⟩) 1 1) (by rfl) rfl ?_ ?_
      ·go_simp
       first | done | rfl | (constructor <;> rfl)
      refine hK.out _ _ ⟨w'.heap.size, p8, p13, v4, v9, v14, by rw [ha.out]; exact putSel_upk 1 hb_ rfl rfl rfl, ?_⟩
      show PSb _ _ _ _ _ _ _ _ _ _ _ _ _ _ _ _ _ _ _ (b 4) (b 9) (b 14) (b 16) (b 18) (b 20) true (b 8) (b 13)
      rw [b4, b9, b14, b16, b18, b20]
      exact hps.lit0
     refine steps_cons ?_ ?_
     ·rintro b a w' ⟨p3, p8, p13, v4, v9, v14, ha, hps⟩ hb_ hon hoff
      refine ⟨_, rfl, fun K hK => ?_⟩
      have e61 : a.tmps[61]? = some (u0) := by rw [ha]; exact putSel_on (e := (1, 61, u0)) 0 rfl rfl (hon 1 (by kernel_rfl)) rfl
      have e63 : a.tmps[63]? = some (.slice (some ⟨p3, 0, none⟩) 1 1) := by rw [ha]; exact putSel_on (e := (3, 63, .slice (some ⟨p3, 0, none⟩) 1 1)) 1 rfl rfl (hon 3 (by kernel_rfl)) rfl
      replace ha := Aside0.mk ha
      have b4 : b 4 = false := hb_
      have b9 : b 9 = false := hoff 9 (by kernel_rfl)
      have b14 : b 14 = false := hoff 14 (by kernel_rfl)
      have b16 : b 16 = false := hoff 16 (by kernel_rfl)
      have b18 : b 18 = false := hoff 18 (by kernel_rfl)
      have b20 : b 20 = false := hoff 20 (by kernel_rfl)
      have b3 : b 3 = true := hon 3 (by kernel_rfl)
      rw [b4, b9, b14, b16, b18, b20, b3] at hps
      have hl_ := hps.lits 0 p3 (.int .i64 hot) (by decide) rfl
      have ho_ := hps.own 0 (by decide)
      refine append_op (w := w') (.tmp 61) (.tmp 63) 22 3 (.int .i64 0) 8 rfl rfl rfl info3 rfl (by decide) (w.heap.size + 3) u0 X0 (.int .i64 hot) p3 1 (eval_of e61) (eval_of e63) ho_ (hl_.1.cell 0 _ rfl) rfl (by have := hn0; omega) hps.le ?_
      intro v1 w1 ho1 hg1 hat1
      refine hK.out _ _ ⟨p3, p8, p13, v1, v9, v14, by rw [ha.out]; exact putSel_upk 2 hb_ rfl rfl rfl, ?_⟩
      show PSb _ _ _ _ _ _ _ _ _ _ _ _ _ _ _ _ _ _ _ true (b 9) (b 14) (b 16) (b 18) (b 20) (b 3) (b 8) (b 13)
      rw [b9, b14, b16, b18, b20, b3]
      exact hps.app0 ho1 hg1 hat1
     refine steps_cons ?_ ?_
     ·rintro b a w' ⟨p3, p8, p13, v4, v9, v14, ha, hps⟩ hb_ hon hoff
      refine ⟨_, rfl, fun K hK => ?_⟩
      have e65 : a.tmps[65]? = some (.pointer (some ⟨w.heap.size + 1 + 1, 1, none⟩)) := by rw [ha]; exact (putSel_off rfl).trans rfl
      replace ha := Aside0.mk ha
      have b9 : b 9 = false := hoff 9 (by kernel_rfl)
      have b14 : b 14 = false := hoff 14 (by kernel_rfl)
      have b16 : b 16 = false := hoff 16 (by kernel_rfl)
      have b18 : b 18 = false := hoff 18 (by kernel_rfl)
      have b20 : b 20 = false := hoff 20 (by kernel_rfl)
      rw [b9, b14, b16, b18, b20] at hps
      have hc_ : w'.cell? ⟨w.heap.size + 1 + 1, 1, none⟩ = some u1 := hps.blk.cell 1 _ rfl
      refine value_ (w1 := w') (v := u1) (by rfl) rfl ?_ ?_
      ·go_simp
       try rfl
      refine hK.out _ _ ⟨p3, p8, p13, v4, v9, v14, by rw [ha.out]; exact putSel_upk 3 hb_ rfl rfl rfl, ?_⟩
      show PSb _ _ _ _ _ _ _ _ _ _ _ _ _ _ _ _ _ _ _ (b 4) (b 9) (b 14) (b 16) (b 18) (b 20) (b 3) (b 8) (b 13)
      rw [b9, b14, b16, b18, b20]
      exact hps
     refine steps_cons ?_ ?_
     ·rintro b a w' ⟨p3, p8, p13, v4, v9, v14, ha, hps⟩ hb_ hon hoff
      refine ⟨_, rfl, fun K hK => ?_⟩
      have e67 : a.tmps[67]? = some (.int .i64 0) := by rw [ha]; exact (putSel_off rfl).trans rfl
      replace ha := Aside0.mk ha
      have b9 : b 9 = false := hoff 9 (by kernel_rfl)
      have b14 : b 14 = false := hoff 14 (by kernel_rfl)
      have b16 : b 16 = false := hoff 16 (by kernel_rfl)
      have b18 : b 18 = false := hoff 18 (by kernel_rfl)
      have b20 : b 20 = false := hoff 20 (by kernel_rfl)
      have b8 : b 8 = false := hb_
      rw [b9, b14, b16, b18, b20, b8] at hps
      refine value_ (w1 := w'.alloc (.cells #[(.int .i64 0)] 3)) (v := .slice (some ⟨w'.heap.size, 0, none⟩) 1 1) (by rfl) rfl ?_ ?_
      ·go_simp
       first | done | rfl | (constructor <;> rfl)
      refine hK.out _ _ ⟨p3, w'.heap.size, p13, v4, v9, v14, by rw [ha.out]; exact putSel_upk 4 hb_ rfl rfl rfl, ?_⟩
      show PSb _ _ _ _ _ _ _ _ _ _ _ _ _ _ _ _ _ _ _ (b 4) (b 9) (b 14) (b 16) (b 18) (b 20) (b 3) true (b 13)
      rw [b9, b14, b16, b18, b20]
      exact hps.lit1
     refine steps_cons ?_ ?_
     ·rintro b a w' ⟨p3, p8, p13, v4, v9, v14, ha, hps⟩ hb_ hon hoff
      refine ⟨_, rfl, fun K hK => ?_⟩
      have e66 : a.tmps[66]? = some (u1) := by rw [ha]; exact putSel_on (e := (6, 66, u1)) 3 rfl rfl (hon 6 (by kernel_rfl)) rfl
      have e68 : a.tmps[68]? = some (.slice (some ⟨p8, 0, none⟩) 1 1) := by rw [ha]; exact putSel_on (e := (8, 68, .slice (some ⟨p8, 0, none⟩) 1 1)) 4 rfl rfl (hon 8 (by kernel_rfl)) rfl
      replace ha := Aside0.mk ha
      have b4 : b 4 = true := hon 4 (by kernel_rfl)
      have b9 : b 9 = false := hb_
      have b14 : b 14 = false := hoff 14 (by kernel_rfl)
      have b16 : b 16 = false := hoff 16 (by kernel_rfl)
      have b18 : b 18 = false := hoff 18 (by kernel_rfl)
      have b20 : b 20 = false := hoff 20 (by kernel_rfl)
      have b3 : b 3 = true := hon 3 (by kernel_rfl)
      have b8 : b 8 = true := hon 8 (by kernel_rfl)
      rw [b4, b9, b14, b16, b18, b20, b3, b8] at hps
      have hl_ := hps.lits 1 p8 (.int .i64 0) (by decide) rfl
      have ho_ := hps.own 1 (by decide)
      refine append_op (w := w') (.tmp 66) (.tmp 68) 22 3 (.int .i64 0) 8 rfl rfl rfl info3 rfl (by decide) (w.heap.size + 3) u1 X1 (.int .i64 0) p8 1 (eval_of e66) (eval_of e68) ho_ (hl_.1.cell 0 _ rfl) rfl (by have := hn1; omega) hps.le ?_
      intro v1 w1 ho1 hg1 hat1
      refine hK.out _ _ ⟨p3, p8, p13, v4, v1, v14, by rw [ha.out]; exact putSel_upk 5 hb_ rfl rfl rfl, ?_⟩
      show PSb _ _ _ _ _ _ _ _ _ _ _ _ _ _ _ _ _ _ _ (b 4) true (b 14) (b 16) (b 18) (b 20) (b 3) (b 8) (b 13)
      rw [b4, b14, b16, b18, b20, b3, b8]
      exact hps.app1 ho1 hg1 hat1
     refine steps_cons ?_ ?_
     ·rintro b a w' ⟨p3, p8, p13, v4, v9, v14, ha, hps⟩ hb_ hon hoff
      refine ⟨_, rfl, fun K hK => ?_⟩
      have e70 : a.tmps[70]? = some (.pointer (some ⟨w.heap.size + 1 + 1, 2, none⟩)) := by rw [ha]; exact (putSel_off rfl).trans rfl
      replace ha := Aside0.mk ha
      have b14 : b 14 = false := hoff 14 (by kernel_rfl)
      have b16 : b 16 = false := hoff 16 (by kernel_rfl)
      have b18 : b 18 = false := hoff 18 (by kernel_rfl)
      have b20 : b 20 = false := hoff 20 (by kernel_rfl)
      rw [b14, b16, b18, b20] at hps
      have hc_ : w'.cell? ⟨w.heap.size + 1 + 1, 2, none⟩ = some u2 := hps.blk.cell 2 _ rfl
      refine value_ (w1 := w') (v := u2) (by rfl) rfl ?_ ?_
      ·go_simp
       try rfl
      refine hK.out _ _ ⟨p3, p8, p13, v4, v9, v14, by rw [ha.out]; exact putSel_upk 6 hb_ rfl rfl rfl, ?_⟩
      show PSb _ _ _ _ _ _ _ _ _ _ _ _ _ _ _ _ _ _ _ (b 4) (b 9) (b 14) (b 16) (b 18) (b 20) (b 3) (b 8) (b 13)
      rw [b14, b16, b18, b20]
      exact hps
     refine steps_cons ?_ ?_
     ·rintro b a w' ⟨p3, p8, p13, v4, v9, v14, ha, hps⟩ hb_ hon hoff
      refine ⟨_, rfl, fun K hK => ?_⟩
      have e72 : a.tmps[72]? = some (.bool false) := by rw [ha]; exact (putSel_off rfl).trans rfl
      replace ha := Aside0.mk ha
      have b14 : b 14 = false := hoff 14 (by kernel_rfl)
      have b16 : b 16 = false := hoff 16 (by kernel_rfl)
      have b18 : b 18 = false := hoff 18 (by kernel_rfl)
      have b20 : b 20 = false := hoff 20 (by kernel_rfl)
      have b13 : b 13 = false := hb_
      rw [b14, b16, b18, b20, b13] at hps
      refine value_ (w1 := w'.alloc (.cells #[(.bool false)] 4)) (v := .slice (some ⟨w'.heap.size, 0, none⟩) 1 1) (by rfl) rfl ?_ ?_
      ·go_simp
       first | done | rfl | (constructor <;> rfl)
      refine hK.out _ _ ⟨p3, p8, w'.heap.size, v4, v9, v14, by rw [ha.out]; exact putSel_upk 7 hb_ rfl rfl rfl, ?_⟩
      show PSb _ _ _ _ _ _ _ _ _ _ _ _ _ _ _ _ _ _ _ (b 4) (b 9) (b 14) (b 16) (b 18) (b 20) (b 3) (b 8) true
      rw [b14, b16, b18, b20]
      exact hps.lit2
     refine steps_cons ?_ ?_
     ·rintro b a w' ⟨p3, p8, p13, v4, v9, v14, ha, hps⟩ hb_ hon hoff
      refine ⟨_, rfl, fun K hK => ?_⟩
      have e71 : a.tmps[71]? = some (u2) := by rw [ha]; exact putSel_on (e := (11, 71, u2)) 6 rfl rfl (hon 11 (by kernel_rfl)) rfl
      have e73 : a.tmps[73]? = some (.slice (some ⟨p13, 0, none⟩) 1 1) := by rw [ha]; exact putSel_on (e := (13, 73, .slice (some ⟨p13, 0, none⟩) 1 1)) 7 rfl rfl (hon 13 (by kernel_rfl)) rfl
      replace ha := Aside0.mk ha
      have b4 : b 4 = true := hon 4 (by kernel_rfl)
      have b9 : b 9 = true := hon 9 (by kernel_rfl)
      have b14 : b 14 = false := hb_
      have b16 : b 16 = false := hoff 16 (by kernel_rfl)
      have b18 : b 18 = false := hoff 18 (by kernel_rfl)
      have b20 : b 20 = false := hoff 20 (by kernel_rfl)
      have b3 : b 3 = true := hon 3 (by kernel_rfl)
      have b8 : b 8 = true := hon 8 (by kernel_rfl)
      have b13 : b 13 = true := hon 13 (by kernel_rfl)
      rw [b4, b9, b14, b16, b18, b20, b3, b8, b13] at hps
      have hl_ := hps.lits 2 p13 (.bool false) (by decide) rfl
      have ho_ := hps.own 2 (by decide)
      refine append_op (w := w') (.tmp 71) (.tmp 73) 112 4 (.bool false) 1 rfl rfl rfl info4 rfl (by decide) (w.heap.size + 3) u2 X2 (.bool false) p13 1 (eval_of e71) (eval_of e73) ho_ (hl_.1.cell 0 _ rfl) rfl (by have := hn2; omega) hps.le ?_
      intro v1 w1 ho1 hg1 hat1
      refine hK.out _ _ ⟨p3, p8, p13, v4, v9, v1, by rw [ha.out]; exact putSel_upk 8 hb_ rfl rfl rfl, ?_⟩
      show PSb _ _ _ _ _ _ _ _ _ _ _ _ _ _ _ _ _ _ _ (b 4) (b 9) true (b 16) (b 18) (b 20) (b 3) (b 8) (b 13)
      rw [b4, b9, b16, b18, b20, b3, b8, b13]
      exact hps.app2 ho1 hg1 hat1
     refine steps_cons ?_ ?_
     ·rintro b a w' ⟨p3, p8, p13, v4, v9, v14, ha, hps⟩ hb_ hon hoff
      refine ⟨_, rfl, fun K hK => ?_⟩
      have e8 : a.tmps[8]? = some (.pointer (some ⟨w.heap.size + 2, 0, none⟩)) := by rw [ha]; exact (putSel_off rfl).trans rfl
      replace ha := Aside0.mk ha
      have b4 : b 4 = true := hon 4 (by kernel_rfl)
      have b16 : b 16 = false := hoff 16 (by kernel_rfl)
      have b18 : b 18 = false := hoff 18 (by kernel_rfl)
      have b20 : b 20 = false := hoff 20 (by kernel_rfl)
      have b3 : b 3 = true := hon 3 (by kernel_rfl)
      rw [b4, b16, b18, b20, b3] at hps
      refine value_ (w1 := w') (v := .pointer (some ⟨w.heap.size + 2, 0, none⟩)) (by rfl) rfl ?_ ?_
      ·go_simp
       try rfl
      refine hK.out _ _ ⟨p3, p8, p13, v4, v9, v14, by rw [ha.out]; exact putSel_upk 9 hb_ rfl rfl rfl, ?_⟩
      show PSb _ _ _ _ _ _ _ _ _ _ _ _ _ _ _ _ _ _ _ (b 4) (b 9) (b 14) (b 16) (b 18) (b 20) (b 3) (b 8) (b 13)
      rw [b4, b16, b18, b20, b3]
      exact hps
     refine steps_cons ?_ ?_
     ·rintro b a w' ⟨p3, p8, p13, v4, v9, v14, ha, hps⟩ hb_ hon hoff
      refine ⟨_, rfl, fun K hK => ?_⟩
      have e75 : a.tmps[75]? = some (.pointer (some ⟨w.heap.size + 2, 0, none⟩)) := by rw [ha]; exact putSel_on (e := (15, 75, .pointer (some ⟨w.heap.size + 2, 0, none⟩))) 9 rfl rfl (hon 15 (by kernel_rfl)) rfl
      have e64 : a.tmps[64]? = some (v4) := by rw [ha]; exact putSel_on (e := (4, 64, v4)) 2 rfl rfl (hon 4 (by kernel_rfl)) rfl
      replace ha := Aside0.mk ha
      have b4 : b 4 = true := hon 4 (by kernel_rfl)
      have b9 : b 9 = true := hon 9 (by kernel_rfl)
      have b14 : b 14 = true := hon 14 (by kernel_rfl)
      have b16 : b 16 = false := hb_
      have b18 : b 18 = false := hoff 18 (by kernel_rfl)
      have b20 : b 20 = false := hoff 20 (by kernel_rfl)
      have b3 : b 3 = true := hon 3 (by kernel_rfl)
      have b8 : b 8 = true := hon 8 (by kernel_rfl)
      have b13 : b 13 = true := hon 13 (by kernel_rfl)
      rw [b4, b9, b14, b16, b18, b20, b3, b8, b13] at hps
      have hc_ := hps.blk.cell 0 _ rfl
      have hf_ := hps.blk.frozen 0
      obtain ⟨A_, n_, hv_⟩ := own_slice (hps.own 0 (by decide))
      replace hv_ : v4 = .slice A_ _ n_ := hv_
      refine skip_ (w1 := w'.setCell ⟨w.heap.size + 2, 0, none⟩ v4) (by rfl) rfl ?_ ?_
      ·go_simp
      refine hK.out _ _ ⟨p3, p8, p13, v4, v9, v14, by rw [ha.out]; exact putSel_none (v := undef) rfl, ?_⟩
      show PSb _ _ _ _ _ _ _ _ _ _ _ _ _ _ _ _ _ _ _ (b 4) (b 9) (b 14) true (b 18) (b 20) (b 3) (b 8) (b 13)
      rw [b4, b9, b14, b18, b20, b3, b8, b13]
      exact hps.store0
     refine steps_cons ?_ ?_
     ·rintro b a w' ⟨p3, p8, p13, v4, v9, v14, ha, hps⟩ hb_ hon hoff
      refine ⟨_, rfl, fun K hK => ?_⟩
      have e8 : a.tmps[8]? = some (.pointer (some ⟨w.heap.size + 2, 0, none⟩)) := by rw [ha]; exact (putSel_off rfl).trans rfl
      replace ha := Aside0.mk ha
      have b4 : b 4 = true := hon 4 (by kernel_rfl)
      have b9 : b 9 = true := hon 9 (by kernel_rfl)
      have b14 : b 14 = true := hon 14 (by kernel_rfl)
      have b16 : b 16 = true := hon 16 (by kernel_rfl)
      have b18 : b 18 = false := hoff 18 (by kernel_rfl)
      have b20 : b 20 = false := hoff 20 (by kernel_rfl)
      have b3 : b 3 = true := hon 3 (by kernel_rfl)
      have b8 : b 8 = true := hon 8 (by kernel_rfl)
      have b13 : b 13 = true := hon 13 (by kernel_rfl)
      rw [b4, b9, b14, b16, b18, b20, b3, b8, b13] at hps
      refine value_ (w1 := w') (v := .pointer (some ⟨w.heap.size + 2, 1, none⟩)) (by rfl) rfl ?_ ?_
      ·go_simp
       try rfl
      refine hK.out _ _ ⟨p3, p8, p13, v4, v9, v14, by rw [ha.out]; exact putSel_upk 10 hb_ rfl rfl rfl, ?_⟩
      show PSb _ _ _ _ _ _ _ _ _ _ _ _ _ _ _ _ _ _ _ (b 4) (b 9) (b 14) (b 16) (b 18) (b 20) (b 3) (b 8) (b 13)
      rw [b4, b9, b14, b16, b18, b20, b3, b8, b13]
      exact hps
     refine steps_cons ?_ ?_
     ·rintro b a w' ⟨p3, p8, p13, v4, v9, v14, ha, hps⟩ hb_ hon hoff
      refine ⟨_, rfl, fun K hK => ?_⟩
      have e76 : a.tmps[76]? = some (.pointer (some ⟨w.heap.size + 2, 1, none⟩)) := by rw [ha]; exact putSel_on (e := (17, 76, .pointer (some ⟨w.heap.size + 2, 1, none⟩))) 10 rfl rfl (hon 17 (by kernel_rfl)) rfl
      have e69 : a.tmps[69]? = some (v9) := by rw [ha]; exact putSel_on (e := (9, 69, v9)) 5 rfl rfl (hon 9 (by kernel_rfl)) rfl
      replace ha := Aside0.mk ha
      have b4 : b 4 = true := hon 4 (by kernel_rfl)
      have b9 : b 9 = true := hon 9 (by kernel_rfl)
      have b14 : b 14 = true := hon 14 (by kernel_rfl)
      have b16 : b 16 = true := hon 16 (by kernel_rfl)
      have b18 : b 18 = false := hb_
      have b20 : b 20 = false := hoff 20 (by kernel_rfl)
      have b3 : b 3 = true := hon 3 (by kernel_rfl)
      have b8 : b 8 = true := hon 8 (by kernel_rfl)
      have b13 : b 13 = true := hon 13 (by kernel_rfl)
      rw [b4, b9, b14, b16, b18, b20, b3, b8, b13] at hps
      have hc_ := hps.blk.cell 1 _ rfl
      have hf_ := hps.blk.frozen 1
      obtain ⟨A_, n_, hv_⟩ := own_slice (hps.own 1 (by decide))
      replace hv_ : v9 = .slice A_ _ n_ := hv_
      refine skip_ (w1 := w'.setCell ⟨w.heap.size + 2, 1, none⟩ v9) (by rfl) rfl ?_ ?_
      ·go_simp
      refine hK.out _ _ ⟨p3, p8, p13, v4, v9, v14, by rw [ha.out]; exact putSel_none (v := undef) rfl, ?_⟩
      show PSb _ _ _ _ _ _ _ _ _ _ _ _ _ _ _ _ _ _ _ (b 4) (b 9) (b 14) (b 16) true (b 20) (b 3) (b 8) (b 13)
      rw [b4, b9, b14, b16, b20, b3, b8, b13]
      exact hps.store1
     refine steps_cons ?_ ?_
     ·rintro b a w' ⟨p3, p8, p13, v4, v9, v14, ha, hps⟩ hb_ hon hoff
      refine ⟨_, rfl, fun K hK => ?_⟩
      have e8 : a.tmps[8]? = some (.pointer (some ⟨w.heap.size + 2, 0, none⟩)) := by rw [ha]; exact (putSel_off rfl).trans rfl
      replace ha := Aside0.mk ha
      have b4 : b 4 = true := hon 4 (by kernel_rfl)
      have b9 : b 9 = true := hon 9 (by kernel_rfl)
      have b14 : b 14 = true := hon 14 (by kernel_rfl)
      have b16 : b 16 = true := hon 16 (by kernel_rfl)
      have b18 : b 18 = true := hon 18 (by kernel_rfl)
      have b20 : b 20 = false := hoff 20 (by kernel_rfl)
      have b3 : b 3 = true := hon 3 (by kernel_rfl)
      have b8 : b 8 = true := hon 8 (by kernel_rfl)
      have b13 : b 13 = true := hon 13 (by kernel_rfl)
      rw [b4, b9, b14, b16, b18, b20, b3, b8, b13] at hps
      refine value_ (w1 := w') (v := .pointer (some ⟨w.heap.size + 2, 2, none⟩)) (by rfl) rfl ?_ ?_
      ·go_simp
       try rfl
      refine hK.out _ _ ⟨p3, p8, p13, v4, v9, v14, by rw [ha.out]; exact putSel_upk 11 hb_ rfl rfl rfl, ?_⟩
      show PSb _ _ _ _ _ _ _ _ _ _ _ _ _ _ _ _ _ _ _ (b 4) (b 9) (b 14) (b 16) (b 18) (b 20) (b 3) (b 8) (b 13)
      rw [b4, b9, b14, b16, b18, b20, b3, b8, b13]
      exact hps
     refine steps_cons ?_ ?_
     ·rintro b a w' ⟨p3, p8, p13, v4, v9, v14, ha, hps⟩ hb_ hon hoff
      refine ⟨_, rfl, fun K hK => ?_⟩
      have e77 : a.tmps[77]? = some (.pointer (some ⟨w.heap.size + 2, 2, none⟩)) := by rw [ha]; exact putSel_on (e := (19, 77, .pointer (some ⟨w.heap.size + 2, 2, none⟩))) 11 rfl rfl (hon 19 (by kernel_rfl)) rfl
      have e74 : a.tmps[74]? = some (v14) := by rw [ha]; exact putSel_on (e := (14, 74, v14)) 8 rfl rfl (hon 14 (by kernel_rfl)) rfl
      replace ha := Aside0.mk ha
      have b4 : b 4 = true := hon 4 (by kernel_rfl)
      have b9 : b 9 = true := hon 9 (by kernel_rfl)
      have b14 : b 14 = true := hon 14 (by kernel_rfl)
      have b16 : b 16 = true := hon 16 (by kernel_rfl)
      have b18 : b 18 = true := hon 18 (by kernel_rfl)
      have b20 : b 20 = false := hb_
      have b3 : b 3 = true := hon 3 (by kernel_rfl)
      have b8 : b 8 = true := hon 8 (by kernel_rfl)
      have b13 : b 13 = true := hon 13 (by kernel_rfl)
      rw [b4, b9, b14, b16, b18, b20, b3, b8, b13] at hps
      have hc_ := hps.blk.cell 2 _ rfl
      have hf_ := hps.blk.frozen 2
      obtain ⟨A_, n_, hv_⟩ := own_slice (hps.own 2 (by decide))
      replace hv_ : v14 = .slice A_ _ n_ := hv_
      refine skip_ (w1 := w'.setCell ⟨w.heap.size + 2, 2, none⟩ v14) (by rfl) rfl ?_ ?_
      ·go_simp
      refine hK.out _ _ ⟨p3, p8, p13, v4, v9, v14, by rw [ha.out]; exact putSel_none (v := undef) rfl, ?_⟩
      show PSb _ _ _ _ _ _ _ _ _ _ _ _ _ _ _ _ _ _ _ (b 4) (b 9) (b 14) (b 16) (b 18) true (b 3) (b 8) (b 13)
      rw [b4, b9, b14, b16, b18, b3, b8, b13]
      exact hps.store2
     exact steps_nil
    rintro b a w' hall ⟨p3, p8, p13, v4, v9, v14, ha, hps⟩
    rw [hall 4 (by kernel_rfl), hall 9 (by kernel_rfl), hall 14 (by kernel_rfl), hall 16 (by kernel_rfl), hall 18 (by kernel_rfl), hall 20 (by kernel_rfl), hall 3 (by kernel_rfl), hall 8 (by kernel_rfl), hall 13 (by kernel_rfl)] at hps
    have hb1_ := hall 1 (by kernel_rfl)
    have hb3_ := hall 3 (by kernel_rfl)
    have hb4_ := hall 4 (by kernel_rfl)
    have hb6_ := hall 6 (by kernel_rfl)
    have hb8_ := hall 8 (by kernel_rfl)
    have hb9_ := hall 9 (by kernel_rfl)
    have hb11_ := hall 11 (by kernel_rfl)
    have hb13_ := hall 13 (by kernel_rfl)
    have hb14_ := hall 14 (by kernel_rfl)
    have hb15_ := hall 15 (by kernel_rfl)
    have hb16_ := hall 16 (by kernel_rfl)
    have hb17_ := hall 17 (by kernel_rfl)
    have hb18_ := hall 18 (by kernel_rfl)
    have hb19_ := hall 19 (by kernel_rfl)
    have hb20_ := hall 20 (by kernel_rfl)
    subst ha
    simp only [putSel, hb1_, hb3_, hb4_, hb6_, hb8_, hb9_, hb11_, hb13_, hb14_, hb15_, hb16_, hb17_, hb18_, hb19_, hb20_, if_true, Act.put, List.setIfInBounds_toArray, List.set_cons_zero, List.set_cons_succ]
    clear hall hb1_ hb3_ hb4_ hb6_ hb8_ hb9_ hb11_ hb13_ hb14_ hb15_ hb16_ hb17_ hb18_ hb19_ hb20_
    have hstep : PastAt x s co wa (w.heap.size + 3) (w.heap.size + 2) W0 w' (kk + 1) := past_step hps HX0.out HX1.out HX2.out HHOT.out HLF.out HKT.out
    have HST := Aside0.mk hstep
    clear hps hstep
    go_wp2
    go_roundw
    case rel => exact ⟨kk + 1, by omega, by go_num, by rw [HLF.out], HST⟩
    case measure => simp [intOf]; omega
  ·have hltz : ¬ (kk : Int) < x.f0 + 1 := by omega
   obtain rfl : kk = co.length := by omega
   obtain ⟨u0, u1, u2, hps⟩ := HPW.out
   obtain ⟨A0, n0, rfl⟩ : ∃ A n, u0 = .slice A _ n := own_slice (hps.own 0 (by decide))
   obtain ⟨A1, n1, rfl⟩ : ∃ A n, u1 = .slice A _ n := own_slice (hps.own 1 (by decide))
   obtain ⟨A2, n2, rfl⟩ : ∃ A n, u2 = .slice A _ n := own_slice (hps.own 2 (by decide))
   have hd := past_done HP.out.coalN hps
   have hg0 : wr.cell? ⟨w.heap.size + 1 + 1, 0, none⟩ = some (.slice A0 _ n0) := hps.blk.cell 0 _ rfl
   have hg1 : wr.cell? ⟨w.heap.size + 1 + 1, 1, none⟩ = some (.slice A1 _ n1) := hps.blk.cell 1 _ rfl
   have hg2 : wr.cell? ⟨w.heap.size + 1 + 1, 2, none⟩ = some (.slice A2 _ n2) := hps.blk.cell 2 _ rfl
   have hf0 : ∀ j, wr.frozen? ⟨w.heap.size + 1 + 1, j, none⟩ = false := fun j => hps.blk.frozen j
   have hs0 : wr.setCell ⟨w.heap.size + 1 + 1, 0, none⟩ (.slice A0 _ n0) = wr := hps.blk.set_same 0 _ rfl
   have hs1 : wr.setCell ⟨w.heap.size + 1 + 1, 1, none⟩ (.slice A1 _ n1) = wr := hps.blk.set_same 1 _ rfl
   have hs2 : wr.setCell ⟨w.heap.size + 1 + 1, 2, none⟩ (.slice A2 _ n2) = wr := hps.blk.set_same 2 _ rfl
   have HD := Aside0.mk hd
   have HW' := Aside0.mk (hps.keep.below HB.out (by omega) (by omega))
   clear hps hd HPW
   generalize (sel3 (nums IntKind.i64 (hots x s co wa co.length)) (nums IntKind.i64 (lefts x s co wa co.length)) (List.map Value.bool (kepts x s co wa co.length)) 0).length = m0 at *
   generalize (sel3 (nums IntKind.i64 (hots x s co wa co.length)) (nums IntKind.i64 (lefts x s co wa co.length)) (List.map Value.bool (kepts x s co wa co.length)) 1).length = m1 at *
   generalize (sel3 (nums IntKind.i64 (hots x s co wa co.length)) (nums IntKind.i64 (lefts x s co wa co.length)) (List.map Value.bool (kepts x s co wa co.length)) 2).length = m2 at *
   go_wp2
   refine bodyPost_ret (v := .agg #[.slice A0 m0 n0, .slice A1 m1 n1, .slice A2 m2 n2]) (by simp [results, Try.results97, go_sem, hg0, hg1, hg2]) rfl ⟨_, _, _, rfl, HD.out, HW'.out⟩
end Go.Proofs.Ytdgkhoflajdidaa
/- Valid coppers. -/
namespace Go.Proofs.Ytdgkhoflajdidaa
open Go.RowKit Go.Proofs.YtdgkhoflajdidaaW.PrintWords Go.Proofs.YtdgkhoflajdidaaW.PrintMore Go.Proofs.YtdgkhoflajdidaaW.PrintLast Go.Proofs.Ytdgkhoflajdidaa.Print
set_option linter.unusedVariables false
set_option linter.unusedSimpArgs false
structure Valid (x : S38) : Prop where
 last0 : 0 ≤ x.f0
 last1 : x.f0 ≤ 4
 start0 : 0 ≤ x.f1
 start1 : x.f1 ≤ x.f2
 most : x.f2 ≤ 999
 per0 : 1 ≤ x.f3
 per1 : x.f3 ≤ 20
 sh0 : 0 ≤ x.f4
 sh1 : x.f4 ≤ 3
 coalN : (x.f5.length : Int) = x.f0 + 1
 coalV : ∀ n ∈ x.f5, 0 ≤ n ∧ n ≤ x.f4
 wantN : (x.f6.length : Int) = x.f0 + 1
 wantV : ∀ n ∈ x.f6, 0 ≤ n ∧ n ≤ 20
 heat0 : 0 ≤ x.f7.f0
 heat1 : x.f7.f0 ≤ x.f7.f1
 heat2 : x.f7.f1 ≤ 99
 lossN : (x.f8.length : Int) = x.f0 + 1
 lossV : ∀ r ∈ x.f8, 0 ≤ r.f0 ∧ r.f0 ≤ r.f1 ∧ r.f1 ≤ 99
 rdN : x.f9.length ≤ 5
 rdV : ∀ r ∈ x.f9, 0 ≤ r.f0 ∧ r.f0 ≤ x.f0 ∧ 0 ≤ r.f1.f0 ∧ r.f1.f0 ≤ r.f1.f1 ∧ r.f1.f1 ≤ 999
 many : sizes x ≤ 2000
theorem forHours_iff {last : Int} {l : List Int} {m : Int} (h0 : 0 ≤ last) (h1 : last ≤ 4) : forHours last l m = true ↔ (l.length : Int) = last + 1 ∧ ∀ n ∈ l, 0 ≤ n ∧ n ≤ m := by
 unfold forHours
 rw [IntWalk.wrap64_in _ (by omega)]
 simp only [Bool.and_eq_true, beq_iff_eq, List.all_eq_true, inR_iff]
theorem valid_iff (x : S38) : faultC x = 0 ↔ Valid x := by
 constructor
 ·intro h
  unfold faultC at h
  by_cases a1 : 4 < x.f0
  ·rw [if_pos a1] at h; omega
  rw [if_neg a1] at h
  by_cases a2 : 5 < x.f9.length
  ·rw [if_pos a2] at h; omega
  rw [if_neg a2] at h
  by_cases b1 : x.f0 < 0
  ·rw [if_pos b1] at h; omega
  rw [if_neg b1] at h
  by_cases b2 : inR x.f1 0 x.f2 = false
  ·rw [if_pos b2] at h; omega
  rw [if_neg b2] at h
  by_cases b3 : 999 < x.f2
  ·rw [if_pos b3] at h; omega
  rw [if_neg b3] at h
  by_cases b4 : inR x.f3 1 20 = false
  ·rw [if_pos b4] at h; omega
  rw [if_neg b4] at h
  by_cases b5 : inR x.f4 0 3 = false
  ·rw [if_pos b5] at h; omega
  rw [if_neg b5] at h
  by_cases c1 : forHours x.f0 x.f5 x.f4 = false
  ·rw [if_pos c1] at h; omega
  rw [if_neg c1] at h
  by_cases c2 : forHours x.f0 x.f6 20 = false
  ·rw [if_pos c2] at h; omega
  rw [if_neg c2] at h
  by_cases c3 : inside x.f7 99 = false
  ·rw [if_pos c3] at h; omega
  rw [if_neg c3] at h
  by_cases c4 : ((x.f8.length : Int) != x.f0 + 1) = true
  ·rw [if_pos c4] at h; omega
  rw [if_neg c4] at h
  by_cases c5 : x.f8.all (fun r => inside r 99) = false
  ·rw [if_pos c5] at h; omega
  rw [if_neg c5] at h
  by_cases c6 : x.f9.all (readingB x.f0) = false
  ·rw [if_pos c6] at h; omega
  rw [if_neg c6] at h
  have d : sizes x ≤ 2000 := by
   unfold overSize at h
   by_cases d : 2000 < sizes x
   ·rw [if_pos d] at h; omega
   ·omega
  simp only [Bool.not_eq_false] at b2 b4 b5 c1 c2 c3 c5 c6
  rw [inR_iff] at b2 b4 b5
  rw [forHours_iff (by omega) (by omega)] at c1 c2
  rw [inside_iff] at c3
  rw [List.all_eq_true] at c5 c6
  have c4' : (x.f8.length : Int) = x.f0 + 1 := by simpa using c4
  exact ⟨by omega, by omega, b2.1, b2.2, by omega, b4.1, b4.2, b5.1, b5.2, c1.1, c1.2, c2.1, c2.2, c3.1, c3.2.1, c3.2.2, c4', fun r hr => inside_iff.1 (c5 r hr), by omega,
   fun r hr => by
    have := c6 r hr
    unfold readingB at this
    rw [Bool.and_eq_true, inR_iff, inside_iff] at this
    exact ⟨this.1.1, this.1.2, this.2⟩, d⟩
 ·intro h
  unfold faultC
  have c1 := (forHours_iff (l := x.f5) (m := x.f4) h.last0 h.last1).2 ⟨h.coalN, h.coalV⟩
  have c2 := (forHours_iff (l := x.f6) (m := 20) h.last0 h.last1).2 ⟨h.wantN, h.wantV⟩
  have b2 := inR_iff.2 ⟨h.start0, h.start1⟩
  have b4 := inR_iff.2 ⟨h.per0, h.per1⟩
  have b5 := inR_iff.2 ⟨h.sh0, h.sh1⟩
  have c3 := inside_iff.2 ⟨h.heat0, h.heat1, h.heat2⟩
  have c5 : x.f8.all (fun r => inside r 99) = true := List.all_eq_true.2 (fun r hr => inside_iff.2 (h.lossV r hr))
  have c6 : x.f9.all (readingB x.f0) = true := List.all_eq_true.2 (fun r hr => by
   have := h.rdV r hr
   unfold readingB
   rw [Bool.and_eq_true, inR_iff, inside_iff]
   exact ⟨⟨this.1, this.2.1⟩, this.2.2⟩)
  have c4 : ¬ (((x.f8.length : Int) != x.f0 + 1) = true) := by simpa using h.lossN
  have l1 := h.last1
  have l0 := h.last0
  have l2 := h.rdN
  have l3 := h.most
  rw [if_neg (by omega), if_neg (by omega), if_neg (by omega), if_neg (by simp [b2]), if_neg (by omega), if_neg (by simp [b4]), if_neg (by simp [b5]), if_neg (by simp [c1]), if_neg (by simp [c2]), if_neg (by simp [c3]), if_neg c4, if_neg (by simp [c5]), if_neg (by simp [c6])]
  unfold overSize
  exact if_neg (by have := h.many; omega)
/-- A scene whose numbers are small. -/
structure ScOk (s : Sc) : Prop where
 heat0 : 0 ≤ s.h
 heat1 : s.h ≤ 99
 loss : ∀ k, 0 ≤ s.loss k ∧ s.loss k ≤ 99
theorem Valid.play {x : S38} {s : Sc} {co wa : List Int} (h : Valid x) (hs : ScOk s) (hc : (co.length : Int) = x.f0 + 1) (hcv : ∀ n ∈ co, 0 ≤ n ∧ n ≤ 3) (hw : (wa.length : Int) = x.f0 + 1) (hwv : ∀ n ∈ wa, 0 ≤ n ∧ n ≤ 40) : PlayOk x s co wa :=
 ⟨h.last0, h.last1, h.start0, h.start1, h.most, h.per0, h.per1, hs.heat0, hs.heat1, hs.loss, hc, hcv, hw, hwv⟩
theorem Valid.play0 {x : S38} {s : Sc} (h : Valid x) (hs : ScOk s) : PlayOk x s x.f5 x.f6 :=
 h.play hs h.coalN (fun n hn => ⟨(h.coalV n hn).1, by have := (h.coalV n hn).2; have := h.sh1; omega⟩) h.wantN (fun n hn => ⟨(h.wantV n hn).1, by have := (h.wantV n hn).2; omega⟩)
/-- Reading i is right in a scene, or one of those that are left out. -/
def okAt (x : S38) (s : Sc) (out : List Int) (i : Nat) : Bool :=
 (out.any fun y => (i : Int) == y) || inR (hotAt x s x.f5 x.f6 (x.f9.getD i z119).f0.toNat) (x.f9.getD i z119).f1.f0 (x.f9.getD i z119).f1.f1
/-- All readings but some are right. -/
def rightB (x : S38) (s : Sc) (out : List Int) : Bool := (List.range x.f9.length).all (okAt x s out)
theorem rightB_false {x : S38} {s : Sc} {out : List Int} {k : Nat} (hk : k < x.f9.length) (h : okAt x s out k = false) : rightB x s out = false := by
 unfold rightB
 rw [List.all_eq_false]
 exact ⟨k, List.mem_range.2 hk, by simp [h]⟩
theorem rightB_true {x : S38} {s : Sc} {out : List Int} (h : ∀ k, k < x.f9.length → okAt x s out k = true) : rightB x s out = true := by
 unfold rightB
 rw [List.all_eq_true]
 exact fun k hk => h k (List.mem_range.1 hk)
theorem hots_getD {x : S38} {s : Sc} {co wa : List Int} {n k : Nat} (hk : k < n) : (hots x s co wa n)[k]'(by rw [hots_len]; exact hk) = hotAt x s co wa k := by simp [hots]
end Go.Proofs.Ytdgkhoflajdidaa
