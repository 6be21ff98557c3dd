/- Lemmas for the law's proof: Qh. -/
import Derived.Test.YtdgkhoflajdidaaEnds02
import Derived.Test.YtdgkhoflajdidaaCore07
import Derived.Test.YtdgkhoflajdidaaEnds01
import Derived.Test.YtdgkhoflajdidaaCore14
/- CopperEnds: the walk. -/
namespace Go.Proofs.Ytdgkhoflajdidaa
open Go.RowKit Go.Proofs.YtdgkhoflajdidaaW.PrintWords Go.Proofs.YtdgkhoflajdidaaW.PrintMore Go.Proofs.YtdgkhoflajdidaaW.PrintLast Go.Proofs.Ytdgkhoflajdidaa.Print
set_option linter.unusedVariables false
set_option linter.unusedSimpArgs false
set_option maxRecDepth 100000
set_option maxHeartbeats 4000000
/-- An end is met. -/
def endsB (n m a0 a1 b0 b1 : Int) : Nat → Bool
 | 0 => n == a0
 | 1 => n == a1
 | 2 => m == b0
 | _ => m == b1
theorem or_bit (f : Nat → Bool) {j : Nat} (hj : j < 4) : Go.bits .or .i64 (rbits f 4) (2 ^ j) = rbits (fun i => f i || i == j) 4 := by
 have key : ∀ b0 b1 b2 b3 : Bool, ∀ j, j < 4 → Go.bits .or .i64 (rbits (fun i => [b0, b1, b2, b3].getD i false) 4) (2 ^ j) = rbits (fun i => [b0, b1, b2, b3].getD i false || i == j) 4 := by decide +kernel
 have hc : ∀ g h : Nat → Bool, (∀ i, i < 4 → g i = h i) → rbits g 4 = rbits h 4 := fun g h e => by
  have s : ∀ k, k ≤ 4 → rbits g k = rbits h k := by
   intro k hk
   induction k with
   | zero => rfl
   | succ k ih =>
    show (if g k = true then Go.bits .or .i64 (rbits g k) (2 ^ k) else rbits g k) = (if h k = true then Go.bits .or .i64 (rbits h k) (2 ^ k) else rbits h k)
    rw [ih (by omega), e k (by omega)]
  exact s 4 (Nat.le_refl _)
 have e : ∀ i, i < 4 → f i = [f 0, f 1, f 2, f 3].getD i false := fun i hi => by
  have : i = 0 ∨ i = 1 ∨ i = 2 ∨ i = 3 := by omega
  rcases this with rfl | rfl | rfl | rfl <;> rfl
 rw [hc f _ e, key _ _ _ _ j hj]
 exact hc _ _ fun i hi => by rw [← e i hi]
theorem rbits_congr {g h : Nat → Bool} : ∀ n, (∀ i, i < n → g i = h i) → rbits g n = rbits h n
 | 0, _ => rfl
 | k + 1, e => by
  show (if g k = true then Go.bits .or .i64 (rbits g k) (2 ^ k) else rbits g k) = (if h k = true then Go.bits .or .i64 (rbits h k) (2 ^ k) else rbits h k)
  rw [rbits_congr k (fun i hi => e i (by omega)), e k (by omega)]
theorem ends_step (gA EV : Nat → Bool) {j : Nat} (hj : j < 4) : rbits (fun q => gA q || (decide (q < j + 1) && EV q)) 4 = if EV j = true then Go.bits .or .i64 (rbits (fun q => gA q || (decide (q < j) && EV q)) 4) (2 ^ j) else rbits (fun q => gA q || (decide (q < j) && EV q)) 4 := by
 by_cases h : EV j = true
 ·rw [if_pos h, or_bit _ hj]
  refine rbits_congr 4 fun q hq => ?_
  by_cases hqj : q = j
  ·subst hqj
   simp [h]
  ·have e1 : decide (q < j + 1) = decide (q < j) := by rw [Bool.eq_iff_iff, decide_eq_true_eq, decide_eq_true_eq]; omega
   have e2 : (q == j) = false := by simpa using hqj
   rw [e1, e2, Bool.or_false]
 ·rw [if_neg h]
  refine rbits_congr 4 fun q hq => ?_
  by_cases hqj : q = j
  ·subst hqj
   have h2 : EV q = false := by simpa using h
   simp [h2]
  ·have e1 : decide (q < j + 1) = decide (q < j) := by rw [Bool.eq_iff_iff, decide_eq_true_eq, decide_eq_true_eq]; omega
   rw [e1]
theorem ends_awake (x : S38) (cs : List Value) (hr : Int) (w : World) (hx : k38.K w x cs) (h : readyB x = false) : Calls Try.prog 6 #[.agg cs.toArray, .int .u8 hr] w fun e w' => e = .returned (.bool true) ∧ Below w.heap.size w w' := by
 have hthin := fun W (hW : Below w.heap.size w W) => ready_calls x cs W (k38.K_below hW hx)
 obtain ⟨A5, c5, A6, c6, A9, c9, A10, c10, rfl, _⟩ := k38_open hx
 clear hx
 have hu := Try.underlying28
 have ZB := Aside0.mk (below_alloc (Below.refl w.heap.size w) (.cells #[.int .i64 x.f0, .int .i64 x.f1, .int .i64 x.f2, .int .i64 x.f3, .int .i64 x.f4, .slice A5 x.f5.length c5, .slice A6 x.f6.length c6, .int .i64 x.f7.f0, .int .i64 x.f7.f1, .slice A9 x.f8.length c9, .slice A10 x.f9.length c10] 28))
 have hth := hthin _ ZB.out
 rw [h] at hth
 clear hthin h
 go_enter Try.func6, Try.ntmps6
 go_wp2_with fail
 refine hth.mono ?_
 rintro e w1 ⟨rfl, hb⟩
 have HB := Aside0.mk (bel2 ZB.out hb)
 clear hb hth
 go_wp2_with fail
 refine (awake_calls _).mono ?_
 rintro e w2 ⟨rfl, hb⟩
 have HB2 := Aside0.mk (bel2 HB.out hb)
 clear hb
 go_wp2
 go_ret
 exact ⟨rfl, HB2.out⟩
/-- What Ends' loop does with one truth. -/
def endAt (x : S38) (kk : Nat) (a b : S35) (j : Nat) (t : S75) : Bool := endsB (hotAt x (toSc t) x.f5 x.f6 kk) (heatAt x (toSc t) x.f5 x.f6 (kk + 1)) a.f0 a.f1 b.f0 b.f1 j
theorem ends_all {x : S38} (hV : Valid x) (hne : truthL x ≠ []) {kk : Nat} (hk : (kk : Int) ≤ x.f0) : rbits (fun j => (truthsX x).any (endAt x kk (askB x x.f6 (valHot kk)) (askB x x.f6 (valLeft kk)) j)) 4 = 15 := by
 have h1 := ask_spec hne (valHot kk) x.f6
 have h2 := ask_spec hne (valLeft kk) x.f6
 have key : ∀ (f : Sc → Int) (v : Int), (∃ s ∈ truthL x, f s = v) → ∃ t ∈ truthsX x, f (toSc t) = v := fun f v ⟨s, hs, e⟩ => by
  obtain ⟨t, ht, rfl⟩ := (mem_truthsX hV).1 hs
  exact ⟨t, ht, e⟩
 have hall : (List.range 4).all (fun j => (truthsX x).any (endAt x kk (askB x x.f6 (valHot kk)) (askB x x.f6 (valLeft kk)) j)) = true := by
  rw [List.all_eq_true]
  intro j hj
  have hj := List.mem_range.1 hj
  rw [List.any_eq_true]
  have : j = 0 ∨ j = 1 ∨ j = 2 ∨ j = 3 := by omega
  rcases this with rfl | rfl | rfl | rfl
  ·obtain ⟨t, ht, e⟩ := key _ _ h1.2.1
   rw [hot_get hk] at e
   exact ⟨t, ht, by show (_ == _) = true; rw [beq_iff_eq]; exact e⟩
  ·obtain ⟨t, ht, e⟩ := key _ _ h1.2.2
   rw [hot_get hk] at e
   exact ⟨t, ht, by show (_ == _) = true; rw [beq_iff_eq]; exact e⟩
  ·obtain ⟨t, ht, e⟩ := key _ _ h2.2.1
   rw [left_get hk] at e
   exact ⟨t, ht, by show (_ == _) = true; rw [beq_iff_eq]; exact e⟩
  ·obtain ⟨t, ht, e⟩ := key _ _ h2.2.2
   rw [left_get hk] at e
   exact ⟨t, ht, by show (_ == _) = true; rw [beq_iff_eq]; exact e⟩
 have := rbits_full (fun j => (truthsX x).any (endAt x kk (askB x x.f6 (valHot kk)) (askB x x.f6 (valLeft kk)) j)) 4 (by decide)
 rw [hall, beq_iff_eq] at this
 exact this
theorem ends_main (x : S38) (cs : List Value) (hr : Nat) (hr2 : hr < 256) (w : World) (hx : k38.K w x cs) (h1 : readyB x = true) : Calls Try.prog 6 #[.agg cs.toArray, .int .u8 hr] w fun e w' => e = .returned (.bool true) ∧ Below w.heap.size w w' := by
 have hthin := fun W (hW : Below w.heap.size w W) => ready_calls x cs W (k38.K_below hW hx)
 rw [h1] at hthin
 obtain ⟨hT, hV⟩ := (readyB_iff x).1 h1
 have HCP := Aside0.mk (fun W (hW : Below w.heap.size w W) => copper_calls x cs W (k38.K_below hW hx) hT)
 have hbn := fun W ds (hd : k38.K W x ds) => boundsF_calls x ds W hd
 have HTR := Aside0.mk (fun W (hW : Below w.heap.size w W) => rTruths_calls x cs W (k38.K_below hW hx) hV)
 have hf0 := hV.last0
 have hf1 := hV.last1
 obtain ⟨d, hd⟩ : ∃ d : Nat, x.f0 + 1 = (d : Int) := ⟨(x.f0 + 1).toNat, by omega⟩
 have hd0 : 1 ≤ d := by omega
 have hd5 : d ≤ 5 := by omega
 have hmod := tmod_nat hr d
 have hkl : hr % d < d := Nat.mod_lt _ (by omega)
 obtain ⟨kk, hkk⟩ : ∃ kk, hr % d = kk := ⟨_, rfl⟩
 rw [hkk] at hmod hkl
 have hkf : (kk : Int) ≤ x.f0 := by omega
 have hhz : (hr : Int) ≤ 255 := by omega
 have hdn : ¬ d = 0 := by omega
 have hdz : ((d : Int) == 0) = false := by simp; omega
 have hE : askE x true = if posB x [] = true then 0 else 11 := by
  rw [askE_t, if_pos ((valid_iff x).2 hV)]
  have ht : truthL x = [] ↔ ¬ posB x [] = true := by
   unfold posB
   rw [List.eq_nil_iff_forall_not_mem, List.any_eq_true]
   constructor
   ·rintro h ⟨s, hs, hr⟩
    exact h s (mem_truthL.2 ⟨hs, hr⟩)
   ·intro h s hs
    exact h ⟨s, (mem_truthL.1 hs).1, (mem_truthL.1 hs).2⟩
  by_cases h : posB x [] = true
  ·rw [if_pos h, if_neg (fun e => (ht.1 e) h)]
  ·rw [if_neg h, if_pos (ht.2 h)]
 obtain ⟨A5, c5, A6, c6, A9, c9, A10, c10, rfl, l5, g5, l6, g6, l9, g9, l10, g10⟩ := k38_open hx
 have HA := Aside0.mk (fun (t : S75) (ht : t ∈ truthsX x) (ts : List Value) V (hb : Below w.heap.size w V) (hk : k75.K V t ts) => (HArgs.mk (k38.K_below hb hx) hk (Kd.C_below g5 hb) (Kd.C_below g6 hb) (hV.play0 ((trs_in hV ht).1.ok hV)) (by have := (trs_in hV ht).2; have := hV.lossN; omega) : HArgs x _ t ts A5 A6 c5 c6 x.f5 x.f6 V))
 clear hx h1 hT g5 g6 g9 g10 l5 l6 l9 l10
 have hu := Try.underlying28
 have hu2 := Try.underlying66
 have hu3 := Try.underlying35
 have hu4 := Try.underlying67
 have ZB := Aside0.mk (And.intro (below_alloc (Below.refl w.heap.size w) (.cells #[.int .i64 x.f0, .int .i64 x.f1, .int .i64 x.f2, .int .i64 x.f3, .int .i64 x.f4, .slice A5 x.f5.length c5, .slice A6 x.f6.length c6, .int .i64 x.f7.f0, .int .i64 x.f7.f1, .slice A9 x.f8.length c9, .slice A10 x.f9.length c10] 28)) (Blk.new w #[.int .i64 x.f0, .int .i64 x.f1, .int .i64 x.f2, .int .i64 x.f3, .int .i64 x.f4, .slice A5 x.f5.length c5, .slice A6 x.f6.length c6, .int .i64 x.f7.f0, .int .i64 x.f7.f1, .slice A9 x.f8.length c9, .slice A10 x.f9.length c10] 28 _ rfl))
 have hth := hthin _ ZB.out.1
 clear hthin hkk
 have hbf : boundsF x = if askE x true = 0 then (hotsB x (x.f0 + 1).toNat, leftsB x (x.f0 + 1).toNat, 0) else ([], [], askE x true) := rfl
 obtain ⟨la, hla⟩ : ∃ l, (boundsF x).1 = l := ⟨_, rfl⟩
 obtain ⟨lb, hlb⟩ : ∃ l, (boundsF x).2.1 = l := ⟨_, rfl⟩
 obtain ⟨pe, hpe⟩ : ∃ l, (boundsF x).2.2 = l := ⟨_, rfl⟩
 unfold BndPost at hbn
 rw [hla, hlb, hpe] at hbn
 have HBN := Aside0.mk hbn
 have HEQ := Lib.hid (And.intro hla (And.intro hlb hpe))
 have HBF := Lib.hid hbf
 have HV := Aside0.mk hV
 have HE := Lib.hid hE
 clear hbn hla hlb hpe hbf hV hE
 go_enter Try.func6, Try.ntmps6
 go_wp2_with fail
 refine hth.mono ?_
 rintro e w1 ⟨rfl, hb⟩
 have H1 := Aside0.mk (And.intro (bel2 ZB.out.1 hb) (ZB.out.2.below hb))
 clear hb hth ZB
 have k0 := H1.out.2.cell 0 _ rfl
 have k1 := H1.out.2.cell 1 _ rfl
 have k2 := H1.out.2.cell 2 _ rfl
 have k3 := H1.out.2.cell 3 _ rfl
 have k4 := H1.out.2.cell 4 _ rfl
 have k5 := H1.out.2.cell 5 _ rfl
 have k6 := H1.out.2.cell 6 _ rfl
 have k7 := H1.out.2.cell 7 _ rfl
 have k8 := H1.out.2.cell 8 _ rfl
 have k9 := H1.out.2.cell 9 _ rfl
 have k10 := H1.out.2.cell 10 _ rfl
 go_wp2_with fail
 refine (HCP.out _ H1.out.1).mono ?_
 rintro e w2 ⟨ds, rfl, hb, hkd⟩
 have H2 := Aside0.mk (And.intro (bel2 H1.out.1 hb) (H1.out.2.below hb))
 clear hb H1 k0 k1 k2 k3 k4 k5 k6 k7 k8 k9 k10
 go_wp2_with fail
 refine (HBN.out _ ds hkd).mono ?_
 rintro e w3 ⟨Aa, aa, Ab, ab, rfl, hca, hcb, hb⟩
 have HP := Aside0.mk (fun W V (h : Kd.C k35 W Aa la.length la ∧ Kd.C k35 W Ab lb.length lb) (hb : Below W.heap.size W V) => And.intro (Kd.C_below h.1 hb) (Kd.C_below h.2 hb))
 have H3 := Aside0.mk (LwSt.mk (w := w) (B := #[.int .i64 x.f0, .int .i64 x.f1, .int .i64 x.f2, .int .i64 x.f3, .int .i64 x.f4, .slice A5 x.f5.length c5, .slice A6 x.f6.length c6, .int .i64 x.f7.f0, .int .i64 x.f7.f1, .slice A9 x.f8.length c9, .slice A10 x.f9.length c10]) (P := fun W => Kd.C k35 W Aa la.length la ∧ Kd.C k35 W Ab lb.length lb) (bel2 H2.out.1 hb) (H2.out.2.below hb) ⟨hca, hcb⟩)
 clear hb H2 hca hcb hkd HBN HCP
 have k0 := H3.out.box.cell 0 _ rfl
 have k1 := H3.out.box.cell 1 _ rfl
 have k2 := H3.out.box.cell 2 _ rfl
 have k3 := H3.out.box.cell 3 _ rfl
 have k4 := H3.out.box.cell 4 _ rfl
 have k5 := H3.out.box.cell 5 _ rfl
 have k6 := H3.out.box.cell 6 _ rfl
 have k7 := H3.out.box.cell 7 _ rfl
 have k8 := H3.out.box.cell 8 _ rfl
 have k9 := H3.out.box.cell 9 _ rfl
 have k10 := H3.out.box.cell 10 _ rfl
 go_wp2_with fail
 refine (HTR.out _ H3.out.bel).mono ?_
 rintro e w4 ⟨At, ct, rfl, hb, hC⟩
 have H4 := Aside0.mk (And.intro (H3.out.step HP.out hb) hC)
 clear hb hC H3 k0 k1 k2 k3 k4 k5 k6 k7 k8 k9 k10
 by_cases hps : posB x [] = true
 ·have hE0 : askE x true = 0 := by rw [HE.out, if_pos hps]
  have hne : truthL x ≠ [] := fun h => by
   have := (askE_nonneg hE0).2.2
   rw [h] at this
   cases this
  have hbf := HBF.out
  rw [if_pos hE0] at hbf
  obtain rfl : pe = 0 := by rw [← HEQ.out.2.2, hbf]
  have e1 : la = hotsB x (x.f0 + 1).toNat := by rw [← HEQ.out.1, hbf]
  have e2 : lb = leftsB x (x.f0 + 1).toNat := by rw [← HEQ.out.2.1, hbf]
  have hn1 : la.length = d := by rw [e1]; simp [hotsB]; omega
  have hn2 : lb.length = d := by rw [e2]; simp [leftsB]; omega
  have hla : la[kk]'(by omega) = askB x x.f6 (valHot kk) := by subst e1; simp [hotsB]
  have hlb : lb[kk]'(by omega) = askB x x.f6 (valLeft kk) := by subst e2; simp [leftsB]
  have hall := ends_all HV.out hne hkf
  rw [← hla, ← hlb] at hall
  have htne : truthsX x ≠ [] := fun h => hne ((truthsX_nil HV.out).1 h)
  have hl3 : (truthsX x).length ≤ 3000 := by have := trs_len (x := x) (manyX x).toNat; have := manyX_ok HV.out; unfold truthsX; omega
  have htl : ((truthsX x).length : Int) ≠ 0 := by
   intro h
   exact htne (List.eq_nil_of_length_eq_zero (by omega))
  have htlb : (((truthsX x).length : Int) == 0) = false := by simpa using htne
  have hz1 : (la.length : Int) = (d : Int) := by omega
  have hz2 : (lb.length : Int) = (d : Int) := by omega
  have hkz : (kk : Int) < (la.length : Int) := by omega
  have hkz2 : (kk : Int) < (lb.length : Int) := by omega
  have hka : kk < la.length := by omega
  have hkb : kk < lb.length := by omega
  clear hbf e1 e2 hla hlb hE0 hne htne
  have HALL := Lib.hid hall
  clear hall
  have HHT := Aside0.mk (fun (t : S75) (ht : t ∈ truthsX x) ts V (hb : Below w.heap.size w V) (hk : k75.K V t ts) => And.intro (hot_calls kk hkf (HA.out t ht ts V hb hk)) (heat_left kk hkf V (HA.out t ht ts V hb hk)).2)
  have HEN := Aside0.mk (show ∀ (a b : S35) j t, endAt x kk a b j t = endsB (hotAt x (toSc t) x.f5 x.f6 kk) (heatAt x (toSc t) x.f5 x.f6 (kk + 1)) a.f0 a.f1 b.f0 b.f1 j from fun a b j t => rfl)
  generalize truthsX x = TL at *
  have k0 := H4.out.1.box.cell 0 _ rfl
  have k1 := H4.out.1.box.cell 1 _ rfl
  have k2 := H4.out.1.box.cell 2 _ rfl
  have k3 := H4.out.1.box.cell 3 _ rfl
  have k4 := H4.out.1.box.cell 4 _ rfl
  have k5 := H4.out.1.box.cell 5 _ rfl
  have k6 := H4.out.1.box.cell 6 _ rfl
  have k7 := H4.out.1.box.cell 7 _ rfl
  have k8 := H4.out.1.box.cell 8 _ rfl
  have k9 := H4.out.1.box.cell 9 _ rfl
  have k10 := H4.out.1.box.cell 10 _ rfl
  have hx0 : x.f0 + 1 = (d : Int) := hd
  go_wp2
  clear k0 k1 k2 k3 k4 k5 k6 k7 k8 k9 k10 htl htlb
  go_loopw [10, 11] (fun s10 s11 wr => ∃ i : Nat, i ≤ TL.length ∧ s11 = .int .i64 i ∧ s10 = .int .i64 (rbits (fun j => (TL.take i).any (endAt x kk la[kk] lb[kk] j)) 4) ∧ Aside0 (LwSt w #[.int .i64 x.f0, .int .i64 x.f1, .int .i64 x.f2, .int .i64 x.f3, .int .i64 x.f4, .slice A5 x.f5.length c5, .slice A6 x.f6.length c6, .int .i64 x.f7.f0, .int .i64 x.f7.f1, .slice A9 x.f8.length c9, .slice A10 x.f9.length c10] (fun W => Kd.C k35 W Aa la.length la ∧ Kd.C k35 W Ab lb.length lb) wr ∧ Kd.C k75 wr At TL.length TL)) (fun _ s11 _ => TL.length - (intOf s11).toNat)
  case atStart => exact ⟨0, Nat.zero_le _, rfl, rfl, H4⟩
  case round =>
   obtain ⟨i, hi, rfl, rfl, HW⟩ := hrel
   clear H4
   by_cases hlt : i < TL.length
   ·have hltz : (i : Int) < (TL.length : Int) := by omega
    obtain ⟨aA, T1, d1, rfl, q0, q1, hkt⟩ := row_at_tr HW.out.2 i hlt
    have htm : TL[i] ∈ TL := List.getElem_mem hlt
    have HHL := Aside0.mk (fun V (hb : Below wr.heap.size wr V) => HHT.out TL[i] htm _ V (bel2 HW.out.1.bel hb) (k75.K_below hb hkt))
    unfold HeatC at HHL
    have hsn : ∀ j, (TL.take (i + 1)).any (endAt x kk la[kk] lb[kk] j) = ((TL.take i).any (endAt x kk la[kk] lb[kk] j) || endAt x kk la[kk] lb[kk] j TL[i]) := fun j => by
     rw [List.take_succ_eq_append_getElem hlt, List.any_append]
     simp
    have hen := fun j => HEN.out la[kk] lb[kk] j TL[i]
    clear hkt htm
    generalize TL[i] = t at *
    obtain ⟨gA, hgA⟩ : ∃ g : Nat → Bool, g = fun j => (TL.take i).any (endAt x kk la[kk] lb[kk] j) := ⟨_, rfl⟩
    have HSN := Aside0.mk (show ∀ j, (TL.take (i + 1)).any (endAt x kk la[kk] lb[kk] j) = (gA j || endsB (hotAt x (toSc t) x.f5 x.f6 kk) (heatAt x (toSc t) x.f5 x.f6 (kk + 1)) la[kk].f0 la[kk].f1 lb[kk].f0 lb[kk].f1 j) from fun j => by rw [hsn, hen, hgA])
    rw [← hgA]
    clear hsn hen hgA
    obtain ⟨qa, hqa, ra0, ra1⟩ := row_at_rg HW.out.1.rows.1 kk hka
    obtain ⟨qb, hqb, rb0, rb1⟩ := row_at_rg HW.out.1.rows.2 kk hkb
    subst hqa
    subst hqb
    generalize la[kk] = ra at *
    generalize lb[kk] = rb at *
    generalize hotAt x (toSc t) x.f5 x.f6 kk = hv at *
    generalize heatAt x (toSc t) x.f5 x.f6 (kk + 1) = lv at *
    have k0 := HW.out.1.box.cell 0 _ rfl
    have k1 := HW.out.1.box.cell 1 _ rfl
    have k2 := HW.out.1.box.cell 2 _ rfl
    have k3 := HW.out.1.box.cell 3 _ rfl
    have k4 := HW.out.1.box.cell 4 _ rfl
    have k5 := HW.out.1.box.cell 5 _ rfl
    have k6 := HW.out.1.box.cell 6 _ rfl
    have k7 := HW.out.1.box.cell 7 _ rfl
    have k8 := HW.out.1.box.cell 8 _ rfl
    have k9 := HW.out.1.box.cell 9 _ rfl
    have k10 := HW.out.1.box.cell 10 _ rfl
    go_wp2
    refine start_ (n := 24) (S := fun w' => w'.cell? ⟨w.heap.size, 0, none⟩ = some (.int .i64 x.f0) ∧ w'.cell? ⟨w.heap.size, 1, none⟩ = some (.int .i64 x.f1) ∧ w'.cell? ⟨w.heap.size, 2, none⟩ = some (.int .i64 x.f2) ∧ w'.cell? ⟨w.heap.size, 3, none⟩ = some (.int .i64 x.f3) ∧ w'.cell? ⟨w.heap.size, 4, none⟩ = some (.int .i64 x.f4) ∧ w'.cell? ⟨w.heap.size, 5, none⟩ = some (.slice A5 x.f5.length c5) ∧ w'.cell? ⟨w.heap.size, 6, none⟩ = some (.slice A6 x.f6.length c6) ∧ w'.cell? ⟨w.heap.size, 7, none⟩ = some (.int .i64 x.f7.f0) ∧ w'.cell? ⟨w.heap.size, 8, none⟩ = some (.int .i64 x.f7.f1) ∧ w'.cell? ⟨w.heap.size, 9, none⟩ = some (.slice A9 x.f8.length c9) ∧ w'.cell? ⟨w.heap.size, 10, none⟩ = some (.slice A10 x.f9.length c10) ∧ w'.cell? (aA.add (i * 2)) = some (.int .i64 t.f0) ∧ w'.cell? ⟨(aA.add (i * 2)).block, (aA.add (i * 2)).off + 1, none⟩ = some (.slice T1 t.f1.length d1)) (ds := []) #[false, false, false, false, false, false, false, false, false, false, false, false, false, false, false, false, false, false, false, false, false, false, false, false] (by kernel_rfl) rfl rfl ⟨k0, k1, k2, k3, k4, k5, k6, k7, k8, k9, k10, q0, q1⟩ (fun hHeld => ?_)
    refine pure_ (i := 1) (N := some 68) (v := ?_) (a' := ?_) (bs 24 2) rfl rfl (by kernel_rfl) (fun _ _ _ h => h) (Or.inl ⟨by rfl, ?_⟩) ?_ ?_
    rotate_left
    ·intro w'
     go_simp
     with_reducible rfl
    rotate_left
    ·simp only [Act.put, List.setIfInBounds_toArray, List.set_cons_zero, List.set_cons_succ, i64_w, i32_w]
     rfl
    refine pure_ (i := 2) (N := some 69) (v := ?_) (a' := ?_) (bs 24 6) rfl rfl (by kernel_rfl) (fun _ _ _ h => h) (Or.inl ⟨by rfl, ?_⟩) ?_ ?_
    rotate_left
    ·intro w'
     go_simp
     with_reducible rfl
    rotate_left
    ·simp only [Act.put, List.setIfInBounds_toArray, List.set_cons_zero, List.set_cons_succ, i64_w, i32_w]
     rfl
    refine pure_ (i := 3) (N := some 70) (v := ?_) (a' := ?_) (bs 24 14) rfl rfl (by kernel_rfl) (fun _ _ _ h => h) (Or.inl ⟨by rfl, ?_⟩) ?_ ?_
    rotate_left
    ·intro w'
     go_simp
     with_reducible rfl
    rotate_left
    ·simp only [Act.put, List.setIfInBounds_toArray, List.set_cons_zero, List.set_cons_succ, i64_w, i32_w]
     rfl
    refine pure_ (i := 5) (N := some 72) (v := ?_) (a' := ?_) (bs 24 46) rfl rfl (by kernel_rfl) (fun _ _ _ h => h) (Or.inl ⟨by rfl, ?_⟩) ?_ ?_
    rotate_left
    ·intro w'
     go_simp
     with_reducible rfl
    rotate_left
    ·simp only [Act.put, List.setIfInBounds_toArray, List.set_cons_zero, List.set_cons_succ, i64_w, i32_w]
     rfl
    refine pure_ (i := 7) (N := some 74) (v := ?_) (a' := ?_) (bs 24 174) rfl rfl (by kernel_rfl) (fun _ _ _ h => h) (Or.inl ⟨by rfl, ?_⟩) ?_ ?_
    rotate_left
    ·intro w'
     go_simp
     with_reducible rfl
    rotate_left
    ·simp only [Act.put, List.setIfInBounds_toArray, List.set_cons_zero, List.set_cons_succ, i64_w, i32_w]
     rfl
    refine pure_ (i := 9) (N := some 76) (v := ?_) (a' := ?_) (bs 24 686) rfl rfl (by kernel_rfl) (fun _ _ _ h => h) (Or.inl ⟨by rfl, ?_⟩) ?_ ?_
    rotate_left
    ·intro w'
     go_simp
     with_reducible rfl
    rotate_left
    ·simp only [Act.put, List.setIfInBounds_toArray, List.set_cons_zero, List.set_cons_succ, i64_w, i32_w]
     rfl
    refine pure_ (i := 12) (N := some 79) (v := ?_) (a' := ?_) (bs 24 4782) rfl rfl (by kernel_rfl) (fun _ _ _ h => h) (Or.inl ⟨by rfl, ?_⟩) ?_ ?_
    rotate_left
    ·intro w'
     go_simp
     with_reducible rfl
    rotate_left
    ·simp only [Act.put, List.setIfInBounds_toArray, List.set_cons_zero, List.set_cons_succ, i64_w, i32_w]
     rfl
    refine pure_ (i := 13) (N := some 80) (v := ?_) (a' := ?_) (bs 24 12974) rfl rfl (by kernel_rfl) (fun _ _ _ h => h) (Or.inl ⟨by rfl, ?_⟩) ?_ ?_
    rotate_left
    ·intro w'
     go_simp
     with_reducible rfl
    rotate_left
    ·simp only [Act.put, List.setIfInBounds_toArray, List.set_cons_zero, List.set_cons_succ, i64_w, i32_w]
     rfl
    refine pure_ (i := 14) (N := some 81) (v := ?_) (a' := ?_) (bs 24 29358) rfl rfl (by kernel_rfl) (fun _ _ _ h => h) (Or.inl ⟨by rfl, ?_⟩) ?_ ?_
    rotate_left
    ·intro w'
     go_simp
     with_reducible rfl
    rotate_left
    ·simp only [Act.put, List.setIfInBounds_toArray, List.set_cons_zero, List.set_cons_succ, i64_w, i32_w]
     rfl
    refine pure_ (i := 16) (N := some 83) (v := ?_) (a' := ?_) (bs 24 94894) rfl rfl (by kernel_rfl) (fun _ _ _ h => h) (Or.inl ⟨by rfl, ?_⟩) ?_ ?_
    rotate_left
    ·intro w'
     go_simp
     with_reducible rfl
    rotate_left
    ·simp only [Act.put, List.setIfInBounds_toArray, List.set_cons_zero, List.set_cons_succ, i64_w, i32_w]
     rfl
    refine pure_ (i := 18) (N := some 85) (v := ?_) (a' := ?_) (bs 24 357038) rfl rfl (by kernel_rfl) (fun _ _ _ h => h) (Or.inl ⟨by rfl, ?_⟩) ?_ ?_
    rotate_left
    ·intro w'
     go_simp
     with_reducible rfl
    rotate_left
    ·simp only [Act.put, List.setIfInBounds_toArray, List.set_cons_zero, List.set_cons_succ, i64_w, i32_w]
     rfl
    refine pure_ (i := 20) (N := some 87) (v := ?_) (a' := ?_) (bs 24 1405614) rfl rfl (by kernel_rfl) (fun _ _ _ h => h) (Or.inl ⟨by rfl, ?_⟩) ?_ ?_
    rotate_left
    ·intro w'
     go_simp
     with_reducible rfl
    rotate_left
    ·simp only [Act.put, List.setIfInBounds_toArray, List.set_cons_zero, List.set_cons_succ, i64_w, i32_w]
     rfl
    refine take_ (i := 0) (N := some 67) (v := ?_) (a' := ?_) (bs 24 1405615) rfl rfl (by kernel_rfl) (fun _ _ _ h => h) (Or.inl ⟨by rfl, ?_⟩) hHeld ?_ ?_
    rotate_left
    ·rintro w' ⟨s0, s1, s2, s3, s4, s5, s6, s7, s8, s9, s10, s11, s12⟩
     go_simp
     with_reducible rfl
    rotate_left
    ·simp only [Act.put, List.setIfInBounds_toArray, List.set_cons_zero, List.set_cons_succ, i64_w, i32_w]
     rfl
    refine take_ (i := 4) (N := some 71) (v := ?_) (a' := ?_) (bs 24 1405631) rfl rfl (by kernel_rfl) (fun _ _ _ h => h) (Or.inl ⟨by rfl, ?_⟩) hHeld ?_ ?_
    rotate_left
    ·rintro w' ⟨s0, s1, s2, s3, s4, s5, s6, s7, s8, s9, s10, s11, s12⟩
     go_simp
     with_reducible rfl
    rotate_left
    ·simp only [Act.put, List.setIfInBounds_toArray, List.set_cons_zero, List.set_cons_succ, i64_w, i32_w]
     rfl
    refine take_ (i := 6) (N := some 73) (v := ?_) (a' := ?_) (bs 24 1405695) rfl rfl (by kernel_rfl) (fun _ _ _ h => h) (Or.inl ⟨by rfl, ?_⟩) hHeld ?_ ?_
    rotate_left
    ·rintro w' ⟨s0, s1, s2, s3, s4, s5, s6, s7, s8, s9, s10, s11, s12⟩
     go_simp
     with_reducible rfl
    rotate_left
    ·simp only [Act.put, List.setIfInBounds_toArray, List.set_cons_zero, List.set_cons_succ, i64_w, i32_w]
     rfl
    refine take_ (i := 8) (N := some 75) (v := ?_) (a' := ?_) (bs 24 1405951) rfl rfl (by kernel_rfl) (fun _ _ _ h => h) (Or.inl ⟨by rfl, ?_⟩) hHeld ?_ ?_
    rotate_left
    ·rintro w' ⟨s0, s1, s2, s3, s4, s5, s6, s7, s8, s9, s10, s11, s12⟩
     go_simp
     with_reducible rfl
    rotate_left
    ·simp only [Act.put, List.setIfInBounds_toArray, List.set_cons_zero, List.set_cons_succ, i64_w, i32_w]
     rfl
    refine take_ (i := 11) (N := some 78) (v := ?_) (a' := ?_) (bs 24 1407999) rfl rfl (by kernel_rfl) (fun _ _ _ h => h) (Or.inl ⟨by rfl, ?_⟩) hHeld ?_ ?_
    rotate_left
    ·rintro w' ⟨s0, s1, s2, s3, s4, s5, s6, s7, s8, s9, s10, s11, s12⟩
     go_simp
     with_reducible rfl
    rotate_left
    ·simp only [Act.put, List.setIfInBounds_toArray, List.set_cons_zero, List.set_cons_succ, i64_w, i32_w]
     rfl
    refine take_ (i := 15) (N := some 82) (v := ?_) (a' := ?_) (bs 24 1440767) rfl rfl (by kernel_rfl) (fun _ _ _ h => h) (Or.inl ⟨by rfl, ?_⟩) hHeld ?_ ?_
    rotate_left
    ·rintro w' ⟨s0, s1, s2, s3, s4, s5, s6, s7, s8, s9, s10, s11, s12⟩
     go_simp
     with_reducible rfl
    rotate_left
    ·simp only [Act.put, List.setIfInBounds_toArray, List.set_cons_zero, List.set_cons_succ, i64_w, i32_w]
     rfl
    refine take_ (i := 17) (N := some 84) (v := ?_) (a' := ?_) (bs 24 1571839) rfl rfl (by kernel_rfl) (fun _ _ _ h => h) (Or.inl ⟨by rfl, ?_⟩) hHeld ?_ ?_
    rotate_left
    ·rintro w' ⟨s0, s1, s2, s3, s4, s5, s6, s7, s8, s9, s10, s11, s12⟩
     go_simp
     with_reducible rfl
    rotate_left
    ·simp only [Act.put, List.setIfInBounds_toArray, List.set_cons_zero, List.set_cons_succ, i64_w, i32_w]
     rfl
    refine take_ (i := 19) (N := some 86) (v := ?_) (a' := ?_) (bs 24 2096127) rfl rfl (by kernel_rfl) (fun _ _ _ h => h) (Or.inl ⟨by rfl, ?_⟩) hHeld ?_ ?_
    rotate_left
    ·rintro w' ⟨s0, s1, s2, s3, s4, s5, s6, s7, s8, s9, s10, s11, s12⟩
     go_simp
     with_reducible rfl
    rotate_left
    ·simp only [Act.put, List.setIfInBounds_toArray, List.set_cons_zero, List.set_cons_succ, i64_w, i32_w]
     rfl
    refine one_ (i := 10) (N := some 77) (bs 24 2097151) rfl rfl (by kernel_rfl) (by decide) (fun K hK => ?_)
    refine goes_ Try.func43 (by kernel_rfl) rfl #[.agg #[.int .i64 x.f0, .int .i64 x.f1, .int .i64 x.f2, .int .i64 x.f3, .int .i64 x.f4, .slice A5 x.f5.length c5, .slice A6 x.f6.length c6, .int .i64 x.f7.f0, .int .i64 x.f7.f1, .slice A9 x.f8.length c9, .slice A10 x.f9.length c10], .agg #[.int .i64 t.f0, .slice T1 t.f1.length d1], .slice A5 x.f5.length c5, .slice A6 x.f6.length c6, .int .i64 kk] (by rfl) rfl rfl (by simp only [List.map_toArray, List.map_cons, List.map_nil]; rfl) ?_
    with_reducible refine ((HHL.out _ (below_drew (Below.refl wr.heap.size wr))).1).mono ?_
    rintro e w5 ⟨rfl, hb3⟩
    refine ⟨_, rfl, ?_⟩
    refine hK.out _ _ ⟨pw_cell_below hb3 (hHeld.1), pw_cell_below hb3 (hHeld.2.1), pw_cell_below hb3 (hHeld.2.2.1), pw_cell_below hb3 (hHeld.2.2.2.1), pw_cell_below hb3 (hHeld.2.2.2.2.1), pw_cell_below hb3 (hHeld.2.2.2.2.2.1), pw_cell_below hb3 (hHeld.2.2.2.2.2.2.1), pw_cell_below hb3 (hHeld.2.2.2.2.2.2.2.1), pw_cell_below hb3 (hHeld.2.2.2.2.2.2.2.2.1), pw_cell_below hb3 (hHeld.2.2.2.2.2.2.2.2.2.1), pw_cell_below hb3 (hHeld.2.2.2.2.2.2.2.2.2.2.1), pw_cell_below hb3 (hHeld.2.2.2.2.2.2.2.2.2.2.2.1), pw_cell_below hb3 (hHeld.2.2.2.2.2.2.2.2.2.2.2.2)⟩ (fun hHeld => ?_)
    clear hK K
    refine norm_ (a' := ?_) ?_ ?_
    rotate_left
    ·show Act.put _ (some 77) _ = _
     simp only [Act.put, List.setIfInBounds_toArray, List.set_cons_zero, List.set_cons_succ, i64_w, i32_w]
     rfl
    refine one_ (i := 21) (N := some 88) (bs 24 4194303) rfl rfl (by kernel_rfl) (by decide) (fun K hK => ?_)
    refine goes_ Try.func44 (by kernel_rfl) rfl #[.agg #[.int .i64 x.f0, .int .i64 x.f1, .int .i64 x.f2, .int .i64 x.f3, .int .i64 x.f4, .slice A5 x.f5.length c5, .slice A6 x.f6.length c6, .int .i64 x.f7.f0, .int .i64 x.f7.f1, .slice A9 x.f8.length c9, .slice A10 x.f9.length c10], .agg #[.int .i64 t.f0, .slice T1 t.f1.length d1], .slice A5 x.f5.length c5, .slice A6 x.f6.length c6, .int .i64 kk] (by rfl) rfl rfl (by simp only [List.map_toArray, List.map_cons, List.map_nil]; rfl) ?_
    with_reducible refine ((HHL.out _ (bel2 (below_drew (Below.refl wr.heap.size wr)) hb3)).2).mono ?_
    rintro e w6 ⟨rfl, hb4⟩
    refine ⟨_, rfl, ?_⟩
    refine hK.out _ _ ⟨pw_cell_below hb4 (hHeld.1), pw_cell_below hb4 (hHeld.2.1), pw_cell_below hb4 (hHeld.2.2.1), pw_cell_below hb4 (hHeld.2.2.2.1), pw_cell_below hb4 (hHeld.2.2.2.2.1), pw_cell_below hb4 (hHeld.2.2.2.2.2.1), pw_cell_below hb4 (hHeld.2.2.2.2.2.2.1), pw_cell_below hb4 (hHeld.2.2.2.2.2.2.2.1), pw_cell_below hb4 (hHeld.2.2.2.2.2.2.2.2.1), pw_cell_below hb4 (hHeld.2.2.2.2.2.2.2.2.2.1), pw_cell_below hb4 (hHeld.2.2.2.2.2.2.2.2.2.2.1), pw_cell_below hb4 (hHeld.2.2.2.2.2.2.2.2.2.2.2.1), pw_cell_below hb4 (hHeld.2.2.2.2.2.2.2.2.2.2.2.2)⟩ (fun hHeld => ?_)
    clear hK K
    refine norm_ (a' := ?_) ?_ ?_
    rotate_left
    ·show Act.put _ (some 88) _ = _
     simp only [Act.put, List.setIfInBounds_toArray, List.set_cons_zero, List.set_cons_succ, i64_w, i32_w]
     rfl
    refine pure_ (i := 22) (N := some 12) (v := ?_) (a' := ?_) (bs 24 8388607) rfl rfl (by kernel_rfl) (fun _ _ _ h => h) (Or.inl ⟨by rfl, ?_⟩) ?_ ?_
    rotate_left
    ·intro w'
     go_simp
     with_reducible rfl
    rotate_left
    ·simp only [Act.put, List.setIfInBounds_toArray, List.set_cons_zero, List.set_cons_succ, i64_w, i32_w]
     rfl
    refine pure_ (i := 23) (N := some 13) (v := ?_) (a' := ?_) (bs 24 16777215) rfl rfl (by kernel_rfl) (fun _ _ _ h => h) (Or.inl ⟨by rfl, ?_⟩) ?_ ?_
    rotate_left
    ·intro w'
     go_simp
     with_reducible rfl
    rotate_left
    ·simp only [Act.put, List.setIfInBounds_toArray, List.set_cons_zero, List.set_cons_succ, i64_w, i32_w]
     rfl
    refine done_ (by kernel_rfl) ?_
    have H5 := Aside0.mk (And.intro (HW.out.1.step HP.out (bel2 (bel2 (below_drew (Below.refl _ _)) hb3) hb4)) (Kd.C_below HW.out.2 (bel2 (bel2 (below_drew (Below.refl _ _)) hb3) hb4)))
    have HBB := Aside0.mk (bel2 (bel2 (below_drew (Below.refl wr.heap.size wr)) hb3) hb4)
    have sa0 := pw_cell_below HBB.out ra0
    have sa1 := pw_cell_below HBB.out ra1
    have sb0 := pw_cell_below HBB.out rb0
    have sb1 := pw_cell_below HBB.out rb1
    clear hHeld hb3 hb4 k0 k1 k2 k3 k4 k5 k6 k7 k8 k9 k10 q0 q1 ra0 ra1 rb0 rb1 HW HBB HHL
    obtain ⟨e0, he0⟩ : ∃ e0, (hv == ra.f0) = e0 := ⟨_, rfl⟩
    obtain ⟨e1, he1⟩ : ∃ e1, (hv == ra.f1) = e1 := ⟨_, rfl⟩
    obtain ⟨e2, he2⟩ : ∃ e2, (lv == rb.f0) = e2 := ⟨_, rfl⟩
    obtain ⟨e3, he3⟩ : ∃ e3, (lv == rb.f1) = e3 := ⟨_, rfl⟩
    go_wp2
    refine start_ (n := 31) (S := fun w' => w'.cell? (qa.add (kk * 2)) = some (.int .i64 ra.f0) ∧ w'.cell? ⟨(qa.add (kk * 2)).block, (qa.add (kk * 2)).off + 1, none⟩ = some (.int .i64 ra.f1) ∧ w'.cell? (qb.add (kk * 2)) = some (.int .i64 rb.f0) ∧ w'.cell? ⟨(qb.add (kk * 2)).block, (qb.add (kk * 2)).off + 1, none⟩ = some (.int .i64 rb.f1)) (ds := [30]) #[false, false, false, false, false, false, false, false, false, false, false, false, false, false, false, false, false, false, false, false, false, false, false, false, false, false, false, false, false, false, false] (by kernel_rfl) rfl rfl ⟨sa0, sa1, sb0, sb1⟩ (fun hHeld => ?_)
    refine pure_ (i := 0) (N := some 89) (v := ?_) (a' := ?_) (bs 31 1) rfl rfl (by kernel_rfl) (fun _ _ _ h => h) (Or.inl ⟨by rfl, ?_⟩) ?_ ?_
    rotate_left
    ·intro w'
     go_simp
     with_reducible rfl
    rotate_left
    ·simp only [Act.put, List.setIfInBounds_toArray, List.set_cons_zero, List.set_cons_succ, i64_w, i32_w]
     rfl
    refine pure_ (i := 1) (N := some 90) (v := ?_) (a' := ?_) (bs 31 3) rfl rfl (by kernel_rfl) (fun _ _ _ h => h) (Or.inl ⟨by rfl, ?_⟩) ?_ ?_
    rotate_left
    ·intro w'
     go_simp
     with_reducible rfl
    rotate_left
    ·simp only [Act.put, List.setIfInBounds_toArray, List.set_cons_zero, List.set_cons_succ, i64_w, i32_w]
     rfl
    refine pure_ (i := 2) (N := some 91) (v := ?_) (a' := ?_) (bs 31 7) rfl rfl (by kernel_rfl) (fun _ _ _ h => h) (Or.inl ⟨by rfl, ?_⟩) ?_ ?_
    rotate_left
    ·intro w'
     go_simp
     with_reducible rfl
    rotate_left
    ·simp only [Act.put, List.setIfInBounds_toArray, List.set_cons_zero, List.set_cons_succ, i64_w, i32_w]
     rfl
    refine pure_ (i := 3) (N := some 92) (v := ?_) (a' := ?_) (bs 31 15) rfl rfl (by kernel_rfl) (fun _ _ _ h => h) (Or.inl ⟨by rfl, ?_⟩) ?_ ?_
    rotate_left
    ·intro w'
     go_simp
     with_reducible rfl
    rotate_left
    ·simp only [Act.put, List.setIfInBounds_toArray, List.set_cons_zero, List.set_cons_succ, i64_w, i32_w]
     rfl
    refine pure_ (i := 4) (N := some 93) (v := ?_) (a' := ?_) (bs 31 31) rfl rfl (by kernel_rfl) (fun _ _ _ h => h) (Or.inl ⟨by rfl, ?_⟩) ?_ ?_
    rotate_left
    ·intro w'
     go_simp
     with_reducible rfl
    rotate_left
    ·simp only [Act.put, List.setIfInBounds_toArray, List.set_cons_zero, List.set_cons_succ, i64_w, i32_w]
     rfl
    refine pure_ (i := 7) (N := some 96) (v := ?_) (a' := ?_) (bs 31 159) rfl rfl (by kernel_rfl) (fun _ _ _ h => h) (Or.inl ⟨by rfl, ?_⟩) ?_ ?_
    rotate_left
    ·intro w'
     go_simp
     with_reducible rfl
    rotate_left
    ·simp only [Act.put, List.setIfInBounds_toArray, List.set_cons_zero, List.set_cons_succ, i64_w, i32_w]
     rfl
    refine pure_ (i := 8) (N := some 97) (v := ?_) (a' := ?_) (bs 31 415) rfl rfl (by kernel_rfl) (fun _ _ _ h => h) (Or.inl ⟨by rfl, ?_⟩) ?_ ?_
    rotate_left
    ·intro w'
     go_simp
     with_reducible rfl
    rotate_left
    ·simp only [Act.put, List.setIfInBounds_toArray, List.set_cons_zero, List.set_cons_succ, i64_w, i32_w]
     rfl
    refine pure_ (i := 9) (N := some 98) (v := ?_) (a' := ?_) (bs 31 927) rfl rfl (by kernel_rfl) (fun _ _ _ h => h) (Or.inl ⟨by rfl, ?_⟩) ?_ ?_
    rotate_left
    ·intro w'
     go_simp
     with_reducible rfl
    rotate_left
    ·simp only [Act.put, List.setIfInBounds_toArray, List.set_cons_zero, List.set_cons_succ, i64_w, i32_w]
     rfl
    refine pure_ (i := 10) (N := some 99) (v := ?_) (a' := ?_) (bs 31 1951) rfl rfl (by kernel_rfl) (fun _ _ _ h => h) (Or.inl ⟨by rfl, ?_⟩) ?_ ?_
    rotate_left
    ·intro w'
     go_simp
     with_reducible rfl
    rotate_left
    ·simp only [Act.put, List.setIfInBounds_toArray, List.set_cons_zero, List.set_cons_succ, i64_w, i32_w]
     rfl
    refine pure_ (i := 11) (N := some 100) (v := ?_) (a' := ?_) (bs 31 3999) rfl rfl (by kernel_rfl) (fun _ _ _ h => h) (Or.inl ⟨by rfl, ?_⟩) ?_ ?_
    rotate_left
    ·intro w'
     go_simp
     with_reducible rfl
    rotate_left
    ·simp only [Act.put, List.setIfInBounds_toArray, List.set_cons_zero, List.set_cons_succ, i64_w, i32_w]
     rfl
    refine pure_ (i := 14) (N := some 103) (v := ?_) (a' := ?_) (bs 31 20383) rfl rfl (by kernel_rfl) (fun _ _ _ h => h) (Or.inl ⟨by rfl, ?_⟩) ?_ ?_
    rotate_left
    ·intro w'
     go_simp
     with_reducible rfl
    rotate_left
    ·simp only [Act.put, List.setIfInBounds_toArray, List.set_cons_zero, List.set_cons_succ, i64_w, i32_w]
     rfl
    refine pure_ (i := 15) (N := some 104) (v := ?_) (a' := ?_) (bs 31 53151) rfl rfl (by kernel_rfl) (fun _ _ _ h => h) (Or.inl ⟨by rfl, ?_⟩) ?_ ?_
    rotate_left
    ·intro w'
     go_simp
     with_reducible rfl
    rotate_left
    ·simp only [Act.put, List.setIfInBounds_toArray, List.set_cons_zero, List.set_cons_succ, i64_w, i32_w]
     rfl
    refine pure_ (i := 16) (N := some 105) (v := ?_) (a' := ?_) (bs 31 118687) rfl rfl (by kernel_rfl) (fun _ _ _ h => h) (Or.inl ⟨by rfl, ?_⟩) ?_ ?_
    rotate_left
    ·intro w'
     go_simp
     with_reducible rfl
    rotate_left
    ·simp only [Act.put, List.setIfInBounds_toArray, List.set_cons_zero, List.set_cons_succ, i64_w, i32_w]
     rfl
    refine pure_ (i := 17) (N := some 106) (v := ?_) (a' := ?_) (bs 31 249759) rfl rfl (by kernel_rfl) (fun _ _ _ h => h) (Or.inl ⟨by rfl, ?_⟩) ?_ ?_
    rotate_left
    ·intro w'
     go_simp
     with_reducible rfl
    rotate_left
    ·simp only [Act.put, List.setIfInBounds_toArray, List.set_cons_zero, List.set_cons_succ, i64_w, i32_w]
     rfl
    refine pure_ (i := 18) (N := some 107) (v := ?_) (a' := ?_) (bs 31 511903) rfl rfl (by kernel_rfl) (fun _ _ _ h => h) (Or.inl ⟨by rfl, ?_⟩) ?_ ?_
    rotate_left
    ·intro w'
     go_simp
     with_reducible rfl
    rotate_left
    ·simp only [Act.put, List.setIfInBounds_toArray, List.set_cons_zero, List.set_cons_succ, i64_w, i32_w]
     rfl
    refine pure_ (i := 21) (N := some 110) (v := ?_) (a' := ?_) (bs 31 2609055) rfl rfl (by kernel_rfl) (fun _ _ _ h => h) (Or.inl ⟨by rfl, ?_⟩) ?_ ?_
    rotate_left
    ·intro w'
     go_simp
     with_reducible rfl
    rotate_left
    ·simp only [Act.put, List.setIfInBounds_toArray, List.set_cons_zero, List.set_cons_succ, i64_w, i32_w]
     rfl
    refine pure_ (i := 22) (N := some 111) (v := ?_) (a' := ?_) (bs 31 6803359) rfl rfl (by kernel_rfl) (fun _ _ _ h => h) (Or.inl ⟨by rfl, ?_⟩) ?_ ?_
    rotate_left
    ·intro w'
     go_simp
     with_reducible rfl
    rotate_left
    ·simp only [Act.put, List.setIfInBounds_toArray, List.set_cons_zero, List.set_cons_succ, i64_w, i32_w]
     rfl
    refine pure_ (i := 23) (N := some 112) (v := ?_) (a' := ?_) (bs 31 15191967) rfl rfl (by kernel_rfl) (fun _ _ _ h => h) (Or.inl ⟨by rfl, ?_⟩) ?_ ?_
    rotate_left
    ·intro w'
     go_simp
     with_reducible rfl
    rotate_left
    ·simp only [Act.put, List.setIfInBounds_toArray, List.set_cons_zero, List.set_cons_succ, i64_w, i32_w]
     rfl
    refine pure_ (i := 24) (N := some 113) (v := ?_) (a' := ?_) (bs 31 31969183) rfl rfl (by kernel_rfl) (fun _ _ _ h => h) (Or.inl ⟨by rfl, ?_⟩) ?_ ?_
    rotate_left
    ·intro w'
     go_simp
     with_reducible rfl
    rotate_left
    ·simp only [Act.put, List.setIfInBounds_toArray, List.set_cons_zero, List.set_cons_succ, i64_w, i32_w]
     rfl
    refine pure_ (i := 25) (N := some 114) (v := ?_) (a' := ?_) (bs 31 65523615) rfl rfl (by kernel_rfl) (fun _ _ _ h => h) (Or.inl ⟨by rfl, ?_⟩) ?_ ?_
    rotate_left
    ·intro w'
     go_simp
     with_reducible rfl
    rotate_left
    ·simp only [Act.put, List.setIfInBounds_toArray, List.set_cons_zero, List.set_cons_succ, i64_w, i32_w]
     rfl
    refine take_ (i := 5) (N := some 94) (v := ?_) (a' := ?_) (bs 31 65523647) rfl rfl (by kernel_rfl) (fun _ _ _ h => h) (Or.inl ⟨by rfl, ?_⟩) hHeld ?_ ?_
    rotate_left
    ·rintro w' ⟨s0, s1, s2, s3⟩
     go_simp
     with_reducible rfl
    rotate_left
    ·simp only [Act.put, List.setIfInBounds_toArray, List.set_cons_zero, List.set_cons_succ, i64_w, i32_w]
     rfl
    refine pure_ (i := 6) (N := some 95) (v := ?_) (a' := ?_) (bs 31 65523711) rfl rfl (by kernel_rfl) (fun _ _ _ h => h) (Or.inl ⟨by rfl, ?_⟩) ?_ ?_
    rotate_left
    ·intro w'
     go_simp
     with_reducible rfl
    rotate_left
    ·simp only [Act.put, List.setIfInBounds_toArray, List.set_cons_zero, List.set_cons_succ, i64_w, i32_w]
     rfl
    refine take_ (i := 12) (N := some 101) (v := ?_) (a' := ?_) (bs 31 65527807) rfl rfl (by kernel_rfl) (fun _ _ _ h => h) (Or.inl ⟨by rfl, ?_⟩) hHeld ?_ ?_
    rotate_left
    ·rintro w' ⟨s0, s1, s2, s3⟩
     go_simp
     with_reducible rfl
    rotate_left
    ·simp only [Act.put, List.setIfInBounds_toArray, List.set_cons_zero, List.set_cons_succ, i64_w, i32_w]
     rfl
    refine pure_ (i := 13) (N := some 102) (v := ?_) (a' := ?_) (bs 31 65535999) rfl rfl (by kernel_rfl) (fun _ _ _ h => h) (Or.inl ⟨by rfl, ?_⟩) ?_ ?_
    rotate_left
    ·intro w'
     go_simp
     with_reducible rfl
    rotate_left
    ·simp only [Act.put, List.setIfInBounds_toArray, List.set_cons_zero, List.set_cons_succ, i64_w, i32_w]
     rfl
    refine take_ (i := 19) (N := some 108) (v := ?_) (a' := ?_) (bs 31 66060287) rfl rfl (by kernel_rfl) (fun _ _ _ h => h) (Or.inl ⟨by rfl, ?_⟩) hHeld ?_ ?_
    rotate_left
    ·rintro w' ⟨s0, s1, s2, s3⟩
     go_simp
     with_reducible rfl
    rotate_left
    ·simp only [Act.put, List.setIfInBounds_toArray, List.set_cons_zero, List.set_cons_succ, i64_w, i32_w]
     rfl
    refine pure_ (i := 20) (N := some 109) (v := ?_) (a' := ?_) (bs 31 67108863) rfl rfl (by kernel_rfl) (fun _ _ _ h => h) (Or.inl ⟨by rfl, ?_⟩) ?_ ?_
    rotate_left
    ·intro w'
     go_simp
     with_reducible rfl
    rotate_left
    ·simp only [Act.put, List.setIfInBounds_toArray, List.set_cons_zero, List.set_cons_succ, i64_w, i32_w]
     rfl
    refine take_ (i := 26) (N := some 115) (v := ?_) (a' := ?_) (bs 31 134217727) rfl rfl (by kernel_rfl) (fun _ _ _ h => h) (Or.inl ⟨by rfl, ?_⟩) hHeld ?_ ?_
    rotate_left
    ·rintro w' ⟨s0, s1, s2, s3⟩
     go_simp
     with_reducible rfl
    rotate_left
    ·simp only [Act.put, List.setIfInBounds_toArray, List.set_cons_zero, List.set_cons_succ, i64_w, i32_w]
     rfl
    refine pure_ (i := 27) (N := some 116) (v := ?_) (a' := ?_) (bs 31 268435455) rfl rfl (by kernel_rfl) (fun _ _ _ h => h) (Or.inl ⟨by rfl, ?_⟩) ?_ ?_
    rotate_left
    ·intro w'
     go_simp
     with_reducible rfl
    rotate_left
    ·simp only [Act.put, List.setIfInBounds_toArray, List.set_cons_zero, List.set_cons_succ, i64_w, i32_w]
     rfl
    refine pure_ (i := 28) (N := some 117) (v := ?_) (a' := ?_) (bs 31 536870911) rfl rfl (by kernel_rfl) (fun _ _ _ h => h) (Or.inl ⟨by rfl, ?_⟩) ?_ ?_
    rotate_left
    ·intro w'
     go_simp
     with_reducible rfl
    rotate_left
    ·simp only [Act.put, List.setIfInBounds_toArray, List.set_cons_zero, List.set_cons_succ, i64_w, i32_w]
     rfl
    refine one_ (i := 29) (N := some 14) (bs 31 1073741823) rfl rfl (by kernel_rfl) (by decide) (fun K hK => ?_)
    refine value_ (w1 := ?_) (v := ?_) (by rfl) rfl ?_ ?_
    rotate_left 2
    ·go_simp
     constructor
     ·rfl
     ·rfl
    refine hK.out _ _ ⟨cell_al _ (hHeld.1), cell_al _ (hHeld.2.1), cell_al _ (hHeld.2.2.1), cell_al _ (hHeld.2.2.2)⟩ (fun hHeld => ?_)
    clear hK K
    refine norm_ (a' := ?_) ?_ ?_
    rotate_left
    ·show Act.put _ (some 14) _ = _
     simp only [Act.put, List.setIfInBounds_toArray, List.set_cons_zero, List.set_cons_succ, i64_w, i32_w]
     rfl
    refine last_ (i := 30) (N := none) (bs 31 2147483647) rfl rfl (by kernel_rfl) (by decide) (fun K hK => ?_)
    have bz := Blk.new w6.drew #[.bool false, .bool false, .bool false, .bool false] 67 _ rfl
    have z0 := bz.cell 0 _ rfl
    have z1 := bz.cell 1 _ rfl
    have z2 := bz.cell 2 _ rfl
    have z3 := bz.cell 3 _ rfl
    have y0 := bz.frozen 0
    have y1 := bz.frozen 1
    have y2 := bz.frozen 2
    have y3 := bz.frozen 3
    refine skip_ (w1 := ?_) (by rfl) rfl ?_ ?_
    rotate_left
    ·go_simp
     rfl
    refine hK.out _ _ ?_
    clear hK K
    refine done_ (by kernel_rfl) ?_
    have hE9 := below_drew (below_alloc (Below.refl w6.heap.size w6) (.cells #[.bool e0, .bool e1, .bool e2, .bool e3] 67))
    have H6 := Aside0.mk (And.intro (H5.out.1.step HP.out hE9) (Kd.C_below H5.out.2 hE9))
    have HBE := Aside0.mk (Blk.new w6 #[.bool e0, .bool e1, .bool e2, .bool e3] 67 _ rfl).drew
    clear hHeld bz z0 z1 z2 z3 y0 y1 y2 y3 sa0 sa1 sb0 sb1 H5 hE9
    obtain ⟨EV, hEV⟩ : ∃ EV : Nat → Bool, EV = endsB hv lv ra.f0 ra.f1 rb.f0 rb.f1 := ⟨_, rfl⟩
    have h0 : EV 0 = e0 := by rw [hEV, ← he0]; rfl
    have h1 : EV 1 = e1 := by rw [hEV, ← he1]; rfl
    have h2 : EV 2 = e2 := by rw [hEV, ← he2]; rfl
    have h3 : EV 3 = e3 := by rw [hEV, ← he3]; rfl
    have HSN2 := HSN.out
    rw [← hEV] at HSN2
    have HSN3 := Aside0.mk HSN2
    have HEV := Lib.hid (And.intro h0 (And.intro h1 (And.intro h2 h3)))
    clear h0 h1 h2 h3 hEV he0 he1 he2 he3 HSN2 HSN
    generalize ((w6.alloc (.cells #[.bool e0, .bool e1, .bool e2, .bool e3] 67)).drew) = W9 at *
    generalize w6.heap.size = g at *
    rw [show rbits gA 4 = rbits (fun q => gA q || (decide (q < 0) && EV q)) 4 from rbits_congr 4 fun q hq => by simp]
    go_wp2
    go_loop [10, 15] (fun s10 s15 => ∃ j : Nat, j ≤ 4 ∧ s15 = .int .i64 j ∧ s10 = .int .i64 (rbits (fun q => gA q || (decide (q < j) && EV q)) 4)) (fun _ s15 => 4 - (intOf s15).toNat)
    case atStart => exact ⟨0, Nat.zero_le _, rfl, rfl⟩
    case round =>
     obtain ⟨j, hj, rfl, rfl⟩ := hrel
     have zE := HBE.out
     by_cases hj4 : j < 4
     ·have hst := ends_step gA EV hj4
      have hj5 : j = 0 ∨ j = 1 ∨ j = 2 ∨ j = 3 := by omega
      rcases hj5 with rfl | rfl | rfl | rfl
      ·have z0 := zE.cell 0 _ rfl
       clear zE
       cases e0 with
       | true =>
        rw [HEV.out.1] at hst
        have HST := Lib.hid hst
        clear hst
        generalize rbits (fun q => gA q || (decide (q < 0) && EV q)) 4 = met at *
        go_wp2
        go_round
        case rel => exact ⟨_, hj4, by go_num, by rw [HST.out]; rfl⟩
        case measure => simp [intOf]
       | false =>
        rw [HEV.out.1] at hst
        have HST := Lib.hid hst
        clear hst
        generalize rbits (fun q => gA q || (decide (q < 0) && EV q)) 4 = met at *
        go_wp2
        go_round
        case rel => exact ⟨_, hj4, by go_num, by rw [HST.out]; rfl⟩
        case measure => simp [intOf]
      ·have z1 := zE.cell 1 _ rfl
       clear zE
       cases e1 with
       | true =>
        rw [HEV.out.2.1] at hst
        have HST := Lib.hid hst
        clear hst
        generalize rbits (fun q => gA q || (decide (q < 1) && EV q)) 4 = met at *
        go_wp2
        go_round
        case rel => exact ⟨_, hj4, by go_num, by rw [HST.out]; rfl⟩
        case measure => simp [intOf]
       | false =>
        rw [HEV.out.2.1] at hst
        have HST := Lib.hid hst
        clear hst
        generalize rbits (fun q => gA q || (decide (q < 1) && EV q)) 4 = met at *
        go_wp2
        go_round
        case rel => exact ⟨_, hj4, by go_num, by rw [HST.out]; rfl⟩
        case measure => simp [intOf]
      ·have z2 := zE.cell 2 _ rfl
       clear zE
       cases e2 with
       | true =>
        rw [HEV.out.2.2.1] at hst
        have HST := Lib.hid hst
        clear hst
        generalize rbits (fun q => gA q || (decide (q < 2) && EV q)) 4 = met at *
        go_wp2
        go_round
        case rel => exact ⟨_, hj4, by go_num, by rw [HST.out]; rfl⟩
        case measure => simp [intOf]
       | false =>
        rw [HEV.out.2.2.1] at hst
        have HST := Lib.hid hst
        clear hst
        generalize rbits (fun q => gA q || (decide (q < 2) && EV q)) 4 = met at *
        go_wp2
        go_round
        case rel => exact ⟨_, hj4, by go_num, by rw [HST.out]; rfl⟩
        case measure => simp [intOf]
      ·have z3 := zE.cell 3 _ rfl
       clear zE
       cases e3 with
       | true =>
        rw [HEV.out.2.2.2] at hst
        have HST := Lib.hid hst
        clear hst
        generalize rbits (fun q => gA q || (decide (q < 3) && EV q)) 4 = met at *
        go_wp2
        go_round
        case rel => exact ⟨_, hj4, by go_num, by rw [HST.out]; rfl⟩
        case measure => simp [intOf]
       | false =>
        rw [HEV.out.2.2.2] at hst
        have HST := Lib.hid hst
        clear hst
        generalize rbits (fun q => gA q || (decide (q < 3) && EV q)) 4 = met at *
        go_wp2
        go_round
        case rel => exact ⟨_, hj4, by go_num, by rw [HST.out]; rfl⟩
        case measure => simp [intOf]
     ·obtain rfl : j = 4 := by omega
      have HRE := Lib.hid (show rbits (fun q => gA q || (decide (q < 4) && EV q)) 4 = rbits (fun j => (TL.take (i + 1)).any (endAt x kk ra rb j)) 4 from rbits_congr 4 fun q hq => by rw [HSN3.out, decide_eq_true hq, Bool.true_and])
      clear zE
      go_wp2
      go_roundw
      case rel => exact ⟨i + 1, by omega, by go_num, by rw [HRE.out], H6⟩
      case measure => simp [intOf]; omega
   ·obtain rfl : i = TL.length := by omega
    have hltz : ¬ (TL.length : Int) < (TL.length : Int) := by omega
    rw [List.take_length, HALL.out]
    go_wp2_with fail
    refine (awake_calls _).mono ?_
    rintro e w14 ⟨rfl, hb⟩
    have H9 := Aside0.mk (bel2 HW.out.1.bel hb)
    clear hb
    go_wp2
    go_ret
    exact ⟨rfl, H9.out⟩
 ·have hE0 : askE x true = 11 := by rw [HE.out, if_neg hps]
  have htn : truthL x = [] := by
   have := askE_t x
   rw [hE0, if_pos ((valid_iff x).2 HV.out)] at this
   by_cases h : truthL x = []
   ·exact h
   ·rw [if_neg h] at this; cases this
  have hbf := HBF.out
  rw [if_neg (by rw [hE0]; decide), hE0] at hbf
  obtain rfl : pe = 11 := by rw [← HEQ.out.2.2, hbf]
  have htx := (truthsX_nil HV.out).2 htn
  rw [htx] at H4 ⊢
  have hl0 : (([] : List S75).length : Int) = 0 := rfl
  have k0 := H4.out.1.box.cell 0 _ rfl
  clear hE0 htn hbf htx
  go_wp2_with fail
  refine (awake_calls _).mono ?_
  rintro e w14 ⟨rfl, hb⟩
  have H9 := Aside0.mk (bel2 H4.out.1.bel hb)
  clear hb
  go_wp2
  go_ret
  exact ⟨rfl, H9.out⟩
theorem ends_law (x : S38) (cs : List Value) (hr : Int) (h0 : 0 ≤ hr) (h1 : hr ≤ 255) (w : World) (hx : k38.K w x cs) : Calls Try.prog 6 #[.agg cs.toArray, .int .u8 hr] w fun e w' => e = .returned (.bool true) ∧ Below w.heap.size w w' := by
 cases h : readyB x with
 | false => exact ends_awake x cs hr w hx h
 | true =>
  obtain ⟨t, rfl⟩ : ∃ t : Nat, hr = (t : Int) := ⟨hr.toNat, by omega⟩
  exact ends_main x cs t (by omega) w hx h
end Go.Proofs.Ytdgkhoflajdidaa
