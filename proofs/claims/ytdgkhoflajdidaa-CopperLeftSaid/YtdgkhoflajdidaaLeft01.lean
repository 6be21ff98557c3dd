/- Lemmas for the law's proof: Mg, Oa, Va, Wa, Pc, Wb, Ta, Ub, Q0. -/
import Derived.Test.YtdgkhoflajdidaaCore16
import Derived.BigQuiet
import Derived.Test.YtdgkhoflajdidaaCore14
import Derived.Test.YtdgkhoflajdidaaCore07
import Derived.Test.YtdgkhoflajdidaaCore15
import Derived.Test.YtdgkhoflajdidaaCore10
import Derived.Test.YtdgkhoflajdidaaCore11
/- Right, Full: which readings are right, by bits. -/
namespace Go.Proofs.Ytdgkhoflajdidaa
open Go.RowKit Go.Proofs.YtdgkhoflajdidaaW.PrintWords Go.Proofs.YtdgkhoflajdidaaW.PrintMore Go.Proofs.YtdgkhoflajdidaaW.PrintLast Go.Proofs.Ytdgkhoflajdidaa.Print
set_option linter.unusedVariables false
set_option linter.unusedSimpArgs false
set_option maxRecDepth 100000
set_option maxHeartbeats 4000000
theorem rFull_calls (x : S38) (cs : List Value) (w : World) (hx : k38.K w x cs) (h5 : x.f9.length ≤ 5) : Calls Try.prog 54 #[.agg cs.toArray] w fun e w' => e = .returned (.int .i64 (2 ^ x.f9.length - 1)) ∧ Below w.heap.size w w' := by
 obtain ⟨A5, c5, A6, c6, A9, c9, A10, c10, rfl, _⟩ := k38_open hx
 clear hx
 have hu := Try.underlying28
 generalize x.f9.length = n at *
 have hn : n = 0 ∨ n = 1 ∨ n = 2 ∨ n = 3 ∨ n = 4 ∨ n = 5 := by omega
 rcases hn with rfl | rfl | rfl | rfl | rfl | rfl
 all_goals
  go_enter Try.func54, Try.ntmps54
  go_wp2
 all_goals
  go_ret
  exact ⟨rfl, below_alloc (Below.refl _ _) _⟩
end Go.Proofs.Ytdgkhoflajdidaa
/- Nth: the truth with a number. -/
namespace Go.Proofs.Ytdgkhoflajdidaa
open Go.RowKit Go.Proofs.YtdgkhoflajdidaaW.PrintWords Go.Proofs.YtdgkhoflajdidaaW.PrintMore Go.Proofs.YtdgkhoflajdidaaW.PrintLast Go.Proofs.Ytdgkhoflajdidaa.Print
set_option linter.unusedVariables false
set_option linter.unusedSimpArgs false
set_option maxRecDepth 100000
set_option maxHeartbeats 4000000
theorem tmod_nat (n s : Nat) : ((n : Int).tmod (s : Int)) = ((n % s : Nat) : Int) := by
 rw [Int.tmod_eq_emod_of_nonneg (by omega)]
 exact (Int.natCast_emod n s).symm
/-- The state of Nth's loop. -/
structure NtSt (x : S38) (w : World) (B : Array Value) (p : Nat) (h : Int) (l : List Int) (v : Value) (W : World) : Prop where
 bel : Below w.heap.size w W
 box : Blk W w.heap.size B 28
 res : Blk W (w.heap.size + 1) #[.int .i64 0, .slice none 0 0] 66
 blk : Blk W p #[.int .i64 h, v] 66
 r : W.ownsRow w.heap.size 3 1 v l.length (nums .i64 l)
 hp : w.heap.size + 1 < p
variable {x : S38} {w W V : World} {B : Array Value} {p : Nat} {h : Int} {l : List Int} {v v' : Value}
theorem NtSt.below (s : NtSt x w B p h l v W) (hb : Below W.heap.size W V) : NtSt x w B p h l v V := ⟨bel2 s.bel hb, s.box.below hb, s.res.below hb, s.blk.below hb, own_bel s.r hb, s.hp⟩
theorem NtSt.app (s : NtSt x w B p h l v W) (a : Int) (ho : V.ownsRow w.heap.size 3 1 v' (nums .i64 l ++ [Value.int .i64 a]).length (nums .i64 l ++ [Value.int .i64 a])) (hg : W.grownBy V v.ownBlock) : NtSt x w B p h (l ++ [a]) v' (V.setCell ⟨p, 1, none⟩ v') := by
 have hp := s.hp
 have hblk := s.blk.grown hg (blk_row s.blk s.r (by decide))
 exact ⟨(s.bel.grown hg s.bel.size (own_base s.r)).setCell (p := ⟨p, 1, none⟩) (by show w.heap.size ≤ p; omega) _, (s.box.grown hg (blk_row s.box s.r (by decide))).set_other (p := ⟨p, 1, none⟩) (by show w.heap.size ≠ p; omega) _,
  (s.res.grown hg (blk_row s.res s.r (by decide))).set_other (p := ⟨p, 1, none⟩) (by show w.heap.size + 1 ≠ p; omega) _, hblk.set 1 v', own_setCell (by simpa [nums] using ho) (p := ⟨p, 1, none⟩) (blk_row hblk ho (by decide)) _, hp⟩
end Go.Proofs.Ytdgkhoflajdidaa
/- Leave and First, without the program: the sets of readings by bits, in their order. -/
namespace Go.Proofs.Ytdgkhoflajdidaa
open Go.RowKit Go.Proofs.YtdgkhoflajdidaaW.PrintWords Go.Proofs.YtdgkhoflajdidaaW.PrintMore Go.Proofs.YtdgkhoflajdidaaW.PrintLast Go.Proofs.Ytdgkhoflajdidaa.Print
set_option linter.unusedVariables false
set_option linter.unusedSimpArgs false
set_option maxRecDepth 100000
/-- The first k bits' numbers. -/
def bitsTo (b k : Nat) : List Int := ((List.range k).filter b.testBit).map fun (i : Nat) => (i : Int)
theorem bitsTo_t {b k : Nat} (h : b.testBit k = true) : bitsTo b (k + 1) = bitsTo b k ++ [(k : Int)] := by simp [bitsTo, List.range_succ, List.filter_append, h]
theorem bitsTo_f {b k : Nat} (h : b.testBit k = false) : bitsTo b (k + 1) = bitsTo b k := by simp [bitsTo, List.range_succ, List.filter_append, h]
def bitsL (b : Nat) : List Int := bitsTo b 5
theorem bitsTo_all {b : Nat} (hb : b < 32) : ∀ k, k ≤ 5 → b / 2 ^ k = 0 → bitsTo b k = bitsL b := by
 have key : ∀ k, k < 6 → ∀ b, b < 32 → b / 2 ^ k = 0 → bitsTo b k = bitsL b := by decide +kernel
 exact fun k hk h => key k (by omega) b hb h
theorem testBit_div (b k : Nat) : b.testBit k = decide (b / 2 ^ k % 2 = 1) := by rw [Nat.testBit_eq_decide_div_mod_eq]
def beforeL : List Int → List Int → Bool
 | a :: l, b :: m => if a = b then beforeL l m else decide (a < b)
 | [], _ :: _ => true
 | _, [] => false
def shorterL (a b : List Int) : Bool := decide (a.length < b.length) || (decide (a.length = b.length) && beforeL a b)
/-- The sets of five, in their order: the shorter before the longer. -/
def orderL : List Nat := [0, 1, 2, 4, 8, 16, 3, 5, 9, 17, 6, 10, 18, 12, 20, 24, 7, 11, 19, 13, 21, 25, 14, 22, 26, 28, 15, 23, 27, 29, 30, 31]
def rank (b : Nat) : Nat := orderL.idxOf b
theorem rank_shorter : ∀ a, a < 32 → ∀ b, b < 32 → shorterL (bitsL a) (bitsL b) = decide (rank a < rank b) := by decide +kernel
theorem subs_order : ∀ n, n < 6 → (List.range (n + 1)).flatMap (fun m => subs n m 0) = (orderL.filter (fun b => b < 2 ^ n)).map bitsL := by decide +kernel
theorem order_sorted : orderL.Pairwise fun a b => rank a < rank b := by decide +kernel
theorem order_mem : ∀ b, b < 32 → b ∈ orderL := by decide +kernel
/-- The least of the sets that pass. -/
structure LeastS (n : Nat) (p : Nat → Bool) (b : Nat) : Prop where
 lt : b < 2 ^ n
 pass : p b = true
 least : ∀ c, c < 2 ^ n → p c = true → rank b ≤ rank c
theorem pow5 {n : Nat} (hn : n ≤ 5) : 2 ^ n ≤ 32 := Nat.pow_le_pow_right (by decide) hn
/-- The first of a sorted list that passes is the least. -/
theorem find_least {n : Nat} (hn : n ≤ 5) {p : Nat → Bool} {b : Nat} (h : (orderL.filter (fun b => b < 2 ^ n)).find? p = some b) : LeastS n p b := by
 have hm := List.mem_of_find?_eq_some h
 rw [List.mem_filter] at hm
 refine ⟨by simpa using hm.2, List.find?_some h, fun c hc hp => ?_⟩
 have hs : (orderL.filter (fun b => b < 2 ^ n)).Pairwise fun a b => rank a < rank b := order_sorted.filter _
 rw [List.find?_eq_some_iff_append] at h
 obtain ⟨_, pre, post, e, hn0⟩ := h
 have hcm : c ∈ orderL.filter (fun b => b < 2 ^ n) := List.mem_filter.2 ⟨order_mem c (Nat.lt_of_lt_of_le hc (pow5 hn)), by simpa using hc⟩
 rw [e] at hs hcm
 rcases List.mem_append.1 hcm with h1 | h1
 ·have := hn0 c h1
  rw [hp] at this
  cases this
 ·rcases List.mem_cons.1 h1 with rfl | h2
  ·exact Nat.le_refl _
  ·exact Nat.le_of_lt ((List.pairwise_cons.1 (List.pairwise_append.1 hs).2.1).1 c h2)
theorem leaveF_least {x : S38} (hV : Valid x) : ∃ b, leaveF x = (bitsL b, 0) ∧ LeastS x.f9.length (fun b => posB x (bitsL b)) b := by
 have hn := hV.rdN
 have e1 : ((List.range (x.f9.length + 1)).findSome? fun m => findS x [] m 0) = ((orderL.filter (fun b => b < 2 ^ x.f9.length)).map bitsL).find? (posB x) := by
  rw [← subs_order _ (by omega), List.find?_flatMap]
  rfl
 have hsome : ∃ t, ((List.range (x.f9.length + 1)).findSome? fun m => findS x [] m 0) = some t := by
  obtain ⟨t, ht⟩ := Option.ne_none_iff_exists'.1 (findS_full hV)
  refine Option.isSome_iff_exists.1 ?_
  rw [List.findSome?_isSome_iff]
  exact ⟨x.f9.length, List.mem_range.2 (by omega), by rw [ht]; rfl⟩
 obtain ⟨t, ht⟩ := hsome
 unfold leaveF
 rw [if_pos ((valid_iff x).2 hV), ht]
 rw [e1, List.find?_map] at ht
 obtain ⟨b, hb, rfl⟩ := Option.map_eq_some_iff.1 ht
 exact ⟨b, rfl, find_least hn hb⟩
def maskB (n b : Nat) : Int := Go.bits .andNot .i64 (2 ^ n - 1) b
theorem any_bitsL : ∀ b, b < 32 → ∀ i : Nat, i < 5 → ((bitsL b).any fun y => (i : Int) == y) = b.testBit i := by decide +kernel
theorem okAt_bits (x : S38) (s : Sc) {b i : Nat} (hb : b < 32) (hi : i < 5) : okAt x s (bitsL b) i = (b.testBit i || okAt x s [] i) := by
 unfold okAt
 rw [any_bitsL b hb i hi]
 simp
/-- The coppers with other readings. -/
def withR (x : S38) (l : List S119) : S38 := { x with f9 := l }
theorem scFrom_withR (x : S38) (l : List S119) : ∀ d h s, scFrom (withR x l) d h s = scFrom x d h s
 | 0, _, _ => rfl
 | d + 1, h, s => by
  show (irange (x.f8.getD h z35).f0 (x.f8.getD h z35).f1).flatMap (fun n => scFrom (withR x l) d (h + 1) (s.setLoss h n)) = (irange (x.f8.getD h z35).f0 (x.f8.getD h z35).f1).flatMap fun n => scFrom x d (h + 1) (s.setLoss h n)
  rw [show (fun n => scFrom (withR x l) d (h + 1) (s.setLoss h n)) = fun n => scFrom x d (h + 1) (s.setLoss h n) from funext fun n => scFrom_withR x l d (h + 1) _]
theorem allSc_withR (x : S38) (l : List S119) : allSc (withR x l) = allSc x := by
 unfold allSc
 rw [show (fun n => scFrom (withR x l) ((withR x l).f0 + 1).toNat 0 (scHeat n)) = fun n => scFrom x (x.f0 + 1).toNat 0 (scHeat n) from funext fun n => scFrom_withR x l _ 0 _]
 rfl
theorem heat_withR (x : S38) (l : List S119) (s : Sc) (co wa : List Int) : ∀ k, heatAt (withR x l) s co wa k = heatAt x s co wa k
 | 0 => rfl
 | k + 1 => by
  show leftH (withR x l) _ (preH (withR x l) s _ (heatAt (withR x l) s co wa k) k) k = _
  rw [heat_withR x l s co wa k]
  rfl
theorem hot_withR (x : S38) (l : List S119) (s : Sc) (co wa : List Int) (k : Nat) : hotAt (withR x l) s co wa k = hotAt x s co wa k := by
 unfold hotAt preAt
 rw [heat_withR]
 rfl
end Go.Proofs.Ytdgkhoflajdidaa
/- ready, some. -/
namespace Go.Proofs.Ytdgkhoflajdidaa
open Go.RowKit Go.Proofs.YtdgkhoflajdidaaW.PrintWords Go.Proofs.YtdgkhoflajdidaaW.PrintMore Go.Proofs.YtdgkhoflajdidaaW.PrintLast Go.Proofs.Ytdgkhoflajdidaa.Print
set_option linter.unusedVariables false
set_option linter.unusedSimpArgs false
set_option maxRecDepth 100000
set_option maxHeartbeats 4000000
def readyB (x : S38) : Bool := thinB x && decide (faultC x = 0)
theorem readyB_iff (x : S38) : readyB x = true ↔ thinB x = true ∧ Valid x := by
 unfold readyB
 rw [Bool.and_eq_true, decide_eq_true_eq, valid_iff]
theorem ready_calls (x : S38) (cs : List Value) (w : World) (hx : k38.K w x cs) : Calls Try.prog 41 #[.agg cs.toArray] w fun e w' => e = .returned (.bool (readyB x)) ∧ Below w.heap.size w w' := by
 have HTH := Aside0.mk (fun W (hW : Below w.heap.size w W) => thin_calls x cs W (k38.K_below hW hx))
 have HFA := Aside0.mk (fun W (hW : Below w.heap.size w W) => lfault_calls x cs W (k38.K_below hW hx))
 have HS := Lib.hid (show readyB x = (thinB x && decide (faultC x = 0)) from rfl)
 obtain ⟨A5, c5, A6, c6, A9, c9, A10, c10, rfl, _⟩ := k38_open hx
 clear hx
 have hu := Try.underlying28
 have ZB := Aside0.mk (And.intro (below_alloc (Below.refl w.heap.size w) (.cells #[.int .i64 x.f0, .int .i64 x.f1, .int .i64 x.f2, .int .i64 x.f3, .int .i64 x.f4, .slice A5 x.f5.length c5, .slice A6 x.f6.length c6, .int .i64 x.f7.f0, .int .i64 x.f7.f1, .slice A9 x.f8.length c9, .slice A10 x.f9.length c10] 28)) (Blk.new w #[.int .i64 x.f0, .int .i64 x.f1, .int .i64 x.f2, .int .i64 x.f3, .int .i64 x.f4, .slice A5 x.f5.length c5, .slice A6 x.f6.length c6, .int .i64 x.f7.f0, .int .i64 x.f7.f1, .slice A9 x.f8.length c9, .slice A10 x.f9.length c10] 28 _ rfl))
 cases hq : thinB x with
 | false =>
  rw [hq] at HTH HS
  go_enter Try.func41, Try.ntmps41
  go_wp2_with fail
  refine (HTH.out _ ZB.out.1).mono ?_
  rintro e w1 ⟨rfl, hb⟩
  have H1 := Aside0.mk (bel2 ZB.out.1 hb)
  clear hb
  go_wp2
  go_ret
  exact ⟨ret_bool (by rw [HS.out]; rfl), H1.out⟩
 | true =>
  rw [hq] at HTH HS
  go_enter Try.func41, Try.ntmps41
  go_wp2_with fail
  refine (HTH.out _ ZB.out.1).mono ?_
  rintro e w1 ⟨rfl, hb⟩
  have H1 := Aside0.mk (And.intro (bel2 ZB.out.1 hb) (ZB.out.2.below hb))
  clear hb
  have k0 := H1.out.2.cell 0 _ rfl
  have k1 := H1.out.2.cell 1 _ rfl
  have k2 := H1.out.2.cell 2 _ rfl
  have k3 := H1.out.2.cell 3 _ rfl
  have k4 := H1.out.2.cell 4 _ rfl
  have k5 := H1.out.2.cell 5 _ rfl
  have k6 := H1.out.2.cell 6 _ rfl
  have k7 := H1.out.2.cell 7 _ rfl
  have k8 := H1.out.2.cell 8 _ rfl
  have k9 := H1.out.2.cell 9 _ rfl
  have k10 := H1.out.2.cell 10 _ rfl
  go_wp2_with fail
  refine (HFA.out _ H1.out.1).mono ?_
  rintro e w2 ⟨rfl, hb⟩
  have H2 := Aside0.mk (bel2 H1.out.1 hb)
  clear hb k0 k1 k2 k3 k4 k5 k6 k7 k8 k9 k10
  by_cases hf : faultC x = 0
  ·have hf2 : (faultC x == 0) = true := by simpa using hf
   have HF := Lib.hid hf
   clear hf
   generalize faultC x = fc at *
   go_wp2
   go_ret
   exact ⟨ret_bool (by rw [HS.out, decide_eq_true HF.out]; rfl), H2.out⟩
  ·have hf2 : (faultC x == 0) = false := by simpa using hf
   have HF := Lib.hid hf
   clear hf
   generalize faultC x = fc at *
   go_wp2
   go_ret
   exact ⟨ret_bool (by rw [HS.out, decide_eq_false HF.out]; rfl), H2.out⟩
/-- The first k readings' ones that the bits name. -/
def pickTo (l : List S119) (b k : Nat) : List S119 := ((List.range k).filter b.testBit).map fun i => l.getD i z119
theorem pickTo_t {l : List S119} {b k : Nat} (h : b.testBit k = true) (hk : k < l.length) : pickTo l b (k + 1) = pickTo l b k ++ [l[k]] := by simp [pickTo, List.range_succ, List.filter_append, h, hk]
theorem pickTo_f {l : List S119} {b k : Nat} (h : b.testBit k = false) : pickTo l b (k + 1) = pickTo l b k := by simp [pickTo, List.range_succ, List.filter_append, h]
theorem pickTo_len (l : List S119) (b k : Nat) : (pickTo l b k).length ≤ k := by simpa [pickTo] using List.length_filter_le (p := b.testBit) (l := List.range k)
/-- The coppers with some of their readings. -/
def someX (x : S38) (b : Nat) : S38 := withR x (pickTo x.f9 b x.f9.length)
/-- The state of some's loop. -/
structure SmSt (w : World) (B Z : Array Value) (B2 : Value → Array Value) (l : List S119) (v : Value) (W : World) : Prop where
 bel : Below w.heap.size w W
 box : Blk W w.heap.size B 28
 res : Blk W (w.heap.size + 1) Z 28
 blk : Blk W (w.heap.size + 2) (B2 v) 28
 row : W.ownsRow w.heap.size 96 3 v l.length (rdCells l)
section
variable {w W V : World} {B Z : Array Value} {B2 : Value → Array Value} {l : List S119} {v v' : Value}
theorem SmSt.below (h : SmSt w B Z B2 l v W) (hb : Below W.heap.size W V) : SmSt w B Z B2 l v V :=
 ⟨bel2 h.bel hb, h.box.below hb, h.res.below hb, h.blk.below hb, own_bel h.row hb⟩
theorem SmSt.app (h : SmSt w B Z B2 l v W) (r : S119) (hB2 : ∀ v v', (B2 v).setIfInBounds 10 v' = B2 v') (ho : V.ownsRow w.heap.size 96 3 v' (l.length + 1) (rdCells l ++ [.int .i64 r.f0, .int .i64 r.f1.f0, .int .i64 r.f1.f1])) (hg : W.grownBy V v.ownBlock) : SmSt w B Z B2 (l ++ [r]) v' (V.setCell ⟨w.heap.size + 2, 10, none⟩ v') := by
 have hblk := h.blk.grown hg (blk_row h.blk h.row (by decide))
 have hbox := h.box.grown hg (blk_row h.box h.row (by decide))
 have hres := h.res.grown hg (blk_row h.res h.row (by decide))
 refine ⟨(h.bel.grown hg h.bel.size (own_base h.row)).setCell (p := ⟨w.heap.size + 2, 10, none⟩) (by show w.heap.size ≤ w.heap.size + 2; omega) _, hbox.set_other (p := ⟨w.heap.size + 2, 10, none⟩) (by show w.heap.size ≠ w.heap.size + 2; omega) _, hres.set_other (p := ⟨w.heap.size + 2, 10, none⟩) (by show w.heap.size + 1 ≠ w.heap.size + 2; omega) _, by rw [← hB2 v v']; exact hblk.set 10 v', ?_⟩
 rw [List.length_append, rdCells_snoc]
 exact own_setCell ho (p := ⟨w.heap.size + 2, 10, none⟩) (blk_row hblk ho (by decide)) _
end
/-- Rows of readings, as the reference's type has them. -/
theorem rd96_own_C {w : World} {base n : Nat} {v : Value} {l : List S119} (h : w.ownsRow base 96 3 v n (rdCells l)) (hn : l.length = n) : ∃ A c, v = .slice A l.length c ∧ Kd.C k119 w A l.length l := by
 subst hn
 exact own_reads_row h (rdCells_reps w l) (by simp)
theorem some_calls (x : S38) (cs : List Value) (b : Nat) (w : World) (hx : k38.K w x cs) (hn : x.f9.length ≤ 5) (hb64 : b < 64) : Calls Try.prog 53 #[.agg cs.toArray, .int .i64 b] w fun e w' => ∃ ds : List Value, e = .returned (.agg ds.toArray) ∧ Below w.heap.size w w' ∧ k38.K w' (someX x b) ds := by
 have HX := Aside0.mk hx
 obtain ⟨A5, c5, A6, c6, A9, c9, A10, c10, rfl, l5, g5, l6, g6, l9, g9, l10, g10⟩ := k38_open hx
 have G10 := Aside0.mk g10
 have HLS := Lib.hid (And.intro l5 (And.intro l6 l9))
 have HCS := Aside0.mk (And.intro g5 (And.intro g6 g9))
 clear hx g5 g6 g9 g10 l5 l6 l9 l10
 have hu := Try.underlying28
 have hu3 := Try.underlying24
 have hu4 := Try.underlying96
 have hsz : (w.alloc (.cells #[.int .i64 x.f0, .int .i64 x.f1, .int .i64 x.f2, .int .i64 x.f3, .int .i64 x.f4, .slice A5 x.f5.length c5, .slice A6 x.f6.length c6, .int .i64 x.f7.f0, .int .i64 x.f7.f1, .slice A9 x.f8.length c9, .slice A10 x.f9.length c10] 28)).heap.size = w.heap.size + 1 := by simp
 have hsz2 : ((w.alloc (.cells #[.int .i64 x.f0, .int .i64 x.f1, .int .i64 x.f2, .int .i64 x.f3, .int .i64 x.f4, .slice A5 x.f5.length c5, .slice A6 x.f6.length c6, .int .i64 x.f7.f0, .int .i64 x.f7.f1, .slice A9 x.f8.length c9, .slice A10 x.f9.length c10] 28)).alloc (.cells #[.int .i64 0, .int .i64 0, .int .i64 0, .int .i64 0, .int .i64 0, .slice none 0 0, .slice none 0 0, .int .i64 0, .int .i64 0, .slice none 0 0, .slice none 0 0] 28)).heap.size = w.heap.size + 2 := by simp
 have ZB : SmSt w #[.int .i64 x.f0, .int .i64 x.f1, .int .i64 x.f2, .int .i64 x.f3, .int .i64 x.f4, .slice A5 x.f5.length c5, .slice A6 x.f6.length c6, .int .i64 x.f7.f0, .int .i64 x.f7.f1, .slice A9 x.f8.length c9, .slice A10 x.f9.length c10] #[.int .i64 0, .int .i64 0, .int .i64 0, .int .i64 0, .int .i64 0, .slice none 0 0, .slice none 0 0, .int .i64 0, .int .i64 0, .slice none 0 0, .slice none 0 0] (fun v => #[.int .i64 x.f0, .int .i64 x.f1, .int .i64 x.f2, .int .i64 x.f3, .int .i64 x.f4, .slice A5 x.f5.length c5, .slice A6 x.f6.length c6, .int .i64 x.f7.f0, .int .i64 x.f7.f1, .slice A9 x.f8.length c9, v]) [] (.slice none 0 0) (((w.alloc (.cells #[.int .i64 x.f0, .int .i64 x.f1, .int .i64 x.f2, .int .i64 x.f3, .int .i64 x.f4, .slice A5 x.f5.length c5, .slice A6 x.f6.length c6, .int .i64 x.f7.f0, .int .i64 x.f7.f1, .slice A9 x.f8.length c9, .slice A10 x.f9.length c10] 28)).alloc (.cells #[.int .i64 0, .int .i64 0, .int .i64 0, .int .i64 0, .int .i64 0, .slice none 0 0, .slice none 0 0, .int .i64 0, .int .i64 0, .slice none 0 0, .slice none 0 0] 28)).alloc (.cells #[.int .i64 x.f0, .int .i64 x.f1, .int .i64 x.f2, .int .i64 x.f3, .int .i64 x.f4, .slice A5 x.f5.length c5, .slice A6 x.f6.length c6, .int .i64 x.f7.f0, .int .i64 x.f7.f1, .slice A9 x.f8.length c9, .slice none 0 0] 28)) :=
  ⟨below_alloc (below_alloc (below_alloc (Below.refl _ _) _) _) _, ((Blk.new w #[.int .i64 x.f0, .int .i64 x.f1, .int .i64 x.f2, .int .i64 x.f3, .int .i64 x.f4, .slice A5 x.f5.length c5, .slice A6 x.f6.length c6, .int .i64 x.f7.f0, .int .i64 x.f7.f1, .slice A9 x.f8.length c9, .slice A10 x.f9.length c10] 28 _ rfl).alloc _).alloc _, (Blk.new (w.alloc (.cells #[.int .i64 x.f0, .int .i64 x.f1, .int .i64 x.f2, .int .i64 x.f3, .int .i64 x.f4, .slice A5 x.f5.length c5, .slice A6 x.f6.length c6, .int .i64 x.f7.f0, .int .i64 x.f7.f1, .slice A9 x.f8.length c9, .slice A10 x.f9.length c10] 28)) #[.int .i64 0, .int .i64 0, .int .i64 0, .int .i64 0, .int .i64 0, .slice none 0 0, .slice none 0 0, .int .i64 0, .int .i64 0, .slice none 0 0, .slice none 0 0] 28 (w.heap.size + 1) (by simp)).alloc _, Blk.new ((w.alloc (.cells #[.int .i64 x.f0, .int .i64 x.f1, .int .i64 x.f2, .int .i64 x.f3, .int .i64 x.f4, .slice A5 x.f5.length c5, .slice A6 x.f6.length c6, .int .i64 x.f7.f0, .int .i64 x.f7.f1, .slice A9 x.f8.length c9, .slice A10 x.f9.length c10] 28)).alloc (.cells #[.int .i64 0, .int .i64 0, .int .i64 0, .int .i64 0, .int .i64 0, .slice none 0 0, .slice none 0 0, .int .i64 0, .int .i64 0, .slice none 0 0, .slice none 0 0] 28)) #[.int .i64 x.f0, .int .i64 x.f1, .int .i64 x.f2, .int .i64 x.f3, .int .i64 x.f4, .slice A5 x.f5.length c5, .slice A6 x.f6.length c6, .int .i64 x.f7.f0, .int .i64 x.f7.f1, .slice A9 x.f8.length c9, .slice none 0 0] 28 (w.heap.size + 2) (by simp), own_nil _ _ _ _⟩
 have ZB := Aside0.mk ZB
 have HB2 := Aside0.mk (show ∀ v v' : Value, (#[.int .i64 x.f0, .int .i64 x.f1, .int .i64 x.f2, .int .i64 x.f3, .int .i64 x.f4, .slice A5 x.f5.length c5, .slice A6 x.f6.length c6, .int .i64 x.f7.f0, .int .i64 x.f7.f1, .slice A9 x.f8.length c9, v] : Array Value).setIfInBounds 10 v' = (fun v => #[.int .i64 x.f0, .int .i64 x.f1, .int .i64 x.f2, .int .i64 x.f3, .int .i64 x.f4, .slice A5 x.f5.length c5, .slice A6 x.f6.length c6, .int .i64 x.f7.f0, .int .i64 x.f7.f1, .slice A9 x.f8.length c9, v]) v' from fun v v' => rfl)
 go_enter Try.func53, Try.ntmps53
 go_wp2
 generalize (((w.alloc (.cells #[.int .i64 x.f0, .int .i64 x.f1, .int .i64 x.f2, .int .i64 x.f3, .int .i64 x.f4, .slice A5 x.f5.length c5, .slice A6 x.f6.length c6, .int .i64 x.f7.f0, .int .i64 x.f7.f1, .slice A9 x.f8.length c9, .slice A10 x.f9.length c10] 28)).alloc (.cells #[.int .i64 0, .int .i64 0, .int .i64 0, .int .i64 0, .int .i64 0, .slice none 0 0, .slice none 0 0, .int .i64 0, .int .i64 0, .slice none 0 0, .slice none 0 0] 28)).alloc (.cells #[.int .i64 x.f0, .int .i64 x.f1, .int .i64 x.f2, .int .i64 x.f3, .int .i64 x.f4, .slice A5 x.f5.length c5, .slice A6 x.f6.length c6, .int .i64 x.f7.f0, .int .i64 x.f7.f1, .slice A9 x.f8.length c9, .slice none 0 0] 28)) = W at *
 clear hsz hsz2
 go_loopw [6] (fun s6 wr => ∃ k : Nat, k ≤ x.f9.length ∧ s6 = .int .i64 k ∧ Aside0 (∃ v, SmSt w #[.int .i64 x.f0, .int .i64 x.f1, .int .i64 x.f2, .int .i64 x.f3, .int .i64 x.f4, .slice A5 x.f5.length c5, .slice A6 x.f6.length c6, .int .i64 x.f7.f0, .int .i64 x.f7.f1, .slice A9 x.f8.length c9, .slice A10 x.f9.length c10] #[.int .i64 0, .int .i64 0, .int .i64 0, .int .i64 0, .int .i64 0, .slice none 0 0, .slice none 0 0, .int .i64 0, .int .i64 0, .slice none 0 0, .slice none 0 0] (fun v => #[.int .i64 x.f0, .int .i64 x.f1, .int .i64 x.f2, .int .i64 x.f3, .int .i64 x.f4, .slice A5 x.f5.length c5, .slice A6 x.f6.length c6, .int .i64 x.f7.f0, .int .i64 x.f7.f1, .slice A9 x.f8.length c9, v]) (pickTo x.f9 b k) v wr)) (fun s6 _ => x.f9.length - (intOf s6).toNat)
 case atStart => exact ⟨0, Nat.zero_le _, rfl, ⟨_, ZB.out⟩⟩
 case round =>
  obtain ⟨k, hk, rfl, HW⟩ := hrel
  obtain ⟨v10, hst⟩ := HW.out
  have HT := Aside0.mk hst
  clear HW hst ZB
  have kx10 := HT.out.box.cell 10 _ rfl
  by_cases hlt : k < x.f9.length
  ·have hltz : (k : Int) < (x.f9.length : Int) := by omega
   have hkz : (k : Int) ≤ 5 := by omega
   have hll := pickTo_len x.f9 b k
   cases hq : b.testBit k with
   | true =>
    have hqz : (((b : Int) / 2 ^ k).tmod 2 == 1) = true := by
     have h1 : (b : Int) / 2 ^ k = ((b / 2 ^ k : Nat) : Int) := by simp
     rw [testBit_div, decide_eq_true_eq] at hq
     rw [h1, show ((b / 2 ^ k : Nat) : Int).tmod 2 = ((b / 2 ^ k % 2 : Nat) : Int) from tmod_nat _ 2, beq_iff_eq]; omega
    have HS := Lib.hid (pickTo_t (l := x.f9) hq hlt)
    obtain ⟨aA, rfl, q0, q1, q2⟩ := row_at_rd (Kd.C_below G10.out HT.out.bel) k hlt
    have kp10 := HT.out.blk.cell 10 _ rfl
    clear hq
    generalize hr : x.f9[k] = r at *
    clear hr
    generalize pickTo x.f9 b k = ll at *
    go_wp2
    refine start_ (n := 11) (S := fun w' => w'.cell? ⟨w.heap.size + 2, 10, none⟩ = some v10 ∧ w'.cell? ⟨w.heap.size, 10, none⟩ = some (.slice (some aA) x.f9.length c10) ∧ w'.cell? (aA.add (k * 3)) = some (.int .i64 r.f0) ∧ w'.cell? ⟨(aA.add (k * 3)).block, (aA.add (k * 3)).off + 1, none⟩ = some (.int .i64 r.f1.f0) ∧ w'.cell? ⟨(aA.add (k * 3)).block, (aA.add (k * 3)).off + 2, none⟩ = some (.int .i64 r.f1.f1)) (ds := [8, 10]) #[false, false, false, false, false, false, false, false, false, false, false] (by kernel_rfl) rfl rfl ⟨kp10, kx10, q0, q1, q2⟩ (fun hHeld => ?_)
    refine pure_ (i := 0) (N := some 22) (v := ?_) (a' := ?_) (bs 11 1) rfl rfl (by kernel_rfl) (fun _ _ _ h => h) (Or.inl ⟨by rfl, ?_⟩) ?_ ?_
    rotate_left
    ·intro w'
     go_simp
     with_reducible rfl
    rotate_left
    ·simp only [Act.put, List.setIfInBounds_toArray, List.set_cons_zero, List.set_cons_succ, i64_w, i32_w]
     rfl
    refine pure_ (i := 2) (N := some 24) (v := ?_) (a' := ?_) (bs 11 5) rfl rfl (by kernel_rfl) (fun _ _ _ h => h) (Or.inl ⟨by rfl, ?_⟩) ?_ ?_
    rotate_left
    ·intro w'
     go_simp
     with_reducible rfl
    rotate_left
    ·simp only [Act.put, List.setIfInBounds_toArray, List.set_cons_zero, List.set_cons_succ, i64_w, i32_w]
     rfl
    refine pure_ (i := 4) (N := some 26) (v := ?_) (a' := ?_) (bs 11 21) rfl rfl (by kernel_rfl) (fun _ _ _ h => h) (Or.inl ⟨by rfl, ?_⟩) ?_ ?_
    rotate_left
    ·intro w'
     go_simp
     with_reducible rfl
    rotate_left
    ·simp only [Act.put, List.setIfInBounds_toArray, List.set_cons_zero, List.set_cons_succ, i64_w, i32_w]
     rfl
    refine take_ (i := 1) (N := some 23) (v := ?_) (a' := ?_) (bs 11 23) rfl rfl (by kernel_rfl) (fun _ _ _ h => h) (Or.inl ⟨by rfl, ?_⟩) hHeld ?_ ?_
    rotate_left
    ·rintro w' ⟨s0, s1, s2, s3, s4⟩
     go_simp
     with_reducible rfl
    rotate_left
    ·simp only [Act.put, List.setIfInBounds_toArray, List.set_cons_zero, List.set_cons_succ, i64_w, i32_w]
     rfl
    refine take_ (i := 3) (N := some 25) (v := ?_) (a' := ?_) (bs 11 31) rfl rfl (by kernel_rfl) (fun _ _ _ h => h) (Or.inl ⟨by rfl, ?_⟩) hHeld ?_ ?_
    rotate_left
    ·rintro w' ⟨s0, s1, s2, s3, s4⟩
     go_simp
     with_reducible rfl
    rotate_left
    ·simp only [Act.put, List.setIfInBounds_toArray, List.set_cons_zero, List.set_cons_succ, i64_w, i32_w]
     rfl
    refine pure_ (i := 5) (N := some 27) (v := ?_) (a' := ?_) (bs 11 63) rfl rfl (by kernel_rfl) (fun _ _ _ h => h) (Or.inl ⟨by rfl, ?_⟩) ?_ ?_
    rotate_left
    ·intro w'
     go_simp
     with_reducible rfl
    rotate_left
    ·simp only [Act.put, List.setIfInBounds_toArray, List.set_cons_zero, List.set_cons_succ, i64_w, i32_w]
     rfl
    refine take_ (i := 6) (N := some 28) (v := ?_) (a' := ?_) (bs 11 127) rfl rfl (by kernel_rfl) (fun _ _ _ h => h) (Or.inl ⟨by rfl, ?_⟩) hHeld ?_ ?_
    rotate_left
    ·rintro w' ⟨s0, s1, s2, s3, s4⟩
     go_simp
     with_reducible rfl
    rotate_left
    ·simp only [Act.put, List.setIfInBounds_toArray, List.set_cons_zero, List.set_cons_succ, i64_w, i32_w]
     rfl
    refine one_ (i := 7) (N := some 29) (bs 11 255) rfl rfl (by kernel_rfl) (by decide) (fun K hK => ?_)
    refine value_ (w1 := ?_) (v := ?_) (by rfl) rfl ?_ ?_
    rotate_left 2
    ·go_simp
     constructor
     ·rfl
     ·rfl
    refine hK.out _ _ ⟨cell_al _ (hHeld.1), cell_al _ (hHeld.2.1), cell_al _ (hHeld.2.2.1), cell_al _ (hHeld.2.2.2.1), cell_al _ (hHeld.2.2.2.2)⟩ (fun hHeld => ?_)
    clear hK K
    refine norm_ (a' := ?_) ?_ ?_
    rotate_left
    ·show Act.put _ (some 29) _ = _
     simp only [Act.put, List.setIfInBounds_toArray, List.set_cons_zero, List.set_cons_succ, i64_w, i32_w]
     rfl
    refine last_ (i := 8) (N := some 30) (bs 11 511) rfl rfl (by kernel_rfl) (by decide) (fun K hK => ?_)
    have h4 := HT.out.below (below_alloc (below_drew (Below.refl _ _)) (.cells #[.int .i64 r.f0, .int .i64 r.f1.f0, .int .i64 r.f1.f1] 96))
    refine appendN_op (w := wr.drew.alloc (.cells #[.int .i64 r.f0, .int .i64 r.f1.f0, .int .i64 r.f1.f1] 96)) (.tmp 23) (.tmp 29) 26 96 (.agg #[.int .i64 0, .int .i64 0, .int .i64 0]) 3 24 (by rfl) rfl Try.underlying26 info96 rfl (by decide) (by decide) w.heap.size v10 ll.length (rdCells ll) [.int .i64 r.f0, .int .i64 r.f1.f0, .int .i64 r.f1.f1] wr.heap.size 1 rfl rfl h4.row rfl (cells3 (Blk.new _ _ _ _ rfl)) (one3 _ _ _) (by omega) h4.bel.size ?_
    intro v5n w5 ho5 hg5 hat5
    obtain ⟨an, dn, rfl⟩ := own_form ho5
    refine hK.out _ _ ?_
    clear hK K
    refine norm_ (a' := ?_) ?_ ?_
    rotate_left
    ·show Act.put _ (some 30) _ = _
     simp only [Act.put, List.setIfInBounds_toArray, List.set_cons_zero, List.set_cons_succ, i64_w, i32_w]
     rfl
    refine pure_ (i := 9) (N := some 31) (v := ?_) (a' := ?_) (bs 11 1023) rfl rfl (by kernel_rfl) (fun _ _ _ h => h) (Or.inl ⟨by rfl, ?_⟩) ?_ ?_
    rotate_left
    ·intro w'
     go_simp
     with_reducible rfl
    rotate_left
    ·simp only [Act.put, List.setIfInBounds_toArray, List.set_cons_zero, List.set_cons_succ, i64_w, i32_w]
     rfl
    refine last_ (i := 10) (N := none) (bs 11 2047) rfl rfl (by kernel_rfl) (by decide) (fun K hK => ?_)
    have hblk5 := h4.blk.grown hg5 (blk_row h4.blk h4.row (by decide))
    have z10 := hblk5.cell 10 _ rfl
    have y10 := hblk5.frozen 10
    refine skip_ (w1 := ?_) (by rfl) rfl ?_ ?_
    rotate_left
    ·go_simp
     rfl
    refine hK.out _ _ ?_
    clear hK K
    refine done_ (by kernel_rfl) ?_
    have HN := Aside0.mk (h4.app r HB2.out ho5 hg5)
    clear hHeld h4 ho5 hg5 hat5 q0 q1 q2 kp10 z10 y10
    go_wp2
    go_roundw
    case rel => exact ⟨k + 1, hlt, by go_num, ⟨_, by rw [HS.out]; exact HN.out⟩⟩
    case measure => simp [intOf]; omega
   | false =>
    have hqz : (((b : Int) / 2 ^ k).tmod 2 == 1) = false := by
     have h1 : (b : Int) / 2 ^ k = ((b / 2 ^ k : Nat) : Int) := by simp
     rw [testBit_div, decide_eq_false_iff_not] at hq
     rw [h1, show ((b / 2 ^ k : Nat) : Int).tmod 2 = ((b / 2 ^ k % 2 : Nat) : Int) from tmod_nat _ 2, beq_eq_false_iff_ne]; omega
    have HS := Lib.hid (pickTo_f (l := x.f9) hq)
    clear hq
    go_wp2
    go_roundw
    case rel => exact ⟨k + 1, hlt, by go_num, ⟨_, by rw [HS.out]; exact HT.out⟩⟩
    case measure => simp [intOf]; omega
  ·obtain rfl : k = x.f9.length := by omega
   have hltz : ¬ (x.f9.length : Int) < (x.f9.length : Int) := by omega
   obtain ⟨a10, d10, rfl⟩ := own_form HT.out.row
   have t0 := HT.out.blk.cell 0 _ rfl
   have z0 := HT.out.res.cell 0 _ rfl
   have y0 := HT.out.res.frozen 0
   have t1 := HT.out.blk.cell 1 _ rfl
   have z1 := HT.out.res.cell 1 _ rfl
   have y1 := HT.out.res.frozen 1
   have t2 := HT.out.blk.cell 2 _ rfl
   have z2 := HT.out.res.cell 2 _ rfl
   have y2 := HT.out.res.frozen 2
   have t3 := HT.out.blk.cell 3 _ rfl
   have z3 := HT.out.res.cell 3 _ rfl
   have y3 := HT.out.res.frozen 3
   have t4 := HT.out.blk.cell 4 _ rfl
   have z4 := HT.out.res.cell 4 _ rfl
   have y4 := HT.out.res.frozen 4
   have t5 := HT.out.blk.cell 5 _ rfl
   have z5 := HT.out.res.cell 5 _ rfl
   have y5 := HT.out.res.frozen 5
   have t6 := HT.out.blk.cell 6 _ rfl
   have z6 := HT.out.res.cell 6 _ rfl
   have y6 := HT.out.res.frozen 6
   have t7 := HT.out.blk.cell 7 _ rfl
   have z7 := HT.out.res.cell 7 _ rfl
   have y7 := HT.out.res.frozen 7
   have t8 := HT.out.blk.cell 8 _ rfl
   have z8 := HT.out.res.cell 8 _ rfl
   have y8 := HT.out.res.frozen 8
   have t9 := HT.out.blk.cell 9 _ rfl
   have z9 := HT.out.res.cell 9 _ rfl
   have y9 := HT.out.res.frozen 9
   have t10 := HT.out.blk.cell 10 _ rfl
   have z10 := HT.out.res.cell 10 _ rfl
   have y10 := HT.out.res.frozen 10
   go_wp2
   have hres := put11_blk HT.out.res rfl (.int .i64 x.f0) (.int .i64 x.f1) (.int .i64 x.f2) (.int .i64 x.f3) (.int .i64 x.f4) (.slice A5 x.f5.length c5) (.slice A6 x.f6.length c6) (.int .i64 x.f7.f0) (.int .i64 x.f7.f1) (.slice A9 x.f8.length c9) (.slice a10 (pickTo x.f9 b x.f9.length).length d10)
   refine bodyPost_ret (ret28 Try.results53 rfl hres) rfl ⟨_, rfl, ?_, ?_⟩
   ·exact put11_below HT.out.bel (Nat.le_succ _) _ _ _ _ _ _ _ _ _ _ _
   ·have hb := put11_below HT.out.bel (Nat.le_succ w.heap.size) (.int .i64 x.f0) (.int .i64 x.f1) (.int .i64 x.f2) (.int .i64 x.f3) (.int .i64 x.f4) (.slice A5 x.f5.length c5) (.slice A6 x.f6.length c6) (.int .i64 x.f7.f0) (.int .i64 x.f7.f1) (.slice A9 x.f8.length c9) (.slice a10 (pickTo x.f9 b x.f9.length).length d10)
    have r10 := HT.out.row
    have hne := blk_row HT.out.res r10 (by decide)
    refine k38_mk _ (someX x b) HLS.out.1 (Kd.C_below HCS.out.1 hb) HLS.out.2.1 (Kd.C_below HCS.out.2.1 hb) HLS.out.2.2 (Kd.C_below HCS.out.2.2 hb) (own_cap r10) ?_
    have r11 : ((((((((((((wr.setCell ⟨w.heap.size + 1, 0, none⟩ (.int .i64 x.f0)).setCell ⟨w.heap.size + 1, 1, none⟩ (.int .i64 x.f1)).setCell ⟨w.heap.size + 1, 2, none⟩ (.int .i64 x.f2)).setCell ⟨w.heap.size + 1, 3, none⟩ (.int .i64 x.f3)).setCell ⟨w.heap.size + 1, 4, none⟩ (.int .i64 x.f4)).setCell ⟨w.heap.size + 1, 5, none⟩ (.slice A5 x.f5.length c5)).setCell ⟨w.heap.size + 1, 6, none⟩ (.slice A6 x.f6.length c6)).setCell ⟨w.heap.size + 1, 7, none⟩ (.int .i64 x.f7.f0)).setCell ⟨w.heap.size + 1, 8, none⟩ (.int .i64 x.f7.f1)).setCell ⟨w.heap.size + 1, 9, none⟩ (.slice A9 x.f8.length c9)).setCell ⟨w.heap.size + 1, 10, none⟩ (.slice a10 (pickTo x.f9 b x.f9.length).length d10))).ownsRow w.heap.size 96 3 (.slice a10 (pickTo x.f9 b x.f9.length).length d10) (pickTo x.f9 b x.f9.length).length (rdCells (pickTo x.f9 b x.f9.length)) := by
     iterate 11 refine own_setCell ?_ (by exact hne) _
     exact r10
    obtain ⟨Aq, cq, eq, gq⟩ := rd96_own_C r11 rfl
    simp only [Value.slice.injEq, true_and] at eq
    obtain ⟨rfl, rfl⟩ := eq
    exact gq
end Go.Proofs.Ytdgkhoflajdidaa
/- sure: the error of coppers that have no truth, and all truths. -/
namespace Go.Proofs.Ytdgkhoflajdidaa
open Go.RowKit Go.Proofs.YtdgkhoflajdidaaW.PrintWords Go.Proofs.YtdgkhoflajdidaaW.PrintMore Go.Proofs.YtdgkhoflajdidaaW.PrintLast Go.Proofs.Ytdgkhoflajdidaa.Print
set_option linter.unusedVariables false
set_option linter.unusedSimpArgs false
set_option maxRecDepth 100000
set_option maxHeartbeats 4000000
theorem askE_t (x : S38) : askE x true = if faultC x = 0 then (if truthL x = [] then 11 else 0) else faultC x := by
 unfold askE
 by_cases h : faultC x = 0 <;> simp [h]
end Go.Proofs.Ytdgkhoflajdidaa
/- First and Leave, outright: the plain laws. -/
namespace Go.Proofs.Ytdgkhoflajdidaa
open Go.RowKit Go.Proofs.YtdgkhoflajdidaaW.PrintWords Go.Proofs.YtdgkhoflajdidaaW.PrintMore Go.Proofs.YtdgkhoflajdidaaW.PrintLast Go.Proofs.Ytdgkhoflajdidaa.Print
set_option linter.unusedVariables false
set_option linter.unusedSimpArgs false
set_option maxRecDepth 100000
theorem truthL_nil (x : S38) : truthL x = [] ↔ posB x [] = false := by
 unfold posB
 rw [List.eq_nil_iff_forall_not_mem, List.any_eq_false]
 constructor
 ·intro h s hs hr
  exact h s (mem_truthL.2 ⟨hs, hr⟩)
 ·intro h s hs
  exact h s (mem_truthL.1 hs).1 (mem_truthL.1 hs).2
theorem askE_pos {x : S38} (hV : Valid x) : askE x true = if posB x [] = true then 0 else 11 := by
 rw [askE_t, if_pos ((valid_iff x).2 hV)]
 by_cases h : posB x [] = true
 ·rw [if_pos h, if_neg (fun e => by rw [(truthL_nil x).1 e] at h; cases h)]
 ·rw [if_neg h, if_pos ((truthL_nil x).2 (by simpa using h))]
/-- A reading is right in a scene. -/
def okR (x : S38) (s : Sc) (r : S119) : Bool := inR (hotAt x s x.f5 x.f6 r.f0.toNat) r.f1.f0 r.f1.f1
theorem all_getD (l : List S119) (p : S119 → Bool) : (List.range l.length).all (fun i => p (l.getD i z119)) = l.all p := by
 rw [Bool.eq_iff_iff, List.all_eq_true, List.all_eq_true]
 constructor
 ·intro h r hr
  obtain ⟨i, hi, rfl⟩ := List.getElem_of_mem hr
  have := h i (List.mem_range.2 hi)
  simpa [hi] using this
 ·intro h i hi
  have hi := List.mem_range.1 hi
  rw [show l.getD i z119 = l[i] by simp [hi]]
  exact h _ (List.getElem_mem hi)
theorem right_all (x : S38) (s : Sc) : rightB x s [] = x.f9.all (okR x s) := by
 rw [← all_getD]
 rfl
theorem okR_withR (x : S38) (l : List S119) (s : Sc) : okR (withR x l) s = okR x s := by
 funext r
 unfold okR
 rw [show hotAt (withR x l) s (withR x l).f5 (withR x l).f6 r.f0.toNat = hotAt x s x.f5 x.f6 r.f0.toNat from hot_withR x l s x.f5 x.f6 _]
theorem right_withR (x : S38) (l : List S119) (s : Sc) : rightB (withR x l) s [] = l.all (okR x s) := by
 rw [right_all, okR_withR]
 rfl
theorem posB_withR (x : S38) (l : List S119) : posB (withR x l) [] = (allSc x).any fun s => l.all (okR x s) := by
 unfold posB
 rw [allSc_withR]
 exact congrArg _ (funext fun s => right_withR x l s)
theorem Valid.withR {x : S38} (h : Valid x) {l : List S119} (hl : l.length ≤ 5) (hm : ∀ r ∈ l, 0 ≤ r.f0 ∧ r.f0 ≤ x.f0 ∧ 0 ≤ r.f1.f0 ∧ r.f1.f0 ≤ r.f1.f1 ∧ r.f1.f1 ≤ 999) : Valid (Go.Proofs.Ytdgkhoflajdidaa.withR x l) :=
 ⟨h.last0, h.last1, h.start0, h.start1, h.most, h.per0, h.per1, h.sh0, h.sh1, h.coalN, h.coalV, h.wantN, h.wantV, h.heat0, h.heat1, h.heat2, h.lossN, h.lossV, hl, hm, h.many⟩
theorem mem_pickTo {l : List S119} {b k : Nat} (hk : k ≤ l.length) {r : S119} (h : r ∈ pickTo l b k) : r ∈ l := by
 unfold pickTo at h
 obtain ⟨i, hi, rfl⟩ := List.mem_map.1 h
 have hlt : i < l.length := by have := List.mem_range.1 (List.mem_filter.1 hi).1; omega
 rw [show l.getD i z119 = l[i] by simp [hlt]]
 exact List.getElem_mem hlt
theorem Valid.some {x : S38} (h : Valid x) (b : Nat) : Valid (someX x b) :=
 h.withR (Nat.le_trans (pickTo_len ..) h.rdN) fun r hr => h.rdV r (mem_pickTo (Nat.le_refl _) hr)
theorem thin_some {x : S38} (h : thinB x = true) (b : Nat) : thinB (someX x b) = true := by
 unfold thinB at h ⊢
 simp only [Bool.and_eq_true, decide_eq_true_eq] at h ⊢
 exact ⟨h.1, h.2.1, h.2.2.1, Nat.le_trans (pickTo_len ..) h.2.2.2⟩
theorem all_pick (l : List S119) (b k : Nat) (p : S119 → Bool) : (pickTo l b k).all p = (List.range k).all fun i => !b.testBit i || p (l.getD i z119) := by
 unfold pickTo
 rw [List.all_map, List.all_filter]
 rfl
theorem posB_some (x : S38) (b : Nat) : posB (someX x b) [] = (allSc x).any fun s => (List.range x.f9.length).all fun i => !b.testBit i || okAt x s [] i := by
 unfold someX
 rw [posB_withR]
 refine congrArg _ (funext fun s => ?_)
 rw [all_pick]
 rfl
theorem mask_nat : ∀ n, n < 6 → ∀ b, b < 2 ^ n → maskB n b = ((2 ^ n - 1 - b : Nat) : Int) := by decide +kernel
theorem mask_bit : ∀ n, n < 6 → ∀ b, b < 2 ^ n → ∀ i, i < n → (2 ^ n - 1 - b).testBit i = !b.testBit i := by decide +kernel
theorem all5' {n : Nat} {f g : Nat → Bool} (h : ∀ i, i < n → f i = g i) : (List.range n).all f = (List.range n).all g := by
 rw [Bool.eq_iff_iff, List.all_eq_true, List.all_eq_true]
 refine forall_congr' fun k => forall_congr' fun hk => ?_
 rw [h k (List.mem_range.1 hk)]
theorem posB_mask {x : S38} (hV : Valid x) {b : Nat} (hb : b < 2 ^ x.f9.length) : posB (someX x (2 ^ x.f9.length - 1 - b)) [] = posB x (bitsL b) := by
 have hn := hV.rdN
 have h5 := pow5 hn
 rw [posB_some]
 refine congrArg _ (funext fun s => ?_)
 unfold rightB
 refine all5' ?_
 intro i hi
 rw [mask_bit _ (by omega) b hb i hi, Bool.not_not, okAt_bits x s (by omega) (by omega)]
theorem left_spec {x : S38} (hV : Valid x) : ∃ b, leaveF x = (bitsL b, 0) ∧ b < 2 ^ x.f9.length ∧ askE (someX x (2 ^ x.f9.length - 1 - b)) true = 0 ∧ ∀ n, n < 2 ^ x.f9.length → askE (someX x (2 ^ x.f9.length - 1 - n)) true = 11 ∨ (askE (someX x (2 ^ x.f9.length - 1 - n)) true = 0 ∧ shorterL (bitsL n) (bitsL b) = false) := by
 obtain ⟨b, e, h1, h2, h3⟩ := leaveF_least hV
 have h5 := pow5 hV.rdN
 refine ⟨b, e, h1, ?_, fun n hn => ?_⟩
 ·rw [askE_pos (hV.some _), if_pos]
  rw [posB_mask hV h1]
  exact h2
 ·rw [askE_pos (hV.some _), posB_mask hV hn]
  cases hp : posB x (bitsL n) with
  | false => exact .inl rfl
  | true =>
   refine .inr ⟨rfl, ?_⟩
   rw [rank_shorter n (by omega) b (by omega)]
   have := h3 n hn hp
   exact decide_eq_false (by omega)
theorem keepsF_e (x : S38) : (keepsF x).2 = askE x true := by
 unfold keepsF
 by_cases h : askE x true = 0
 ·rw [if_pos h, h]
 ·rw [if_neg h]
end Go.Proofs.Ytdgkhoflajdidaa
/- Sum, Single, Spare of the reference. -/
namespace Go.Proofs.Ytdgkhoflajdidaa
open Go.RowKit Go.Proofs.YtdgkhoflajdidaaW.PrintWords Go.Proofs.YtdgkhoflajdidaaW.PrintMore Go.Proofs.YtdgkhoflajdidaaW.PrintLast Go.Proofs.Ytdgkhoflajdidaa.Print
set_option linter.unusedVariables false
set_option linter.unusedSimpArgs false
set_option maxRecDepth 100000
set_option maxHeartbeats 4000000
/-- What a list of numbers is returned as. -/
def LiPost (l : List Int) (w : World) (e : Ending) (w' : World) : Prop := ∃ A c, e = .returned (.slice A l.length c) ∧ Kd.C (Kd.int .i64) w' A l.length l ∧ Below w.heap.size w w'
variable {x : S38} {cs : List Value} {A C D : Option Addr} {c : Nat} {L : List S75} {w : World}
end Go.Proofs.Ytdgkhoflajdidaa
/- Bits, Before, Shorter, Can of the reference. -/
namespace Go.Proofs.Ytdgkhoflajdidaa
open Go.RowKit Go.Proofs.YtdgkhoflajdidaaW.PrintWords Go.Proofs.YtdgkhoflajdidaaW.PrintMore Go.Proofs.YtdgkhoflajdidaaW.PrintLast Go.Proofs.Ytdgkhoflajdidaa.Print
set_option linter.unusedVariables false
set_option linter.unusedSimpArgs false
set_option maxRecDepth 100000
set_option maxHeartbeats 4000000
theorem rBits_calls (b : Nat) (hb : b < 32) (w : World) : Calls Try.prog 56 #[.int .i64 b] w (LiPost (bitsL b) w) := by
 go_enter Try.func56, Try.ntmps56
 go_wp2
 go_loopw [3, 4] (fun s3 s4 wr => ∃ k : Nat, k ≤ 5 ∧ s4 = .int .i64 k ∧ Aside0 (Below w.heap.size w wr ∧ wr.ownsRow w.heap.size 3 1 s3 (bitsTo b k).length (nums .i64 (bitsTo b k)))) (fun _ s4 _ => 5 - (intOf s4).toNat)
 case atStart => exact ⟨0, Nat.zero_le _, rfl, ⟨Below.refl _ _, own_nil _ _ _ _⟩⟩
 case round =>
  obtain ⟨k, hk, rfl, HW⟩ := hrel
  have hkz : (k : Int) ≤ 5 := by omega
  have hcast : (b : Int) / 2 ^ k = ((b / 2 ^ k : Nat) : Int) := by simp
  by_cases hgt : 0 < b / 2 ^ k
  ·have hgz : 0 < (b : Int) / 2 ^ k := by rw [hcast]; exact_mod_cast hgt
   have hlt : k < 5 := by
    refine Nat.lt_of_not_le fun h => ?_
    obtain rfl : k = 5 := by omega
    rw [Nat.div_eq_of_lt (by simpa using hb)] at hgt
    cases hgt
   have hll : (bitsTo b k).length ≤ k := by simpa [bitsTo] using List.length_filter_le (p := b.testBit) (l := List.range k)
   by_cases hq : b / 2 ^ k % 2 = 1
   ·have hqz : ((b : Int) / 2 ^ k % 2 == 1) = true := by rw [hcast, beq_iff_eq]; omega
    have HS := Lib.hid (bitsTo_t (b := b) (k := k) (by rw [testBit_div, hq]; rfl))
    clear hcast hgt hq
    generalize bitsTo b k = ll at *
    go_wp2_with (at_builtin; refine append_list rfl (.tmp 18) (.tmp 20) 22 3 (.int .i64 0) 1 8 rfl Try.underlying22 info3 rfl (by decide) (by decide) w.heap.size u3 ll.length (nums .i64 ll) [.int .i64 k] wr.heap.size 1 rfl rfl (HW.out.2.alloc _) rfl (cells1 (Blk.new _ _ _ _ rfl)) (one1 _) (by omega) (by have h1 := HW.out.1.size; simp; omega) ?_; intro v4 w4 ho4 hg4 hat4; have H4 := Aside0.mk (And.intro ((below_alloc HW.out.1 _).grown hg4 (by have h1 := HW.out.1.size; simp; omega) (own_base HW.out.2)) ho4); clear ho4 hg4 hat4)
    go_roundw
    case rel =>
     refine ⟨k + 1, hlt, by go_num, ⟨H4.out.1, ?_⟩⟩
     rw [HS.out, List.length_append]; simpa [nums] using H4.out.2
    case measure => simp [intOf]; omega
   ·have hqz : ((b : Int) / 2 ^ k % 2 == 1) = false := by rw [hcast, beq_eq_false_iff_ne]; omega
    have HS := Lib.hid (bitsTo_f (b := b) (k := k) (by rw [testBit_div, decide_eq_false hq]))
    clear hcast hgt hq
    go_wp2
    go_roundw
    case rel => exact ⟨k + 1, hlt, by go_num, ⟨HW.out.1, by rw [HS.out]; exact HW.out.2⟩⟩
    case measure => simp [intOf]; omega
  ·have hgz : ¬ 0 < (b : Int) / 2 ^ k := by rw [hcast]; exact fun h => hgt (by exact_mod_cast h)
   clear hcast
   have hown := HW.out.2
   rw [bitsTo_all hb k hk (Nat.eq_zero_of_not_pos hgt)] at hown
   obtain ⟨A', c', e5, _, g5⟩ := own_C (Kd.int .i64) (.int .i64) rfl (fun _ _ => rfl) (xs := bitsL b) rfl (by simp [nums]) hown
   clear hown
   subst e5
   have HE := Aside0.mk (And.intro g5 HW.out.1)
   clear g5
   go_wp2
   refine bodyPost_ret (results_tmp rfl _ _ _) rfl ?_
   exact ⟨A', c', rfl, HE.out.1, HE.out.2⟩
theorem beforeL_drop {a b : List Int} {k : Nat} (ha : k < a.length) (hb : k < b.length) : beforeL (a.drop k) (b.drop k) = if a[k] = b[k] then beforeL (a.drop (k + 1)) (b.drop (k + 1)) else decide (a[k] < b[k]) := by
 rw [List.drop_eq_getElem_cons ha, List.drop_eq_getElem_cons hb]
 rfl
theorem beforeL_end {a b : List Int} {k : Nat} (h : a.length = k ∨ b.length = k) (ha : k ≤ a.length) (hb : k ≤ b.length) : beforeL (a.drop k) (b.drop k) = decide (a.length < b.length) := by
 by_cases h2 : b.length = k
 ·have e : b.drop k = [] := List.drop_eq_nil_of_le (by omega)
  rw [e, decide_eq_false (by omega)]
  cases a.drop k <;> rfl
 ·have h1 : a.length = k := h.resolve_right h2
  have e : a.drop k = [] := List.drop_eq_nil_of_le (by omega)
  rw [e, decide_eq_true (by omega), List.drop_eq_getElem_cons (show k < b.length by omega)]
  rfl
theorem rBefore_calls (A B : Option Addr) (c d : Nat) (l m : List Int) (w : World) (hl : Kd.C (Kd.int .i64) w A l.length l) (hm : Kd.C (Kd.int .i64) w B m.length m) :
    Calls Try.prog 73 #[.slice A l.length c, .slice B m.length d] w fun e w' => e = .returned (.bool (beforeL l m)) ∧ Below w.heap.size w w' := by
 have HL := Aside0.mk hl
 have HM := Aside0.mk hm
 have hn1 := hl.2.1
 have hn2 := hm.2.1
 clear hl hm
 go_enter Try.func73, Try.ntmps73
 go_wp2
 go_loopw [5] (fun s5 wr => ∃ k : Nat, k ≤ l.length ∧ k ≤ m.length ∧ s5 = .int .i64 k ∧ Aside0 (Below w.heap.size w wr ∧ beforeL l m = beforeL (l.drop k) (m.drop k))) (fun s5 _ => l.length - (intOf s5).toNat)
 case atStart => exact ⟨0, Nat.zero_le _, Nat.zero_le _, rfl, ⟨Below.refl _ _, rfl⟩⟩
 case round =>
  obtain ⟨k, hk, hk2, rfl, HW⟩ := hrel
  by_cases hlt : k < l.length ∧ k < m.length
  ·obtain ⟨hlt, hlt2⟩ := hlt
   have hz1 : (k : Int) < (l.length : Int) := by omega
   have hz2 : (k : Int) < (m.length : Int) := by omega
   obtain ⟨aA, rfl, hcA⟩ := row_at_int (Kd.C_below HL.out HW.out.1) k hlt
   obtain ⟨aB, rfl, hcB⟩ := row_at_int (Kd.C_below HM.out HW.out.1) k hlt2
   have hd := beforeL_drop hlt hlt2
   by_cases hq : l[k] = m[k]
   ·have hqb : (l[k] == m[k]) = true := by simpa using hq
    rw [if_pos hq] at hd
    have HQ := Aside0.mk (HW.out.2.trans hd)
    clear hd
    go_wp2
    go_quiet (fail)
    go_wp2
    go_roundw
    case rel => exact ⟨k + 1, hlt, hlt2, by go_num, ⟨pw_below_drewN HW.out.1 _, HQ.out⟩⟩
    case measure => simp [intOf]; omega
   ·have hqb : (l[k] == m[k]) = false := by simpa using hq
    rw [if_neg hq] at hd
    have HQ := Aside0.mk (HW.out.2.trans hd)
    clear hd
    go_wp2
    go_quiet (fail)
    go_wp2
    go_quiet (fail)
    go_wp2
    go_ret
    exact ⟨ret_bool HQ.out.symm, pw_below_drewN (pw_below_drewN HW.out.1 _) _⟩
  ·have hend := beforeL_end (a := l) (b := m) (k := k) (by omega) hk hk2
   have HQ := Aside0.mk (HW.out.2.trans hend)
   clear hend
   by_cases h1 : k < l.length
   ·have hz1 : (k : Int) < (l.length : Int) := by omega
    have hz2 : ¬ (k : Int) < (m.length : Int) := by omega
    have hz3 : ¬ (l.length : Int) < (m.length : Int) := by omega
    have hz4 : ¬ l.length < m.length := by omega
    go_wp2
    go_ret
    exact ⟨ret_bool (by rw [HQ.out, decide_eq_false hz4]), HW.out.1⟩
   ·have hz1 : ¬ (k : Int) < (l.length : Int) := by omega
    by_cases h3 : l.length < m.length
    ·have hz3 : (l.length : Int) < (m.length : Int) := by omega
     go_wp2
     go_ret
     exact ⟨ret_bool (by rw [HQ.out, decide_eq_true h3]), HW.out.1⟩
    ·have hz3 : ¬ (l.length : Int) < (m.length : Int) := by omega
     go_wp2
     go_ret
     exact ⟨ret_bool (by rw [HQ.out, decide_eq_false h3]), HW.out.1⟩
theorem rShorter_calls (A B : Option Addr) (c d : Nat) (l m : List Int) (w : World) (hl : Kd.C (Kd.int .i64) w A l.length l) (hm : Kd.C (Kd.int .i64) w B m.length m) :
    Calls Try.prog 55 #[.slice A l.length c, .slice B m.length d] w fun e w' => e = .returned (.bool (shorterL l m)) ∧ Below w.heap.size w w' := by
 have hbf := rBefore_calls A B c d l m w hl hm
 have HS := Lib.hid (show shorterL l m = (decide (l.length < m.length) || (decide (l.length = m.length) && beforeL l m)) from rfl)
 clear hl hm
 by_cases h1 : l.length < m.length
 ·have hz : (l.length : Int) < (m.length : Int) := by omega
  go_enter Try.func55, Try.ntmps55
  go_wp2
  go_ret
  exact ⟨ret_bool (by rw [HS.out, decide_eq_true h1]; rfl), Below.refl _ _⟩
 ·have hz : ¬ (l.length : Int) < (m.length : Int) := by omega
  have HZ := Lib.hid h1
  clear h1
  by_cases h2 : l.length = m.length
  ·have hz3 : ((l.length : Int) == (m.length : Int)) = true := by simp [h2]
   have HB2 := Lib.hid h2
   clear h2
   go_enter Try.func55, Try.ntmps55
   go_wp2_with fail
   refine hbf.mono ?_
   rintro e w1 ⟨rfl, hb⟩
   have HB := Aside0.mk hb
   clear hb
   go_wp2
   go_ret
   exact ⟨ret_bool (by rw [HS.out, decide_eq_false HZ.out, decide_eq_true HB2.out]; rfl), HB.out⟩
  ·have hz3 : ((l.length : Int) == (m.length : Int)) = false := by simpa using (show ¬ (l.length : Int) = (m.length : Int) by omega)
   have HB2 := Lib.hid h2
   clear h2
   go_enter Try.func55, Try.ntmps55
   go_wp2
   go_ret
   exact ⟨ret_bool (by rw [HS.out, decide_eq_false HZ.out, decide_eq_false HB2.out]; rfl), Below.refl _ _⟩
end Go.Proofs.Ytdgkhoflajdidaa
/- What a law keeps. -/
namespace Go.Proofs.Ytdgkhoflajdidaa
open Go.RowKit Go.Proofs.YtdgkhoflajdidaaW.PrintWords Go.Proofs.YtdgkhoflajdidaaW.PrintMore Go.Proofs.YtdgkhoflajdidaaW.PrintLast Go.Proofs.Ytdgkhoflajdidaa.Print
/-- What a law keeps: the box of the coppers, and what was returned. -/
structure LwSt (w : World) (B : Array Value) (P : World → Prop) (W : World) : Prop where
 bel : Below w.heap.size w W
 box : Blk W w.heap.size B 28
 rows : P W
theorem LwSt.step {w : World} {B : Array Value} {P : World → Prop} {W V : World} (h : LwSt w B P W) (hP : ∀ W V, P W → Below W.heap.size W V → P V) (hb : Below W.heap.size W V) : LwSt w B P V :=
 ⟨bel2 h.bel hb, h.box.below hb, hP _ _ h.rows hb⟩
end Go.Proofs.Ytdgkhoflajdidaa
