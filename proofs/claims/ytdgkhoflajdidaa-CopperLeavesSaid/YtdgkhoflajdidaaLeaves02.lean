/- Lemmas for the law's proof: Pa, Ta, Va, Ub, Uc, Q0, Qd. -/
import Derived.Test.YtdgkhoflajdidaaLeaves01
import Derived.Test.YtdgkhoflajdidaaCore10
import Derived.Test.YtdgkhoflajdidaaCore16
import Derived.Test.YtdgkhoflajdidaaCore11
import Derived.Test.YtdgkhoflajdidaaCore07
import Derived.Test.YtdgkhoflajdidaaCore15
import Derived.Test.YtdgkhoflajdidaaCore14
/- The truths by their numbers are all truths. -/
namespace Go.Proofs.Ytdgkhoflajdidaa
open Go.RowKit Go.Proofs.YtdgkhoflajdidaaW.PrintWords Go.Proofs.YtdgkhoflajdidaaW.PrintMore Go.Proofs.YtdgkhoflajdidaaW.PrintLast Go.Proofs.Ytdgkhoflajdidaa.Print
set_option linter.unusedVariables false
set_option linter.unusedSimpArgs false
def prodS (l : List S35) : Nat := l.foldr (fun r p => rsz r * p) 1
theorem nq_cons (r : S35) (l : List S35) (n : Nat) : ∀ k, nq (r :: l) n (k + 1) = nq l (n / rsz r) k
 | 0 => rfl
 | k + 1 => by
  show nq (r :: l) n (k + 1) / rsz (l.getD k z35) = nq l (n / rsz r) k / rsz (l.getD k z35)
  rw [nq_cons r l n k]
theorem nth_digits : ∀ (l : List S35), (∀ r ∈ l, 1 ≤ rsz r) → ∀ d : Nat → Nat, (∀ k, k < l.length → d k < rsz (l.getD k z35)) → ∃ n, n < prodS l ∧ ∀ k, k < l.length → nq l n k % rsz (l.getD k z35) = d k
 | [], _, _, _ => ⟨0, by decide, fun k hk => absurd hk (Nat.not_lt_zero k)⟩
 | r :: l, hl, d, hd => by
  obtain ⟨n, hn, hq⟩ := nth_digits l (fun q h => hl q (List.mem_cons_of_mem _ h)) (fun k => d (k + 1)) (fun k hk => hd (k + 1) (Nat.succ_lt_succ hk))
  have h0 : d 0 < rsz r := hd 0 (Nat.succ_pos _)
  refine ⟨d 0 + rsz r * n, ?_, fun k hk => ?_⟩
  ·show d 0 + rsz r * n < rsz r * prodS l
   have : rsz r * (n + 1) ≤ rsz r * prodS l := Nat.mul_le_mul_left _ hn
   rw [Nat.mul_add] at this
   omega
  ·cases k with
   | zero =>
    show (d 0 + rsz r * n) % rsz r = d 0
    rw [Nat.add_mul_mod_self_left]
    exact Nat.mod_eq_of_lt h0
   | succ k =>
    rw [nq_cons, Nat.add_mul_div_left _ _ (by omega), Nat.div_eq_of_lt h0, Nat.zero_add]
    exact hq k (Nat.lt_of_succ_lt_succ hk)
theorem manyR_ge (l : List S35) (h : ∀ r ∈ l, 1 ≤ rsz r) : ∀ m : Int, 3000 ≤ m → 3000 ≤ manyR m l := by
 induction l with
 | nil => exact fun m hm => hm
 | cons r l ih =>
  intro m hm
  refine ih (fun q hq => h q (List.mem_cons_of_mem _ hq)) _ ?_
  have hr := h r (List.mem_cons_self ..)
  have hs : 1 ≤ r.f1 - r.f0 + 1 := by unfold rsz at hr; omega
  have := Int.mul_le_mul_of_nonneg_left hs (show 0 ≤ m by omega)
  show 3000 ≤ min 3000 (m * (r.f1 - r.f0 + 1))
  omega
theorem manyR_prod (l : List S35) (h : ∀ r ∈ l, 1 ≤ rsz r) : ∀ m : Nat, manyR m l ≤ 2000 → manyR m l = ((m * prodS l : Nat) : Int) := by
 induction l with
 | nil => intro m _; show (m : Int) = ((m * 1 : Nat) : Int); rw [Nat.mul_one]
 | cons r l ih =>
  intro m hm
  have hr := h r (List.mem_cons_self ..)
  have hl := fun q hq => h q (List.mem_cons_of_mem r hq)
  have hs : r.f1 - r.f0 + 1 = ((rsz r : Nat) : Int) := by unfold rsz at hr ⊢; omega
  have e0 : manyR m (r :: l) = manyR (min 3000 (m * (r.f1 - r.f0 + 1))) l := rfl
  rw [e0] at hm ⊢
  by_cases hb : (m : Int) * (r.f1 - r.f0 + 1) < 3000
  ·have e1 : min 3000 ((m : Int) * (r.f1 - r.f0 + 1)) = ((m * rsz r : Nat) : Int) := by rw [Int.min_eq_right (by omega), hs]; rfl
   rw [e1] at hm ⊢
   rw [ih hl _ hm]
   show ((m * rsz r * prodS l : Nat) : Int) = ((m * (rsz r * prodS l) : Nat) : Int)
   rw [Nat.mul_assoc]
  ·exfalso
   have := manyR_ge l hl (min 3000 (m * (r.f1 - r.f0 + 1))) (by omega)
   omega
variable {x : S38}
theorem Valid.rsz (hV : Valid x) : ∀ r ∈ x.f8, 1 ≤ rsz r := fun r hr => by have := hV.lossV r hr; unfold Go.Proofs.Ytdgkhoflajdidaa.rsz; omega
theorem Valid.inside7 (hV : Valid x) : inside x.f7 99 = true := inside_iff.2 ⟨hV.heat0, hV.heat1, hV.heat2⟩
theorem Valid.inside8 (hV : Valid x) : x.f8.all (fun r => inside r 99) = true := List.all_eq_true.2 fun r hr => inside_iff.2 (hV.lossV r hr)
theorem manyX_ok (hV : Valid x) : 0 ≤ manyX x ∧ manyX x ≤ 2000 ∧ (manyX x).toNat = Go.Proofs.Ytdgkhoflajdidaa.rsz x.f7 * prodS x.f8 := by
 have h1 := manyX_sizes hV.inside7 hV.inside8
 have h2 := hV.many
 have h3 : manyX x ≤ 2000 ∧ 0 ≤ manyX x := by omega
 have hs : x.f7.f1 - x.f7.f0 + 1 = ((Go.Proofs.Ytdgkhoflajdidaa.rsz x.f7 : Nat) : Int) := by have := hV.heat1; unfold Go.Proofs.Ytdgkhoflajdidaa.rsz; omega
 have h4 : manyX x = ((Go.Proofs.Ytdgkhoflajdidaa.rsz x.f7 * prodS x.f8 : Nat) : Int) := by
  unfold manyX at h3 ⊢
  rw [hs] at h3 ⊢
  exact manyR_prod _ hV.rsz _ h3.1
 exact ⟨h3.2, h3.1, by rw [h4]; exact Int.toNat_natCast _⟩
theorem nthX_len (n : Nat) : (nthX x n).f1.length = x.f8.length := by simp [nthX, nls]
theorem nthX_loss (hV : Valid x) (n : Nat) {k : Nat} (hk : k < x.f8.length) : (toSc (nthX x n)).loss k = nl x.f8 (n / Go.Proofs.Ytdgkhoflajdidaa.rsz x.f7) k := by
 have h1 := hV.lossN
 have h2 := hV.last1
 have h4 : (toSc (nthX x n)).loss k = (nthX x n).f1.getD k 0 := mkSc_loss _ _ k (by omega)
 rw [h4]
 simp [nthX, nls, hk]
theorem nthX_rest (hV : Valid x) (n : Nat) {k : Nat} (hk : ¬ k < x.f8.length) : (toSc (nthX x n)).loss k = 0 := by
 by_cases h6 : k < 5
 ·have h4 : (toSc (nthX x n)).loss k = (nthX x n).f1.getD k 0 := mkSc_loss _ _ k h6
  rw [h4, List.getD_eq_getElem?_getD, List.getElem?_eq_none (by rw [nthX_len]; omega)]
  rfl
 ·exact Sc.loss_far _ (by omega)
theorem nthX_in (hV : Valid x) (n : Nat) : InSc x (toSc (nthX x n)) := by
 have h1 := hV.lossN
 have hh : (toSc (nthX x n)).h = x.f7.f0 + ((n % Go.Proofs.Ytdgkhoflajdidaa.rsz x.f7 : Nat) : Int) := rfl
 refine ⟨?_, fun k hk => ?_, fun k hk => nthX_rest hV n (by omega)⟩
 ·rw [hh]
  have h2 := hV.heat1
  have h3 : Go.Proofs.Ytdgkhoflajdidaa.rsz x.f7 = (x.f7.f1 - x.f7.f0 + 1).toNat := rfl
  have := Nat.mod_lt n (show 0 < Go.Proofs.Ytdgkhoflajdidaa.rsz x.f7 by omega)
  omega
 ·have hlt : k < x.f8.length := by omega
  rw [nthX_loss hV n hlt]
  have hge : x.f8.getD k z35 = x.f8[k] := by simp [hlt]
  have h4 := hV.lossV _ (List.getElem_mem hlt)
  unfold nl
  rw [hge]
  have h3 : Go.Proofs.Ytdgkhoflajdidaa.rsz x.f8[k] = (x.f8[k].f1 - x.f8[k].f0 + 1).toNat := rfl
  have := Nat.mod_lt (nq x.f8 (n / Go.Proofs.Ytdgkhoflajdidaa.rsz x.f7) k) (show 0 < Go.Proofs.Ytdgkhoflajdidaa.rsz x.f8[k] by omega)
  omega
theorem nthX_onto (hV : Valid x) {s : Sc} (hs : InSc x s) : ∃ n, n < (manyX x).toNat ∧ toSc (nthX x n) = s := by
 have h1 := hV.lossN
 have hsz : Go.Proofs.Ytdgkhoflajdidaa.rsz x.f7 = (x.f7.f1 - x.f7.f0 + 1).toNat := rfl
 have hh := hs.heat
 obtain ⟨m, hm, hq⟩ := nth_digits x.f8 hV.rsz (fun k => (s.loss k - (x.f8.getD k z35).f0).toNat) (fun k hk => by
  have := hs.loss k (by omega)
  show _ < (_ : Int).toNat
  omega)
 have hd0 : (s.h - x.f7.f0).toNat < Go.Proofs.Ytdgkhoflajdidaa.rsz x.f7 := by omega
 have hdiv : ((s.h - x.f7.f0).toNat + Go.Proofs.Ytdgkhoflajdidaa.rsz x.f7 * m) / Go.Proofs.Ytdgkhoflajdidaa.rsz x.f7 = m := by rw [Nat.add_mul_div_left _ _ (by omega), Nat.div_eq_of_lt hd0, Nat.zero_add]
 have hmod : ((s.h - x.f7.f0).toNat + Go.Proofs.Ytdgkhoflajdidaa.rsz x.f7 * m) % Go.Proofs.Ytdgkhoflajdidaa.rsz x.f7 = (s.h - x.f7.f0).toNat := by rw [Nat.add_mul_mod_self_left]; exact Nat.mod_eq_of_lt hd0
 refine ⟨(s.h - x.f7.f0).toNat + Go.Proofs.Ytdgkhoflajdidaa.rsz x.f7 * m, ?_, Sc.ext' ?_ fun k hk => ?_⟩
 ·rw [(manyX_ok hV).2.2]
  have : Go.Proofs.Ytdgkhoflajdidaa.rsz x.f7 * (m + 1) ≤ Go.Proofs.Ytdgkhoflajdidaa.rsz x.f7 * prodS x.f8 := Nat.mul_le_mul_left _ hm
  rw [Nat.mul_add] at this
  omega
 ·show x.f7.f0 + (((((s.h - x.f7.f0).toNat + Go.Proofs.Ytdgkhoflajdidaa.rsz x.f7 * m) % Go.Proofs.Ytdgkhoflajdidaa.rsz x.f7 : Nat)) : Int) = s.h
  rw [hmod]
  omega
 ·by_cases hlt : k < x.f8.length
  ·rw [nthX_loss hV _ hlt, hdiv]
   unfold nl
   rw [hq k hlt]
   have := hs.loss k (by omega)
   omega
  ·rw [nthX_rest hV _ hlt, hs.rest k (by omega)]
end Go.Proofs.Ytdgkhoflajdidaa
/- Sum, Single, Spare of the reference. -/
namespace Go.Proofs.Ytdgkhoflajdidaa
open Go.RowKit Go.Proofs.YtdgkhoflajdidaaW.PrintWords Go.Proofs.YtdgkhoflajdidaaW.PrintMore Go.Proofs.YtdgkhoflajdidaaW.PrintLast Go.Proofs.Ytdgkhoflajdidaa.Print
set_option linter.unusedVariables false
set_option linter.unusedSimpArgs false
set_option maxRecDepth 100000
set_option maxHeartbeats 4000000
/-- What a list of numbers is returned as. -/
def LiPost (l : List Int) (w : World) (e : Ending) (w' : World) : Prop := ∃ A c, e = .returned (.slice A l.length c) ∧ Kd.C (Kd.int .i64) w' A l.length l ∧ Below w.heap.size w w'
variable {x : S38} {cs : List Value} {A C D : Option Addr} {c : Nat} {L : List S75} {w : World}
end Go.Proofs.Ytdgkhoflajdidaa
/- Leave and First, without the program: the sets of readings by bits, in their order. -/
namespace Go.Proofs.Ytdgkhoflajdidaa
open Go.RowKit Go.Proofs.YtdgkhoflajdidaaW.PrintWords Go.Proofs.YtdgkhoflajdidaaW.PrintMore Go.Proofs.YtdgkhoflajdidaaW.PrintLast Go.Proofs.Ytdgkhoflajdidaa.Print
set_option linter.unusedVariables false
set_option linter.unusedSimpArgs false
set_option maxRecDepth 100000
/-- The first k bits' numbers. -/
def bitsTo (b k : Nat) : List Int := ((List.range k).filter b.testBit).map fun (i : Nat) => (i : Int)
theorem bitsTo_t {b k : Nat} (h : b.testBit k = true) : bitsTo b (k + 1) = bitsTo b k ++ [(k : Int)] := by simp [bitsTo, List.range_succ, List.filter_append, h]
theorem bitsTo_f {b k : Nat} (h : b.testBit k = false) : bitsTo b (k + 1) = bitsTo b k := by simp [bitsTo, List.range_succ, List.filter_append, h]
def bitsL (b : Nat) : List Int := bitsTo b 5
theorem bitsTo_all {b : Nat} (hb : b < 32) : ∀ k, k ≤ 5 → b / 2 ^ k = 0 → bitsTo b k = bitsL b := by
 have key : ∀ k, k < 6 → ∀ b, b < 32 → b / 2 ^ k = 0 → bitsTo b k = bitsL b := by decide +kernel
 exact fun k hk h => key k (by omega) b hb h
theorem testBit_div (b k : Nat) : b.testBit k = decide (b / 2 ^ k % 2 = 1) := by rw [Nat.testBit_eq_decide_div_mod_eq]
def beforeL : List Int → List Int → Bool
 | a :: l, b :: m => if a = b then beforeL l m else decide (a < b)
 | [], _ :: _ => true
 | _, [] => false
def shorterL (a b : List Int) : Bool := decide (a.length < b.length) || (decide (a.length = b.length) && beforeL a b)
/-- The sets of five, in their order: the shorter before the longer. -/
def orderL : List Nat := [0, 1, 2, 4, 8, 16, 3, 5, 9, 17, 6, 10, 18, 12, 20, 24, 7, 11, 19, 13, 21, 25, 14, 22, 26, 28, 15, 23, 27, 29, 30, 31]
def rank (b : Nat) : Nat := orderL.idxOf b
theorem rank_shorter : ∀ a, a < 32 → ∀ b, b < 32 → shorterL (bitsL a) (bitsL b) = decide (rank a < rank b) := by decide +kernel
theorem rank_inj : ∀ a, a < 32 → ∀ b, b < 32 → rank a = rank b → a = b := by decide +kernel
theorem subs_order : ∀ n, n < 6 → (List.range (n + 1)).flatMap (fun m => subs n m 0) = (orderL.filter (fun b => b < 2 ^ n)).map bitsL := by decide +kernel
theorem order_sorted : orderL.Pairwise fun a b => rank a < rank b := by decide +kernel
theorem order_mem : ∀ b, b < 32 → b ∈ orderL := by decide +kernel
/-- The least of the sets that pass. -/
structure LeastS (n : Nat) (p : Nat → Bool) (b : Nat) : Prop where
 lt : b < 2 ^ n
 pass : p b = true
 least : ∀ c, c < 2 ^ n → p c = true → rank b ≤ rank c
theorem pow5 {n : Nat} (hn : n ≤ 5) : 2 ^ n ≤ 32 := Nat.pow_le_pow_right (by decide) hn
theorem LeastS.uniq {n : Nat} (hn : n ≤ 5) {p : Nat → Bool} {a b : Nat} (ha : LeastS n p a) (hb : LeastS n p b) : a = b := by
 have h1 := pow5 hn
 refine rank_inj a (Nat.lt_of_lt_of_le ha.lt h1) b (Nat.lt_of_lt_of_le hb.lt h1) (Nat.le_antisymm (ha.least b hb.lt hb.pass) (hb.least a ha.lt ha.pass))
/-- The first of a sorted list that passes is the least. -/
theorem find_least {n : Nat} (hn : n ≤ 5) {p : Nat → Bool} {b : Nat} (h : (orderL.filter (fun b => b < 2 ^ n)).find? p = some b) : LeastS n p b := by
 have hm := List.mem_of_find?_eq_some h
 rw [List.mem_filter] at hm
 refine ⟨by simpa using hm.2, List.find?_some h, fun c hc hp => ?_⟩
 have hs : (orderL.filter (fun b => b < 2 ^ n)).Pairwise fun a b => rank a < rank b := order_sorted.filter _
 rw [List.find?_eq_some_iff_append] at h
 obtain ⟨_, pre, post, e, hn0⟩ := h
 have hcm : c ∈ orderL.filter (fun b => b < 2 ^ n) := List.mem_filter.2 ⟨order_mem c (Nat.lt_of_lt_of_le hc (pow5 hn)), by simpa using hc⟩
 rw [e] at hs hcm
 rcases List.mem_append.1 hcm with h1 | h1
 ·have := hn0 c h1
  rw [hp] at this
  cases this
 ·rcases List.mem_cons.1 h1 with rfl | h2
  ·exact Nat.le_refl _
  ·exact Nat.le_of_lt ((List.pairwise_cons.1 (List.pairwise_append.1 hs).2.1).1 c h2)
theorem leaveF_least {x : S38} (hV : Valid x) : ∃ b, leaveF x = (bitsL b, 0) ∧ LeastS x.f9.length (fun b => posB x (bitsL b)) b := by
 have hn := hV.rdN
 have e1 : ((List.range (x.f9.length + 1)).findSome? fun m => findS x [] m 0) = ((orderL.filter (fun b => b < 2 ^ x.f9.length)).map bitsL).find? (posB x) := by
  rw [← subs_order _ (by omega), List.find?_flatMap]
  rfl
 have hsome : ∃ t, ((List.range (x.f9.length + 1)).findSome? fun m => findS x [] m 0) = some t := by
  obtain ⟨t, ht⟩ := Option.ne_none_iff_exists'.1 (findS_full hV)
  refine Option.isSome_iff_exists.1 ?_
  rw [List.findSome?_isSome_iff]
  exact ⟨x.f9.length, List.mem_range.2 (by omega), by rw [ht]; rfl⟩
 obtain ⟨t, ht⟩ := hsome
 unfold leaveF
 rw [if_pos ((valid_iff x).2 hV), ht]
 rw [e1, List.find?_map] at ht
 obtain ⟨b, hb, rfl⟩ := Option.map_eq_some_iff.1 ht
 exact ⟨b, rfl, find_least hn hb⟩
/-- Leave, as the reference does it. -/
def leaveR (p : Nat → Bool) (n : Nat) : Nat → List Int
 | 0 => bitsL (2 ^ n - 1)
 | k + 1 => if (shorterL (bitsL k) (leaveR p n k) && p k) = true then bitsL k else leaveR p n k
theorem leaveR_inv {n : Nat} (hn : n ≤ 5) {p : Nat → Bool} (hp : p (2 ^ n - 1) = true) : ∀ k, k ≤ 2 ^ n → ∃ b, leaveR p n k = bitsL b ∧ b < 2 ^ n ∧ p b = true ∧ ∀ c, c < k → p c = true → rank b ≤ rank c
 | 0, _ => ⟨2 ^ n - 1, rfl, by have := Nat.two_pow_pos n; omega, hp, fun c hc => absurd hc (Nat.not_lt_zero c)⟩
 | k + 1, hk => by
  obtain ⟨b, h1, h2, h3, h4⟩ := leaveR_inv hn hp k (by omega)
  have h5 := pow5 hn
  have e : leaveR p n (k + 1) = if (shorterL (bitsL k) (leaveR p n k) && p k) = true then bitsL k else leaveR p n k := rfl
  rw [e, h1, rank_shorter k (by omega) b (by omega)]
  by_cases hq : (decide (rank k < rank b) && p k) = true
  ·rw [if_pos hq]
   rw [Bool.and_eq_true, decide_eq_true_eq] at hq
   refine ⟨k, rfl, by omega, hq.2, fun c hc hpc => ?_⟩
   by_cases hck : c = k
   ·subst hck; omega
   ·have := h4 c (by omega) hpc
    omega
  ·rw [if_neg hq]
   refine ⟨b, rfl, h2, h3, fun c hc hpc => ?_⟩
   by_cases hck : c = k
   ·subst hck
    rw [Bool.and_eq_true, decide_eq_true_eq] at hq
    exact Nat.le_of_not_lt fun h => hq ⟨h, hpc⟩
   ·exact h4 c (by omega) hpc
theorem leaveR_least {n : Nat} (hn : n ≤ 5) {p : Nat → Bool} (hp : p (2 ^ n - 1) = true) : ∃ b, leaveR p n (2 ^ n) = bitsL b ∧ LeastS n p b := by
 obtain ⟨b, h1, h2, h3, h4⟩ := leaveR_inv hn hp (2 ^ n) (Nat.le_refl _)
 exact ⟨b, h1, h2, h3, h4⟩
/-- What all truths show, by bits; can readings be right together. -/
def allRTo (x : S38) (k : Nat) : List Int := (List.range k).map fun n => rbits (okAt x (toSc (nthX x n)) []) x.f9.length
def allR (x : S38) : List Int := allRTo x (manyX x).toNat
def canB (L : List Int) (r : Int) : Bool := L.any fun a => Go.bits .and .i64 a r == r
def maskB (n b : Nat) : Int := Go.bits .andNot .i64 (2 ^ n - 1) b
theorem rbits5 (f : Nat → Bool) : ∀ k, k ≤ 5 → rbits f k = rbits (fun i => [f 0, f 1, f 2, f 3, f 4].getD i false) k := by
 intro k hk
 induction k with
 | zero => rfl
 | succ k ih =>
  have e : f k = [f 0, f 1, f 2, f 3, f 4].getD k false := by
   have : k = 0 ∨ k = 1 ∨ k = 2 ∨ k = 3 ∨ k = 4 := by omega
   rcases this with rfl | rfl | rfl | rfl | rfl <;> rfl
  show (if f k = true then Go.bits .or .i64 (rbits f k) (2 ^ k) else rbits f k) = (if [f 0, f 1, f 2, f 3, f 4].getD k false = true then _ else _)
  rw [ih (by omega), ← e]
theorem all5 (f g : Nat → Bool) (n : Nat) (hn : n ≤ 5) (h : ∀ k, k < 5 → f k = g k) : (List.range n).all f = (List.range n).all g := by
 rw [Bool.eq_iff_iff, List.all_eq_true, List.all_eq_true]
 refine forall_congr' fun k => forall_congr' fun hk => ?_
 rw [h k (by have := List.mem_range.1 hk; omega)]
theorem get5 (f : Nat → Bool) (k : Nat) (hk : k < 5) : f k = [f 0, f 1, f 2, f 3, f 4].getD k false := by
 have : k = 0 ∨ k = 1 ∨ k = 2 ∨ k = 3 ∨ k = 4 := by omega
 rcases this with rfl | rfl | rfl | rfl | rfl <;> rfl
theorem mask_key : ∀ b0 b1 b2 b3 b4 : Bool, ∀ n, n < 6 → ∀ b, b < 2 ^ n → (Go.bits .and .i64 (rbits (fun i => [b0, b1, b2, b3, b4].getD i false) n) (maskB n b) == maskB n b) = (List.range n).all (fun i => b.testBit i || [b0, b1, b2, b3, b4].getD i false) := by decide +kernel
theorem mask_is (f : Nat → Bool) {n b : Nat} (hn : n ≤ 5) (hb : b < 2 ^ n) : (Go.bits .and .i64 (rbits f n) (maskB n b) == maskB n b) = (List.range n).all (fun i => b.testBit i || f i) := by
 rw [rbits5 f n hn, mask_key _ _ _ _ _ n (by omega) b hb]
 exact (all5 _ _ n hn fun k hk => by rw [← get5 f k hk])
theorem first_key : ∀ b0 b1 b2 b3 b4 : Bool, ∀ n, n < 6 → ∀ k, k < n → (Go.bits .and .i64 (rbits (fun i => [b0, b1, b2, b3, b4].getD i false) n) (2 ^ (k + 1) - 1) == 2 ^ (k + 1) - 1) = (List.range (k + 1)).all (fun i => [b0, b1, b2, b3, b4].getD i false) := by decide +kernel
theorem first_is (f : Nat → Bool) {n k : Nat} (hn : n ≤ 5) (hk : k < n) : (Go.bits .and .i64 (rbits f n) (2 ^ (k + 1) - 1) == 2 ^ (k + 1) - 1) = (List.range (k + 1)).all f := by
 rw [rbits5 f n hn, first_key _ _ _ _ _ n (by omega) k hk]
 exact (all5 _ _ (k + 1) (by omega) fun k hk => by rw [← get5 f k hk])
theorem any_nthX {x : S38} (hV : Valid x) (p : Sc → Bool) : (List.range (manyX x).toNat).any (fun n => p (toSc (nthX x n))) = (allSc x).any p := by
 rw [Bool.eq_iff_iff, List.any_eq_true, List.any_eq_true]
 constructor
 ·rintro ⟨n, hn, h⟩
  exact ⟨_, (mem_allSc hV).2 (nthX_in hV n), h⟩
 ·rintro ⟨s, hs, h⟩
  obtain ⟨n, hn, rfl⟩ := nthX_onto hV ((mem_allSc hV).1 hs)
  exact ⟨n, List.mem_range.2 hn, h⟩
theorem any_bitsL : ∀ b, b < 32 → ∀ i : Nat, i < 5 → ((bitsL b).any fun y => (i : Int) == y) = b.testBit i := by decide +kernel
theorem okAt_bits (x : S38) (s : Sc) {b i : Nat} (hb : b < 32) (hi : i < 5) : okAt x s (bitsL b) i = (b.testBit i || okAt x s [] i) := by
 unfold okAt
 rw [any_bitsL b hb i hi]
 simp
theorem can_mask {x : S38} (hV : Valid x) {b : Nat} (hb : b < 2 ^ x.f9.length) : canB (allR x) (maskB x.f9.length b) = posB x (bitsL b) := by
 have hn := hV.rdN
 have h5 := pow5 hn
 unfold canB allR allRTo
 rw [List.any_map]
 show (List.range (manyX x).toNat).any (fun n => _) = _
 rw [show (fun n => ((fun a => Go.bits .and .i64 a (maskB x.f9.length b) == maskB x.f9.length b) ∘ fun n => rbits (okAt x (toSc (nthX x n)) []) x.f9.length) n) = (fun n => (fun s => rightB x s (bitsL b)) (toSc (nthX x n))) from funext fun n => by
  show (Go.bits .and .i64 (rbits (okAt x (toSc (nthX x n)) []) x.f9.length) (maskB x.f9.length b) == maskB x.f9.length b) = rightB x (toSc (nthX x n)) (bitsL b)
  rw [mask_is _ hn hb]
  unfold rightB
  exact all5 _ _ _ hn fun k hk => (okAt_bits x _ (by omega) hk).symm]
 exact any_nthX hV fun s => rightB x s (bitsL b)
/-- The coppers with other readings. -/
def withR (x : S38) (l : List S119) : S38 := { x with f9 := l }
theorem scFrom_withR (x : S38) (l : List S119) : ∀ d h s, scFrom (withR x l) d h s = scFrom x d h s
 | 0, _, _ => rfl
 | d + 1, h, s => by
  show (irange (x.f8.getD h z35).f0 (x.f8.getD h z35).f1).flatMap (fun n => scFrom (withR x l) d (h + 1) (s.setLoss h n)) = (irange (x.f8.getD h z35).f0 (x.f8.getD h z35).f1).flatMap fun n => scFrom x d (h + 1) (s.setLoss h n)
  rw [show (fun n => scFrom (withR x l) d (h + 1) (s.setLoss h n)) = fun n => scFrom x d (h + 1) (s.setLoss h n) from funext fun n => scFrom_withR x l d (h + 1) _]
theorem allSc_withR (x : S38) (l : List S119) : allSc (withR x l) = allSc x := by
 unfold allSc
 rw [show (fun n => scFrom (withR x l) ((withR x l).f0 + 1).toNat 0 (scHeat n)) = fun n => scFrom x (x.f0 + 1).toNat 0 (scHeat n) from funext fun n => scFrom_withR x l _ 0 _]
 rfl
theorem heat_withR (x : S38) (l : List S119) (s : Sc) (co wa : List Int) : ∀ k, heatAt (withR x l) s co wa k = heatAt x s co wa k
 | 0 => rfl
 | k + 1 => by
  show leftH (withR x l) _ (preH (withR x l) s _ (heatAt (withR x l) s co wa k) k) k = _
  rw [heat_withR x l s co wa k]
  rfl
theorem hot_withR (x : S38) (l : List S119) (s : Sc) (co wa : List Int) (k : Nat) : hotAt (withR x l) s co wa k = hotAt x s co wa k := by
 unfold hotAt preAt
 rw [heat_withR]
 rfl
theorem ok_cut (x : S38) (s : Sc) (out : List Int) {k i : Nat} (hi : i < k) : okAt (cutR x k) s out i = okAt x s out i := by
 unfold okAt
 have e : (cutR x k).f9.getD i z119 = x.f9.getD i z119 := by
  show (x.f9.take k).getD i z119 = _
  rw [List.getD_eq_getElem?_getD, List.getElem?_take_of_lt hi, ← List.getD_eq_getElem?_getD]
 rw [e, show hotAt (cutR x k) s (cutR x k).f5 (cutR x k).f6 = hotAt x s x.f5 x.f6 from funext fun j => hot_withR x (x.f9.take k) s x.f5 x.f6 j]
theorem right_cut (x : S38) (s : Sc) (out : List Int) {k : Nat} (hk : k ≤ x.f9.length) : rightB (cutR x k) s out = (List.range k).all (okAt x s out) := by
 unfold rightB
 have e : (cutR x k).f9.length = k := by show (x.f9.take k).length = k; simp; omega
 rw [e, Bool.eq_iff_iff, List.all_eq_true, List.all_eq_true]
 refine forall_congr' fun i => forall_congr' fun hi => ?_
 rw [ok_cut x s out (List.mem_range.1 hi)]
theorem can_first {x : S38} (hV : Valid x) {k : Nat} (hk : k < x.f9.length) : canB (allR x) (2 ^ (k + 1) - 1) = posB (cutR x (k + 1)) [] := by
 have hn := hV.rdN
 unfold canB allR allRTo posB
 rw [List.any_map, show allSc (cutR x (k + 1)) = allSc x from allSc_withR x _, ← any_nthX hV]
 refine congrArg _ (funext fun n => ?_)
 show (Go.bits .and .i64 (rbits (okAt x (toSc (nthX x n)) []) x.f9.length) (2 ^ (k + 1) - 1) == 2 ^ (k + 1) - 1) = rightB (cutR x (k + 1)) (toSc (nthX x n)) []
 rw [first_is _ hn hk, right_cut x _ _ (by omega)]
theorem find_congr {α : Type} {p q : α → Bool} : ∀ {l : List α}, (∀ a ∈ l, p a = q a) → l.find? p = l.find? q
 | [], _ => rfl
 | a :: l, h => by
  rw [List.find?_cons, List.find?_cons, h a (List.mem_cons_self ..), find_congr fun b hb => h b (List.mem_cons_of_mem _ hb)]
def firstR (L : List Int) (n : Nat) : Int := match (List.range n).find? fun k => !canB L (2 ^ (k + 1) - 1) with
 | some k => (k : Int)
 | none => -1
theorem firstF_ref {x : S38} (hV : Valid x) : firstF x = if firstR (allR x) x.f9.length < 0 then (0, 7) else (firstR (allR x) x.f9.length, 0) := by
 have e : (List.range x.f9.length).find? (fun k => !canB (allR x) (2 ^ (k + 1) - 1)) = (List.range x.f9.length).find? fun i => !posB (cutR x (i + 1)) [] := by
  refine find_congr fun k hk => ?_
  rw [can_first hV (List.mem_range.1 hk)]
 unfold firstF firstR
 rw [if_pos ((valid_iff x).2 hV), e]
 cases (List.range x.f9.length).find? fun i => !posB (cutR x (i + 1)) [] with
 | none => rfl
 | some i => rw [if_neg (by simp)]
theorem posB_full {x : S38} (hV : Valid x) : posB x (bitsL (2 ^ x.f9.length - 1)) = true := by
 obtain ⟨s, hs⟩ := allSc_some hV
 have hn := hV.rdN
 have h5 := pow5 hn
 have h0 := Nat.two_pow_pos x.f9.length
 unfold posB
 rw [List.any_eq_true]
 refine ⟨s, hs, rightB_true fun k hk => ?_⟩
 rw [okAt_bits x s (by omega) (by omega)]
 simp [Nat.testBit_two_pow_sub_one, hk]
theorem leaveF_ref {x : S38} (hV : Valid x) : leaveF x = (leaveR (fun b => canB (allR x) (maskB x.f9.length b)) x.f9.length (2 ^ x.f9.length), 0) := by
 have hn := hV.rdN
 have h0 := Nat.two_pow_pos x.f9.length
 obtain ⟨b, e, hb⟩ := leaveF_least hV
 obtain ⟨c, e2, hc⟩ := leaveR_least hn (p := fun b => canB (allR x) (maskB x.f9.length b)) (by
  show canB (allR x) (maskB x.f9.length (2 ^ x.f9.length - 1)) = true
  rw [can_mask hV (by omega)]
  exact posB_full hV)
 have hc2 : LeastS x.f9.length (fun b => posB x (bitsL b)) c := ⟨hc.lt, by have := hc.pass; rw [← can_mask hV hc.lt]; exact this, fun d hd hp => hc.least d hd (by show canB _ _ = true; rw [can_mask hV hd]; exact hp)⟩
 rw [e, e2, hb.uniq hn hc2]
end Go.Proofs.Ytdgkhoflajdidaa
/- Bits, Before, Shorter, Can of the reference. -/
namespace Go.Proofs.Ytdgkhoflajdidaa
open Go.RowKit Go.Proofs.YtdgkhoflajdidaaW.PrintWords Go.Proofs.YtdgkhoflajdidaaW.PrintMore Go.Proofs.YtdgkhoflajdidaaW.PrintLast Go.Proofs.Ytdgkhoflajdidaa.Print
set_option linter.unusedVariables false
set_option linter.unusedSimpArgs false
set_option maxRecDepth 100000
set_option maxHeartbeats 4000000
theorem rBits_calls (b : Nat) (hb : b < 32) (w : World) : Calls Try.prog 56 #[.int .i64 b] w (LiPost (bitsL b) w) := by
 go_enter Try.func56, Try.ntmps56
 go_wp2
 go_loopw [3, 4] (fun s3 s4 wr => ∃ k : Nat, k ≤ 5 ∧ s4 = .int .i64 k ∧ Aside0 (Below w.heap.size w wr ∧ wr.ownsRow w.heap.size 3 1 s3 (bitsTo b k).length (nums .i64 (bitsTo b k)))) (fun _ s4 _ => 5 - (intOf s4).toNat)
 case atStart => exact ⟨0, Nat.zero_le _, rfl, ⟨Below.refl _ _, own_nil _ _ _ _⟩⟩
 case round =>
  obtain ⟨k, hk, rfl, HW⟩ := hrel
  have hkz : (k : Int) ≤ 5 := by omega
  have hcast : (b : Int) / 2 ^ k = ((b / 2 ^ k : Nat) : Int) := by simp
  by_cases hgt : 0 < b / 2 ^ k
  ·have hgz : 0 < (b : Int) / 2 ^ k := by rw [hcast]; exact_mod_cast hgt
   have hlt : k < 5 := by
    refine Nat.lt_of_not_le fun h => ?_
    obtain rfl : k = 5 := by omega
    rw [Nat.div_eq_of_lt (by simpa using hb)] at hgt
    cases hgt
   have hll : (bitsTo b k).length ≤ k := by simpa [bitsTo] using List.length_filter_le (p := b.testBit) (l := List.range k)
   by_cases hq : b / 2 ^ k % 2 = 1
   ·have hqz : ((b : Int) / 2 ^ k % 2 == 1) = true := by rw [hcast, beq_iff_eq]; omega
    have HS := Lib.hid (bitsTo_t (b := b) (k := k) (by rw [testBit_div, hq]; rfl))
    clear hcast hgt hq
    generalize bitsTo b k = ll at *
    go_wp2_with (at_builtin; refine append_list rfl (.tmp 18) (.tmp 20) 22 3 (.int .i64 0) 1 8 rfl Try.underlying22 info3 rfl (by decide) (by decide) w.heap.size u3 ll.length (nums .i64 ll) [.int .i64 k] wr.heap.size 1 rfl rfl (HW.out.2.alloc _) rfl (cells1 (Blk.new _ _ _ _ rfl)) (one1 _) (by omega) (by have h1 := HW.out.1.size; simp; omega) ?_; intro v4 w4 ho4 hg4 hat4; have H4 := Aside0.mk (And.intro ((below_alloc HW.out.1 _).grown hg4 (by have h1 := HW.out.1.size; simp; omega) (own_base HW.out.2)) ho4); clear ho4 hg4 hat4)
    go_roundw
    case rel =>
     refine ⟨k + 1, hlt, by go_num, ⟨H4.out.1, ?_⟩⟩
     rw [HS.out, List.length_append]; simpa [nums] using H4.out.2
    case measure => simp [intOf]; omega
   ·have hqz : ((b : Int) / 2 ^ k % 2 == 1) = false := by rw [hcast, beq_eq_false_iff_ne]; omega
    have HS := Lib.hid (bitsTo_f (b := b) (k := k) (by rw [testBit_div, decide_eq_false hq]))
    clear hcast hgt hq
    go_wp2
    go_roundw
    case rel => exact ⟨k + 1, hlt, by go_num, ⟨HW.out.1, by rw [HS.out]; exact HW.out.2⟩⟩
    case measure => simp [intOf]; omega
  ·have hgz : ¬ 0 < (b : Int) / 2 ^ k := by rw [hcast]; exact fun h => hgt (by exact_mod_cast h)
   clear hcast
   have hown := HW.out.2
   rw [bitsTo_all hb k hk (Nat.eq_zero_of_not_pos hgt)] at hown
   obtain ⟨A', c', e5, _, g5⟩ := own_C (Kd.int .i64) (.int .i64) rfl (fun _ _ => rfl) (xs := bitsL b) rfl (by simp [nums]) hown
   clear hown
   subst e5
   have HE := Aside0.mk (And.intro g5 HW.out.1)
   clear g5
   go_wp2
   refine bodyPost_ret (results_tmp rfl _ _ _) rfl ?_
   exact ⟨A', c', rfl, HE.out.1, HE.out.2⟩
theorem beforeL_drop {a b : List Int} {k : Nat} (ha : k < a.length) (hb : k < b.length) : beforeL (a.drop k) (b.drop k) = if a[k] = b[k] then beforeL (a.drop (k + 1)) (b.drop (k + 1)) else decide (a[k] < b[k]) := by
 rw [List.drop_eq_getElem_cons ha, List.drop_eq_getElem_cons hb]
 rfl
theorem beforeL_end {a b : List Int} {k : Nat} (h : a.length = k ∨ b.length = k) (ha : k ≤ a.length) (hb : k ≤ b.length) : beforeL (a.drop k) (b.drop k) = decide (a.length < b.length) := by
 by_cases h2 : b.length = k
 ·have e : b.drop k = [] := List.drop_eq_nil_of_le (by omega)
  rw [e, decide_eq_false (by omega)]
  cases a.drop k <;> rfl
 ·have h1 : a.length = k := h.resolve_right h2
  have e : a.drop k = [] := List.drop_eq_nil_of_le (by omega)
  rw [e, decide_eq_true (by omega), List.drop_eq_getElem_cons (show k < b.length by omega)]
  rfl
theorem rBefore_calls (A B : Option Addr) (c d : Nat) (l m : List Int) (w : World) (hl : Kd.C (Kd.int .i64) w A l.length l) (hm : Kd.C (Kd.int .i64) w B m.length m) :
    Calls Try.prog 73 #[.slice A l.length c, .slice B m.length d] w fun e w' => e = .returned (.bool (beforeL l m)) ∧ Below w.heap.size w w' := by
 have HL := Aside0.mk hl
 have HM := Aside0.mk hm
 have hn1 := hl.2.1
 have hn2 := hm.2.1
 clear hl hm
 go_enter Try.func73, Try.ntmps73
 go_wp2
 go_loopw [5] (fun s5 wr => ∃ k : Nat, k ≤ l.length ∧ k ≤ m.length ∧ s5 = .int .i64 k ∧ Aside0 (Below w.heap.size w wr ∧ beforeL l m = beforeL (l.drop k) (m.drop k))) (fun s5 _ => l.length - (intOf s5).toNat)
 case atStart => exact ⟨0, Nat.zero_le _, Nat.zero_le _, rfl, ⟨Below.refl _ _, rfl⟩⟩
 case round =>
  obtain ⟨k, hk, hk2, rfl, HW⟩ := hrel
  by_cases hlt : k < l.length ∧ k < m.length
  ·obtain ⟨hlt, hlt2⟩ := hlt
   have hz1 : (k : Int) < (l.length : Int) := by omega
   have hz2 : (k : Int) < (m.length : Int) := by omega
   obtain ⟨aA, rfl, hcA⟩ := row_at_int (Kd.C_below HL.out HW.out.1) k hlt
   obtain ⟨aB, rfl, hcB⟩ := row_at_int (Kd.C_below HM.out HW.out.1) k hlt2
   have hd := beforeL_drop hlt hlt2
   by_cases hq : l[k] = m[k]
   ·have hqb : (l[k] == m[k]) = true := by simpa using hq
    rw [if_pos hq] at hd
    have HQ := Aside0.mk (HW.out.2.trans hd)
    clear hd
    go_wp2
    go_quiet (fail)
    go_wp2
    go_roundw
    case rel => exact ⟨k + 1, hlt, hlt2, by go_num, ⟨pw_below_drewN HW.out.1 _, HQ.out⟩⟩
    case measure => simp [intOf]; omega
   ·have hqb : (l[k] == m[k]) = false := by simpa using hq
    rw [if_neg hq] at hd
    have HQ := Aside0.mk (HW.out.2.trans hd)
    clear hd
    go_wp2
    go_quiet (fail)
    go_wp2
    go_quiet (fail)
    go_wp2
    go_ret
    exact ⟨ret_bool HQ.out.symm, pw_below_drewN (pw_below_drewN HW.out.1 _) _⟩
  ·have hend := beforeL_end (a := l) (b := m) (k := k) (by omega) hk hk2
   have HQ := Aside0.mk (HW.out.2.trans hend)
   clear hend
   by_cases h1 : k < l.length
   ·have hz1 : (k : Int) < (l.length : Int) := by omega
    have hz2 : ¬ (k : Int) < (m.length : Int) := by omega
    have hz3 : ¬ (l.length : Int) < (m.length : Int) := by omega
    have hz4 : ¬ l.length < m.length := by omega
    go_wp2
    go_ret
    exact ⟨ret_bool (by rw [HQ.out, decide_eq_false hz4]), HW.out.1⟩
   ·have hz1 : ¬ (k : Int) < (l.length : Int) := by omega
    by_cases h3 : l.length < m.length
    ·have hz3 : (l.length : Int) < (m.length : Int) := by omega
     go_wp2
     go_ret
     exact ⟨ret_bool (by rw [HQ.out, decide_eq_true h3]), HW.out.1⟩
    ·have hz3 : ¬ (l.length : Int) < (m.length : Int) := by omega
     go_wp2
     go_ret
     exact ⟨ret_bool (by rw [HQ.out, decide_eq_false h3]), HW.out.1⟩
theorem rShorter_calls (A B : Option Addr) (c d : Nat) (l m : List Int) (w : World) (hl : Kd.C (Kd.int .i64) w A l.length l) (hm : Kd.C (Kd.int .i64) w B m.length m) :
    Calls Try.prog 55 #[.slice A l.length c, .slice B m.length d] w fun e w' => e = .returned (.bool (shorterL l m)) ∧ Below w.heap.size w w' := by
 have hbf := rBefore_calls A B c d l m w hl hm
 have HS := Lib.hid (show shorterL l m = (decide (l.length < m.length) || (decide (l.length = m.length) && beforeL l m)) from rfl)
 clear hl hm
 by_cases h1 : l.length < m.length
 ·have hz : (l.length : Int) < (m.length : Int) := by omega
  go_enter Try.func55, Try.ntmps55
  go_wp2
  go_ret
  exact ⟨ret_bool (by rw [HS.out, decide_eq_true h1]; rfl), Below.refl _ _⟩
 ·have hz : ¬ (l.length : Int) < (m.length : Int) := by omega
  have HZ := Lib.hid h1
  clear h1
  by_cases h2 : l.length = m.length
  ·have hz3 : ((l.length : Int) == (m.length : Int)) = true := by simp [h2]
   have HB2 := Lib.hid h2
   clear h2
   go_enter Try.func55, Try.ntmps55
   go_wp2_with fail
   refine hbf.mono ?_
   rintro e w1 ⟨rfl, hb⟩
   have HB := Aside0.mk hb
   clear hb
   go_wp2
   go_ret
   exact ⟨ret_bool (by rw [HS.out, decide_eq_false HZ.out, decide_eq_true HB2.out]; rfl), HB.out⟩
  ·have hz3 : ((l.length : Int) == (m.length : Int)) = false := by simpa using (show ¬ (l.length : Int) = (m.length : Int) by omega)
   have HB2 := Lib.hid h2
   clear h2
   go_enter Try.func55, Try.ntmps55
   go_wp2
   go_ret
   exact ⟨ret_bool (by rw [HS.out, decide_eq_false HZ.out, decide_eq_false HB2.out]; rfl), Below.refl _ _⟩
theorem canB_take {L : List Int} {r : Int} {k : Nat} (hk : k < L.length) : canB (L.take (k + 1)) r = (canB (L.take k) r || (Go.bits .and .i64 L[k] r == r)) := by
 unfold canB
 rw [List.take_succ_eq_append_getElem hk, List.any_append]
 simp
theorem rCan_calls (A : Option Addr) (c : Nat) (L : List Int) (r : Int) (w : World) (hl : Kd.C (Kd.int .i64) w A L.length L) :
    Calls Try.prog 93 #[.slice A L.length c, .int .i64 r] w fun e w' => e = .returned (.bool (canB L r)) ∧ w = w' := by
 have HL := Aside0.mk hl
 have hn := hl.2.1
 clear hl
 go_enter Try.func93, Try.ntmps93
 go_wp2
 go_loop [5] (fun s5 => ∃ k : Nat, k ≤ L.length ∧ s5 = .int .i64 k ∧ Aside0 (canB (L.take k) r = false)) (fun s5 => L.length - (intOf s5).toNat)
 case atStart => exact ⟨0, Nat.zero_le _, rfl, ⟨rfl⟩⟩
 case round =>
  obtain ⟨k, hk, rfl, HN⟩ := hrel
  by_cases hlt : k < L.length
  ·have hltz : (k : Int) < (L.length : Int) := by omega
   obtain ⟨aA, rfl, hcA⟩ := row_at_int HL.out k hlt
   have ht := canB_take (r := r) hlt
   rw [HN.out, Bool.false_or] at ht
   cases hq : (Go.bits .and .i64 L[k] r == r) with
   | true =>
    rw [hq] at ht
    have HE := Lib.hid (show canB L r = true from by
     unfold canB at ht ⊢
     rw [List.any_eq_true] at ht ⊢
     obtain ⟨a, ha, h⟩ := ht
     exact ⟨a, List.mem_of_mem_take ha, h⟩)
    clear ht
    generalize L[k] = v at *
    go_wp2
    go_ret
    exact ⟨ret_bool HE.out.symm, rfl⟩
   | false =>
    rw [hq] at ht
    have HE := Lib.hid ht
    clear ht
    generalize L[k] = v at *
    go_wp2
    go_round
    case rel => exact ⟨k + 1, hlt, by go_num, ⟨HE.out⟩⟩
    case measure => simp [intOf]; omega
  ·have hltz : ¬ (k : Int) < (L.length : Int) := by omega
   have HE := Lib.hid (show canB L r = false from by have := HN.out; rwa [List.take_of_length_le (by omega)] at this)
   go_wp2
   go_ret
   exact ⟨ret_bool HE.out.symm, rfl⟩
end Go.Proofs.Ytdgkhoflajdidaa
/- All, First, Leave of the reference. -/
namespace Go.Proofs.Ytdgkhoflajdidaa
open Go.RowKit Go.Proofs.YtdgkhoflajdidaaW.PrintWords Go.Proofs.YtdgkhoflajdidaaW.PrintMore Go.Proofs.YtdgkhoflajdidaaW.PrintLast Go.Proofs.Ytdgkhoflajdidaa.Print
set_option linter.unusedVariables false
set_option linter.unusedSimpArgs false
set_option maxRecDepth 100000
set_option maxHeartbeats 4000000
theorem allRTo_snoc (x : S38) (k : Nat) : allRTo x (k + 1) = allRTo x k ++ [rbits (okAt x (toSc (nthX x k)) []) x.f9.length] := by simp [allRTo, List.range_succ]
theorem own_k75 {W : World} {base : Nat} {t : S75} {T1 : Option Addr} {d1 : Nat} (h : W.ownsRow base 3 1 (.slice T1 t.f1.length d1) t.f1.length (nums .i64 t.f1)) : k75.K W t [.int .i64 t.f0, .slice T1 t.f1.length d1] := by
 obtain ⟨A5', c5', e5', _, gt9⟩ := own_C (Kd.int .i64) (.int .i64) rfl (fun _ _ => rfl) (xs := t.f1) rfl (by simp [nums]) h
 simp only [Value.slice.injEq, true_and] at e5'
 rw [e5'.1, e5'.2]
 exact k75_mk W t (by have := own_cap h; rw [e5'.2] at this; exact this) gt9
theorem rAll_calls (x : S38) (cs : List Value) (w : World) (hx : k38.K w x cs) (hV : Valid x) : Calls Try.prog 37 #[.agg cs.toArray] w (LiPost (allR x) w) := by
 have HX := Aside0.mk hx
 have HC := fun V (hb : Below w.heap.size w V) => And.intro (rMany_calls x cs V (k38.K_below hb hx) hV.inside7 hV.inside8) (fun n hn => rNth_calls x cs n V (k38.K_below hb hx) hV.inside7 hV.inside8 hn (by have := hV.lossN; have := hV.last1; omega))
 have HRT := fun V (hb : Below w.heap.size w V) (t : S75) (ts : List Value) (ht : k75.K V t ts) (hi : InSc x (toSc t)) (hn : (t.f1.length : Int) = x.f0 + 1) => rRight_calls (k38.K_below hb hx) ht hV (hi.ok hV) hn
 obtain ⟨A5, c5, A6, c6, A9, c9, A10, c10, rfl, l5, g5, l6, g6, l9, g9, l10, g10⟩ := k38_open hx
 have HC := Aside0.mk HC
 have HRT := Aside0.mk HRT
 clear hx g5 g6 g9 g10 l5 l6 l9 l10
 have hu := Try.underlying28
 have hmx := manyX_ok hV
 have HV := Aside0.mk hV
 clear hV
 obtain ⟨N, hN⟩ : ∃ N : Nat, manyX x = (N : Int) := ⟨(manyX x).toNat, by omega⟩
 have hN2 : N ≤ 2000 := by omega
 have HTX := Lib.hid (show allR x = allRTo x N by unfold allR; rw [hN]; rfl)
 rw [hN] at HC
 clear hmx hN
 have ZB := Aside0.mk (And.intro (below_alloc (Below.refl w.heap.size w) (.cells #[.int .i64 x.f0, .int .i64 x.f1, .int .i64 x.f2, .int .i64 x.f3, .int .i64 x.f4, .slice A5 x.f5.length c5, .slice A6 x.f6.length c6, .int .i64 x.f7.f0, .int .i64 x.f7.f1, .slice A9 x.f8.length c9, .slice A10 x.f9.length c10] 28)) (Blk.new w #[.int .i64 x.f0, .int .i64 x.f1, .int .i64 x.f2, .int .i64 x.f3, .int .i64 x.f4, .slice A5 x.f5.length c5, .slice A6 x.f6.length c6, .int .i64 x.f7.f0, .int .i64 x.f7.f1, .slice A9 x.f8.length c9, .slice A10 x.f9.length c10] 28 _ rfl))
 go_enter Try.func37, Try.ntmps37
 go_wp2
 generalize (w.alloc (.cells #[.int .i64 x.f0, .int .i64 x.f1, .int .i64 x.f2, .int .i64 x.f3, .int .i64 x.f4, .slice A5 x.f5.length c5, .slice A6 x.f6.length c6, .int .i64 x.f7.f0, .int .i64 x.f7.f1, .slice A9 x.f8.length c9, .slice A10 x.f9.length c10] 28)) = W at *
 go_loopw [3, 4] (fun s3 s4 wr => ∃ k : Nat, k ≤ N ∧ s4 = .int .i64 k ∧ Aside0 (Below w.heap.size w wr ∧ Blk wr w.heap.size #[.int .i64 x.f0, .int .i64 x.f1, .int .i64 x.f2, .int .i64 x.f3, .int .i64 x.f4, .slice A5 x.f5.length c5, .slice A6 x.f6.length c6, .int .i64 x.f7.f0, .int .i64 x.f7.f1, .slice A9 x.f8.length c9, .slice A10 x.f9.length c10] 28 ∧ wr.ownsRow w.heap.size 3 1 s3 k (nums .i64 (allRTo x k)))) (fun _ s4 _ => N - (intOf s4).toNat)
 case atStart => exact ⟨0, Nat.zero_le _, rfl, ⟨ZB.out.1, ZB.out.2, own_nil _ _ _ _⟩⟩
 case round =>
  obtain ⟨k, hk, rfl, HW⟩ := hrel
  have k0 := HW.out.2.1.cell 0 _ rfl
  have k1 := HW.out.2.1.cell 1 _ rfl
  have k2 := HW.out.2.1.cell 2 _ rfl
  have k3 := HW.out.2.1.cell 3 _ rfl
  have k4 := HW.out.2.1.cell 4 _ rfl
  have k5 := HW.out.2.1.cell 5 _ rfl
  have k6 := HW.out.2.1.cell 6 _ rfl
  have k7 := HW.out.2.1.cell 7 _ rfl
  have k8 := HW.out.2.1.cell 8 _ rfl
  have k9 := HW.out.2.1.cell 9 _ rfl
  have k10 := HW.out.2.1.cell 10 _ rfl
  go_wp2_with fail
  refine ((HC.out _ HW.out.1).1).mono ?_
  rintro e w6 ⟨rfl, hb⟩
  have H6 := Aside0.mk (And.intro (bel2 HW.out.1 hb) (And.intro (HW.out.2.1.below hb) (own_bel HW.out.2.2 hb)))
  clear hb HW k0 k1 k2 k3 k4 k5 k6 k7 k8 k9 k10
  have k0 := H6.out.2.1.cell 0 _ rfl
  have k1 := H6.out.2.1.cell 1 _ rfl
  have k2 := H6.out.2.1.cell 2 _ rfl
  have k3 := H6.out.2.1.cell 3 _ rfl
  have k4 := H6.out.2.1.cell 4 _ rfl
  have k5 := H6.out.2.1.cell 5 _ rfl
  have k6 := H6.out.2.1.cell 6 _ rfl
  have k7 := H6.out.2.1.cell 7 _ rfl
  have k8 := H6.out.2.1.cell 8 _ rfl
  have k9 := H6.out.2.1.cell 9 _ rfl
  have k10 := H6.out.2.1.cell 10 _ rfl
  by_cases hlt : k < N
  ·have hltz : (k : Int) < (N : Int) := by omega
   have hnth := fun V hb => (HC.out V hb).2 k (by omega)
   have hin := nthX_in HV.out k
   have hn := nthX_len (x := x) k
   have hln := HV.out.lossN
   have hsn := allRTo_snoc x k
   generalize nthX x k = t at *
   have hnz : (t.f1.length : Int) = x.f0 + 1 := by omega
   have HNT := Aside0.mk hnth
   have HRI := Aside0.mk (fun V (hb : Below w.heap.size w V) T1 d1 base (h : V.ownsRow base 3 1 (.slice T1 t.f1.length d1) t.f1.length (nums .i64 t.f1)) => HRT.out V hb t _ (own_k75 h) hin hnz)
   generalize rbits (okAt x (toSc t) []) x.f9.length = rb at *
   have HSN := Lib.hid hsn
   have hll : (allRTo x k).length = k := by simp [allRTo]
   clear hnth hin hn hln hsn hnz
   generalize allRTo x k = ll at *
   have HB0 := Aside0.mk (bel2 H6.out.1 (below_drew (Below.refl w6.heap.size w6)))
   go_wp2
   refine start_ (n := 9) (S := fun w' => w'.cell? ⟨w.heap.size, 0, none⟩ = some (.int .i64 x.f0) ∧ w'.cell? ⟨w.heap.size, 1, none⟩ = some (.int .i64 x.f1) ∧ w'.cell? ⟨w.heap.size, 2, none⟩ = some (.int .i64 x.f2) ∧ w'.cell? ⟨w.heap.size, 3, none⟩ = some (.int .i64 x.f3) ∧ w'.cell? ⟨w.heap.size, 4, none⟩ = some (.int .i64 x.f4) ∧ w'.cell? ⟨w.heap.size, 5, none⟩ = some (.slice A5 x.f5.length c5) ∧ w'.cell? ⟨w.heap.size, 6, none⟩ = some (.slice A6 x.f6.length c6) ∧ w'.cell? ⟨w.heap.size, 7, none⟩ = some (.int .i64 x.f7.f0) ∧ w'.cell? ⟨w.heap.size, 8, none⟩ = some (.int .i64 x.f7.f1) ∧ w'.cell? ⟨w.heap.size, 9, none⟩ = some (.slice A9 x.f8.length c9) ∧ w'.cell? ⟨w.heap.size, 10, none⟩ = some (.slice A10 x.f9.length c10)) (ds := [7]) #[false, false, false, false, false, false, false, false, false] (by kernel_rfl) rfl rfl ⟨k0, k1, k2, k3, k4, k5, k6, k7, k8, k9, k10⟩ (fun hHeld => ?_)
   refine pure_ (i := 0) (N := some 11) (v := ?_) (a' := ?_) (bs 9 1) rfl rfl (by kernel_rfl) (fun _ _ _ h => h) (Or.inl ⟨by rfl, ?_⟩) ?_ ?_
   rotate_left
   ·intro w'
    go_simp
    with_reducible rfl
   rotate_left
   ·simp only [Act.put, List.setIfInBounds_toArray, List.set_cons_zero, List.set_cons_succ, i64_w, i32_w]
    rfl
   refine pure_ (i := 3) (N := some 14) (v := ?_) (a' := ?_) (bs 9 9) rfl rfl (by kernel_rfl) (fun _ _ _ h => h) (Or.inl ⟨by rfl, ?_⟩) ?_ ?_
   rotate_left
   ·intro w'
    go_simp
    with_reducible rfl
   rotate_left
   ·simp only [Act.put, List.setIfInBounds_toArray, List.set_cons_zero, List.set_cons_succ, i64_w, i32_w]
    rfl
   refine take_ (i := 1) (N := some 12) (v := ?_) (a' := ?_) (bs 9 11) rfl rfl (by kernel_rfl) (fun _ _ _ h => h) (Or.inl ⟨by rfl, ?_⟩) hHeld ?_ ?_
   rotate_left
   ·rintro w' ⟨s0, s1, s2, s3, s4, s5, s6, s7, s8, s9, s10⟩
    go_simp
    with_reducible rfl
   rotate_left
   ·simp only [Act.put, List.setIfInBounds_toArray, List.set_cons_zero, List.set_cons_succ, i64_w, i32_w]
    rfl
   refine take_ (i := 2) (N := some 13) (v := ?_) (a' := ?_) (bs 9 15) rfl rfl (by kernel_rfl) (fun _ _ _ h => h) (Or.inl ⟨by rfl, ?_⟩) hHeld ?_ ?_
   rotate_left
   ·rintro w' ⟨s0, s1, s2, s3, s4, s5, s6, s7, s8, s9, s10⟩
    go_simp
    with_reducible rfl
   rotate_left
   ·simp only [Act.put, List.setIfInBounds_toArray, List.set_cons_zero, List.set_cons_succ, i64_w, i32_w]
    rfl
   refine one_ (i := 4) (N := some 15) (bs 9 31) rfl rfl (by kernel_rfl) (by decide) (fun K hK => ?_)
   refine goes_ Try.func45 (by kernel_rfl) rfl #[.agg #[.int .i64 x.f0, .int .i64 x.f1, .int .i64 x.f2, .int .i64 x.f3, .int .i64 x.f4, .slice A5 x.f5.length c5, .slice A6 x.f6.length c6, .int .i64 x.f7.f0, .int .i64 x.f7.f1, .slice A9 x.f8.length c9, .slice A10 x.f9.length c10], .int .i64 k] (by rfl) rfl rfl (by simp only [List.map_toArray, List.map_cons, List.map_nil]; rfl) ?_
   with_reducible refine (HNT.out _ HB0.out).mono ?_
   rintro e w7 ⟨T1, d1, rfl, hb7, ho7⟩
   refine ⟨_, rfl, ?_⟩
   refine hK.out _ _ ⟨pw_cell_below hb7 (hHeld.1), pw_cell_below hb7 (hHeld.2.1), pw_cell_below hb7 (hHeld.2.2.1), pw_cell_below hb7 (hHeld.2.2.2.1), pw_cell_below hb7 (hHeld.2.2.2.2.1), pw_cell_below hb7 (hHeld.2.2.2.2.2.1), pw_cell_below hb7 (hHeld.2.2.2.2.2.2.1), pw_cell_below hb7 (hHeld.2.2.2.2.2.2.2.1), pw_cell_below hb7 (hHeld.2.2.2.2.2.2.2.2.1), pw_cell_below hb7 (hHeld.2.2.2.2.2.2.2.2.2.1), pw_cell_below hb7 (hHeld.2.2.2.2.2.2.2.2.2.2)⟩ (fun hHeld => ?_)
   clear hK K
   refine norm_ (a' := ?_) ?_ ?_
   rotate_left
   ·show Act.put _ (some 15) _ = _
    simp only [Act.put, List.setIfInBounds_toArray, List.set_cons_zero, List.set_cons_succ, i64_w, i32_w]
    rfl
   refine one_ (i := 5) (N := some 16) (bs 9 63) rfl rfl (by kernel_rfl) (by decide) (fun K hK => ?_)
   refine goes_ Try.func92 (by kernel_rfl) rfl #[.agg #[.int .i64 x.f0, .int .i64 x.f1, .int .i64 x.f2, .int .i64 x.f3, .int .i64 x.f4, .slice A5 x.f5.length c5, .slice A6 x.f6.length c6, .int .i64 x.f7.f0, .int .i64 x.f7.f1, .slice A9 x.f8.length c9, .slice A10 x.f9.length c10], .agg #[.int .i64 t.f0, .slice T1 t.f1.length d1]] (by rfl) rfl rfl (by simp only [List.map_toArray, List.map_cons, List.map_nil]; rfl) ?_
   with_reducible refine (HRI.out w7 (bel2 HB0.out hb7) T1 d1 _ ho7).mono ?_
   rintro e w8 ⟨rfl, hb8⟩
   refine ⟨_, rfl, ?_⟩
   refine hK.out _ _ ⟨pw_cell_below hb8 (hHeld.1), pw_cell_below hb8 (hHeld.2.1), pw_cell_below hb8 (hHeld.2.2.1), pw_cell_below hb8 (hHeld.2.2.2.1), pw_cell_below hb8 (hHeld.2.2.2.2.1), pw_cell_below hb8 (hHeld.2.2.2.2.2.1), pw_cell_below hb8 (hHeld.2.2.2.2.2.2.1), pw_cell_below hb8 (hHeld.2.2.2.2.2.2.2.1), pw_cell_below hb8 (hHeld.2.2.2.2.2.2.2.2.1), pw_cell_below hb8 (hHeld.2.2.2.2.2.2.2.2.2.1), pw_cell_below hb8 (hHeld.2.2.2.2.2.2.2.2.2.2)⟩ (fun hHeld => ?_)
   clear hK K
   refine norm_ (a' := ?_) ?_ ?_
   rotate_left
   ·show Act.put _ (some 16) _ = _
    simp only [Act.put, List.setIfInBounds_toArray, List.set_cons_zero, List.set_cons_succ, i64_w, i32_w]
    rfl
   refine one_ (i := 6) (N := some 17) (bs 9 127) rfl rfl (by kernel_rfl) (by decide) (fun K hK => ?_)
   refine value_ (w1 := ?_) (v := ?_) (by rfl) rfl ?_ ?_
   rotate_left 2
   ·go_simp
    constructor
    ·rfl
    ·rfl
   refine hK.out _ _ ⟨cell_al _ (hHeld.1), cell_al _ (hHeld.2.1), cell_al _ (hHeld.2.2.1), cell_al _ (hHeld.2.2.2.1), cell_al _ (hHeld.2.2.2.2.1), cell_al _ (hHeld.2.2.2.2.2.1), cell_al _ (hHeld.2.2.2.2.2.2.1), cell_al _ (hHeld.2.2.2.2.2.2.2.1), cell_al _ (hHeld.2.2.2.2.2.2.2.2.1), cell_al _ (hHeld.2.2.2.2.2.2.2.2.2.1), cell_al _ (hHeld.2.2.2.2.2.2.2.2.2.2)⟩ (fun hHeld => ?_)
   clear hK K
   refine norm_ (a' := ?_) ?_ ?_
   rotate_left
   ·show Act.put _ (some 17) _ = _
    simp only [Act.put, List.setIfInBounds_toArray, List.set_cons_zero, List.set_cons_succ, i64_w, i32_w]
    rfl
   refine last_ (i := 7) (N := some 18) (bs 9 255) rfl rfl (by kernel_rfl) (by decide) (fun K hK => ?_)
   have HBB := Aside0.mk (below_alloc (bel2 (bel2 (below_drew (Below.refl w6.heap.size w6)) hb7) hb8) (.cells #[.int .i64 rb] 3))
   clear hb7 hb8 ho7
   refine append_op (w := w8.alloc (.cells #[.int .i64 rb] 3)) (.tmp 11) (.tmp 17) 22 3 (.int .i64 0) 8 (by rfl) rfl Try.underlying22 info3 rfl (by decide) w.heap.size u3 (nums .i64 ll) (.int .i64 rb) w8.heap.size 1 rfl rfl (by simpa [nums, hll] using (own_bel H6.out.2.2 HBB.out)) ((Blk.new w8 #[.int .i64 rb] 3 _ rfl).cell 0 _ rfl) rfl (by simp [nums]; omega) (by have h1 := H6.out.1.size; have h2 := HBB.out.size; omega) ?_
   intro v5n w5 ho5 hg5 hat5
   obtain ⟨lz, hlz⟩ : ∃ z, (nums .i64 ll ++ [Value.int .i64 rb]).length = z := ⟨_, rfl⟩
   have HLZ := Lib.hid hlz
   rw [hlz] at ho5
   clear hlz
   obtain ⟨an, dn, rfl⟩ := own_form ho5
   refine hK.out _ _ ?_
   clear hK K
   refine norm_ (a' := ?_) ?_ ?_
   rotate_left
   ·show Act.put _ (some 18) _ = _
    simp only [Act.put, List.setIfInBounds_toArray, List.set_cons_zero, List.set_cons_succ, i64_w, i32_w]
    rfl
   refine pure_ (i := 8) (N := some 3) (v := ?_) (a' := ?_) (bs 9 511) rfl rfl (by kernel_rfl) (fun _ _ _ h => h) (Or.inl ⟨by rfl, ?_⟩) ?_ ?_
   rotate_left
   ·intro w'
    go_simp
    with_reducible rfl
   rotate_left
   ·simp only [Act.put, List.setIfInBounds_toArray, List.set_cons_zero, List.set_cons_succ, i64_w, i32_w]
    rfl
   refine done_ (by kernel_rfl) ?_
   have HN := Aside0.mk (And.intro (bel2 H6.out.1 HBB.out) (And.intro (H6.out.2.1.below HBB.out) HBB.out))
   have HN2 := Aside0.mk (And.intro (HN.out.1.grown hg5 (by have := HN.out.1.size; omega) (own_base H6.out.2.2)) (And.intro (HN.out.2.1.grown hg5 (blk_row H6.out.2.1 H6.out.2.2 (by decide))) ho5))
   obtain rfl : lz = k + 1 := by have := HLZ.out; simpa [nums, hll] using this.symm
   clear hHeld ho5 hg5 hat5 k0 k1 k2 k3 k4 k5 k6 k7 k8 k9 k10 HN HBB
   go_wp2
   go_roundw
   case rel => exact ⟨k + 1, hlt, by go_num, ⟨HN2.out.1, HN2.out.2.1, by rw [HSN.out]; simpa [nums] using HN2.out.2.2⟩⟩
   case measure => simp [intOf]; omega
  ·obtain rfl : k = N := by omega
   have hltz : ¬ (k : Int) < (k : Int) := by omega
   have hlen : (allRTo x k).length = k := by simp [allRTo]
   obtain ⟨A', c', e5, _, g5⟩ := own_C (Kd.int .i64) (.int .i64) rfl (fun _ _ => rfl) (xs := allRTo x k) rfl (by simp [nums, hlen]) H6.out.2.2
   subst e5
   rw [hlen] at g5
   have HE := Aside0.mk (And.intro g5 H6.out.1)
   have HL := Lib.hid hlen
   clear g5 hlen
   go_wp2
   refine bodyPost_ret (results_tmp rfl _ _ _) rfl ?_
   unfold LiPost
   rw [HTX.out, HL.out]
   exact ⟨A', c', rfl, HE.out.1, HE.out.2⟩
theorem rFirst_calls (x : S38) (cs : List Value) (A : Option Addr) (c : Nat) (L : List Int) (w : World) (hx : k38.K w x cs) (hL : Kd.C (Kd.int .i64) w A L.length L) (h5 : x.f9.length ≤ 5) : Calls Try.prog 40 #[.agg cs.toArray, .slice A L.length c] w fun e w' => e = .returned (.int .i64 (firstR L x.f9.length)) ∧ Below w.heap.size w w' := by
 obtain ⟨A5, c5, A6, c6, A9, c9, A10, c10, rfl, _⟩ := k38_open hx
 clear hx
 have hu := Try.underlying28
 have HL := Aside0.mk hL
 clear hL
 have ZB := Aside0.mk (And.intro (below_alloc (Below.refl w.heap.size w) (.cells #[.int .i64 x.f0, .int .i64 x.f1, .int .i64 x.f2, .int .i64 x.f3, .int .i64 x.f4, .slice A5 x.f5.length c5, .slice A6 x.f6.length c6, .int .i64 x.f7.f0, .int .i64 x.f7.f1, .slice A9 x.f8.length c9, .slice A10 x.f9.length c10] 28)) (Blk.new w #[.int .i64 x.f0, .int .i64 x.f1, .int .i64 x.f2, .int .i64 x.f3, .int .i64 x.f4, .slice A5 x.f5.length c5, .slice A6 x.f6.length c6, .int .i64 x.f7.f0, .int .i64 x.f7.f1, .slice A9 x.f8.length c9, .slice A10 x.f9.length c10] 28 _ rfl))
 go_enter Try.func40, Try.ntmps40
 go_wp2
 go_loopw [5] (fun s5 wr => ∃ k : Nat, k ≤ x.f9.length ∧ s5 = .int .i64 k ∧ Aside0 ((Below w.heap.size w wr ∧ Blk wr w.heap.size #[.int .i64 x.f0, .int .i64 x.f1, .int .i64 x.f2, .int .i64 x.f3, .int .i64 x.f4, .slice A5 x.f5.length c5, .slice A6 x.f6.length c6, .int .i64 x.f7.f0, .int .i64 x.f7.f1, .slice A9 x.f8.length c9, .slice A10 x.f9.length c10] 28) ∧ ∀ j, j < k → canB L (2 ^ (j + 1) - 1) = true)) (fun s5 _ => x.f9.length - (intOf s5).toNat)
 case atStart => exact ⟨0, Nat.zero_le _, rfl, ⟨⟨ZB.out.1, ZB.out.2⟩, fun j hj => absurd hj (Nat.not_lt_zero j)⟩⟩
 case round =>
  obtain ⟨k, hk, rfl, HW⟩ := hrel
  have k10 := HW.out.1.2.cell 10 _ rfl
  by_cases hlt : k < x.f9.length
  ·have hltz : (k : Int) < (x.f9.length : Int) := by omega
   have hcan := fun W (hb : Below w.heap.size w W) => rCan_calls A c L (2 ^ (k + 1) - 1) W (Kd.C_below HL.out hb)
   have HCN := Aside0.mk hcan
   cases hq : canB L (2 ^ (k + 1) - 1) with
   | true =>
    rw [hq] at hcan
    have HN := Aside0.mk (show ∀ j, j < k + 1 → canB L (2 ^ (j + 1) - 1) = true from fun j hj => by
     by_cases e : j = k
     ·rw [e]; exact hq
     ·exact HW.out.2 j (by omega))
    have HCN := Aside0.mk hcan
    clear hcan hq
    have hk5 : k = 0 ∨ k = 1 ∨ k = 2 ∨ k = 3 ∨ k = 4 := by omega
    rcases hk5 with rfl | rfl | rfl | rfl | rfl
    all_goals
     go_wp2_with fail
     refine (HCN.out _ HW.out.1.1).mono ?_
     rintro e w3 ⟨rfl, rfl⟩
     go_wp2
     go_roundw
     case rel => exact ⟨_, hlt, by go_num, ⟨HW.out.1, HN.out⟩⟩
     case measure => simp [intOf]; omega
   | false =>
    rw [hq] at hcan
    have HF := Lib.hid (show firstR L x.f9.length = (k : Int) from by
     unfold firstR
     rw [List.find?_range_eq_some.2 ⟨by simp [hq], List.mem_range.2 hlt, fun j hj => by simp [HW.out.2 j hj]⟩])
    have HCN := Aside0.mk hcan
    clear hcan hq
    have hk5 : k = 0 ∨ k = 1 ∨ k = 2 ∨ k = 3 ∨ k = 4 := by omega
    rcases hk5 with rfl | rfl | rfl | rfl | rfl
    all_goals
     go_wp2_with fail
     refine (HCN.out _ HW.out.1.1).mono ?_
     rintro e w3 ⟨rfl, rfl⟩
     go_wp2
     go_ret
     exact ⟨by rw [HF.out]; rfl, HW.out.1.1⟩
  ·have hltz : ¬ (k : Int) < (x.f9.length : Int) := by omega
   have HF := Lib.hid (show firstR L x.f9.length = -1 from by
    unfold firstR
    rw [List.find?_eq_none.2 fun j hj => by simp [HW.out.2 j (by have := List.mem_range.1 hj; omega)]])
   go_wp2
   go_ret
   exact ⟨by rw [HF.out]; rfl, HW.out.1.1⟩
/-- The state of Leave's loop. -/
structure LvSt (w : World) (B : Array Value) (l : List Int) (v : Value) (W : World) : Prop where
 bel : Below w.heap.size w W
 box : Blk W w.heap.size B 28
 row : ∃ A c, v = .slice A l.length c ∧ Kd.C (Kd.int .i64) W A l.length l
theorem LvSt.below {w : World} {B : Array Value} {l : List Int} {v : Value} {W V : World} (h : LvSt w B l v W) (hb : Below W.heap.size W V) : LvSt w B l v V :=
 ⟨bel2 h.bel hb, h.box.below hb, by obtain ⟨A, c, e, g⟩ := h.row; exact ⟨A, c, e, Kd.C_below g hb⟩⟩
theorem rLeave_calls (x : S38) (cs : List Value) (A : Option Addr) (c : Nat) (L : List Int) (w : World) (hx : k38.K w x cs) (hL : Kd.C (Kd.int .i64) w A L.length L) (h5 : x.f9.length ≤ 5) : Calls Try.prog 39 #[.agg cs.toArray, .slice A L.length c] w (LiPost (leaveR (fun b => canB L (maskB x.f9.length b)) x.f9.length (2 ^ x.f9.length)) w) := by
 have hp2 := pow5 h5
 have hp0 := Nat.two_pow_pos x.f9.length
 obtain ⟨F, hF⟩ : ∃ F : Nat, 2 ^ x.f9.length = F + 1 := ⟨2 ^ x.f9.length - 1, by omega⟩
 have hFz : (2 : Int) ^ x.f9.length - 1 = (F : Int) := by
  have h1 : (2 : Int) ^ x.f9.length = ((2 ^ x.f9.length : Nat) : Int) := by simp
  rw [h1, hF]
  omega
 have HFU := Aside0.mk (fun V (hb : Below w.heap.size w V) => (rFull_calls x cs V (k38.K_below hb hx) h5).mono fun e w' h => (⟨h.1.trans (by rw [hFz]), h.2⟩ : e = .returned (.int .i64 (F : Int)) ∧ Below V.heap.size V w'))
 obtain ⟨A5, c5, A6, c6, A9, c9, A10, c10, rfl, _⟩ := k38_open hx
 clear hx
 have hu := Try.underlying28
 have HCN := Aside0.mk (fun W (hb : Below w.heap.size w W) r => rCan_calls A c L r W (Kd.C_below hL hb))
 clear hL
 have HMS := Aside0.mk (show ∀ b, maskB x.f9.length b = Go.bits .andNot .i64 (F : Int) b from fun b => by rw [← hFz]; rfl)
 obtain ⟨p, hp⟩ : ∃ p : Nat → Bool, p = fun b => canB L (maskB x.f9.length b) := ⟨_, rfl⟩
 rw [← hp]
 have HPB := Aside0.mk (show ∀ b : Nat, p b = canB L (Go.bits .andNot .i64 (F : Int) b) from fun b => by rw [← HMS.out]; exact congrFun hp b)
 clear hp HMS
 have hlv0 : ∀ k, leaveR p x.f9.length (k + 1) = if (shorterL (bitsL k) (leaveR p x.f9.length k) && p k) = true then bitsL k else leaveR p x.f9.length k := fun k => rfl
 have hl0 : leaveR p x.f9.length 0 = bitsL (2 ^ x.f9.length - 1) := rfl
 rw [hF] at hl0 hp2 ⊢
 rw [show F + 1 - 1 = F from rfl] at hl0
 generalize leaveR p x.f9.length = lr at *
 have HLV := Aside0.mk hlv0
 have HL0 := Lib.hid hl0
 clear hlv0 hl0 hp0 hFz hF
 have ZB := Aside0.mk (And.intro (below_alloc (Below.refl w.heap.size w) (.cells #[.int .i64 x.f0, .int .i64 x.f1, .int .i64 x.f2, .int .i64 x.f3, .int .i64 x.f4, .slice A5 x.f5.length c5, .slice A6 x.f6.length c6, .int .i64 x.f7.f0, .int .i64 x.f7.f1, .slice A9 x.f8.length c9, .slice A10 x.f9.length c10] 28)) (Blk.new w #[.int .i64 x.f0, .int .i64 x.f1, .int .i64 x.f2, .int .i64 x.f3, .int .i64 x.f4, .slice A5 x.f5.length c5, .slice A6 x.f6.length c6, .int .i64 x.f7.f0, .int .i64 x.f7.f1, .slice A9 x.f8.length c9, .slice A10 x.f9.length c10] 28 _ rfl))
 go_enter Try.func39, Try.ntmps39
 have k0 := ZB.out.2.cell 0 _ rfl
 have k1 := ZB.out.2.cell 1 _ rfl
 have k2 := ZB.out.2.cell 2 _ rfl
 have k3 := ZB.out.2.cell 3 _ rfl
 have k4 := ZB.out.2.cell 4 _ rfl
 have k5 := ZB.out.2.cell 5 _ rfl
 have k6 := ZB.out.2.cell 6 _ rfl
 have k7 := ZB.out.2.cell 7 _ rfl
 have k8 := ZB.out.2.cell 8 _ rfl
 have k9 := ZB.out.2.cell 9 _ rfl
 have k10 := ZB.out.2.cell 10 _ rfl
 go_wp2_with fail
 refine (HFU.out _ ZB.out.1).mono ?_
 rintro e w1 ⟨rfl, hb⟩
 have H1 := Aside0.mk (And.intro (bel2 ZB.out.1 hb) (ZB.out.2.below hb))
 clear hb k0 k1 k2 k3 k4 k5 k6 k7 k8 k9 k10
 go_wp2_with fail
 refine (rBits_calls F (by omega) _).mono ?_
 rintro e w2 ⟨D, d, rfl, hC, hb⟩
 have H2 := Aside0.mk (LvSt.mk (w := w) (B := #[.int .i64 x.f0, .int .i64 x.f1, .int .i64 x.f2, .int .i64 x.f3, .int .i64 x.f4, .slice A5 x.f5.length c5, .slice A6 x.f6.length c6, .int .i64 x.f7.f0, .int .i64 x.f7.f1, .slice A9 x.f8.length c9, .slice A10 x.f9.length c10]) (l := lr 0) (v := .slice D (bitsL F).length d) (bel2 H1.out.1 hb) (H1.out.2.below hb) ⟨D, d, by rw [HL0.out], by rw [HL0.out]; exact hC⟩)
 clear hb hC H1
 go_wp2
 go_loopw [5, 6] (fun s5 s6 wr => ∃ k : Nat, k ≤ F + 1 ∧ s6 = .int .i64 k ∧ Aside0 (LvSt w #[.int .i64 x.f0, .int .i64 x.f1, .int .i64 x.f2, .int .i64 x.f3, .int .i64 x.f4, .slice A5 x.f5.length c5, .slice A6 x.f6.length c6, .int .i64 x.f7.f0, .int .i64 x.f7.f1, .slice A9 x.f8.length c9, .slice A10 x.f9.length c10] (lr k) s5 wr)) (fun _ s6 _ => F + 1 - (intOf s6).toNat)
 case atStart => exact ⟨0, Nat.zero_le _, rfl, H2⟩
 case round =>
  obtain ⟨k, hk, rfl, HW⟩ := hrel
  clear H2
  have k0 := HW.out.box.cell 0 _ rfl
  have k1 := HW.out.box.cell 1 _ rfl
  have k2 := HW.out.box.cell 2 _ rfl
  have k3 := HW.out.box.cell 3 _ rfl
  have k4 := HW.out.box.cell 4 _ rfl
  have k5 := HW.out.box.cell 5 _ rfl
  have k6 := HW.out.box.cell 6 _ rfl
  have k7 := HW.out.box.cell 7 _ rfl
  have k8 := HW.out.box.cell 8 _ rfl
  have k9 := HW.out.box.cell 9 _ rfl
  have k10 := HW.out.box.cell 10 _ rfl
  go_wp2_with fail
  refine (HFU.out _ HW.out.bel).mono ?_
  rintro e w3 ⟨rfl, hb⟩
  have H3 := Aside0.mk (HW.out.below hb)
  clear hb HW k0 k1 k2 k3 k4 k5 k6 k7 k8 k9 k10
  by_cases hlt : k < F + 1
  ·have hltz : (k : Int) ≤ (F : Int) := by omega
   obtain ⟨D1, d1, rfl, hC1⟩ := H3.out.row
   have HC1 := Aside0.mk hC1
   clear hC1
   have hlv := HLV.out k
   go_wp2_with fail
   refine (rBits_calls k (by omega) _).mono ?_
   rintro e w4 ⟨D2, d2, rfl, hC2, hb⟩
   have H4 := Aside0.mk (And.intro (H3.out.below hb) (And.intro (Kd.C_below HC1.out hb) hC2))
   have hsh := rShorter_calls D2 D1 d2 d1 _ _ w4 H4.out.2.2 H4.out.2.1
   clear hb hC2 HC1 H3
   cases hq : shorterL (bitsL k) (lr k) with
   | false =>
    rw [hq] at hsh
    rw [hq, Bool.false_and, if_neg (by decide)] at hlv
    have HE := Lib.hid hlv
    clear hq hlv
    go_wp2_with fail
    refine hsh.mono ?_
    rintro e w5 ⟨rfl, hb⟩
    have H5 := Aside0.mk (H4.out.1.below hb)
    clear hb hsh
    go_wp2
    go_roundw
    case rel => exact ⟨k + 1, by omega, by go_num, ⟨by rw [HE.out]; exact H5.out⟩⟩
    case measure => simp [intOf]; omega
   | true =>
    rw [hq] at hsh
    rw [hq, Bool.true_and] at hlv
    have hcn := fun W (hb : Below w.heap.size w W) => HCN.out W hb (Go.bits .andNot .i64 (F : Int) k)
    rw [← HPB.out k] at hcn
    cases hr : p k with
    | false =>
     rw [hr] at hcn
     rw [hr, if_neg (by decide)] at hlv
     have HE := Lib.hid hlv
     clear hq hlv hr
     go_wp2_with fail
     refine hsh.mono ?_
     rintro e w5 ⟨rfl, hb⟩
     have H5 := Aside0.mk (H4.out.1.below hb)
     clear hb hsh
     have k0 := H5.out.box.cell 0 _ rfl
     have k1 := H5.out.box.cell 1 _ rfl
     have k2 := H5.out.box.cell 2 _ rfl
     have k3 := H5.out.box.cell 3 _ rfl
     have k4 := H5.out.box.cell 4 _ rfl
     have k5 := H5.out.box.cell 5 _ rfl
     have k6 := H5.out.box.cell 6 _ rfl
     have k7 := H5.out.box.cell 7 _ rfl
     have k8 := H5.out.box.cell 8 _ rfl
     have k9 := H5.out.box.cell 9 _ rfl
     have k10 := H5.out.box.cell 10 _ rfl
     go_wp2_with fail
     refine (HFU.out _ H5.out.bel).mono ?_
     rintro e w6 ⟨rfl, hb⟩
     have H6 := Aside0.mk (H5.out.below hb)
     clear hb k0 k1 k2 k3 k4 k5 k6 k7 k8 k9 k10
     go_wp2_with fail
     refine (hcn _ H6.out.bel).mono ?_
     rintro e w7 ⟨rfl, rfl⟩
     go_wp2
     go_roundw
     case rel => exact ⟨k + 1, by omega, by go_num, ⟨by rw [HE.out]; exact H6.out⟩⟩
     case measure => simp [intOf]; omega
    | true =>
     rw [hr] at hcn
     rw [hr, if_pos rfl] at hlv
     have HE := Lib.hid hlv
     clear hq hlv hr
     go_wp2_with fail
     refine hsh.mono ?_
     rintro e w5 ⟨rfl, hb⟩
     have H5 := Aside0.mk (And.intro (H4.out.1.below hb) (Kd.C_below H4.out.2.2 hb))
     clear hb hsh
     have k0 := H5.out.1.box.cell 0 _ rfl
     have k1 := H5.out.1.box.cell 1 _ rfl
     have k2 := H5.out.1.box.cell 2 _ rfl
     have k3 := H5.out.1.box.cell 3 _ rfl
     have k4 := H5.out.1.box.cell 4 _ rfl
     have k5 := H5.out.1.box.cell 5 _ rfl
     have k6 := H5.out.1.box.cell 6 _ rfl
     have k7 := H5.out.1.box.cell 7 _ rfl
     have k8 := H5.out.1.box.cell 8 _ rfl
     have k9 := H5.out.1.box.cell 9 _ rfl
     have k10 := H5.out.1.box.cell 10 _ rfl
     go_wp2_with fail
     refine (HFU.out _ H5.out.1.bel).mono ?_
     rintro e w6 ⟨rfl, hb⟩
     have H6 := Aside0.mk (And.intro (H5.out.1.below hb) (Kd.C_below H5.out.2 hb))
     clear hb k0 k1 k2 k3 k4 k5 k6 k7 k8 k9 k10
     go_wp2_with fail
     refine (hcn _ H6.out.1.bel).mono ?_
     rintro e w7 ⟨rfl, rfl⟩
     go_wp2
     go_roundw
     case rel => exact ⟨k + 1, by omega, by go_num, ⟨⟨H6.out.1.bel, H6.out.1.box, D2, d2, by rw [HE.out], by rw [HE.out]; exact H6.out.2⟩⟩⟩
     case measure => simp [intOf]; omega
  ·obtain rfl : k = F + 1 := by omega
   have hltz : ¬ ((F + 1 : Nat) : Int) ≤ (F : Int) := by omega
   obtain ⟨D1, d1, rfl, hC1⟩ := H3.out.row
   have HE := Aside0.mk (And.intro hC1 H3.out.bel)
   clear hC1
   go_wp2
   refine bodyPost_ret (results_tmp rfl _ _ _) rfl ?_
   exact ⟨D1, d1, rfl, HE.out.1, HE.out.2⟩
end Go.Proofs.Ytdgkhoflajdidaa
/- What a law keeps. -/
namespace Go.Proofs.Ytdgkhoflajdidaa
open Go.RowKit Go.Proofs.YtdgkhoflajdidaaW.PrintWords Go.Proofs.YtdgkhoflajdidaaW.PrintMore Go.Proofs.YtdgkhoflajdidaaW.PrintLast Go.Proofs.Ytdgkhoflajdidaa.Print
/-- What a law keeps: the box of the coppers, and what was returned. -/
structure LwSt (w : World) (B : Array Value) (P : World → Prop) (W : World) : Prop where
 bel : Below w.heap.size w W
 box : Blk W w.heap.size B 28
 rows : P W
theorem LwSt.step {w : World} {B : Array Value} {P : World → Prop} {W V : World} (h : LwSt w B P W) (hP : ∀ W V, P W → Below W.heap.size W V → P V) (hb : Below W.heap.size W V) : LwSt w B P V :=
 ⟨bel2 h.bel hb, h.box.below hb, hP _ _ h.rows hb⟩
end Go.Proofs.Ytdgkhoflajdidaa
/- CopperLeaves: the walk. -/
namespace Go.Proofs.Ytdgkhoflajdidaa
open Go.RowKit Go.Proofs.YtdgkhoflajdidaaW.PrintWords Go.Proofs.YtdgkhoflajdidaaW.PrintMore Go.Proofs.YtdgkhoflajdidaaW.PrintLast Go.Proofs.Ytdgkhoflajdidaa.Print
set_option linter.unusedVariables false
set_option linter.unusedSimpArgs false
set_option maxRecDepth 100000
set_option maxHeartbeats 4000000
theorem leaves_awake (x : S38) (cs : List Value) (w : World) (hx : k38.K w x cs) (h : thinB x = false) : Calls Try.prog 5 #[.agg cs.toArray] w fun e w' => e = .returned (.bool true) ∧ Below w.heap.size w w' := by
 have hthin := fun W (hW : Below w.heap.size w W) => thin_calls x cs W (k38.K_below hW hx)
 obtain ⟨A5, c5, A6, c6, A9, c9, A10, c10, rfl, _⟩ := k38_open hx
 clear hx
 have hu := Try.underlying28
 have ZB := Aside0.mk (below_alloc (Below.refl w.heap.size w) (.cells #[.int .i64 x.f0, .int .i64 x.f1, .int .i64 x.f2, .int .i64 x.f3, .int .i64 x.f4, .slice A5 x.f5.length c5, .slice A6 x.f6.length c6, .int .i64 x.f7.f0, .int .i64 x.f7.f1, .slice A9 x.f8.length c9, .slice A10 x.f9.length c10] 28))
 have hth := hthin _ ZB.out
 rw [h] at hth
 clear hthin h
 go_enter Try.func5, Try.ntmps5
 go_wp2_with fail
 refine hth.mono ?_
 rintro e w1 ⟨rfl, hb⟩
 have HB := Aside0.mk (bel2 ZB.out hb)
 clear hb hth
 go_wp2_with fail
 refine (awake_calls _).mono ?_
 rintro e w2 ⟨rfl, hb⟩
 have HB2 := Aside0.mk (bel2 HB.out hb)
 clear hb
 go_wp2
 go_ret
 exact ⟨rfl, HB2.out⟩
theorem leaves_main (x : S38) (cs : List Value) (w : World) (hx : k38.K w x cs) (h1 : thinB x = true) : Calls Try.prog 5 #[.agg cs.toArray] w fun e w' => e = .returned (.bool true) ∧ Below w.heap.size w w' := by
 have hthin := fun W (hW : Below w.heap.size w W) => thin_calls x cs W (k38.K_below hW hx)
 rw [h1] at hthin
 have HCP := Aside0.mk (fun W (hW : Below w.heap.size w W) => copper_calls x cs W (k38.K_below hW hx) h1)
 have HFA := Aside0.mk (fun W (hW : Below w.heap.size w W) => lfault_calls x cs W (k38.K_below hW hx))
 have hfi := fun W ds (hd : k38.K W x ds) => first_calls x ds W hd
 have hlv := fun W ds (hd : k38.K W x ds) => leave_calls x ds W hd
 have HX := Aside0.mk hx
 have HAL := Aside0.mk (fun (hV : Valid x) W (hW : Below w.heap.size w W) => rAll_calls x cs W (k38.K_below hW hx) hV)
 have HRF := Aside0.mk (fun (hV : Valid x) W (hW : Below w.heap.size w W) A c (hL : Kd.C (Kd.int .i64) W A (allR x).length (allR x)) => rFirst_calls x cs A c (allR x) W (k38.K_below hW hx) hL hV.rdN)
 have HRL := Aside0.mk (fun (hV : Valid x) W (hW : Below w.heap.size w W) A c (hL : Kd.C (Kd.int .i64) W A (allR x).length (allR x)) => rLeave_calls x cs A c (allR x) W (k38.K_below hW hx) hL hV.rdN)
 obtain ⟨A5, c5, A6, c6, A9, c9, A10, c10, rfl, _⟩ := k38_open hx
 clear hx h1
 have hu := Try.underlying28
 have ZB := Aside0.mk (And.intro (below_alloc (Below.refl w.heap.size w) (.cells #[.int .i64 x.f0, .int .i64 x.f1, .int .i64 x.f2, .int .i64 x.f3, .int .i64 x.f4, .slice A5 x.f5.length c5, .slice A6 x.f6.length c6, .int .i64 x.f7.f0, .int .i64 x.f7.f1, .slice A9 x.f8.length c9, .slice A10 x.f9.length c10] 28)) (Blk.new w #[.int .i64 x.f0, .int .i64 x.f1, .int .i64 x.f2, .int .i64 x.f3, .int .i64 x.f4, .slice A5 x.f5.length c5, .slice A6 x.f6.length c6, .int .i64 x.f7.f0, .int .i64 x.f7.f1, .slice A9 x.f8.length c9, .slice A10 x.f9.length c10] 28 _ rfl))
 have hth := hthin _ ZB.out.1
 clear hthin
 obtain ⟨fn, hfn⟩ : ∃ l, (firstF x).1 = l := ⟨_, rfl⟩
 obtain ⟨fe, hfe⟩ : ∃ l, (firstF x).2 = l := ⟨_, rfl⟩
 obtain ⟨ll, hll⟩ : ∃ l, (leaveF x).1 = l := ⟨_, rfl⟩
 obtain ⟨le, hle⟩ : ∃ l, (leaveF x).2 = l := ⟨_, rfl⟩
 obtain ⟨ec, hec⟩ : ∃ l, faultC x = l := ⟨_, rfl⟩
 rw [hfn, hfe] at hfi
 rw [hll, hle] at hlv
 rw [hec] at HFA
 have HFI := Aside0.mk hfi
 have HLV := Aside0.mk hlv
 have HEQ := Lib.hid (And.intro hfn (And.intro hfe (And.intro hll (And.intro hle hec))))
 clear hfi hlv hfn hfe hll hle hec
 go_enter Try.func5, Try.ntmps5
 go_wp2_with fail
 refine hth.mono ?_
 rintro e w1 ⟨rfl, hb⟩
 have H1 := Aside0.mk (And.intro (bel2 ZB.out.1 hb) (ZB.out.2.below hb))
 clear hb hth ZB
 have k0 := H1.out.2.cell 0 _ rfl
 have k1 := H1.out.2.cell 1 _ rfl
 have k2 := H1.out.2.cell 2 _ rfl
 have k3 := H1.out.2.cell 3 _ rfl
 have k4 := H1.out.2.cell 4 _ rfl
 have k5 := H1.out.2.cell 5 _ rfl
 have k6 := H1.out.2.cell 6 _ rfl
 have k7 := H1.out.2.cell 7 _ rfl
 have k8 := H1.out.2.cell 8 _ rfl
 have k9 := H1.out.2.cell 9 _ rfl
 have k10 := H1.out.2.cell 10 _ rfl
 go_wp2_with fail
 refine (HCP.out _ H1.out.1).mono ?_
 rintro e w2 ⟨ds, rfl, hb, hkd⟩
 have H2 := Aside0.mk (And.intro (bel2 H1.out.1 hb) (H1.out.2.below hb))
 clear hb H1 k0 k1 k2 k3 k4 k5 k6 k7 k8 k9 k10
 go_wp2_with fail
 refine (HFI.out _ ds hkd).mono ?_
 rintro e w3 ⟨rfl, hb⟩
 have H3 := Aside0.mk (And.intro (bel2 H2.out.1 hb) (H2.out.2.below hb))
 clear hb H2 hkd HFI
 have k0 := H3.out.2.cell 0 _ rfl
 have k1 := H3.out.2.cell 1 _ rfl
 have k2 := H3.out.2.cell 2 _ rfl
 have k3 := H3.out.2.cell 3 _ rfl
 have k4 := H3.out.2.cell 4 _ rfl
 have k5 := H3.out.2.cell 5 _ rfl
 have k6 := H3.out.2.cell 6 _ rfl
 have k7 := H3.out.2.cell 7 _ rfl
 have k8 := H3.out.2.cell 8 _ rfl
 have k9 := H3.out.2.cell 9 _ rfl
 have k10 := H3.out.2.cell 10 _ rfl
 go_wp2_with fail
 refine (HCP.out _ H3.out.1).mono ?_
 rintro e w4 ⟨es, rfl, hb, hkd⟩
 have H4 := Aside0.mk (And.intro (bel2 H3.out.1 hb) (H3.out.2.below hb))
 clear hb H3 k0 k1 k2 k3 k4 k5 k6 k7 k8 k9 k10
 go_wp2_with fail
 refine (HLV.out _ es hkd).mono ?_
 rintro e w5 ⟨Al, cl, rfl, hcl, hb⟩
 have HP := Aside0.mk (fun W V (h : Kd.C (Kd.int .i64) W Al ll.length ll) (hb : Below W.heap.size W V) => Kd.C_below h hb)
 have H5 := Aside0.mk (LwSt.mk (w := w) (B := #[.int .i64 x.f0, .int .i64 x.f1, .int .i64 x.f2, .int .i64 x.f3, .int .i64 x.f4, .slice A5 x.f5.length c5, .slice A6 x.f6.length c6, .int .i64 x.f7.f0, .int .i64 x.f7.f1, .slice A9 x.f8.length c9, .slice A10 x.f9.length c10]) (P := fun W => Kd.C (Kd.int .i64) W Al ll.length ll) (bel2 H4.out.1 hb) (H4.out.2.below hb) hcl)
 clear hb H4 hkd HLV hcl
 have k0 := H5.out.box.cell 0 _ rfl
 have k1 := H5.out.box.cell 1 _ rfl
 have k2 := H5.out.box.cell 2 _ rfl
 have k3 := H5.out.box.cell 3 _ rfl
 have k4 := H5.out.box.cell 4 _ rfl
 have k5 := H5.out.box.cell 5 _ rfl
 have k6 := H5.out.box.cell 6 _ rfl
 have k7 := H5.out.box.cell 7 _ rfl
 have k8 := H5.out.box.cell 8 _ rfl
 have k9 := H5.out.box.cell 9 _ rfl
 have k10 := H5.out.box.cell 10 _ rfl
 go_wp2_with fail
 refine (HFA.out _ H5.out.bel).mono ?_
 rintro e w6 ⟨rfl, hb⟩
 have H6 := Aside0.mk (H5.out.step HP.out hb)
 clear hb H5 HFA k0 k1 k2 k3 k4 k5 k6 k7 k8 k9 k10
 by_cases hE : ec = 0
 ·have hV := (valid_iff x).1 (HEQ.out.2.2.2.2.trans hE)
  have HV := Aside0.mk hV
  have hf := firstF_ref hV
  have hl := leaveF_ref hV
  subst hE
  obtain rfl : le = 0 := by rw [← HEQ.out.2.2.2.1, hl]
  have e1 : leaveR (fun b => canB (allR x) (maskB x.f9.length b)) x.f9.length (2 ^ x.f9.length) = ll := by rw [← HEQ.out.2.2.1, hl]
  have hrl := HRL.out hV
  rw [e1] at hrl
  have HRL2 := Aside0.mk hrl
  clear hl e1 hV hrl
  have k0 := H6.out.box.cell 0 _ rfl
  have k1 := H6.out.box.cell 1 _ rfl
  have k2 := H6.out.box.cell 2 _ rfl
  have k3 := H6.out.box.cell 3 _ rfl
  have k4 := H6.out.box.cell 4 _ rfl
  have k5 := H6.out.box.cell 5 _ rfl
  have k6 := H6.out.box.cell 6 _ rfl
  have k7 := H6.out.box.cell 7 _ rfl
  have k8 := H6.out.box.cell 8 _ rfl
  have k9 := H6.out.box.cell 9 _ rfl
  have k10 := H6.out.box.cell 10 _ rfl
  go_wp2_with fail
  refine (HAL.out HV.out _ H6.out.bel).mono ?_
  rintro e w7 ⟨Aa, ca, rfl, hca, hb⟩
  have H7 := Aside0.mk (And.intro (H6.out.step HP.out hb) hca)
  clear hb H6 hca k0 k1 k2 k3 k4 k5 k6 k7 k8 k9 k10
  have k0 := H7.out.1.box.cell 0 _ rfl
  have k1 := H7.out.1.box.cell 1 _ rfl
  have k2 := H7.out.1.box.cell 2 _ rfl
  have k3 := H7.out.1.box.cell 3 _ rfl
  have k4 := H7.out.1.box.cell 4 _ rfl
  have k5 := H7.out.1.box.cell 5 _ rfl
  have k6 := H7.out.1.box.cell 6 _ rfl
  have k7 := H7.out.1.box.cell 7 _ rfl
  have k8 := H7.out.1.box.cell 8 _ rfl
  have k9 := H7.out.1.box.cell 9 _ rfl
  have k10 := H7.out.1.box.cell 10 _ rfl
  go_wp2_with fail
  refine (HRL2.out _ H7.out.1.bel Aa ca H7.out.2).mono ?_
  rintro e w8 ⟨Ab, cb, rfl, hcb, hb⟩
  have H8 := Aside0.mk (And.intro (H7.out.1.step HP.out hb) (Kd.C_below H7.out.2 hb))
  clear hb H7 k0 k1 k2 k3 k4 k5 k6 k7 k8 k9 k10
  go_wp2_with fail
  refine (same_calls Al Ab cl cb ll ll w8 H8.out.1.rows hcb).mono ?_
  rintro e w9 ⟨rfl, hb⟩
  rw [decide_eq_true (show ll = ll from rfl)]
  have H9 := Aside0.mk (And.intro (H8.out.1.step HP.out hb) (Kd.C_below H8.out.2 hb))
  clear hb H8 hcb
  have k0 := H9.out.1.box.cell 0 _ rfl
  have k1 := H9.out.1.box.cell 1 _ rfl
  have k2 := H9.out.1.box.cell 2 _ rfl
  have k3 := H9.out.1.box.cell 3 _ rfl
  have k4 := H9.out.1.box.cell 4 _ rfl
  have k5 := H9.out.1.box.cell 5 _ rfl
  have k6 := H9.out.1.box.cell 6 _ rfl
  have k7 := H9.out.1.box.cell 7 _ rfl
  have k8 := H9.out.1.box.cell 8 _ rfl
  have k9 := H9.out.1.box.cell 9 _ rfl
  have k10 := H9.out.1.box.cell 10 _ rfl
  have hrf := HRF.out HV.out _ H9.out.1.bel Aa ca H9.out.2
  by_cases hneg : firstR (allR x) x.f9.length < 0
  ·rw [if_pos hneg] at hf
   obtain rfl : fn = 0 := by rw [← HEQ.out.1, hf]
   obtain rfl : fe = 7 := by rw [← HEQ.out.2.1, hf]
   clear hf
   generalize firstR (allR x) x.f9.length = fr at *
   go_wp2_with fail
   refine hrf.mono ?_
   rintro e w10 ⟨rfl, hb⟩
   have H10 := Aside0.mk (bel2 H9.out.1.bel hb)
   clear hb hrf k0 k1 k2 k3 k4 k5 k6 k7 k8 k9 k10
   go_wp2_with fail
   refine (awake_calls _).mono ?_
   rintro e w11 ⟨rfl, hb⟩
   have H11 := Aside0.mk (bel2 H10.out hb)
   clear hb
   go_wp2
   go_ret
   exact ⟨rfl, H11.out⟩
  ·rw [if_neg hneg] at hf
   obtain e2 : firstR (allR x) x.f9.length = fn := by rw [← HEQ.out.1, hf]
   obtain rfl : fe = 0 := by rw [← HEQ.out.2.1, hf]
   clear hf
   rw [e2] at hrf hneg
   clear e2
   go_wp2_with fail
   refine hrf.mono ?_
   rintro e w10 ⟨rfl, hb⟩
   have H10 := Aside0.mk (bel2 H9.out.1.bel hb)
   clear hb hrf k0 k1 k2 k3 k4 k5 k6 k7 k8 k9 k10
   go_wp2_with fail
   refine (awake_calls _).mono ?_
   rintro e w11 ⟨rfl, hb⟩
   have H11 := Aside0.mk (bel2 H10.out hb)
   clear hb
   go_wp2
   go_ret
   exact ⟨rfl, H11.out⟩
 ·have hf := firstF_bad (x := x) (by rw [HEQ.out.2.2.2.2]; exact hE)
  have hl := leaveF_bad (x := x) (by rw [HEQ.out.2.2.2.2]; exact hE)
  obtain rfl : fn = 0 := by rw [← HEQ.out.1, hf]
  obtain rfl : ll = [] := by rw [← HEQ.out.2.2.1, hl]
  obtain rfl : fe = ec := by rw [← HEQ.out.2.1, hf]; exact HEQ.out.2.2.2.2
  obtain rfl : le = fe := by rw [← HEQ.out.2.2.2.1, hl]; exact HEQ.out.2.2.2.2
  have hE2 : (le == 0) = false := by simpa using hE
  have hl0 : (([] : List Int).length : Int) = 0 := rfl
  clear hf hl
  go_wp2_with fail
  refine (awake_calls _).mono ?_
  rintro e w14 ⟨rfl, hb⟩
  have H9 := Aside0.mk (bel2 H6.out.bel hb)
  clear hb
  go_wp2
  go_ret
  exact ⟨rfl, H9.out⟩
theorem leaves_law (x : S38) (cs : List Value) (w : World) (hx : k38.K w x cs) : Calls Try.prog 5 #[.agg cs.toArray] w fun e w' => e = .returned (.bool true) ∧ Below w.heap.size w w' := by
 cases h : thinB x with
 | false => exact leaves_awake x cs w hx h
 | true => exact leaves_main x cs w hx h
end Go.Proofs.Ytdgkhoflajdidaa
