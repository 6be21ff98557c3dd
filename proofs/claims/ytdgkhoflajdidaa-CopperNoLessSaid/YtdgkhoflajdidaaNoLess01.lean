/- Lemmas for the law's proof: Oa, Pc, Sa, Pe, Sb, Wc, Xa, Va, Q0, Wd, We, Xb, Ub, Wa. -/
import Derived.Test.YtdgkhoflajdidaaCore16
import Derived.BigQuiet
import Derived.Test.YtdgkhoflajdidaaCore14
import Derived.Test.YtdgkhoflajdidaaCore10
import Derived.Test.YtdgkhoflajdidaaCore12
import Derived.Test.YtdgkhoflajdidaaCore07
import Derived.Test.YtdgkhoflajdidaaCore15
import Derived.Test.YtdgkhoflajdidaaCore11
/- Nth: the truth with a number. -/
namespace Go.Proofs.Ytdgkhoflajdidaa
open Go.RowKit Go.Proofs.YtdgkhoflajdidaaW.PrintWords Go.Proofs.YtdgkhoflajdidaaW.PrintMore Go.Proofs.YtdgkhoflajdidaaW.PrintLast Go.Proofs.Ytdgkhoflajdidaa.Print
set_option linter.unusedVariables false
set_option linter.unusedSimpArgs false
set_option maxRecDepth 100000
set_option maxHeartbeats 4000000
theorem tmod_nat (n s : Nat) : ((n : Int).tmod (s : Int)) = ((n % s : Nat) : Int) := by
 rw [Int.tmod_eq_emod_of_nonneg (by omega)]
 exact (Int.natCast_emod n s).symm
theorem tdiv_nat (n s : Nat) : ((n : Int).tdiv (s : Int)) = ((n / s : Nat) : Int) := by
 rw [Int.tdiv_eq_ediv_of_nonneg (by omega)]
 exact (Int.natCast_ediv n s).symm
/-- The state of Nth's loop. -/
structure NtSt (x : S38) (w : World) (B : Array Value) (p : Nat) (h : Int) (l : List Int) (v : Value) (W : World) : Prop where
 bel : Below w.heap.size w W
 box : Blk W w.heap.size B 28
 res : Blk W (w.heap.size + 1) #[.int .i64 0, .slice none 0 0] 66
 blk : Blk W p #[.int .i64 h, v] 66
 r : W.ownsRow w.heap.size 3 1 v l.length (nums .i64 l)
 hp : w.heap.size + 1 < p
variable {x : S38} {w W V : World} {B : Array Value} {p : Nat} {h : Int} {l : List Int} {v v' : Value}
theorem NtSt.below (s : NtSt x w B p h l v W) (hb : Below W.heap.size W V) : NtSt x w B p h l v V := ⟨bel2 s.bel hb, s.box.below hb, s.res.below hb, s.blk.below hb, own_bel s.r hb, s.hp⟩
end Go.Proofs.Ytdgkhoflajdidaa
/- sure: the error of coppers that have no truth, and all truths. -/
namespace Go.Proofs.Ytdgkhoflajdidaa
open Go.RowKit Go.Proofs.YtdgkhoflajdidaaW.PrintWords Go.Proofs.YtdgkhoflajdidaaW.PrintMore Go.Proofs.YtdgkhoflajdidaaW.PrintLast Go.Proofs.Ytdgkhoflajdidaa.Print
set_option linter.unusedVariables false
set_option linter.unusedSimpArgs false
set_option maxRecDepth 100000
set_option maxHeartbeats 4000000
theorem askE_t (x : S38) : askE x true = if faultC x = 0 then (if truthL x = [] then 11 else 0) else faultC x := by
 unfold askE
 by_cases h : faultC x = 0 <;> simp [h]
end Go.Proofs.Ytdgkhoflajdidaa
/- Keeps, Whole, Wholes of the reference: truths are counted. -/
namespace Go.Proofs.Ytdgkhoflajdidaa
open Go.RowKit Go.Proofs.YtdgkhoflajdidaaW.PrintWords Go.Proofs.YtdgkhoflajdidaaW.PrintMore Go.Proofs.YtdgkhoflajdidaaW.PrintLast Go.Proofs.Ytdgkhoflajdidaa.Print
set_option linter.unusedVariables false
set_option linter.unusedSimpArgs false
set_option maxRecDepth 100000
set_option maxHeartbeats 4000000
/-- What is handed to those that go through truths. -/
structure TrArgs (x : S38) (cs : List Value) (A C D : Option Addr) (L : List S75) (co wa : List Int) (w : World) : Prop where
 kx : k38.K w x cs
 kl : Kd.C k75 w A L.length L
 kc : Kd.C (Kd.int .i64) w C co.length co
 kw : Kd.C (Kd.int .i64) w D wa.length wa
 ok : ∀ t ∈ L, PlayOk x (toSc t) co wa ∧ (t.f1.length : Int) = x.f0 + 1
 len : L.length ≤ 3000
 l0 : 0 ≤ x.f0
 l1 : x.f0 ≤ 4
variable {x : S38} {cs ts : List Value} {A C D : Option Addr} {c d d' : Nat} {L : List S75} {t : S75} {co wa : List Int} {w V : World}
theorem TrArgs.below (h : TrArgs x cs A C D L co wa w) (hb : Below w.heap.size w V) : TrArgs x cs A C D L co wa V :=
 ⟨k38.K_below hb h.kx, Kd.C_below h.kl hb, Kd.C_below h.kc hb, Kd.C_below h.kw hb, h.ok, h.len, h.l0, h.l1⟩
def wholeR (x : S38) (s : Sc) (co wa : List Int) : Bool := (List.range (x.f0 + 1).toNat).all (keptAt x s co wa)
end Go.Proofs.Ytdgkhoflajdidaa
/- The bounds of copper are those of the reference. -/
namespace Go.Proofs.Ytdgkhoflajdidaa
open Go.RowKit Go.Proofs.YtdgkhoflajdidaaW.PrintWords Go.Proofs.YtdgkhoflajdidaaW.PrintMore Go.Proofs.YtdgkhoflajdidaaW.PrintLast Go.Proofs.Ytdgkhoflajdidaa.Print
set_option linter.unusedVariables false
set_option linter.unusedSimpArgs false
theorem ask_spec {x : S38} (hne : truthL x ≠ []) (val : S114 → Int) (wa : List Int) : (∀ s ∈ truthL x, (askB x wa val).f0 ≤ val (pastOf x s x.f5 wa) ∧ val (pastOf x s x.f5 wa) ≤ (askB x wa val).f1) ∧ (∃ s ∈ truthL x, val (pastOf x s x.f5 wa) = (askB x wa val).f0) ∧ ∃ s ∈ truthL x, val (pastOf x s x.f5 wa) = (askB x wa val).f1 := by
 have hl : 0 < (truthL x).length := List.length_pos_iff.2 hne
 obtain ⟨h1, ⟨j1, hj1, e1⟩, ⟨j2, hj2, e2⟩⟩ := bnd_spec (fun k => val (pastOf x ((truthL x).getD k zSc) x.f5 wa)) (truthL x).length hl
 have hg : ∀ k (hk : k < (truthL x).length), (truthL x).getD k zSc = (truthL x)[k] := fun k hk => by simp [hk]
 change val (pastOf x ((truthL x).getD j1 zSc) x.f5 wa) = _ at e1
 change val (pastOf x ((truthL x).getD j2 zSc) x.f5 wa) = _ at e2
 rw [hg j1 hj1] at e1
 rw [hg j2 hj2] at e2
 unfold askB
 refine ⟨fun s hs => ?_, ⟨_, List.getElem_mem hj1, e1⟩, ⟨_, List.getElem_mem hj2, e2⟩⟩
 obtain ⟨k, hk, rfl⟩ := List.getElem_of_mem hs
 have := h1 k hk
 change _ ≤ val (pastOf x ((truthL x).getD k zSc) x.f5 wa) ∧ val (pastOf x ((truthL x).getD k zSc) x.f5 wa) ≤ _ at this
 rw [hg k hk] at this
 exact this
end Go.Proofs.Ytdgkhoflajdidaa
/- The verdicts of copper are those of the reference; Lacks of the reference. -/
namespace Go.Proofs.Ytdgkhoflajdidaa
open Go.RowKit Go.Proofs.YtdgkhoflajdidaaW.PrintWords Go.Proofs.YtdgkhoflajdidaaW.PrintMore Go.Proofs.YtdgkhoflajdidaaW.PrintLast Go.Proofs.Ytdgkhoflajdidaa.Print
set_option linter.unusedVariables false
set_option linter.unusedSimpArgs false
set_option maxRecDepth 100000
set_option maxHeartbeats 4000000
def vB (a n : Bool) : Int := if a = true then 1 else if n = true then 2 else 3
variable {x : S38}
theorem vdict_ask (hne : truthL x ≠ []) (val : S114 → Int) (wa : List Int) (p : Sc → Bool) (hval : ∀ s ∈ truthL x, val (pastOf x s x.f5 wa) = if p s = true then 1 else 0) : vdict (askB x wa val) = vB ((truthL x).all p) ((truthL x).all fun s => !p s) := by
 obtain ⟨h1, ⟨s1, hs1, e1⟩, ⟨s2, hs2, e2⟩⟩ := ask_spec hne val wa
 rw [hval s1 hs1] at e1
 rw [hval s2 hs2] at e2
 have hb : ∀ s ∈ truthL x, (askB x wa val).f0 ≤ (if p s = true then 1 else 0) ∧ (if p s = true then 1 else 0) ≤ (askB x wa val).f1 := fun s hs => by rw [← hval s hs]; exact h1 s hs
 generalize askB x wa val = r at *
 unfold vdict vB
 have c1 : 0 < r.f0 ↔ (truthL x).all p = true := by
  rw [List.all_eq_true]
  constructor
  ·intro h s hs
   have := (hb s hs).1
   by_cases hp : p s = true
   ·exact hp
   ·rw [if_neg hp] at this; omega
  ·intro h
   rw [if_pos (h s1 hs1)] at e1
   omega
 have c2 : r.f1 = 0 ↔ (truthL x).all (fun s => !p s) = true := by
  rw [List.all_eq_true]
  constructor
  ·intro h s hs
   have := (hb s hs).2
   by_cases hp : p s = true
   ·rw [if_pos hp] at this; omega
   ·simpa using hp
  ·intro h
   have := h s2 hs2
   rw [if_neg (by simpa using this)] at e2
   omega
 by_cases d1 : (truthL x).all p = true
 ·rw [if_pos (c1.2 d1), if_pos d1]
 ·rw [if_neg (fun h => d1 (c1.1 h)), if_neg d1]
  by_cases d2 : (truthL x).all (fun s => !p s) = true
  ·rw [if_pos (c2.2 d2), if_pos d2]
  ·rw [if_neg (fun h => d2 (c2.1 h)), if_neg d2]
theorem whole_kepts (s : Sc) (co wa : List Int) : (kepts x s co wa (x.f0 + 1).toNat).all id = wholeR x s co wa := by simp [kepts, wholeR, List.all_map, Function.comp_def]
variable {cs : List Value} {A C D : Option Addr} {c : Nat} {L : List S75} {w : World}
end Go.Proofs.Ytdgkhoflajdidaa
/- Least, without the program: all coal, in lexicographic order. -/
namespace Go.Proofs.Ytdgkhoflajdidaa
open Go.RowKit Go.Proofs.YtdgkhoflajdidaaW.PrintWords Go.Proofs.YtdgkhoflajdidaaW.PrintMore Go.Proofs.YtdgkhoflajdidaaW.PrintLast Go.Proofs.Ytdgkhoflajdidaa.Print
set_option linter.unusedVariables false
set_option linter.unusedSimpArgs false
set_option maxRecDepth 100000
/-- The coal with a number: d digits to the base b. -/
def coalX (b d n : Nat) : List Int := (List.range d).map fun i => ((n / b ^ (d - 1 - i) % b : Nat) : Int)
theorem coalX_len (b d n : Nat) : (coalX b d n).length = d := by simp [coalX]
theorem coalX_val {b d n : Nat} (hb : 0 < b) : ∀ v ∈ coalX b d n, 0 ≤ v ∧ v ≤ (b : Int) - 1 := fun v hv => by
 obtain ⟨i, _, rfl⟩ := List.mem_map.1 hv
 have := Nat.mod_lt (n / b ^ (d - 1 - i)) hb
 omega
theorem coalX_succ (b d n : Nat) : coalX b (d + 1) n = ((n / b ^ d % b : Nat) : Int) :: coalX b d n := by
 unfold coalX
 rw [List.range_succ_eq_map, List.map_cons, List.map_map]
 refine congrArg (List.cons _) (List.map_congr_left fun i hi => ?_)
 show ((n / b ^ (d + 1 - 1 - (i + 1)) % b : Nat) : Int) = _
 rw [show d + 1 - 1 - (i + 1) = d - 1 - i by omega]
theorem coalX_mod (b d n q : Nat) : coalX b d (q * b ^ d + n) = coalX b d n := by
 unfold coalX
 refine List.map_congr_left fun i hi => ?_
 have hi := List.mem_range.1 hi
 have e : q * b ^ d + n = b ^ (d - 1 - i) * (q * b ^ i * b) + n := by
  congr 1
  have h1 : d = (d - 1 - i) + i + 1 := by omega
  rw [show q * b ^ d = q * b ^ ((d - 1 - i) + i + 1) by rw [← h1], Nat.pow_succ, Nat.pow_add]
  simp only [Nat.mul_assoc, Nat.mul_left_comm, Nat.mul_comm]
 by_cases hp : 0 < b ^ (d - 1 - i)
 ·rw [e, Nat.mul_add_div hp, Nat.mul_comm (q * b ^ i) b, Nat.mul_add_mod]
 ·have h0 : b ^ (d - 1 - i) = 0 := by omega
  simp [h0]
def allC (b d : Nat) : List (List Int) := (List.range (b ^ d)).map (coalX b d)
theorem range_mul (b m : Nat) : List.range (b * m) = (List.range b).flatMap fun q => (List.range m).map (q * m + ·) := by
 induction b with
 | zero => simp
 | succ b ih => rw [Nat.succ_mul, List.range_add, ih, List.range_succ, List.flatMap_append]; simp
theorem allC_succ {b d : Nat} (hb : 0 < b) : allC b (d + 1) = (List.range b).flatMap fun (q : Nat) => (allC b d).map ((q : Int) :: ·) := by
 unfold allC
 rw [Nat.pow_succ, Nat.mul_comm, range_mul, List.map_flatMap]
 have h0 : 0 < b ^ d := Nat.pow_pos hb
 rw [List.flatMap_def, List.flatMap_def]
 refine congrArg List.flatten (List.map_congr_left fun q hq => ?_)
 have hq := List.mem_range.1 hq
 rw [List.map_map, List.map_map]
 refine List.map_congr_left fun r hr => ?_
 have hr := List.mem_range.1 hr
 show coalX b (d + 1) (q * b ^ d + r) = (q : Int) :: coalX b d r
 rw [coalX_succ, coalX_mod, Nat.mul_comm q, Nat.mul_add_div h0, Nat.div_eq_of_lt hr, Nat.add_zero, Nat.mod_eq_of_lt hq]
theorem sumTo_take (l : List Int) : ∀ k, k ≤ l.length → sumTo l k = (l.take k).sum
 | 0, _ => by simp [sumTo]
 | k + 1, hk => by
  have e : l.getD k 0 = l[k] := by simp [show k < l.length by omega]
  rw [sumTo, sumTo_take l k (by omega), List.take_succ_eq_append_getElem (show k < l.length by omega), List.sum_append, e]
  simp
/-- The shovels of coal. -/
theorem sumTo_sum (l : List Int) : sumTo l l.length = l.sum := by rw [sumTo_take l _ (Nat.le_refl _), List.take_length]
theorem sum_nonneg {l : List Int} (h : ∀ v ∈ l, 0 ≤ v) : 0 ≤ l.sum := by
 induction l with
 | nil => simp
 | cons a l ih =>
  have h1 := h a (List.mem_cons_self ..)
  have h2 := ih fun v hv => h v (List.mem_cons_of_mem _ hv)
  rw [List.sum_cons]; omega
theorem allC_nonneg {b d : Nat} (hb : 0 < b) {t : List Int} (h : t ∈ allC b d) : 0 ≤ t.sum := by
 obtain ⟨n, _, rfl⟩ := List.mem_map.1 h
 exact sum_nonneg fun v hv => (coalX_val hb v hv).1
theorem pays_filter (sh : Nat) : ∀ d m, pays sh d m = (allC (sh + 1) d).filter fun t => decide (t.sum = (m : Int))
 | 0, m => by
  have e : allC (sh + 1) 0 = [[]] := by simp [allC, coalX]
  rw [e]
  show (if m = 0 then [[]] else []) = _
  by_cases h : m = 0
  ·subst h; rfl
  ·rw [if_neg h]
   have : decide (([] : List Int).sum = (m : Int)) = false := decide_eq_false (by simp; omega)
   rw [List.filter_cons, this]
   rfl
 | d + 1, m => by
  rw [allC_succ (show 0 < sh + 1 from Nat.succ_pos sh), List.filter_flatMap]
  show (List.range (min sh m + 1)).flatMap (fun n => (pays sh d (m - n)).map ((n : Int) :: ·)) = _
  have hin : ∀ n, n ≤ m → ((allC (sh + 1) d).map ((n : Int) :: ·)).filter (fun t => decide (t.sum = (m : Int))) = (pays sh d (m - n)).map ((n : Int) :: ·) := fun n hn => by
   rw [pays_filter sh d (m - n), List.filter_map]
   refine congrArg _ (List.filter_congr fun t ht => ?_)
   show decide (((n : Int) :: t).sum = (m : Int)) = _
   rw [List.sum_cons, Bool.eq_iff_iff, decide_eq_true_eq, decide_eq_true_eq]
   omega
  have hout : ∀ n, m < n → ((allC (sh + 1) d).map ((n : Int) :: ·)).filter (fun t => decide (t.sum = (m : Int))) = [] := fun n hn => by
   rw [List.filter_eq_nil_iff]
   intro t ht
   obtain ⟨u, hu, rfl⟩ := List.mem_map.1 ht
   have := allC_nonneg (Nat.succ_pos sh) hu
   rw [decide_eq_true_eq, List.sum_cons]
   omega
  obtain ⟨q, hq⟩ : ∃ q, sh + 1 = (min sh m + 1) + q := ⟨sh - min sh m, by omega⟩
  rw [show List.range (sh + 1) = List.range (min sh m + 1) ++ (List.range q).map (min sh m + 1 + ·) by rw [hq, List.range_add], List.flatMap_append]
  have e1 : (List.map (fun x => min sh m + 1 + x) (List.range q)).flatMap (fun (a : Nat) => List.filter (fun t => decide (t.sum = (m : Int))) (List.map ((a : Int) :: ·) (allC (sh + 1) d))) = [] := by
   rw [List.flatMap_eq_nil_iff]
   intro n hn
   obtain ⟨j, hj, rfl⟩ := List.mem_map.1 hn
   have hj := List.mem_range.1 hj
   exact hout _ (by omega)
  rw [e1, List.append_nil, List.flatMap_def, List.flatMap_def]
  refine congrArg _ (List.map_congr_left fun n hn => ?_)
  have hn := List.mem_range.1 hn
  exact (hin n (by omega)).symm
/-- What the reference's Least does with one coal more. -/
def stepC (p : List Int → Bool) (best : Option (List Int)) (t : List Int) : Option (List Int) := if ((match best with | none => true | some b => decide (t.sum < b.sum)) && p t) = true then some t else best
def leastTo (p : List Int → Bool) (b d : Nat) : Nat → Option (List Int)
 | 0 => none
 | k + 1 => stepC p (leastTo p b d k) (coalX b d k)
def preC (b d k : Nat) : List (List Int) := (List.range k).map (coalX b d)
theorem preC_succ (b d k : Nat) : preC b d (k + 1) = preC b d k ++ [coalX b d k] := by simp [preC, List.range_succ]
theorem leastTo_inv (p : List Int → Bool) (b d : Nat) : ∀ k, match leastTo p b d k with
    | none => ∀ t ∈ preC b d k, p t = false
    | some u => (preC b d k).find? (fun t => decide (t.sum = u.sum) && p t) = some u ∧ ∀ t ∈ preC b d k, p t = true → u.sum ≤ t.sum
 | 0 => fun t ht => by cases ht
 | k + 1 => by
  have ih := leastTo_inv p b d k
  show match stepC p (leastTo p b d k) (coalX b d k) with
   | none => _
   | some u => _
  rw [preC_succ]
  generalize preC b d k = l at *
  generalize coalX b d k = t at *
  cases hb : leastTo p b d k with
  | none =>
   rw [hb] at ih
   unfold stepC
   cases hp : p t with
   | false =>
    simp only [Bool.true_and, Bool.false_eq_true, if_false]
    intro u hu
    rcases List.mem_append.1 hu with h | h
    ·exact ih u h
    ·rw [List.mem_singleton.1 h]; exact hp
   | true =>
    simp only [Bool.true_and, if_true]
    refine ⟨?_, fun u hu hpu => ?_⟩
    ·rw [List.find?_append, List.find?_eq_none.2 fun u hu => by simp [ih u hu]]
     simp [hp]
    ·rcases List.mem_append.1 hu with h | h
     ·rw [ih u h] at hpu; cases hpu
     ·rw [List.mem_singleton.1 h]; exact Int.le_refl _
  | some v =>
   rw [hb] at ih
   obtain ⟨h1, h2⟩ := ih
   unfold stepC
   by_cases hc : (decide (t.sum < v.sum) && p t) = true
   ·simp only [hc, if_true]
    rw [Bool.and_eq_true, decide_eq_true_eq] at hc
    refine ⟨?_, fun u hu hpu => ?_⟩
    ·rw [List.find?_append, List.find?_eq_none.2 fun u hu => ?_]
     ·simp [hc.2]
     ·rw [Bool.and_eq_true, decide_eq_true_eq]
      rintro ⟨e, hpu⟩
      have := h2 u hu hpu
      omega
    ·rcases List.mem_append.1 hu with h | h
     ·have := h2 u h hpu
      omega
     ·rw [List.mem_singleton.1 h]; exact Int.le_refl _
   ·simp only [hc, if_false]
    refine ⟨?_, fun u hu hpu => ?_⟩
    ·show (l ++ [t]).find? _ = some v
     rw [List.find?_append, h1]
     rfl
    ·rcases List.mem_append.1 hu with h | h
     ·exact h2 u h hpu
     ·rw [List.mem_singleton.1 h] at hpu ⊢
      rw [Bool.and_eq_true, decide_eq_true_eq] at hc
      exact Int.not_lt.1 fun e => hc ⟨e, hpu⟩
theorem preC_all (b d : Nat) : preC b d (b ^ d) = allC b d := rfl
theorem sum_le {l : List Int} {m : Int} (h : ∀ v ∈ l, v ≤ m) : l.sum ≤ m * l.length := by
 induction l with
 | nil => simp
 | cons a l ih =>
  have h1 := h a (List.mem_cons_self ..)
  have h2 := ih fun v hv => h v (List.mem_cons_of_mem _ hv)
  rw [List.sum_cons, List.length_cons]
  have e : m * ((l.length + 1 : Nat) : Int) = m * (l.length : Int) + m := by rw [Int.natCast_add, Int.mul_add]; simp
  omega
theorem leastL_ref {x : S38} (hV : Valid x) : leastL x = leastTo (sureB x) (x.f4.toNat + 1) (x.f0 + 1).toNat ((x.f4.toNat + 1) ^ (x.f0 + 1).toNat) := by
 have hinv := leastTo_inv (sureB x) (x.f4.toNat + 1) (x.f0 + 1).toNat ((x.f4.toNat + 1) ^ (x.f0 + 1).toNat)
 rw [preC_all] at hinv
 have hf : ∀ m, findC x [] (x.f0 + 1).toNat m = (allC (x.f4.toNat + 1) (x.f0 + 1).toNat).find? fun t => decide (t.sum = (m : Int)) && sureB x t := fun m => by
  unfold findC
  rw [pays_filter, List.find?_filter]
  refine congrArg (fun q => List.find? q _) (funext fun t => ?_)
  rw [Bool.eq_iff_iff, decide_eq_true_eq, Bool.and_eq_true]
  rfl
 unfold leastL
 cases hb : leastTo (sureB x) (x.f4.toNat + 1) (x.f0 + 1).toNat ((x.f4.toNat + 1) ^ (x.f0 + 1).toNat) with
 | none =>
  rw [hb] at hinv
  rw [List.findSome?_eq_none_iff]
  intro m hm
  rw [hf, List.find?_eq_none]
  intro t ht
  simp [hinv t ht]
 | some u =>
  rw [hb] at hinv
  obtain ⟨h1, h2⟩ := hinv
  have hu := List.mem_of_find?_eq_some h1
  have hu0 := allC_nonneg (Nat.succ_pos _) hu
  have hum : u.sum ≤ (mostC x : Int) := by
   obtain ⟨n, _, rfl⟩ := List.mem_map.1 hu
   have := sum_le (l := coalX (x.f4.toNat + 1) (x.f0 + 1).toNat n) (m := (x.f4.toNat : Int)) fun v hv => by have := (coalX_val (b := x.f4.toNat + 1) (Nat.succ_pos _) v hv).2; omega
   rw [coalX_len] at this
   unfold mostC
   rw [Int.natCast_mul]
   exact this
  rw [List.findSome?_eq_some_iff]
  refine ⟨List.range u.sum.toNat, u.sum.toNat, List.range' (u.sum.toNat + 1) (mostC x - u.sum.toNat), ?_, ?_, fun j hj => ?_⟩
  ·rw [List.range_eq_range', List.range_eq_range', show mostC x + 1 = u.sum.toNat + (1 + (mostC x - u.sum.toNat)) by omega, ← List.range'_append_1, ← List.range'_append_1]
   simp
  ·rw [hf, show ((u.sum.toNat : Nat) : Int) = u.sum by omega]
   exact h1
  ·have hj := List.mem_range.1 hj
   rw [hf, List.find?_eq_none]
   intro t ht
   rw [Bool.and_eq_true, decide_eq_true_eq]
   rintro ⟨e, hp⟩
   have := h2 t ht hp
   omega
end Go.Proofs.Ytdgkhoflajdidaa
/- With a greater Heat, smaller Loss, more Coal no hour is colder; with less promised none is. -/
namespace Go.Proofs.Ytdgkhoflajdidaa
open Go.RowKit Go.Proofs.YtdgkhoflajdidaaW.PrintWords Go.Proofs.YtdgkhoflajdidaaW.PrintMore Go.Proofs.YtdgkhoflajdidaaW.PrintLast Go.Proofs.Ytdgkhoflajdidaa.Print
set_option linter.unusedVariables false
set_option linter.unusedSimpArgs false
set_option maxRecDepth 100000
section
variable {x : S38} {s s' : Sc} {co co' wa wa' : List Int}
theorem preH_mono (h : PlayOk x s co wa) (h' : PlayOk x s' co' wa') (hh : s.h ≤ s'.h) (hl : ∀ k, s'.loss k ≤ s.loss k) (hc : ∀ k, co.getD k 0 ≤ co'.getD k 0) {a a' : Int} (ha : a ≤ a') (k : Nat) : preH x s co a k ≤ preH x s' co' a' k := by
 have h1 := h.coalG k
 have h2 := hc k
 have h3 := h.heat0
 have h4 := hl k
 have hm : co.getD k 0 * s.h ≤ co'.getD k 0 * s'.h := Int.le_trans (Int.mul_le_mul_of_nonneg_right h2 h3) (Int.mul_le_mul_of_nonneg_left hh (by omega))
 unfold preH
 rw [mx2_eq, mn2_eq, mx2_eq, mn2_eq]
 omega
theorem leftH_mono (h : PlayOk x s co wa) {p p' : Int} (hp : 0 ≤ p) (hpp : p ≤ p') (k : Nat) : leftH x wa p k ≤ leftH x wa p' k := by
 have h1 := h.per0
 unfold leftH
 by_cases hk : keptH x wa p k = true
 ·have hk' : keptH x wa p' k = true := by
    unfold keptH at hk ⊢
    rw [decide_eq_true_eq] at hk ⊢
    exact Int.le_trans hk (Int.ediv_le_ediv (by omega) hpp)
  rw [if_pos hk, if_pos hk']
  omega
 ·rw [if_neg hk]
  split
  ·have h2 := kept_mul h (Int.le_trans hp hpp) k (by assumption)
   omega
  ·exact Int.le_refl _
theorem heat_mono (h : PlayOk x s co wa) (h' : PlayOk x s' co' wa) (hh : s.h ≤ s'.h) (hl : ∀ k, s'.loss k ≤ s.loss k) (hc : ∀ k, co.getD k 0 ≤ co'.getD k 0) : ∀ k, heatAt x s co wa k ≤ heatAt x s' co' wa k
 | 0 => Int.le_refl _
 | k + 1 => leftH_mono h (preH_bd h _ k).1 (preH_mono h h' hh hl hc (heat_mono h h' hh hl hc k) k) k
theorem pre_mono (h : PlayOk x s co wa) (h' : PlayOk x s' co' wa) (hh : s.h ≤ s'.h) (hl : ∀ k, s'.loss k ≤ s.loss k) (hc : ∀ k, co.getD k 0 ≤ co'.getD k 0) (k : Nat) : preAt x s co wa k ≤ preAt x s' co' wa k :=
 preH_mono h h' hh hl hc (heat_mono h h' hh hl hc k) k
theorem hot_mono (h : PlayOk x s co wa) (h' : PlayOk x s' co' wa) (hh : s.h ≤ s'.h) (hl : ∀ k, s'.loss k ≤ s.loss k) (hc : ∀ k, co.getD k 0 ≤ co'.getD k 0) (k : Nat) : hotAt x s co wa k ≤ hotAt x s' co' wa k :=
 Int.ediv_le_ediv (by have := h.per0; omega) (pre_mono h h' hh hl hc k)
theorem kept_mono (h : PlayOk x s co wa) (h' : PlayOk x s' co' wa) (hh : s.h ≤ s'.h) (hl : ∀ k, s'.loss k ≤ s.loss k) (hc : ∀ k, co.getD k 0 ≤ co'.getD k 0) (k : Nat) (hk : keptAt x s co wa k = true) : keptAt x s' co' wa k = true := by
 unfold keptAt keptH at hk ⊢
 rw [decide_eq_true_eq] at hk ⊢
 exact Int.le_trans hk (hot_mono h h' hh hl hc k)
/-- More coal keeps what was kept. -/
theorem whole_coal (h : PlayOk x s co wa) (h' : PlayOk x s co' wa) (hc : ∀ k, co.getD k 0 ≤ co'.getD k 0) (hw : wholeR x s co wa = true) : wholeR x s co' wa = true := by
 unfold wholeR at hw ⊢
 rw [List.all_eq_true] at hw ⊢
 exact fun k hk => kept_mono h h' (Int.le_refl _) (fun _ => Int.le_refl _) hc k (hw k hk)
end
end Go.Proofs.Ytdgkhoflajdidaa
/- Leave and First, without the program: the sets of readings by bits, in their order. -/
namespace Go.Proofs.Ytdgkhoflajdidaa
open Go.RowKit Go.Proofs.YtdgkhoflajdidaaW.PrintWords Go.Proofs.YtdgkhoflajdidaaW.PrintMore Go.Proofs.YtdgkhoflajdidaaW.PrintLast Go.Proofs.Ytdgkhoflajdidaa.Print
set_option linter.unusedVariables false
set_option linter.unusedSimpArgs false
set_option maxRecDepth 100000
def beforeL : List Int → List Int → Bool
 | a :: l, b :: m => if a = b then beforeL l m else decide (a < b)
 | [], _ :: _ => true
 | _, [] => false
/-- The sets of five, in their order: the shorter before the longer. -/
def orderL : List Nat := [0, 1, 2, 4, 8, 16, 3, 5, 9, 17, 6, 10, 18, 12, 20, 24, 7, 11, 19, 13, 21, 25, 14, 22, 26, 28, 15, 23, 27, 29, 30, 31]
def rank (b : Nat) : Nat := orderL.idxOf b
/-- The least of the sets that pass. -/
structure LeastS (n : Nat) (p : Nat → Bool) (b : Nat) : Prop where
 lt : b < 2 ^ n
 pass : p b = true
 least : ∀ c, c < 2 ^ n → p c = true → rank b ≤ rank c
end Go.Proofs.Ytdgkhoflajdidaa
/- What a law keeps. -/
namespace Go.Proofs.Ytdgkhoflajdidaa
open Go.RowKit Go.Proofs.YtdgkhoflajdidaaW.PrintWords Go.Proofs.YtdgkhoflajdidaaW.PrintMore Go.Proofs.YtdgkhoflajdidaaW.PrintLast Go.Proofs.Ytdgkhoflajdidaa.Print
/-- What a law keeps: the box of the coppers, and what was returned. -/
structure LwSt (w : World) (B : Array Value) (P : World → Prop) (W : World) : Prop where
 bel : Below w.heap.size w W
 box : Blk W w.heap.size B 28
 rows : P W
theorem LwSt.step {w : World} {B : Array Value} {P : World → Prop} {W V : World} (h : LwSt w B P W) (hP : ∀ W V, P W → Below W.heap.size W V → P V) (hb : Below W.heap.size W V) : LwSt w B P V :=
 ⟨bel2 h.bel hb, h.box.below hb, hP _ _ h.rows hb⟩
end Go.Proofs.Ytdgkhoflajdidaa
/- Coal, Coals, Shovels, Least of the reference. -/
namespace Go.Proofs.Ytdgkhoflajdidaa
open Go.RowKit Go.Proofs.YtdgkhoflajdidaaW.PrintWords Go.Proofs.YtdgkhoflajdidaaW.PrintMore Go.Proofs.YtdgkhoflajdidaaW.PrintLast Go.Proofs.Ytdgkhoflajdidaa.Print
set_option linter.unusedVariables false
set_option linter.unusedSimpArgs false
set_option maxRecDepth 100000
set_option maxHeartbeats 4000000
/-- The last m digits. -/
def coalTo (b d n m : Nat) : List Int := (List.range d).map fun i => if d - m ≤ i then ((n / b ^ (d - 1 - i) % b : Nat) : Int) else 0
theorem coalTo_zero (b d n : Nat) : coalTo b d n 0 = List.replicate d 0 := by
 unfold coalTo
 apply List.ext_getElem (by simp)
 intro i h1 h2
 have : i < d := by simpa using h2
 simp [show ¬ d ≤ i by omega]
theorem coalTo_all (b d n : Nat) : coalTo b d n d = coalX b d n := by
 unfold coalTo coalX
 exact List.map_congr_left fun i hi => by rw [if_pos (by omega)]
theorem coalTo_set {b d n m q : Nat} (hq : d = m + (q + 1)) : (coalTo b d n m).set q ((n / b ^ m % b : Nat) : Int) = coalTo b d n (m + 1) := by
 unfold coalTo
 apply List.ext_getElem (by simp)
 intro i h1 h2
 have hi : i < d := by simpa using h2
 rw [List.getElem_set]
 simp only [List.getElem_map, List.getElem_range]
 by_cases h : q = i
 ·subst h
  rw [if_pos rfl, if_pos (by omega), show d - 1 - q = m by omega]
 ·rw [if_neg h]
  by_cases h3 : d - m ≤ i
  ·rw [if_pos h3, if_pos (by omega)]
  ·rw [if_neg h3, if_neg (by omega)]
/-- What a list made anew is returned as: it is the caller's own. -/
def OwPost (l : List Int) (w : World) (e : Ending) (w' : World) : Prop := ∃ A c, e = .returned (.slice A l.length c) ∧ Below w.heap.size w w' ∧ w'.ownsRow w.heap.size 3 1 (.slice A l.length c) l.length (nums .i64 l)
theorem rCoal_calls (x : S38) (cs : List Value) (n : Nat) (w : World) (hx : k38.K w x cs) (h0 : 0 ≤ x.f0) (h1 : x.f0 ≤ 4) (h2 : 0 ≤ x.f4) (h3 : x.f4 ≤ 3) (hn : n ≤ 100000) : Calls Try.prog 49 #[.agg cs.toArray, .int .i64 n] w (OwPost (coalX (x.f4.toNat + 1) (x.f0 + 1).toNat n) w) := by
 obtain ⟨A5, c5, A6, c6, A9, c9, A10, c10, rfl, _⟩ := k38_open hx
 clear hx
 have hu := Try.underlying28
 obtain ⟨d, hd⟩ : ∃ d : Nat, x.f0 + 1 = (d : Int) := ⟨(x.f0 + 1).toNat, by omega⟩
 obtain ⟨b, hb⟩ : ∃ b : Nat, x.f4 + 1 = (b : Int) := ⟨(x.f4 + 1).toNat, by omega⟩
 have hd2 : (x.f0 + 1).toNat = d := by omega
 have hb2 : x.f4.toNat + 1 = b := by omega
 rw [hd2, hb2]
 have hmk := print_make (P := Try.prog) 22 3 .i64 8 Try.underlying22 info3 (by decide) d (by omega)
 generalize hw1 : w.alloc (.cells #[.int .i64 x.f0, .int .i64 x.f1, .int .i64 x.f2, .int .i64 x.f3, .int .i64 x.f4, .slice A5 x.f5.length c5, .slice A6 x.f6.length c6, .int .i64 x.f7.f0, .int .i64 x.f7.f1, .slice A9 x.f8.length c9, .slice A10 x.f9.length c10] 28) = w1
 have hb1 : Below w.heap.size w w1 := by rw [← hw1]; exact below_alloc (Below.refl _ _) _
 have hbx : Blk w1 w.heap.size #[.int .i64 x.f0, .int .i64 x.f1, .int .i64 x.f2, .int .i64 x.f3, .int .i64 x.f4, .slice A5 x.f5.length c5, .slice A6 x.f6.length c6, .int .i64 x.f7.f0, .int .i64 x.f7.f1, .slice A9 x.f8.length c9, .slice A10 x.f9.length c10] 28 := by rw [← hw1]; exact Blk.new w #[.int .i64 x.f0, .int .i64 x.f1, .int .i64 x.f2, .int .i64 x.f3, .int .i64 x.f4, .slice A5 x.f5.length c5, .slice A6 x.f6.length c6, .int .i64 x.f7.f0, .int .i64 x.f7.f1, .slice A9 x.f8.length c9, .slice A10 x.f9.length c10] 28 _ rfl
 have hown0 := own_made w1 w.heap.size 3 .i64 d hb1.size (by omega)
 have hwz : w1.heap.size = w.heap.size + 1 := by rw [← hw1]; simp
 rw [hwz, ← coalTo_zero b d n] at hown0
 have HS := Aside0.mk (And.intro (below_alloc hb1 (.cells (madeCells #[.int .i64 0] d) 3)) (And.intro (hbx.alloc (.cells (madeCells #[.int .i64 0] d) 3)) hown0))
 have k0 := HS.out.2.1.cell 0 _ rfl
 have k0' := hbx.cell 0 _ rfl
 clear hb1 hbx hown0 hd2 hb2
 subst hw1
 go_enter Try.func49, Try.ntmps49
 go_wp2
 generalize ((w.alloc (.cells #[.int .i64 x.f0, .int .i64 x.f1, .int .i64 x.f2, .int .i64 x.f3, .int .i64 x.f4, .slice A5 x.f5.length c5, .slice A6 x.f6.length c6, .int .i64 x.f7.f0, .int .i64 x.f7.f1, .slice A9 x.f8.length c9, .slice A10 x.f9.length c10] 28)).alloc (.cells (madeCells #[.int .i64 0] d) 3)) = W at *
 clear k0 k0' hmk hwz
 have hx0 : x.f0 = (d : Int) - 1 := by omega
 have hx0r : 0 + x.f0 = (d : Int) - 1 := by omega
 have hb4 : (b : Int) ≤ 4 := by omega
 have hb0 : (1 : Int) ≤ b := by omega
 have hd5 : (d : Int) ≤ 5 := by omega
 clear hd h0 h1 h2 h3
 rw [hx0]
 clear hx0 hx0r
 go_loopw [1, 6] (fun s1 s6 wr => ∃ m q : Nat, d = m + q ∧ s1 = .int .i64 ((n / b ^ m : Nat) : Int) ∧ s6 = .int .i64 ((q : Int) - 1) ∧ Aside0 (Below w.heap.size w wr ∧ Blk wr w.heap.size #[.int .i64 x.f0, .int .i64 x.f1, .int .i64 x.f2, .int .i64 x.f3, .int .i64 x.f4, .slice A5 x.f5.length c5, .slice A6 x.f6.length c6, .int .i64 x.f7.f0, .int .i64 x.f7.f1, .slice A9 x.f8.length c9, .slice A10 x.f9.length c10] 28 ∧ wr.ownsRow w.heap.size 3 1 (.slice (some ⟨w.heap.size + 1, 0, none⟩) d d) d (nums .i64 (coalTo b d n m)))) (fun _ s6 _ => (intOf s6 + 1).toNat)
 case atStart => exact ⟨0, d, by omega, by simp, rfl, HS⟩
 case round =>
  obtain ⟨m, q, hmq, rfl, rfl, HW⟩ := hrel
  cases q with
  | zero =>
   obtain rfl : m = d := by omega
   have hneg : ¬ (0 : Int) ≤ ((0 : Nat) : Int) - 1 := by omega
   have hown := HW.out.2.2
   rw [coalTo_all] at hown
   have hl := coalX_len b m n
   have HE := Aside0.mk (And.intro HW.out.1 hown)
   have HL := Lib.hid hl
   clear hown hl hmq
   go_wp2
   refine bodyPost_ret (results_tmp rfl _ _ _) rfl ?_
   unfold OwPost
   rw [HL.out]
   exact ⟨_, _, rfl, HE.out⟩
  | succ q =>
   have e1 : ((q + 1 : Nat) : Int) - 1 = (q : Int) := by omega
   rw [e1]
   have hq0 : (0 : Int) ≤ (q : Int) := by omega
   have hqd : (q : Int) < (d : Int) := by omega
   have k4 := HW.out.2.1.cell 4 _ rfl
   have hat := own_at (own_bel HW.out.2.2 (below_drew (Below.refl wr.heap.size wr))) (q : Int) hq0 hqd
   have hmod := tmod_nat (n / b ^ m) b
   have hdiv := tdiv_nat (n / b ^ m) b
   have hnn : n / b ^ m ≤ 100000 := Nat.le_trans (Nat.div_le_self _ _) hn
   have hst := coalTo_set (b := b) (n := n) hmq
   have hsw := own_store (own_bel HW.out.2.2 (below_drew (Below.refl wr.heap.size wr))) (q : Int) ((n / b ^ m % b : Nat) : Int)
   rw [Int.toNat_natCast, hst] at hsw
   rw [Int.toNat_natCast] at hat
   have hdd : n / b ^ (m + 1) = n / b ^ m / b := by rw [Nat.pow_succ, Nat.div_div_eq_div_mul]
   have HDD := Lib.hid hdd
   have HSW := Aside0.mk hsw.1
   have HB2 := Aside0.mk (And.intro ((bel2 HW.out.1 (below_drew (Below.refl wr.heap.size wr))).setCell (p := ⟨w.heap.size + 1, q, none⟩) (by show w.heap.size ≤ w.heap.size + 1; omega) (.int .i64 ((n / b ^ m % b : Nat) : Int))) ((HW.out.2.1.below (below_drew (Below.refl wr.heap.size wr))).set_other (p := ⟨w.heap.size + 1, q, none⟩) (by show w.heap.size ≠ w.heap.size + 1; omega) (.int .i64 ((n / b ^ m % b : Nat) : Int))))
   obtain ⟨z1, y1⟩ := hat
   generalize rd (coalTo b d n m) q = old at *
   clear hst hsw hdd e1
   generalize hmm : n / b ^ m % b = mm at *
   generalize hnd : n / b ^ m = nn at *
   generalize hqq : nn / b = qq at *
   have hnz : (nn : Int) ≤ 100000 := by omega
   have hbn : ¬ b = 0 := by omega
   have hbz : ((b : Int) == 0) = false := by simp; omega
   have hwb : wrap64 (b : Int) = (b : Int) := IntWalk.wrap64_in _ (by omega)
   have hqn : qq ≤ nn := by rw [← hqq]; exact Nat.div_le_self _ _
   have hdq : (nn : Int) / (b : Int) = (qq : Int) := by rw [← hqq]; simp
   have hwq : wrap64 (qq : Int) = (qq : Int) := IntWalk.wrap64_in _ (by omega)
   have hwq2 : IntKind.i64.wrap (qq : Int) = (qq : Int) := (i64_w _).trans hwq
   have HMQ := Lib.hid hmq
   clear hmq hqn hqq hnd hmm
   go_wp2
   refine start_ (n := 15) (S := fun w' => w'.cell? ⟨w.heap.size, 4, none⟩ = some (.int .i64 x.f4)) (ds := []) #[false, false, false, false, false, false, false, false, false, false, false, false, false, false, false] (by kernel_rfl) rfl rfl (k4) (fun hHeld => ?_)
   refine pure_ (i := 0) (N := some 17) (v := ?_) (a' := ?_) (bs 15 1) rfl rfl (by kernel_rfl) (fun _ _ _ h => h) (Or.inl ⟨by rfl, ?_⟩) ?_ ?_
   rotate_left
   ·intro w'
    go_simp
    with_reducible rfl
   rotate_left
   ·simp only [Act.put, List.setIfInBounds_toArray, List.set_cons_zero, List.set_cons_succ, i64_w, i32_w]
    rfl
   refine pure_ (i := 1) (N := some 18) (v := ?_) (a' := ?_) (bs 15 3) rfl rfl (by kernel_rfl) (fun _ _ _ h => h) (Or.inl ⟨by rfl, ?_⟩) ?_ ?_
   rotate_left
   ·intro w'
    go_simp
    with_reducible rfl
   rotate_left
   ·simp only [Act.put, List.setIfInBounds_toArray, List.set_cons_zero, List.set_cons_succ, i64_w, i32_w]
    rfl
   refine pure_ (i := 2) (N := some 19) (v := ?_) (a' := ?_) (bs 15 7) rfl rfl (by kernel_rfl) (fun _ _ _ h => h) (Or.inl ⟨by rfl, ?_⟩) ?_ ?_
   rotate_left
   ·intro w'
    go_simp
    with_reducible rfl
   rotate_left
   ·simp only [Act.put, List.setIfInBounds_toArray, List.set_cons_zero, List.set_cons_succ, i64_w, i32_w]
    rfl
   refine pure_ (i := 3) (N := some 20) (v := ?_) (a' := ?_) (bs 15 15) rfl rfl (by kernel_rfl) (fun _ _ _ h => h) (Or.inl ⟨by rfl, ?_⟩) ?_ ?_
   rotate_left
   ·intro w'
    go_simp
    with_reducible rfl
   rotate_left
   ·simp only [Act.put, List.setIfInBounds_toArray, List.set_cons_zero, List.set_cons_succ, i64_w, i32_w]
    rfl
   refine pure_ (i := 7) (N := some 24) (v := ?_) (a' := ?_) (bs 15 143) rfl rfl (by kernel_rfl) (fun _ _ _ h => h) (Or.inl ⟨by rfl, ?_⟩) ?_ ?_
   rotate_left
   ·intro w'
    go_simp
    with_reducible rfl
   rotate_left
   ·simp only [Act.put, List.setIfInBounds_toArray, List.set_cons_zero, List.set_cons_succ, i64_w, i32_w]
    rfl
   refine pure_ (i := 8) (N := some 25) (v := ?_) (a' := ?_) (bs 15 399) rfl rfl (by kernel_rfl) (fun _ _ _ h => h) (Or.inl ⟨by rfl, ?_⟩) ?_ ?_
   rotate_left
   ·intro w'
    go_simp
    with_reducible rfl
   rotate_left
   ·simp only [Act.put, List.setIfInBounds_toArray, List.set_cons_zero, List.set_cons_succ, i64_w, i32_w]
    rfl
   refine take_ (i := 4) (N := some 21) (v := ?_) (a' := ?_) (bs 15 415) rfl rfl (by kernel_rfl) (fun _ _ _ h => h) (Or.inl ⟨by rfl, ?_⟩) hHeld ?_ ?_
   rotate_left
   ·intro w' s0
    go_simp
    with_reducible rfl
   rotate_left
   ·simp only [Act.put, List.setIfInBounds_toArray, List.set_cons_zero, List.set_cons_succ, i64_w, i32_w]
    rfl
   refine pure_ (i := 5) (N := some 22) (v := ?_) (a' := ?_) (bs 15 447) rfl rfl (by kernel_rfl) (fun _ _ _ h => h) (Or.inl ⟨by rfl, ?_⟩) ?_ ?_
   rotate_left
   ·intro w'
    go_simp
    with_reducible rfl
   rotate_left
   ·simp only [Act.put, List.setIfInBounds_toArray, List.set_cons_zero, List.set_cons_succ, i64_w, i32_w]
    rfl
   refine pure_ (i := 6) (N := some 23) (v := ?_) (a' := ?_) (bs 15 511) rfl rfl (by kernel_rfl) (fun _ _ _ h => h) (Or.inl ⟨by rfl, ?_⟩) ?_ ?_
   rotate_left
   ·intro w'
    go_simp
    with_reducible rfl
   rotate_left
   ·simp only [Act.put, List.setIfInBounds_toArray, List.set_cons_zero, List.set_cons_succ, i64_w, i32_w]
    rfl
   refine pure_ (i := 12) (N := some 29) (v := ?_) (a' := ?_) (bs 15 4607) rfl rfl (by kernel_rfl) (fun _ _ _ h => h) (Or.inl ⟨by rfl, ?_⟩) ?_ ?_
   rotate_left
   ·intro w'
    go_simp
    with_reducible rfl
   rotate_left
   ·simp only [Act.put, List.setIfInBounds_toArray, List.set_cons_zero, List.set_cons_succ, i64_w, i32_w]
    rfl
   refine take_ (i := 9) (N := some 26) (v := ?_) (a' := ?_) (bs 15 5119) rfl rfl (by kernel_rfl) (fun _ _ _ h => h) (Or.inl ⟨by rfl, ?_⟩) hHeld ?_ ?_
   rotate_left
   ·intro w' s0
    go_simp
    with_reducible rfl
   rotate_left
   ·simp only [Act.put, List.setIfInBounds_toArray, List.set_cons_zero, List.set_cons_succ, i64_w, i32_w]
    rfl
   refine pure_ (i := 10) (N := some 27) (v := ?_) (a' := ?_) (bs 15 6143) rfl rfl (by kernel_rfl) (fun _ _ _ h => h) (Or.inl ⟨by rfl, ?_⟩) ?_ ?_
   rotate_left
   ·intro w'
    go_simp
    with_reducible rfl
   rotate_left
   ·simp only [Act.put, List.setIfInBounds_toArray, List.set_cons_zero, List.set_cons_succ, i64_w, i32_w]
    rfl
   refine pure_ (i := 11) (N := some 28) (v := ?_) (a' := ?_) (bs 15 8191) rfl rfl (by kernel_rfl) (fun _ _ _ h => h) (Or.inl ⟨by rfl, ?_⟩) ?_ ?_
   rotate_left
   ·intro w'
    go_simp
    with_reducible rfl
   rotate_left
   ·simp only [Act.put, List.setIfInBounds_toArray, List.set_cons_zero, List.set_cons_succ, i64_w, i32_w]
    rfl
   refine one_ (i := 13) (N := none) (bs 15 16383) rfl rfl (by kernel_rfl) (by decide) (fun K hK => ?_)
   refine skip_ (w1 := ?_) (by rfl) rfl ?_ ?_
   rotate_left
   ·go_simp
    rfl
   refine hK.out _ _ ((cell_far (p := ⟨w.heap.size + 1, q, none⟩) (a := ⟨w.heap.size, 4, none⟩) (by show w.heap.size ≠ w.heap.size + 1; omega) _).trans hHeld) (fun hHeld => ?_)
   clear hK K
   refine pure_ (i := 14) (N := some 1) (v := ?_) (a' := ?_) (bs 15 32767) rfl rfl (by kernel_rfl) (fun _ _ _ h => h) (Or.inl ⟨by rfl, ?_⟩) ?_ ?_
   rotate_left
   ·intro w'
    go_simp
    with_reducible rfl
   rotate_left
   ·simp only [Act.put, List.setIfInBounds_toArray, List.set_cons_zero, List.set_cons_succ, i64_w, i32_w]
    rfl
   refine done_ (by kernel_rfl) ?_
   have HN := Aside0.mk (And.intro HB2.out.1 (And.intro HB2.out.2 HSW.out))
   clear hHeld z1 y1 k4
   go_wp2
   go_roundw
   case rel => exact ⟨m + 1, q, by have := HMQ.out; omega, by rw [HDD.out], rfl, HN⟩
   case measure => simp [intOf]
theorem rCoals_calls (x : S38) (cs : List Value) (w : World) (hx : k38.K w x cs) (h0 : 0 ≤ x.f0) (h1 : x.f0 ≤ 4) (h2 : 0 ≤ x.f4) (h3 : x.f4 ≤ 3) : Calls Try.prog 50 #[.agg cs.toArray] w fun e w' => e = .returned (.int .i64 (((x.f4.toNat + 1) ^ (x.f0 + 1).toNat : Nat) : Int)) ∧ Below w.heap.size w w' := by
 obtain ⟨A5, c5, A6, c6, A9, c9, A10, c10, rfl, _⟩ := k38_open hx
 clear hx
 have hu := Try.underlying28
 obtain ⟨d, hd⟩ : ∃ d : Nat, x.f0 = (d : Int) := ⟨x.f0.toNat, by omega⟩
 obtain ⟨b, hb⟩ : ∃ b : Nat, x.f4 + 1 = (b : Int) := ⟨(x.f4 + 1).toNat, by omega⟩
 have hd2 : (x.f0 + 1).toNat = d + 1 := by omega
 have hb2 : x.f4.toNat + 1 = b := by omega
 have HPW := Aside0.mk (show ∀ k, k ≤ 5 → b ^ k ≤ 1024 from fun k hk => Nat.le_trans (Nat.pow_le_pow_left (show b ≤ 4 by omega) k) (Nat.le_trans (Nat.pow_le_pow_right (by decide) hk) (by decide)))
 rw [hd2, hb2]
 have ZB := Aside0.mk (And.intro (below_alloc (Below.refl w.heap.size w) (.cells #[.int .i64 x.f0, .int .i64 x.f1, .int .i64 x.f2, .int .i64 x.f3, .int .i64 x.f4, .slice A5 x.f5.length c5, .slice A6 x.f6.length c6, .int .i64 x.f7.f0, .int .i64 x.f7.f1, .slice A9 x.f8.length c9, .slice A10 x.f9.length c10] 28)) (Blk.new w #[.int .i64 x.f0, .int .i64 x.f1, .int .i64 x.f2, .int .i64 x.f3, .int .i64 x.f4, .slice A5 x.f5.length c5, .slice A6 x.f6.length c6, .int .i64 x.f7.f0, .int .i64 x.f7.f1, .slice A9 x.f8.length c9, .slice A10 x.f9.length c10] 28 _ rfl))
 have HD := Lib.hid hd
 have hb4 : (b : Int) ≤ 4 := by omega
 have hd4 : (d : Int) ≤ 4 := by omega
 clear hd2 hb2 hd h1 h2 h3 h0
 go_enter Try.func50, Try.ntmps50
 go_wp2
 generalize (w.alloc (.cells #[.int .i64 x.f0, .int .i64 x.f1, .int .i64 x.f2, .int .i64 x.f3, .int .i64 x.f4, .slice A5 x.f5.length c5, .slice A6 x.f6.length c6, .int .i64 x.f7.f0, .int .i64 x.f7.f1, .slice A9 x.f8.length c9, .slice A10 x.f9.length c10] 28)) = W at *
 go_loopw [3, 4] (fun s3 s4 wr => ∃ k : Nat, k ≤ d + 1 ∧ s3 = .int .i64 ((b ^ k : Nat) : Int) ∧ s4 = .int .i64 k ∧ Aside0 (Below w.heap.size w wr ∧ Blk wr w.heap.size #[.int .i64 x.f0, .int .i64 x.f1, .int .i64 x.f2, .int .i64 x.f3, .int .i64 x.f4, .slice A5 x.f5.length c5, .slice A6 x.f6.length c6, .int .i64 x.f7.f0, .int .i64 x.f7.f1, .slice A9 x.f8.length c9, .slice A10 x.f9.length c10] 28)) (fun _ s4 _ => d + 1 - (intOf s4).toNat)
 case atStart => exact ⟨0, Nat.zero_le _, rfl, rfl, ZB⟩
 case round =>
  obtain ⟨k, hk, rfl, rfl, HW⟩ := hrel
  have k0 := HW.out.2.cell 0 _ rfl
  rw [HD.out] at k0
  have k4 := HW.out.2.cell 4 _ rfl
  by_cases hlt : k < d + 1
  ·have hkz : (k : Int) ≤ (d : Int) := by omega
   have hp := HPW.out k (by omega)
   have HPS := Lib.hid (Nat.pow_succ (n := b) (m := k))
   generalize b ^ k = q at *
   have hbd : (q : Int) * (b : Int) ≤ 4096 ∧ 0 ≤ (q : Int) * (b : Int) := by
    have h1 : q * b ≤ 1024 * 4 := Nat.mul_le_mul hp (by omega)
    refine ⟨by exact_mod_cast h1, by exact_mod_cast Nat.zero_le _⟩
   have hmul : wrap64 ((q : Int) * (b : Int)) = (q : Int) * (b : Int) := IntWalk.wrap64_in _ (by omega)
   go_wp2
   go_roundw
   case rel => exact ⟨k + 1, by omega, by rw [HPS.out]; simp [hmul], by go_num, HW⟩
   case measure => simp [intOf]; omega
  ·obtain rfl : k = d + 1 := by omega
   have hkz : ¬ ((d + 1 : Nat) : Int) ≤ (d : Int) := by omega
   go_wp2
   go_ret
   exact ⟨rfl, HW.out.1⟩
theorem rShovels_calls (A : Option Addr) (c : Nat) (l : List Int) (w : World) (hr : Kd.C (Kd.int .i64) w A l.length l) (h : ∀ n ∈ l, 0 ≤ n ∧ n ≤ 3) (hl : l.length ≤ 5) :
    Calls Try.prog 65 #[.slice A l.length c] w fun e w' => e = .returned (.int .i64 l.sum) ∧ w = w' := by
 have HR := Aside0.mk hr
 have HB := Aside0.mk (sumTo_bd h)
 have HV := Aside0.mk h
 have HE := Lib.hid (sumTo_sum l)
 clear hr h
 go_enter Try.func65, Try.ntmps65
 go_wp2
 go_loop [3, 4] (fun s3 s4 => ∃ kk : Nat, kk ≤ l.length ∧ s4 = .int .i64 kk ∧ s3 = .int .i64 (sumTo l kk)) (fun _ i => l.length - (intOf i).toNat)
 case atStart => exact ⟨0, Nat.zero_le _, rfl, rfl⟩
 case round =>
  obtain ⟨kk, hkk, rfl, rfl⟩ := hrel
  by_cases hlt : kk < l.length
  ·have hltz : (kk : Int) < (l.length : Int) := by omega
   obtain ⟨ad, hA, hc0⟩ := row_at_int HR.out kk hlt
   obtain rfl := hA
   have h1 := HB.out kk hkk
   have h2 := HV.out l[kk] (List.getElem_mem hlt)
   have hs : sumTo l (kk + 1) = sumTo l kk + l[kk] := by simp [sumTo, hlt]
   generalize sumTo l kk = s at *
   generalize l[kk] = n at *
   have HS := Lib.hid hs
   obtain ⟨h10, h11⟩ := h1
   obtain ⟨h20, h21⟩ := h2
   clear hs
   go_wp2
   go_round
   case rel => exact ⟨kk + 1, by omega, by go_num, by rw [HS.out]⟩
   case measure => simp [intOf]; omega
  ·have hltz : ¬ (kk : Int) < (l.length : Int) := by omega
   obtain rfl : kk = l.length := by omega
   rw [HE.out]
   go_wp2
   go_ret
   exact ⟨rfl, rfl⟩
end Go.Proofs.Ytdgkhoflajdidaa
/- Least of the reference. -/
namespace Go.Proofs.Ytdgkhoflajdidaa
open Go.RowKit Go.Proofs.YtdgkhoflajdidaaW.PrintWords Go.Proofs.YtdgkhoflajdidaaW.PrintMore Go.Proofs.YtdgkhoflajdidaaW.PrintLast Go.Proofs.Ytdgkhoflajdidaa.Print
set_option linter.unusedVariables false
set_option linter.unusedSimpArgs false
set_option maxRecDepth 100000
set_option maxHeartbeats 4000000
theorem coal_play {x : S38} {s : Sc} {co : List Int} (hV : Valid x) (hs : ScOk s) (hn : (co.length : Int) = x.f0 + 1) (h : ∀ v ∈ co, 0 ≤ v ∧ v ≤ 3) : PlayOk x s co x.f6 :=
 hV.play hs hn h hV.wantN (fun n hn => ⟨(hV.wantV n hn).1, by have := (hV.wantV n hn).2; omega⟩)
theorem coalX_ok {x : S38} (hV : Valid x) (n : Nat) : (((coalX (x.f4.toNat + 1) (x.f0 + 1).toNat n).length : Nat) : Int) = x.f0 + 1 ∧ ∀ v ∈ coalX (x.f4.toNat + 1) (x.f0 + 1).toNat n, 0 ≤ v ∧ v ≤ x.f4 := by
 have h0 := hV.last0
 have h1 := hV.sh0
 refine ⟨by rw [coalX_len]; omega, fun v hv => ?_⟩
 have := coalX_val (Nat.succ_pos _) v hv
 omega
/-- The state of Least's loop. -/
structure LeSt (w : World) (B : Array Value) (best : Option (List Int)) (v6 v7 : Value) (W : World) : Prop where
 bel : Below w.heap.size w W
 box : Blk W w.heap.size B 28
 row : ∃ A c, v6 = .slice A (best.getD []).length c ∧ Kd.C (Kd.int .i64) W A (best.getD []).length (best.getD [])
 is : v7 = .bool best.isSome
 ok : ∀ l, best = some l → l.length ≤ 5 ∧ ∀ v ∈ l, 0 ≤ v ∧ v ≤ 3
theorem LeSt.below {w : World} {B : Array Value} {best : Option (List Int)} {v6 v7 : Value} {W V : World} (h : LeSt w B best v6 v7 W) (hb : Below W.heap.size W V) : LeSt w B best v6 v7 V :=
 ⟨bel2 h.bel hb, h.box.below hb, by obtain ⟨A, c, e, g⟩ := h.row; exact ⟨A, c, e, Kd.C_below g hb⟩, h.is, h.ok⟩
end Go.Proofs.Ytdgkhoflajdidaa
/- Least, outright: the plain law. -/
namespace Go.Proofs.Ytdgkhoflajdidaa
open Go.RowKit Go.Proofs.YtdgkhoflajdidaaW.PrintWords Go.Proofs.YtdgkhoflajdidaaW.PrintMore Go.Proofs.YtdgkhoflajdidaaW.PrintLast Go.Proofs.Ytdgkhoflajdidaa.Print
set_option linter.unusedVariables false
set_option linter.unusedSimpArgs false
set_option maxRecDepth 100000
theorem vB_one (a n : Bool) : vB a n = 1 ↔ a = true := by cases a <;> cases n <;> decide
theorem kept_vd {x : S38} (hne : truthL x ≠ []) {k : Nat} (hk : (k : Int) ≤ x.f0) : vdict (askB x x.f6 (valKept k)) = vB ((truthL x).all fun s => keptAt x s x.f5 x.f6 k) ((truthL x).all fun s => !keptAt x s x.f5 x.f6 k) :=
 vdict_ask hne (valKept k) x.f6 (fun s => keptAt x s x.f5 x.f6 k) fun s _ => kept_get hk
theorem sureB_iff {x : S38} {co : List Int} : sureB x co = true ↔ ∀ s ∈ truthL x, wholeR x s co x.f6 = true := by
 unfold sureB
 rw [List.all_eq_true]
 refine forall_congr' fun s => forall_congr' fun hs => ?_
 rw [← whole_kepts]
 rfl
theorem keeps_one {x : S38} (hV : Valid x) (hne : truthL x ≠ []) : fIdx notAlways (keepsL x (x.f0 + 1).toNat) < 0 ↔ sureB x x.f5 = true := by
 have h0 := hV.last0
 have h1 : fIdx notAlways (keepsL x (x.f0 + 1).toNat) < 0 ↔ (keepsL x (x.f0 + 1).toNat).any notAlways = false := by
  rw [← fIdx_nonneg, decide_eq_false_iff_not]
  omega
 rw [h1, List.any_eq_false, sureB_iff]
 unfold keepsL
 constructor
 ·intro h s hs
  unfold wholeR
  rw [List.all_eq_true]
  intro k hk
  have hk2 := List.mem_range.1 hk
  have := h _ (List.mem_map.2 ⟨k, hk, rfl⟩)
  rw [kept_vd hne (by omega)] at this
  have h3 : vB ((truthL x).all fun s => keptAt x s x.f5 x.f6 k) ((truthL x).all fun s => !keptAt x s x.f5 x.f6 k) = 1 := by
   unfold notAlways at this
   simpa using this
  rw [vB_one, List.all_eq_true] at h3
  exact h3 s hs
 ·intro h v hv
  obtain ⟨k, hk, rfl⟩ := List.mem_map.1 hv
  have hk2 := List.mem_range.1 hk
  rw [kept_vd hne (by omega)]
  have h3 : vB ((truthL x).all fun s => keptAt x s x.f5 x.f6 k) ((truthL x).all fun s => !keptAt x s x.f5 x.f6 k) = 1 := by
   rw [vB_one, List.all_eq_true]
   intro s hs
   have := h s hs
   unfold wholeR at this
   rw [List.all_eq_true] at this
   exact this k hk
  rw [h3]
  decide
theorem lacks_e {x : S38} (hV : Valid x) : (lacksF x).2 = if askE x true = 0 then (if sureB x x.f5 = true then 7 else 0) else askE x true := by
 have hk : keepsF x = if askE x true = 0 then (keepsL x (x.f0 + 1).toNat, 0) else ([], askE x true) := rfl
 have hl : lacksF x = if (keepsF x).2 = 0 then (if fIdx notAlways (keepsF x).1 < 0 then (0, 7) else (fIdx notAlways (keepsF x).1, 0)) else (0, (keepsF x).2) := rfl
 by_cases hE : askE x true = 0
 ·rw [if_pos hE] at hk
  rw [hk] at hl
  rw [hl, if_pos rfl, if_pos hE]
  have hne : truthL x ≠ [] := fun h => by
   have := (askE_nonneg hE).2.2
   rw [h] at this
   cases this
  by_cases hs : sureB x x.f5 = true
  ·rw [if_pos ((keeps_one hV hne).2 hs), if_pos hs]
  ·rw [if_neg (fun h => hs ((keeps_one hV hne).1 h)), if_neg hs]
 ·rw [if_neg hE] at hk
  rw [hk] at hl
  rw [hl, if_neg hE, if_neg hE]
theorem prove_e {x : S38} (hV : Valid x) {co : List Int} {many : Int} (hn : (co.length : Int) = x.f0 + 1) (hv : ∀ v ∈ co, 0 ≤ v ∧ v ≤ x.f4) (hm : co.sum ≤ many) : proveCF x co many = (decide (askE x true = 0) && sureB x co) := by
 unfold proveCF
 rw [(forHours_iff hV.last0 hV.last1).2 ⟨hn, hv⟩, sumTo_sum, decide_eq_true hm, Bool.true_and]
theorem coal_sum {x : S38} (hV : Valid x) {co : List Int} (hn : (co.length : Int) = x.f0 + 1) (hv : ∀ v ∈ co, 0 ≤ v ∧ v ≤ x.f4) : 0 ≤ co.sum ∧ co.sum ≤ 15 := by
 have h1 := sum_nonneg fun v hv' => (hv v hv').1
 have h2 := sum_le (m := 3) fun v hv' => Int.le_trans (hv v hv').2 hV.sh1
 have := hV.last1
 omega
/-- Any coal has a number. -/
theorem coal_num (b : Nat) : ∀ (d : Nat) (l : List Int), l.length = d → (∀ v ∈ l, 0 ≤ v ∧ v < (b : Int)) → ∃ n, n < b ^ d ∧ coalX b d n = l
 | 0, l, hl, _ => ⟨0, by simp, by rw [List.eq_nil_of_length_eq_zero hl]; rfl⟩
 | d + 1, [], hl, _ => by cases hl
 | d + 1, v :: l, hl, hv => by
  obtain ⟨n, hn, e⟩ := coal_num b d l (by simpa using hl) (fun u hu => hv u (List.mem_cons_of_mem _ hu))
  have h1 := hv v (List.mem_cons_self ..)
  obtain ⟨q, rfl⟩ : ∃ q : Nat, v = (q : Int) := ⟨v.toNat, by omega⟩
  have hq : q < b := by omega
  have h0 : 0 < b ^ d := by omega
  refine ⟨q * b ^ d + n, ?_, ?_⟩
  ·rw [Nat.pow_succ, Nat.mul_comm]
   calc b ^ d * q + n < b ^ d * q + b ^ d := by omega
    _ = b ^ d * (q + 1) := by rw [Nat.mul_succ]
    _ ≤ b ^ d * b := Nat.mul_le_mul_left _ hq
  ·rw [coalX_succ, coalX_mod, e, Nat.mul_comm q, Nat.mul_add_div h0, Nat.div_eq_of_lt hn, Nat.add_zero, Nat.mod_eq_of_lt hq]
/-- Coal with a lesser number is not behind. -/
theorem before_num {b : Nat} (hb : 0 < b) : ∀ (d n m : Nat), beforeL (coalX b d n) (coalX b d m) = true → n % b ^ d < m % b ^ d
 | 0, n, m, h => by cases h
 | d + 1, n, m, h => by
  rw [coalX_succ, coalX_succ] at h
  have h0 : 0 < b ^ d := Nat.pow_pos hb
  have e : ∀ k, k % b ^ (d + 1) = b ^ d * (k / b ^ d % b) + k % b ^ d := fun k => by
   rw [Nat.pow_succ, Nat.mod_mul, Nat.add_comm]
  rw [e, e]
  have hn := Nat.mod_lt n h0
  by_cases hq : ((n / b ^ d % b : Nat) : Int) = ((m / b ^ d % b : Nat) : Int)
  ·unfold beforeL at h
   rw [if_pos hq] at h
   have := before_num hb d n m h
   have hq2 : n / b ^ d % b = m / b ^ d % b := by omega
   rw [hq2]
   omega
  ·unfold beforeL at h
   rw [if_neg hq, decide_eq_true_eq] at h
   have hq2 : n / b ^ d % b + 1 ≤ m / b ^ d % b := by omega
   have := Nat.mul_le_mul_left (b ^ d) hq2
   rw [Nat.mul_succ] at this
   generalize m % b ^ d = mm at *
   generalize n % b ^ d = nn at *
   omega
/-- All shovels. -/
theorem coal_full {b d : Nat} (hb : 0 < b) : ∀ k, (coalX b d (b ^ d - 1)).getD k 0 = if k < d then (b : Int) - 1 else 0 := by
 have key : coalX b d (b ^ d - 1) = List.replicate d ((b : Int) - 1) := by
  unfold coalX
  apply List.ext_getElem (by simp)
  intro i h1 h2
  have hi : i < d := by simpa using h2
  simp only [List.getElem_map, List.getElem_range, List.getElem_replicate]
  have e : b ^ d - 1 = b ^ (d - 1 - i) * (b ^ (i + 1) - 1) + (b ^ (d - 1 - i) - 1) := by
   have h3 : b ^ d = b ^ (d - 1 - i) * b ^ (i + 1) := by rw [← Nat.pow_add]; congr 1; omega
   have h4 : 0 < b ^ (d - 1 - i) := Nat.pow_pos hb
   have h5 : 0 < b ^ (i + 1) := Nat.pow_pos hb
   rw [h3, Nat.mul_sub]
   have h6 : b ^ (d - 1 - i) * 1 ≤ b ^ (d - 1 - i) * b ^ (i + 1) := Nat.mul_le_mul_left _ h5
   omega
  have h4 : 0 < b ^ (d - 1 - i) := Nat.pow_pos hb
  have h7 : (b ^ (i + 1) - 1) % b = b - 1 := by
   have h5 : 0 < b ^ i := Nat.pow_pos hb
   have : b ^ (i + 1) - 1 = b * (b ^ i - 1) + (b - 1) := by
    rw [Nat.pow_succ, Nat.mul_sub, Nat.mul_comm b (b ^ i)]
    have : b * 1 ≤ b ^ i * b := by rw [Nat.mul_comm (b ^ i) b]; exact Nat.mul_le_mul_left _ h5
    omega
   rw [this, Nat.mul_add_mod, Nat.mod_eq_of_lt (by omega)]
  rw [e, Nat.mul_add_div h4, Nat.div_eq_of_lt (by omega), Nat.add_zero, h7]
  omega
 intro k
 rw [key]
 by_cases hk : k < d
 ·rw [if_pos hk]; simp [hk]
 ·rw [if_neg hk]; simp [hk]
theorem truth_ok' {x : S38} (hV : Valid x) {s : Sc} (hs : s ∈ truthL x) : ScOk s := ((mem_allSc hV).1 (mem_truthL.1 hs).1).ok hV
theorem coalX_inj {b : Nat} : ∀ {d n m : Nat}, n < b ^ d → m < b ^ d → coalX b d n = coalX b d m → n = m
 | 0, n, m, hn, hm, _ => by simp at hn hm; omega
 | d + 1, n, m, hn, hm, h => by
  by_cases h0 : 0 < b
  ·rw [coalX_succ, coalX_succ] at h
   simp only [List.cons.injEq] at h
   have hp : 0 < b ^ d := Nat.pow_pos h0
   have e : ∀ k, coalX b d k = coalX b d (k % b ^ d) := fun k => by
    have := coalX_mod b d (k % b ^ d) (k / b ^ d)
    rw [Nat.mul_comm, Nat.div_add_mod] at this
    exact this
   have h2 := h.2
   rw [e n, e m] at h2
   have h3 := coalX_inj (Nat.mod_lt n hp) (Nat.mod_lt m hp) h2
   have hd : ∀ k, k < b ^ (d + 1) → k / b ^ d % b = k / b ^ d := fun k hk => Nat.mod_eq_of_lt (Nat.div_lt_of_lt_mul (by rwa [Nat.pow_succ] at hk))
   have h1 : n / b ^ d % b = m / b ^ d % b := by have := h.1; omega
   rw [hd n hn, hd m hm] at h1
   rw [← Nat.div_add_mod n (b ^ d), ← Nat.div_add_mod m (b ^ d), h1, h3]
  ·have : b = 0 := by omega
   subst this
   simp at hn
theorem sure_coal {x : S38} (hV : Valid x) {co co' : List Int} (hn : (co.length : Int) = x.f0 + 1) (hv : ∀ v ∈ co, 0 ≤ v ∧ v ≤ 3) (hn' : (co'.length : Int) = x.f0 + 1) (hv' : ∀ v ∈ co', 0 ≤ v ∧ v ≤ 3) (hc : ∀ k, co.getD k 0 ≤ co'.getD k 0) (h : sureB x co = true) : sureB x co' = true := by
 rw [sureB_iff] at h ⊢
 exact fun s hs => whole_coal (coal_play hV (truth_ok' hV hs) hn hv) (coal_play hV (truth_ok' hV hs) hn' hv') hc (h s hs)
/-- What NoLess asks. -/
structure NoLess (x : S38) (tr fu : List Int) : Prop where
 own : proveCF x x.f5 99 = decide ((lacksF x).2 = 7)
 lack : (lacksF x).2 = 0 ∨ (lacksF x).2 = 7 ∨ (lacksF x).2 = 11
 bad : (leastF x).2 = 0 ∨ (((leastF x).2 = 10 ∨ (leastF x).2 = 11) ∧ proveCF x tr 99 = false ∧ proveCF x x.f5 99 = false)
 good : (leastF x).2 = 0 → (((leastF x).1.length : Int) = x.f0 + 1 ∧ ∀ v ∈ (leastF x).1, 0 ≤ v ∧ v ≤ x.f4) ∧ proveCF x (leastF x).1 (leastF x).1.sum = true ∧ proveCF x fu 99 = true ∧ (proveCF x tr 99 = true → (leastF x).1.sum ≤ tr.sum ∧ (tr.sum = (leastF x).1.sum → beforeL tr (leastF x).1 = false))
theorem noless {x : S38} (hV : Valid x) {n : Nat} (hn : n < (x.f4.toNat + 1) ^ (x.f0 + 1).toNat) : NoLess x (coalX (x.f4.toNat + 1) (x.f0 + 1).toNat n) (coalX (x.f4.toNat + 1) (x.f0 + 1).toNat ((x.f4.toNat + 1) ^ (x.f0 + 1).toNat - 1)) := by
 have hl0 := hV.last0
 have hs0 := hV.sh0
 have htr := coalX_ok hV n
 have hfu := coalX_ok hV ((x.f4.toNat + 1) ^ (x.f0 + 1).toNat - 1)
 have hts := coal_sum hV htr.1 htr.2
 have hfs := coal_sum hV hfu.1 hfu.2
 have hos := coal_sum hV hV.coalN hV.coalV
 have hpo := prove_e hV hV.coalN hV.coalV (many := 99) (by omega)
 have hpt := prove_e hV htr.1 htr.2 (many := 99) (by omega)
 have hpf := prove_e hV hfu.1 hfu.2 (many := 99) (by omega)
 have hla := lacks_e hV
 have h3 : ∀ {co : List Int}, (∀ v ∈ co, 0 ≤ v ∧ v ≤ x.f4) → ∀ v ∈ co, 0 ≤ v ∧ v ≤ 3 := fun h v hv => ⟨(h v hv).1, Int.le_trans (h v hv).2 hV.sh1⟩
 by_cases hE : askE x true = 0
 ·rw [if_pos hE] at hla
  rw [decide_eq_true hE, Bool.true_and] at hpo hpt hpf
  have hlf : leastF x = match leastL x with
   | some t => (t, 0)
   | none => ([], 10) := by unfold leastF; rw [if_pos hE]; cases leastL x <;> rfl
  have hinv := leastTo_inv (sureB x) (x.f4.toNat + 1) (x.f0 + 1).toNat ((x.f4.toNat + 1) ^ (x.f0 + 1).toNat)
  rw [← leastL_ref hV] at hinv
  have hown : proveCF x x.f5 99 = decide ((lacksF x).2 = 7) := by
   rw [hpo, hla]
   cases sureB x x.f5 <;> rfl
  have hlack : (lacksF x).2 = 0 ∨ (lacksF x).2 = 7 ∨ (lacksF x).2 = 11 := by rw [hla]; split <;> simp
  cases hb : leastL x with
  | none =>
   rw [hb] at hinv hlf
   have hnum : ∀ co : List Int, (co.length : Int) = x.f0 + 1 → (∀ v ∈ co, 0 ≤ v ∧ v ≤ x.f4) → sureB x co = false := fun co hc hv => by
    obtain ⟨m, hm, e⟩ := coal_num (x.f4.toNat + 1) (x.f0 + 1).toNat co (by omega) (fun v h => ⟨(hv v h).1, by have := (hv v h).2; omega⟩)
    exact hinv co (List.mem_map.2 ⟨m, List.mem_range.2 hm, e⟩)
   refine ⟨hown, hlack, .inr ⟨.inl (by rw [hlf]), by rw [hpt]; exact hnum _ htr.1 htr.2, by rw [hpo]; exact hnum _ hV.coalN hV.coalV⟩, fun h => by rw [hlf] at h; cases h⟩
  | some t =>
   rw [hb] at hinv hlf
   obtain ⟨i1, i2⟩ := hinv
   have hm := List.mem_of_find?_eq_some i1
   have hp := List.find?_some i1
   rw [Bool.and_eq_true] at hp
   obtain ⟨mt, hmt, rfl⟩ := List.mem_map.1 hm
   have htt := coalX_ok hV mt
   have h1 : (leastF x).1 = coalX (x.f4.toNat + 1) (x.f0 + 1).toNat mt := by rw [hlf]
   have h2 : (leastF x).2 = 0 := by rw [hlf]
   refine ⟨hown, hlack, .inl h2, fun _ => ?_⟩
   rw [h1]
   refine ⟨htt, ?_, ?_, fun his => ?_⟩
   ·rw [prove_e hV htt.1 htt.2 (Int.le_refl _), decide_eq_true hE, Bool.true_and]; exact hp.2
   ·rw [hpf]
    refine sure_coal hV htt.1 (h3 htt.2) hfu.1 (h3 hfu.2) (fun k => ?_) hp.2
    rw [coal_full (Nat.succ_pos _)]
    by_cases hk : k < (x.f0 + 1).toNat
    ·rw [if_pos hk]
     have hk2 : k < (coalX (x.f4.toNat + 1) (x.f0 + 1).toNat mt).length := by rw [coalX_len]; exact hk
     rw [show (coalX (x.f4.toNat + 1) (x.f0 + 1).toNat mt).getD k 0 = (coalX (x.f4.toNat + 1) (x.f0 + 1).toNat mt)[k] by simp [hk2]]
     have := (htt.2 _ (List.getElem_mem hk2)).2
     omega
    ·rw [if_neg hk]
     have hk2 : ¬ k < (coalX (x.f4.toNat + 1) (x.f0 + 1).toNat mt).length := by rw [coalX_len]; exact hk
     simp [hk2]
   ·rw [hpt] at his
    have hmem : coalX (x.f4.toNat + 1) (x.f0 + 1).toNat n ∈ preC (x.f4.toNat + 1) (x.f0 + 1).toNat ((x.f4.toNat + 1) ^ (x.f0 + 1).toNat) := List.mem_map.2 ⟨n, List.mem_range.2 hn, rfl⟩
    refine ⟨i2 _ hmem his, fun he => ?_⟩
    cases hbf : beforeL (coalX (x.f4.toNat + 1) (x.f0 + 1).toNat n) (coalX (x.f4.toNat + 1) (x.f0 + 1).toNat mt) with
    | false => rfl
    | true =>
     exfalso
     have hlt := before_num (Nat.succ_pos _) _ _ _ hbf
     have hmt2 := List.mem_range.1 hmt
     rw [Nat.mod_eq_of_lt hn, Nat.mod_eq_of_lt hmt2] at hlt
     rw [preC, List.find?_map] at i1
     obtain ⟨q, hq, eq⟩ := Option.map_eq_some_iff.1 i1
     rw [List.find?_range_eq_some] at hq
     obtain ⟨j1, j2, j3⟩ := hq
     have hqm : q ≤ n := by
      refine Nat.le_of_not_lt fun hqn => ?_
      have := j3 n hqn
      have hfalse : (!(decide ((coalX (x.f4.toNat + 1) (x.f0 + 1).toNat n).sum = (coalX (x.f4.toNat + 1) (x.f0 + 1).toNat mt).sum) && sureB x (coalX (x.f4.toNat + 1) (x.f0 + 1).toNat n))) = true := this
      rw [decide_eq_true he, his] at hfalse
      cases hfalse
     have hqt : q = mt := coalX_inj (List.mem_range.1 j2) hmt2 eq
     omega
 ·rw [if_neg hE] at hla
  rw [decide_eq_false hE, Bool.false_and] at hpo hpt hpf
  have hE11 : askE x true = 11 := by
   rw [askE_t, if_pos ((valid_iff x).2 hV)] at hE ⊢
   by_cases h : truthL x = []
   ·rw [if_pos h]
   ·rw [if_neg h] at hE; exact absurd rfl hE
  have hlf := leastF_bad hE
  rw [hE11] at hla hlf
  refine ⟨by rw [hpo, hla]; rfl, .inr (.inr hla), .inr ⟨.inr (by rw [hlf]), hpt, hpo⟩, fun h => by rw [hlf] at h; cases h⟩
end Go.Proofs.Ytdgkhoflajdidaa
/- Bits, Before, Shorter, Can of the reference. -/
namespace Go.Proofs.Ytdgkhoflajdidaa
open Go.RowKit Go.Proofs.YtdgkhoflajdidaaW.PrintWords Go.Proofs.YtdgkhoflajdidaaW.PrintMore Go.Proofs.YtdgkhoflajdidaaW.PrintLast Go.Proofs.Ytdgkhoflajdidaa.Print
set_option linter.unusedVariables false
set_option linter.unusedSimpArgs false
set_option maxRecDepth 100000
set_option maxHeartbeats 4000000
theorem beforeL_drop {a b : List Int} {k : Nat} (ha : k < a.length) (hb : k < b.length) : beforeL (a.drop k) (b.drop k) = if a[k] = b[k] then beforeL (a.drop (k + 1)) (b.drop (k + 1)) else decide (a[k] < b[k]) := by
 rw [List.drop_eq_getElem_cons ha, List.drop_eq_getElem_cons hb]
 rfl
theorem beforeL_end {a b : List Int} {k : Nat} (h : a.length = k ∨ b.length = k) (ha : k ≤ a.length) (hb : k ≤ b.length) : beforeL (a.drop k) (b.drop k) = decide (a.length < b.length) := by
 by_cases h2 : b.length = k
 ·have e : b.drop k = [] := List.drop_eq_nil_of_le (by omega)
  rw [e, decide_eq_false (by omega)]
  cases a.drop k <;> rfl
 ·have h1 : a.length = k := h.resolve_right h2
  have e : a.drop k = [] := List.drop_eq_nil_of_le (by omega)
  rw [e, decide_eq_true (by omega), List.drop_eq_getElem_cons (show k < b.length by omega)]
  rfl
theorem rBefore_calls (A B : Option Addr) (c d : Nat) (l m : List Int) (w : World) (hl : Kd.C (Kd.int .i64) w A l.length l) (hm : Kd.C (Kd.int .i64) w B m.length m) :
    Calls Try.prog 73 #[.slice A l.length c, .slice B m.length d] w fun e w' => e = .returned (.bool (beforeL l m)) ∧ Below w.heap.size w w' := by
 have HL := Aside0.mk hl
 have HM := Aside0.mk hm
 have hn1 := hl.2.1
 have hn2 := hm.2.1
 clear hl hm
 go_enter Try.func73, Try.ntmps73
 go_wp2
 go_loopw [5] (fun s5 wr => ∃ k : Nat, k ≤ l.length ∧ k ≤ m.length ∧ s5 = .int .i64 k ∧ Aside0 (Below w.heap.size w wr ∧ beforeL l m = beforeL (l.drop k) (m.drop k))) (fun s5 _ => l.length - (intOf s5).toNat)
 case atStart => exact ⟨0, Nat.zero_le _, Nat.zero_le _, rfl, ⟨Below.refl _ _, rfl⟩⟩
 case round =>
  obtain ⟨k, hk, hk2, rfl, HW⟩ := hrel
  by_cases hlt : k < l.length ∧ k < m.length
  ·obtain ⟨hlt, hlt2⟩ := hlt
   have hz1 : (k : Int) < (l.length : Int) := by omega
   have hz2 : (k : Int) < (m.length : Int) := by omega
   obtain ⟨aA, rfl, hcA⟩ := row_at_int (Kd.C_below HL.out HW.out.1) k hlt
   obtain ⟨aB, rfl, hcB⟩ := row_at_int (Kd.C_below HM.out HW.out.1) k hlt2
   have hd := beforeL_drop hlt hlt2
   by_cases hq : l[k] = m[k]
   ·have hqb : (l[k] == m[k]) = true := by simpa using hq
    rw [if_pos hq] at hd
    have HQ := Aside0.mk (HW.out.2.trans hd)
    clear hd
    go_wp2
    go_quiet (fail)
    go_wp2
    go_roundw
    case rel => exact ⟨k + 1, hlt, hlt2, by go_num, ⟨pw_below_drewN HW.out.1 _, HQ.out⟩⟩
    case measure => simp [intOf]; omega
   ·have hqb : (l[k] == m[k]) = false := by simpa using hq
    rw [if_neg hq] at hd
    have HQ := Aside0.mk (HW.out.2.trans hd)
    clear hd
    go_wp2
    go_quiet (fail)
    go_wp2
    go_quiet (fail)
    go_wp2
    go_ret
    exact ⟨ret_bool HQ.out.symm, pw_below_drewN (pw_below_drewN HW.out.1 _) _⟩
  ·have hend := beforeL_end (a := l) (b := m) (k := k) (by omega) hk hk2
   have HQ := Aside0.mk (HW.out.2.trans hend)
   clear hend
   by_cases h1 : k < l.length
   ·have hz1 : (k : Int) < (l.length : Int) := by omega
    have hz2 : ¬ (k : Int) < (m.length : Int) := by omega
    have hz3 : ¬ (l.length : Int) < (m.length : Int) := by omega
    have hz4 : ¬ l.length < m.length := by omega
    go_wp2
    go_ret
    exact ⟨ret_bool (by rw [HQ.out, decide_eq_false hz4]), HW.out.1⟩
   ·have hz1 : ¬ (k : Int) < (l.length : Int) := by omega
    by_cases h3 : l.length < m.length
    ·have hz3 : (l.length : Int) < (m.length : Int) := by omega
     go_wp2
     go_ret
     exact ⟨ret_bool (by rw [HQ.out, decide_eq_true h3]), HW.out.1⟩
    ·have hz3 : ¬ (l.length : Int) < (m.length : Int) := by omega
     go_wp2
     go_ret
     exact ⟨ret_bool (by rw [HQ.out, decide_eq_false h3]), HW.out.1⟩
end Go.Proofs.Ytdgkhoflajdidaa
/- ready, some. -/
namespace Go.Proofs.Ytdgkhoflajdidaa
open Go.RowKit Go.Proofs.YtdgkhoflajdidaaW.PrintWords Go.Proofs.YtdgkhoflajdidaaW.PrintMore Go.Proofs.YtdgkhoflajdidaaW.PrintLast Go.Proofs.Ytdgkhoflajdidaa.Print
set_option linter.unusedVariables false
set_option linter.unusedSimpArgs false
set_option maxRecDepth 100000
set_option maxHeartbeats 4000000
def readyB (x : S38) : Bool := thinB x && decide (faultC x = 0)
theorem readyB_iff (x : S38) : readyB x = true ↔ thinB x = true ∧ Valid x := by
 unfold readyB
 rw [Bool.and_eq_true, decide_eq_true_eq, valid_iff]
theorem ready_calls (x : S38) (cs : List Value) (w : World) (hx : k38.K w x cs) : Calls Try.prog 41 #[.agg cs.toArray] w fun e w' => e = .returned (.bool (readyB x)) ∧ Below w.heap.size w w' := by
 have HTH := Aside0.mk (fun W (hW : Below w.heap.size w W) => thin_calls x cs W (k38.K_below hW hx))
 have HFA := Aside0.mk (fun W (hW : Below w.heap.size w W) => lfault_calls x cs W (k38.K_below hW hx))
 have HS := Lib.hid (show readyB x = (thinB x && decide (faultC x = 0)) from rfl)
 obtain ⟨A5, c5, A6, c6, A9, c9, A10, c10, rfl, _⟩ := k38_open hx
 clear hx
 have hu := Try.underlying28
 have ZB := Aside0.mk (And.intro (below_alloc (Below.refl w.heap.size w) (.cells #[.int .i64 x.f0, .int .i64 x.f1, .int .i64 x.f2, .int .i64 x.f3, .int .i64 x.f4, .slice A5 x.f5.length c5, .slice A6 x.f6.length c6, .int .i64 x.f7.f0, .int .i64 x.f7.f1, .slice A9 x.f8.length c9, .slice A10 x.f9.length c10] 28)) (Blk.new w #[.int .i64 x.f0, .int .i64 x.f1, .int .i64 x.f2, .int .i64 x.f3, .int .i64 x.f4, .slice A5 x.f5.length c5, .slice A6 x.f6.length c6, .int .i64 x.f7.f0, .int .i64 x.f7.f1, .slice A9 x.f8.length c9, .slice A10 x.f9.length c10] 28 _ rfl))
 cases hq : thinB x with
 | false =>
  rw [hq] at HTH HS
  go_enter Try.func41, Try.ntmps41
  go_wp2_with fail
  refine (HTH.out _ ZB.out.1).mono ?_
  rintro e w1 ⟨rfl, hb⟩
  have H1 := Aside0.mk (bel2 ZB.out.1 hb)
  clear hb
  go_wp2
  go_ret
  exact ⟨ret_bool (by rw [HS.out]; rfl), H1.out⟩
 | true =>
  rw [hq] at HTH HS
  go_enter Try.func41, Try.ntmps41
  go_wp2_with fail
  refine (HTH.out _ ZB.out.1).mono ?_
  rintro e w1 ⟨rfl, hb⟩
  have H1 := Aside0.mk (And.intro (bel2 ZB.out.1 hb) (ZB.out.2.below hb))
  clear hb
  have k0 := H1.out.2.cell 0 _ rfl
  have k1 := H1.out.2.cell 1 _ rfl
  have k2 := H1.out.2.cell 2 _ rfl
  have k3 := H1.out.2.cell 3 _ rfl
  have k4 := H1.out.2.cell 4 _ rfl
  have k5 := H1.out.2.cell 5 _ rfl
  have k6 := H1.out.2.cell 6 _ rfl
  have k7 := H1.out.2.cell 7 _ rfl
  have k8 := H1.out.2.cell 8 _ rfl
  have k9 := H1.out.2.cell 9 _ rfl
  have k10 := H1.out.2.cell 10 _ rfl
  go_wp2_with fail
  refine (HFA.out _ H1.out.1).mono ?_
  rintro e w2 ⟨rfl, hb⟩
  have H2 := Aside0.mk (bel2 H1.out.1 hb)
  clear hb k0 k1 k2 k3 k4 k5 k6 k7 k8 k9 k10
  by_cases hf : faultC x = 0
  ·have hf2 : (faultC x == 0) = true := by simpa using hf
   have HF := Lib.hid hf
   clear hf
   generalize faultC x = fc at *
   go_wp2
   go_ret
   exact ⟨ret_bool (by rw [HS.out, decide_eq_true HF.out]; rfl), H2.out⟩
  ·have hf2 : (faultC x == 0) = false := by simpa using hf
   have HF := Lib.hid hf
   clear hf
   generalize faultC x = fc at *
   go_wp2
   go_ret
   exact ⟨ret_bool (by rw [HS.out, decide_eq_false HF.out]; rfl), H2.out⟩
/-- The state of some's loop. -/
structure SmSt (w : World) (B Z : Array Value) (B2 : Value → Array Value) (l : List S119) (v : Value) (W : World) : Prop where
 bel : Below w.heap.size w W
 box : Blk W w.heap.size B 28
 res : Blk W (w.heap.size + 1) Z 28
 blk : Blk W (w.heap.size + 2) (B2 v) 28
 row : W.ownsRow w.heap.size 96 3 v l.length (rdCells l)
section
variable {w W V : World} {B Z : Array Value} {B2 : Value → Array Value} {l : List S119} {v v' : Value}
theorem SmSt.below (h : SmSt w B Z B2 l v W) (hb : Below W.heap.size W V) : SmSt w B Z B2 l v V :=
 ⟨bel2 h.bel hb, h.box.below hb, h.res.below hb, h.blk.below hb, own_bel h.row hb⟩
end
end Go.Proofs.Ytdgkhoflajdidaa
